-- Written by a program of this session (wip/xprint) out of the translation.
import Derived.Test.YtnlkjimpefebbaaDoorXFFx0
namespace Go.Proofs.YtnlkjimpefebbaaDoor.XFF
open Go.RowKit Go.Proofs.YtnlkjimpefebbaaDoorW.PrintWords Go.Proofs.YtnlkjimpefebbaaDoorW.PrintLast Go.Proofs.YtnlkjimpefebbaaDoorW.PrintMore
attribute [local go_sem] max2_int min2_int max_two min_two max_three min_three max_four min_four   -- for this text's walks alone
set_option linter.unusedVariables false
set_option linter.unusedSimpArgs false

/-! ### girandoleref20_number: function 130 -/
mutual
def girandoleref20_number.j0 : Nat → ByteArray → ByteArray → Bool → Option (Int × Int)
 | 0, _, _, _ => none
 | k + 1, x0, x4, x17 => if x17 = true then (if 1 ≤ (x4.size : Int) then (girandoleref20_number.j1 k x0 (x4.extract 1 x4.size)) else (none)) else (girandoleref20_number.j1 k x0 x4)
def girandoleref20_number.j1 : Nat → ByteArray → ByteArray → Option (Int × Int)
 | 0, _, _ => none
 | k + 1, x0, x4 => if x4.toList = ([] : List UInt8) then (girandoleref20_number.j2 k x0 x4 true) else (if 0 < (x4.size : Int) then (if (bt x4 0) = 48 then (girandoleref20_number.j2 k x0 x4 (x0.toList != ([48] : List UInt8))) else (girandoleref20_number.j2 k x0 x4 false)) else (none))
def girandoleref20_number.j2 : Nat → ByteArray → ByteArray → Bool → Option (Int × Int)
 | 0, _, _, _ => none
 | k + 1, x0, x4, x30 => if x30 = true then (some (0, 1)) else (girandoleref20_number.l0 k x0 x4 0 false 0)
def girandoleref20_number.l0 : Nat → ByteArray → ByteArray → Int → Bool → Int → Option (Int × Int)
 | 0, _, _, _, _, _ => none
 | k + 1, x0, x4, x5, x6, x7 => if x7 < (x4.size : Int) then (if 0 ≤ x7 then (if (bt x4 x7) < 48 then (girandoleref20_number.j4 k x0 x4 x5 x6 x7 true) else (girandoleref20_number.j4 k x0 x4 x5 x6 x7 (decide ((bt x4 x7) > 57)))) else (none)) else (if x4.toList = x0.toList then (if x5 = (-9223372036854775808) then (some (0, 3)) else (if x6 = true then (some (0, 3)) else (some (wrap64 (-x5), 0)))) else (if x6 = true then (some (0, 3)) else (some (x5, 0))))
def girandoleref20_number.j4 : Nat → ByteArray → ByteArray → Int → Bool → Int → Bool → Option (Int × Int)
 | 0, _, _, _, _, _, _ => none
 | k + 1, x0, x4, x5, x6, x7, x46 => if x46 = true then (some (0, 1)) else (if 0 ≤ x7 then (if x7 < (x4.size : Int) then (if x6 = true then (girandoleref20_number.l0 k x0 x4 x5 true (wrap64 (x7 + 1))) else (if x5 < (-922337203685477580) then (girandoleref20_number.l0 k x0 x4 x5 true (wrap64 (x7 + 1))) else (if x5 = (-922337203685477580) then (if ((((bt x4 x7) - 48) % 256) > 8) then (girandoleref20_number.l0 k x0 x4 x5 (decide ((((bt x4 x7) - 48) % 256) > 8)) (wrap64 (x7 + 1))) else (girandoleref20_number.l0 k x0 x4 (wrap64 ((wrap64 (10 * x5)) - (((bt x4 x7) - 48) % 256))) (decide ((((bt x4 x7) - 48) % 256) > 8)) (wrap64 (x7 + 1)))) else (girandoleref20_number.l0 k x0 x4 (wrap64 ((wrap64 (10 * x5)) - (((bt x4 x7) - 48) % 256))) false (wrap64 (x7 + 1)))))) else (none)) else (none))
end
def girandoleref20_number.f (k : Nat) (a0 : ByteArray) : Option (Int × Int) := if (a0.size : Int) > 0 then (if 0 < (a0.size : Int) then (girandoleref20_number.j0 k a0 a0 ((bt a0 0) == 45)) else (none)) else (girandoleref20_number.j0 k a0 a0 false)
theorem girandoleref20_number.mono_l : ∀ k, (∀ y0 y1 y2, LeO (girandoleref20_number.j0 k y0 y1 y2) (girandoleref20_number.j0 (k + 1) y0 y1 y2)) ∧ (∀ y0 y1, LeO (girandoleref20_number.j1 k y0 y1) (girandoleref20_number.j1 (k + 1) y0 y1)) ∧ (∀ y0 y1 y2, LeO (girandoleref20_number.j2 k y0 y1 y2) (girandoleref20_number.j2 (k + 1) y0 y1 y2)) ∧ (∀ y0 y1 y2 y3 y4, LeO (girandoleref20_number.l0 k y0 y1 y2 y3 y4) (girandoleref20_number.l0 (k + 1) y0 y1 y2 y3 y4)) ∧ (∀ y0 y1 y2 y3 y4 y5, LeO (girandoleref20_number.j4 k y0 y1 y2 y3 y4 y5) (girandoleref20_number.j4 (k + 1) y0 y1 y2 y3 y4 y5))
 | 0 => ⟨fun _ _ _ r h => by simp [girandoleref20_number.j0] at h, fun _ _ r h => by simp [girandoleref20_number.j1] at h, fun _ _ _ r h => by simp [girandoleref20_number.j2] at h, fun _ _ _ _ _ r h => by simp [girandoleref20_number.l0] at h, fun _ _ _ _ _ _ r h => by simp [girandoleref20_number.j4] at h⟩
 | k + 1 => by
  obtain ⟨ih0, ih1, ih2, ih3, ih4⟩ := girandoleref20_number.mono_l k
  refine ⟨?_, ?_, ?_, ?_, ?_⟩
  ·intro y0 y1 y2
   unfold girandoleref20_number.j0
   repeat' first
   | (with_reducible exact ih0 _ _ _)
   | (with_reducible exact ih1 _ _)
   | (with_reducible exact ih2 _ _ _)
   | (with_reducible exact ih3 _ _ _ _ _)
   | (with_reducible exact ih4 _ _ _ _ _ _)
   | (with_reducible exact LeO.refl _)
   | (with_reducible exact LeO.none _)
   | (with_reducible refine LeO.ite ?_ ?_)
   | (with_reducible refine LeO.bind ?_ (fun _ => ?_))
   | exact ih0 _ _ _
   | exact ih1 _ _
   | exact ih2 _ _ _
   | exact ih3 _ _ _ _ _
   | exact ih4 _ _ _ _ _ _
   | exact LeO.none _
   | refine LeO.ite ?_ ?_
   | refine LeO.bind ?_ (fun _ => ?_)
  ·intro y0 y1
   unfold girandoleref20_number.j1
   repeat' first
   | (with_reducible exact ih0 _ _ _)
   | (with_reducible exact ih1 _ _)
   | (with_reducible exact ih2 _ _ _)
   | (with_reducible exact ih3 _ _ _ _ _)
   | (with_reducible exact ih4 _ _ _ _ _ _)
   | (with_reducible exact LeO.refl _)
   | (with_reducible exact LeO.none _)
   | (with_reducible refine LeO.ite ?_ ?_)
   | (with_reducible refine LeO.bind ?_ (fun _ => ?_))
   | exact ih0 _ _ _
   | exact ih1 _ _
   | exact ih2 _ _ _
   | exact ih3 _ _ _ _ _
   | exact ih4 _ _ _ _ _ _
   | exact LeO.none _
   | refine LeO.ite ?_ ?_
   | refine LeO.bind ?_ (fun _ => ?_)
  ·intro y0 y1 y2
   unfold girandoleref20_number.j2
   repeat' first
   | (with_reducible exact ih0 _ _ _)
   | (with_reducible exact ih1 _ _)
   | (with_reducible exact ih2 _ _ _)
   | (with_reducible exact ih3 _ _ _ _ _)
   | (with_reducible exact ih4 _ _ _ _ _ _)
   | (with_reducible exact LeO.refl _)
   | (with_reducible exact LeO.none _)
   | (with_reducible refine LeO.ite ?_ ?_)
   | (with_reducible refine LeO.bind ?_ (fun _ => ?_))
   | exact ih0 _ _ _
   | exact ih1 _ _
   | exact ih2 _ _ _
   | exact ih3 _ _ _ _ _
   | exact ih4 _ _ _ _ _ _
   | exact LeO.none _
   | refine LeO.ite ?_ ?_
   | refine LeO.bind ?_ (fun _ => ?_)
  ·intro y0 y1 y2 y3 y4
   unfold girandoleref20_number.l0
   repeat' first
   | (with_reducible exact ih0 _ _ _)
   | (with_reducible exact ih1 _ _)
   | (with_reducible exact ih2 _ _ _)
   | (with_reducible exact ih3 _ _ _ _ _)
   | (with_reducible exact ih4 _ _ _ _ _ _)
   | (with_reducible exact LeO.refl _)
   | (with_reducible exact LeO.none _)
   | (with_reducible refine LeO.ite ?_ ?_)
   | (with_reducible refine LeO.bind ?_ (fun _ => ?_))
   | exact ih0 _ _ _
   | exact ih1 _ _
   | exact ih2 _ _ _
   | exact ih3 _ _ _ _ _
   | exact ih4 _ _ _ _ _ _
   | exact LeO.none _
   | refine LeO.ite ?_ ?_
   | refine LeO.bind ?_ (fun _ => ?_)
  ·intro y0 y1 y2 y3 y4 y5
   unfold girandoleref20_number.j4
   repeat' first
   | (with_reducible exact ih0 _ _ _)
   | (with_reducible exact ih1 _ _)
   | (with_reducible exact ih2 _ _ _)
   | (with_reducible exact ih3 _ _ _ _ _)
   | (with_reducible exact ih4 _ _ _ _ _ _)
   | (with_reducible exact LeO.refl _)
   | (with_reducible exact LeO.none _)
   | (with_reducible refine LeO.ite ?_ ?_)
   | (with_reducible refine LeO.bind ?_ (fun _ => ?_))
   | exact ih0 _ _ _
   | exact ih1 _ _
   | exact ih2 _ _ _
   | exact ih3 _ _ _ _ _
   | exact ih4 _ _ _ _ _ _
   | exact LeO.none _
   | refine LeO.ite ?_ ?_
   | refine LeO.bind ?_ (fun _ => ?_)
theorem girandoleref20_number.mono : ∀ a0 k, LeO (girandoleref20_number.f k a0) (girandoleref20_number.f (k + 1) a0) := by
 intro a0 k
 obtain ⟨ih0, ih1, ih2, ih3, ih4⟩ := girandoleref20_number.mono_l k
 unfold girandoleref20_number.f
 repeat' first
   | (with_reducible exact ih0 _ _ _)
   | (with_reducible exact ih1 _ _)
   | (with_reducible exact ih2 _ _ _)
   | (with_reducible exact ih3 _ _ _ _ _)
   | (with_reducible exact ih4 _ _ _ _ _ _)
   | (with_reducible exact LeO.refl _)
   | (with_reducible exact LeO.none _)
   | (with_reducible refine LeO.ite ?_ ?_)
   | (with_reducible refine LeO.bind ?_ (fun _ => ?_))
   | exact ih0 _ _ _
   | exact ih1 _ _
   | exact ih2 _ _ _
   | exact ih3 _ _ _ _ _
   | exact ih4 _ _ _ _ _ _
   | exact LeO.none _
   | refine LeO.ite ?_ ?_
   | refine LeO.bind ?_ (fun _ => ?_)
set_option maxHeartbeats 8000000 in
set_option maxRecDepth 100000 in
theorem girandoleref20_number.calls (k : Nat) (a0 : ByteArray) (r1 : Int) (r2 : Int) (w : World) (h : girandoleref20_number.f k a0 = some (r1, r2)) :
  Calls Tryd.prog 130 #[.string a0] w fun e w' => e = .returned (.tuple #[.int .i64 r1, .int .i64 r2]) ∧ Drawn0 w w' := by
 have H : (if (a0.size : Int) > 0 then (if 0 < (a0.size : Int) then (girandoleref20_number.j0 k a0 a0 ((bt a0 0) == 45)) else (none)) else (girandoleref20_number.j0 k a0 a0 false)) = some (r1, r2) := h
 clear h
 have HC2 := Aside0.mk H
 clear H
 go_enter Tryd.func130, Tryd.ntmps130
 go_upto_region 2 with (fail)
 go_cut [17] (fun v17 wc => ∃ (kq : Nat) (x17_1 : Bool), v17 = .bool x17_1 ∧ Aside0 (girandoleref20_number.j0 kq a0 a0 x17_1 = some (r1, r2)) ∧ Aside0 (kq ≤ k) ∧ Drawn0 w wc)
 case first =>
  have H := HC2.out
  clear HC2
  by_cases c3 : (a0.size : Int) > 0
  ·rw [if_pos c3] at H
   have c3b0 : decide (0 < (a0.size : Int)) = true := decide_eq_true c3
   have c3b1 : decide (0 < a0.size) = true := decide_eq_true (by omega)
   clear c3
   (first | rw [c3b0] | (simp only [i64_w, i32_w]; rw [c3b0]) | skip)
   by_cases c4 : 0 < (a0.size : Int)
   ·rw [if_pos c4] at H
    have c4b0 : decide (0 < (a0.size : Int)) = true := decide_eq_true c4
    have c4b1 : decide (0 < a0.size) = true := decide_eq_true (by omega)
    clear c4
    have H' := Aside0.mk H
    clear H
    have p5 : 0 ≤ (0 : Int) := (by omega)
    have q5 : 0 < a0.size := (by have : (0 : Int) < (a0.size : Int) := of_decide_eq_true (by first | (with_reducible assumption) | assumption); omega)
    have hx5 : ∀ h : 0 < a0.size, ((a0[0]'h).toNat : Int) = bt a0 0 := bt_at a0 0
    clear p5
    have qi5 : (0 < (a0.size : Int)) = True := eq_true (of_decide_eq_true (by first | (with_reducible assumption) | assumption))
    replace q5 := eq_true q5
    go_wp2
    go_meet
    case rel => exact ⟨_, (((bt a0 0) == 45)), (by first | rfl | (simp; done) | (simp [*]; done)), H', ⟨by first | omega | exact Nat.le_refl _⟩, by repeat (first | exact Drawn0.refl _ | apply Drawn0.step)⟩
   ·rw [if_neg c4] at H
    exact absurd H (by simp)
  ·rw [if_neg c3] at H
   have c3b0 : decide (0 < (a0.size : Int)) = false := decide_eq_false c3
   have c3b1 : decide (0 < a0.size) = false := decide_eq_false (by omega)
   clear c3
   (first | rw [c3b0] | (simp only [i64_w, i32_w]; rw [c3b0]) | skip)
   have H' := Aside0.mk H
   clear H
   go_wp2
   go_meet
   case rel => exact ⟨_, (false), (by first | rfl | (simp; done) | (simp [*]; done)), H', ⟨by first | omega | exact Nat.le_refl _⟩, by repeat (first | exact Drawn0.refl _ | apply Drawn0.step)⟩
 case rest =>
  clear HC2
  try clear c1
  try clear p2
  try clear c3
  try clear c3b0
  try clear c3b1
  try clear c4
  try clear c4b0
  try clear c4b1
  try clear p5
  try clear q5
  try clear hx5
  try clear qi5
  try clear p5
  try clear q5
  obtain ⟨kq, x17_1, rfl, HA, HJ1, ⟨mc1, rfl⟩⟩ := hcut
  cases kq with
  | zero => exact absurd HA.out (by simp [girandoleref20_number.j0])
  | succ kj1 =>
   have H := HA.out
   clear HA
   simp only [girandoleref20_number.j0] at H
   have HC6 := Aside0.mk H
   clear H
   go_upto_if 17 with (fail)
   go_cut [4] (fun v4 wc => ∃ (kq : Nat) (x4_5 : ByteArray), v4 = .string x4_5 ∧ Aside0 (girandoleref20_number.j1 kq a0 x4_5 = some (r1, r2)) ∧ Aside0 (kq ≤ kj1) ∧ Drawn0 w wc)
   case first =>
    have H := HC6.out
    clear HC6
    by_cases c7 : x17_1 = true
    ·subst c7
     have H1 : (if 1 ≤ (a0.size : Int) then (girandoleref20_number.j1 kj1 a0 (a0.extract 1 a0.size)) else (none)) = some (r1, r2) := by rw [if_pos rfl] at H; exact H
     clear H
     have H := H1
     clear H1
     by_cases c8 : 1 ≤ (a0.size : Int)
     ·rw [if_pos c8] at H
      have c8b0 := eq_true c8
      have c8b1 : decide (1 ≤ (a0.size : Int)) = true := decide_eq_true c8
      clear c8
      have H' := Aside0.mk H
      clear H
      go_wp2
      go_meet
      case rel => exact ⟨_, (a0.extract 1 a0.size), (by first | rfl | (simp; done) | (simp [*]; done)), H', ⟨by have := HJ1.out; first | omega | exact Nat.le_refl _⟩, by repeat (first | exact Drawn0.refl _ | apply Drawn0.step)⟩
     ·rw [if_neg c8] at H
      exact absurd H (by simp)
    ·replace c7 := Bool.eq_false_iff.mpr c7
     subst c7
     have H1 : (girandoleref20_number.j1 kj1 a0 a0) = some (r1, r2) := by rw [if_neg (show ¬ (false = true) by decide)] at H; exact H
     clear H
     have H := H1
     clear H1
     have H' := Aside0.mk H
     clear H
     go_wp2
     go_meet
     case rel => exact ⟨_, (a0), (by first | rfl | (simp; done) | (simp [*]; done)), H', ⟨by have := HJ1.out; first | omega | exact Nat.le_refl _⟩, by repeat (first | exact Drawn0.refl _ | apply Drawn0.step)⟩
   case rest =>
    clear HC6
    try clear c1
    try clear p2
    try clear c3
    try clear c3b0
    try clear c3b1
    try clear c4
    try clear c4b0
    try clear c4b1
    try clear p5
    try clear q5
    try clear hx5
    try clear qi5
    try clear c7
    try clear c8
    try clear c8b0
    try clear c8b1
    try clear p2
    try clear p5
    try clear q5
    obtain ⟨kq, x4_5, rfl, HA, HJ5, ⟨mc5, rfl⟩⟩ := hcut
    cases kq with
    | zero => exact absurd HA.out (by simp [girandoleref20_number.j1])
    | succ kj5 =>
     have H := HA.out
     clear HA
     simp only [girandoleref20_number.j1] at H
     have HC9 := Aside0.mk H
     clear H
     go_upto_region 4 with (fail)
     go_cut [30] (fun v30 wc => ∃ (kq : Nat) (x30_8 : Bool), v30 = .bool x30_8 ∧ Aside0 (girandoleref20_number.j2 kq a0 x4_5 x30_8 = some (r1, r2)) ∧ Aside0 (kq ≤ kj5) ∧ Drawn0 w wc)
     case first =>
      have H := HC9.out
      clear HC9
      by_cases c10 : x4_5.toList = ([] : List UInt8)
      ·rw [if_pos c10] at H
       have c10b0 : (x4_5.toList == ([] : List UInt8)) = true := beq_iff_eq.mpr c10
       have c10b1 : (x4_5.toList != ([] : List UInt8)) = false := bne_eq_false_iff_eq.mpr c10
       clear c10
       (first | rw [c10b0] | (simp only [i64_w, i32_w]; rw [c10b0]) | skip)
       have H' := Aside0.mk H
       clear H
       go_wp2
       go_meet
       case rel => exact ⟨_, (true), (by first | rfl | (simp; done) | (simp [*]; done)), H', ⟨by have := HJ1.out; have := HJ5.out; first | omega | exact Nat.le_refl _⟩, by repeat (first | exact Drawn0.refl _ | apply Drawn0.step)⟩
      ·rw [if_neg c10] at H
       have c10b0 : (x4_5.toList == ([] : List UInt8)) = false := beq_eq_false_iff_ne.mpr c10
       have c10b1 : (x4_5.toList != ([] : List UInt8)) = true := bne_iff_ne.mpr c10
       (first | rw [c10b0] | (simp only [i64_w, i32_w]; rw [c10b0]) | skip)
       by_cases c11 : 0 < (x4_5.size : Int)
       ·rw [if_pos c11] at H
        have c11b0 : decide (0 < (x4_5.size : Int)) = true := decide_eq_true c11
        have c11b1 : decide (0 < x4_5.size) = true := decide_eq_true (by omega)
        clear c11
        by_cases c13 : (bt x4_5 0) = 48
        ·rw [if_pos c13] at H
         have c13b0 : ((bt x4_5 0) == 48) = true := beq_iff_eq.mpr c13
         have c13b1 : ((bt x4_5 0) != 48) = false := bne_eq_false_iff_eq.mpr c13
         clear c13
         have H' := Aside0.mk H
         clear H
         have p12 : 0 ≤ (0 : Int) := (by omega)
         have q12 : 0 < x4_5.size := (by have : (0 : Int) < (x4_5.size : Int) := of_decide_eq_true (by first | (with_reducible assumption) | assumption); omega)
         have hx12 : ∀ h : 0 < x4_5.size, ((x4_5[0]'h).toNat : Int) = bt x4_5 0 := bt_at x4_5 0
         clear p12
         have qi12 : (0 < (x4_5.size : Int)) = True := eq_true (of_decide_eq_true (by first | (with_reducible assumption) | assumption))
         replace q12 := eq_true q12
         go_wp2
         go_meet
         case rel => exact ⟨_, ((a0.toList != ([48] : List UInt8))), (by first | rfl | (simp; done) | (simp [*]; done)), H', ⟨by have := HJ1.out; have := HJ5.out; first | omega | exact Nat.le_refl _⟩, by repeat (first | exact Drawn0.refl _ | apply Drawn0.step)⟩
        ·rw [if_neg c13] at H
         have c13b0 : ((bt x4_5 0) == 48) = false := beq_eq_false_iff_ne.mpr c13
         have c13b1 : ((bt x4_5 0) != 48) = true := bne_iff_ne.mpr c13
         have H' := Aside0.mk H
         clear H
         have p12 : 0 ≤ (0 : Int) := (by omega)
         have q12 : 0 < x4_5.size := (by have : (0 : Int) < (x4_5.size : Int) := of_decide_eq_true (by first | (with_reducible assumption) | assumption); omega)
         have hx12 : ∀ h : 0 < x4_5.size, ((x4_5[0]'h).toNat : Int) = bt x4_5 0 := bt_at x4_5 0
         clear p12
         have qi12 : (0 < (x4_5.size : Int)) = True := eq_true (of_decide_eq_true (by first | (with_reducible assumption) | assumption))
         replace q12 := eq_true q12
         go_wp2
         go_meet
         case rel => exact ⟨_, (false), (by first | rfl | (simp; done) | (simp [*]; done)), H', ⟨by have := HJ1.out; have := HJ5.out; first | omega | exact Nat.le_refl _⟩, by repeat (first | exact Drawn0.refl _ | apply Drawn0.step)⟩
       ·rw [if_neg c11] at H
        exact absurd H (by simp)
     case rest =>
      clear HC9
      try clear c1
      try clear p1
      try clear q1
      try clear hx1
      try clear qi1
      try clear p2
      try clear c3
      try clear c3b0
      try clear c3b1
      try clear c4
      try clear c4b0
      try clear c4b1
      try clear c5
      try clear p5
      try clear q5
      try clear hx5
      try clear qi5
      try clear c7
      try clear c8
      try clear c8b0
      try clear c8b1
      try clear c10
      try clear c10b0
      try clear c10b1
      try clear c11
      try clear c11b0
      try clear c11b1
      try clear p12
      try clear q12
      try clear hx12
      try clear qi12
      try clear c13
      try clear c13b0
      try clear c13b1
      try clear p12
      try clear p2
      try clear p5
      try clear q12
      try clear q5
      obtain ⟨kq, x30_8, rfl, HA, HJ8, ⟨mc8, rfl⟩⟩ := hcut
      cases kq with
      | zero => exact absurd HA.out (by simp [girandoleref20_number.j2])
      | succ kj8 =>
       have H := HA.out
       clear HA
       simp only [girandoleref20_number.j2] at H
       by_cases c14 : x30_8 = true
       ·subst c14
        have H1 : (some (0, 1)) = some (r1, r2) := by rw [if_pos rfl] at H; exact H
        clear H
        have H := H1
        clear H1
        simp only [Option.some.injEq, Prod.mk.injEq] at H
        obtain ⟨rfl, rfl⟩ := H
        go_wp2
        go_ret2
        exact ⟨by first | rfl | (simp; done) | (simp [*]; done), by repeat (first | exact Drawn0.refl _ | apply Drawn0.step)⟩
       ·replace c14 := Bool.eq_false_iff.mpr c14
        subst c14
        have H1 : (girandoleref20_number.l0 kj8 a0 x4_5 0 false 0) = some (r1, r2) := by rw [if_neg (show ¬ (false = true) by decide)] at H; exact H
        clear H
        have H := H1
        clear H1
        have H' := Aside0.mk H
        clear H
        go_wp2
        go_loopg [5, 6, 7] kj8 (fun kq v5 v6 v7 w' => ∃ (x5_4 : Int) (x6_4 : Bool) (x7_4 : Int), v5 = .int .i64 x5_4 ∧ v6 = .bool x6_4 ∧ v7 = .int .i64 x7_4 ∧ Aside0 (girandoleref20_number.l0 kq a0 x4_5 x5_4 x6_4 x7_4 = some (r1, r2)) ∧ Aside0 (kq ≤ kj8) ∧ Drawn0 w w')
        case atStart => exact ⟨(0), (false), (0), (by first | rfl | (simp; done) | (simp [*]; done)), (by first | rfl | (simp; done) | (simp [*]; done)), (by first | rfl | (simp; done) | (simp [*]; done)), H', ⟨Nat.le_refl _⟩, by repeat (first | exact Drawn0.refl _ | apply Drawn0.step)⟩
        case round =>
         clear H'
         try clear c1
         try clear p1
         try clear q1
         try clear hx1
         try clear qi1
         try clear p2
         try clear c3
         try clear c3b0
         try clear c3b1
         try clear c4
         try clear c4b0
         try clear c4b1
         try clear c5
         try clear p5
         try clear q5
         try clear hx5
         try clear qi5
         try clear c7
         try clear c8
         try clear c8b0
         try clear c8b1
         try clear c10
         try clear c10b0
         try clear c10b1
         try clear c11
         try clear c11b0
         try clear c11b1
         try clear p12
         try clear q12
         try clear hx12
         try clear qi12
         try clear c13
         try clear c13b0
         try clear c13b1
         try clear c14
         try clear p1
         try clear p12
         try clear p2
         try clear p5
         try clear q1
         try clear q12
         try clear q5
         obtain ⟨x5_4, x6_4, x7_4, rfl, rfl, rfl, HA, HK4, ⟨m4, rfl⟩⟩ := hrel
         cases gk with
         | zero => exact absurd HA.out (by simp [girandoleref20_number.l0])
         | succ k4 =>
          have H := HA.out
          clear HA
          simp only [girandoleref20_number.l0] at H
          by_cases c15 : x7_4 < (x4_5.size : Int)
          ·rw [if_pos c15] at H
           have c15b0 : decide (x7_4 < (x4_5.size : Int)) = true := decide_eq_true c15
           clear c15
           have HC16 := Aside0.mk H
           clear H
           go_upto_region 11 with (fail)
           go_cut [46] (fun v46 wc => ∃ (kq : Nat) (x46_15 : Bool), v46 = .bool x46_15 ∧ Aside0 (girandoleref20_number.j4 kq a0 x4_5 x5_4 x6_4 x7_4 x46_15 = some (r1, r2)) ∧ Aside0 (kq ≤ k4) ∧ Drawn0 w wc)
           case first =>
            have H := HC16.out
            clear HC16
            by_cases c17 : 0 ≤ x7_4
            ·rw [if_pos c17] at H
             have c17b0 : decide (0 ≤ x7_4) = true := decide_eq_true c17
             clear c17
             (first | rw [c17b0] | (simp only [i64_w, i32_w]; rw [c17b0]) | skip)
             by_cases c19 : (bt x4_5 x7_4) < 48
             ·rw [if_pos c19] at H
              have c19b0 : decide ((bt x4_5 x7_4) < 48) = true := decide_eq_true c19
              clear c19
              have H' := Aside0.mk H
              clear H
              have p18 : 0 ≤ (x7_4 : Int) := of_decide_eq_true (by first | (with_reducible assumption) | assumption)
              have q18 : x7_4 < (x4_5.size : Int) := of_decide_eq_true (by first | (with_reducible assumption) | assumption)
              have hx18 := bt_at x4_5 x7_4
              replace p18 := eq_true p18
              replace q18 := eq_true q18
              go_wp2
              go_meet
              case rel => exact ⟨_, (true), (by first | rfl | (simp; done) | (simp [*]; done)), H', ⟨by have := HJ1.out; have := HJ5.out; have := HJ8.out; have := HK4.out; first | omega | exact Nat.le_refl _⟩, by repeat (first | exact Drawn0.refl _ | apply Drawn0.step)⟩
             ·rw [if_neg c19] at H
              have c19b0 : decide ((bt x4_5 x7_4) < 48) = false := decide_eq_false c19
              clear c19
              have H' := Aside0.mk H
              clear H
              have p18 : 0 ≤ (x7_4 : Int) := of_decide_eq_true (by first | (with_reducible assumption) | assumption)
              have q18 : x7_4 < (x4_5.size : Int) := of_decide_eq_true (by first | (with_reducible assumption) | assumption)
              have hx18 := bt_at x4_5 x7_4
              replace p18 := eq_true p18
              replace q18 := eq_true q18
              have p20 : 0 ≤ (x7_4 : Int) := of_decide_eq_true (by first | (with_reducible assumption) | assumption)
              have q20 : x7_4 < (x4_5.size : Int) := of_decide_eq_true (by first | (with_reducible assumption) | assumption)
              have hx20 := bt_at x4_5 x7_4
              replace p20 := eq_true p20
              replace q20 := eq_true q20
              go_wp2
              go_meet
              case rel => exact ⟨_, (decide ((bt x4_5 x7_4) > 57)), (by first | rfl | (simp; done) | (simp [*]; done)), H', ⟨by have := HJ1.out; have := HJ5.out; have := HJ8.out; have := HK4.out; first | omega | exact Nat.le_refl _⟩, by repeat (first | exact Drawn0.refl _ | apply Drawn0.step)⟩
            ·rw [if_neg c17] at H
             exact absurd H (by simp)
           case rest =>
            clear HC16
            try clear c1
            try clear p1
            try clear q1
            try clear hx1
            try clear qi1
            try clear p2
            try clear q2
            try clear hx2
            try clear c3
            try clear c3b0
            try clear c3b1
            try clear c4
            try clear c4b0
            try clear c4b1
            try clear c5
            try clear p5
            try clear q5
            try clear hx5
            try clear qi5
            try clear c7
            try clear c8
            try clear c8b0
            try clear c8b1
            try clear c10
            try clear c10b0
            try clear c10b1
            try clear c11
            try clear c11b0
            try clear c11b1
            try clear p12
            try clear q12
            try clear hx12
            try clear qi12
            try clear c13
            try clear c13b0
            try clear c13b1
            try clear c14
            try clear c15
            try clear c15b0
            try clear c17
            try clear c17b0
            try clear p18
            try clear q18
            try clear hx18
            try clear c19
            try clear c19b0
            try clear p20
            try clear q20
            try clear hx20
            try clear p1
            try clear p12
            try clear p18
            try clear p2
            try clear p20
            try clear p5
            try clear q1
            try clear q12
            try clear q18
            try clear q20
            try clear q5
            obtain ⟨kq, x46_15, rfl, HA, HJ15, ⟨mc15, rfl⟩⟩ := hcut
            cases kq with
            | zero => exact absurd HA.out (by simp [girandoleref20_number.j4])
            | succ kj15 =>
             have H := HA.out
             clear HA
             simp only [girandoleref20_number.j4] at H
             by_cases c21 : x46_15 = true
             ·subst c21
              have H1 : (some (0, 1)) = some (r1, r2) := by rw [if_pos rfl] at H; exact H
              clear H
              have H := H1
              clear H1
              simp only [Option.some.injEq, Prod.mk.injEq] at H
              obtain ⟨rfl, rfl⟩ := H
              go_wp2
              go_ret2
              exact ⟨by first | rfl | (simp; done) | (simp [*]; done), by repeat (first | exact Drawn0.refl _ | apply Drawn0.step)⟩
             ·replace c21 := Bool.eq_false_iff.mpr c21
              subst c21
              have H1 : (if 0 ≤ x7_4 then (if x7_4 < (x4_5.size : Int) then (if x6_4 = true then (girandoleref20_number.l0 kj15 a0 x4_5 x5_4 true (wrap64 (x7_4 + 1))) else (if x5_4 < (-922337203685477580) then (girandoleref20_number.l0 kj15 a0 x4_5 x5_4 true (wrap64 (x7_4 + 1))) else (if x5_4 = (-922337203685477580) then (if ((((bt x4_5 x7_4) - 48) % 256) > 8) then (girandoleref20_number.l0 kj15 a0 x4_5 x5_4 (decide ((((bt x4_5 x7_4) - 48) % 256) > 8)) (wrap64 (x7_4 + 1))) else (girandoleref20_number.l0 kj15 a0 x4_5 (wrap64 ((wrap64 (10 * x5_4)) - (((bt x4_5 x7_4) - 48) % 256))) (decide ((((bt x4_5 x7_4) - 48) % 256) > 8)) (wrap64 (x7_4 + 1)))) else (girandoleref20_number.l0 kj15 a0 x4_5 (wrap64 ((wrap64 (10 * x5_4)) - (((bt x4_5 x7_4) - 48) % 256))) false (wrap64 (x7_4 + 1)))))) else (none)) else (none)) = some (r1, r2) := by rw [if_neg (show ¬ (false = true) by decide)] at H; exact H
              clear H
              have H := H1
              clear H1
              by_cases c22 : 0 ≤ x7_4
              ·rw [if_pos c22] at H
               have c22b0 : decide (0 ≤ x7_4) = true := decide_eq_true c22
               clear c22
               by_cases c23 : x7_4 < (x4_5.size : Int)
               ·rw [if_pos c23] at H
                have c23b0 : decide (x7_4 < (x4_5.size : Int)) = true := decide_eq_true c23
                clear c23
                by_cases c25 : x6_4 = true
                ·subst c25
                 have H1 : (girandoleref20_number.l0 kj15 a0 x4_5 x5_4 true (wrap64 (x7_4 + 1))) = some (r1, r2) := by rw [if_pos rfl] at H; exact H
                 clear H
                 have H := H1
                 clear H1
                 have H' := Aside0.mk H
                 clear H
                 have p24 : 0 ≤ (x7_4 : Int) := of_decide_eq_true (by first | (with_reducible assumption) | assumption)
                 have q24 : x7_4 < (x4_5.size : Int) := of_decide_eq_true (by first | (with_reducible assumption) | assumption)
                 have hx24 := bt_at x4_5 x7_4
                 replace p24 := eq_true p24
                 replace q24 := eq_true q24
                 go_wp2
                 go_roundg kj15
                 case measure => have := HJ1.out; have := HJ5.out; have := HJ8.out; have := HK4.out; have := HJ15.out; omega
                 case rel => exact ⟨(x5_4), (true), (wrap64 (x7_4 + 1)), (by first | rfl | (simp; done) | (simp [*]; done)), (by first | rfl | (simp; done) | (simp [*]; done)), (by first | rfl | (simp; done) | (simp [*]; done)), H', ⟨by have := HJ1.out; have := HJ5.out; have := HJ8.out; have := HK4.out; have := HJ15.out; omega⟩, by repeat (first | exact Drawn0.refl _ | apply Drawn0.step)⟩
                ·replace c25 := Bool.eq_false_iff.mpr c25
                 subst c25
                 have H1 : (if x5_4 < (-922337203685477580) then (girandoleref20_number.l0 kj15 a0 x4_5 x5_4 true (wrap64 (x7_4 + 1))) else (if x5_4 = (-922337203685477580) then (if ((((bt x4_5 x7_4) - 48) % 256) > 8) then (girandoleref20_number.l0 kj15 a0 x4_5 x5_4 (decide ((((bt x4_5 x7_4) - 48) % 256) > 8)) (wrap64 (x7_4 + 1))) else (girandoleref20_number.l0 kj15 a0 x4_5 (wrap64 ((wrap64 (10 * x5_4)) - (((bt x4_5 x7_4) - 48) % 256))) (decide ((((bt x4_5 x7_4) - 48) % 256) > 8)) (wrap64 (x7_4 + 1)))) else (girandoleref20_number.l0 kj15 a0 x4_5 (wrap64 ((wrap64 (10 * x5_4)) - (((bt x4_5 x7_4) - 48) % 256))) false (wrap64 (x7_4 + 1))))) = some (r1, r2) := by rw [if_neg (show ¬ (false = true) by decide)] at H; exact H
                 clear H
                 have H := H1
                 clear H1
                 by_cases c26 : x5_4 < (-922337203685477580)
                 ·rw [if_pos c26] at H
                  have c26b0 : decide (x5_4 < (-922337203685477580)) = true := decide_eq_true c26
                  clear c26
                  have H' := Aside0.mk H
                  clear H
                  have p24 : 0 ≤ (x7_4 : Int) := of_decide_eq_true (by first | (with_reducible assumption) | assumption)
                  have q24 : x7_4 < (x4_5.size : Int) := of_decide_eq_true (by first | (with_reducible assumption) | assumption)
                  have hx24 := bt_at x4_5 x7_4
                  replace p24 := eq_true p24
                  replace q24 := eq_true q24
                  go_wp2
                  go_roundg kj15
                  case measure => have := HJ1.out; have := HJ5.out; have := HJ8.out; have := HK4.out; have := HJ15.out; omega
                  case rel => exact ⟨(x5_4), (true), (wrap64 (x7_4 + 1)), (by first | rfl | (simp; done) | (simp [*]; done)), (by first | rfl | (simp; done) | (simp [*]; done)), (by first | rfl | (simp; done) | (simp [*]; done)), H', ⟨by have := HJ1.out; have := HJ5.out; have := HJ8.out; have := HK4.out; have := HJ15.out; omega⟩, by repeat (first | exact Drawn0.refl _ | apply Drawn0.step)⟩
                 ·rw [if_neg c26] at H
                  have c26b0 : decide (x5_4 < (-922337203685477580)) = false := decide_eq_false c26
                  clear c26
                  by_cases c27 : x5_4 = (-922337203685477580)
                  ·rw [if_pos c27] at H
                   have c27b0 : (x5_4 == (-922337203685477580)) = true := beq_iff_eq.mpr c27
                   have c27b1 : (x5_4 != (-922337203685477580)) = false := bne_eq_false_iff_eq.mpr c27
                   clear c27
                   by_cases c28 : ((((bt x4_5 x7_4) - 48) % 256) > 8)
                   ·rw [if_pos c28] at H
                    have c28b0 : decide (8 < (((bt x4_5 x7_4) - 48) % 256)) = true := decide_eq_true c28
                    clear c28
                    have H' := Aside0.mk H
                    clear H
                    have p24 : 0 ≤ (x7_4 : Int) := of_decide_eq_true (by first | (with_reducible assumption) | assumption)
                    have q24 : x7_4 < (x4_5.size : Int) := of_decide_eq_true (by first | (with_reducible assumption) | assumption)
                    have hx24 := bt_at x4_5 x7_4
                    replace p24 := eq_true p24
                    replace q24 := eq_true q24
                    go_wp2
                    go_roundg kj15
                    case measure => have := HJ1.out; have := HJ5.out; have := HJ8.out; have := HK4.out; have := HJ15.out; omega
                    case rel => exact ⟨(x5_4), (decide ((((bt x4_5 x7_4) - 48) % 256) > 8)), (wrap64 (x7_4 + 1)), (by first | rfl | (simp; done) | (simp [*]; done)), (by first | rfl | (simp; done) | (simp [*]; done)), (by first | rfl | (simp; done) | (simp [*]; done)), H', ⟨by have := HJ1.out; have := HJ5.out; have := HJ8.out; have := HK4.out; have := HJ15.out; omega⟩, by repeat (first | exact Drawn0.refl _ | apply Drawn0.step)⟩
                   ·rw [if_neg c28] at H
                    have c28b0 : decide (8 < (((bt x4_5 x7_4) - 48) % 256)) = false := decide_eq_false c28
                    clear c28
                    have H' := Aside0.mk H
                    clear H
                    have p24 : 0 ≤ (x7_4 : Int) := of_decide_eq_true (by first | (with_reducible assumption) | assumption)
                    have q24 : x7_4 < (x4_5.size : Int) := of_decide_eq_true (by first | (with_reducible assumption) | assumption)
                    have hx24 := bt_at x4_5 x7_4
                    replace p24 := eq_true p24
                    replace q24 := eq_true q24
                    go_wp2
                    go_roundg kj15
                    case measure => have := HJ1.out; have := HJ5.out; have := HJ8.out; have := HK4.out; have := HJ15.out; omega
                    case rel => exact ⟨(wrap64 ((wrap64 (10 * x5_4)) - (((bt x4_5 x7_4) - 48) % 256))), (decide ((((bt x4_5 x7_4) - 48) % 256) > 8)), (wrap64 (x7_4 + 1)), (by first | rfl | (simp; done) | (simp [*]; done)), (by first | rfl | (simp; done) | (simp [*]; done)), (by first | rfl | (simp; done) | (simp [*]; done)), H', ⟨by have := HJ1.out; have := HJ5.out; have := HJ8.out; have := HK4.out; have := HJ15.out; omega⟩, by repeat (first | exact Drawn0.refl _ | apply Drawn0.step)⟩
                  ·rw [if_neg c27] at H
                   have c27b0 : (x5_4 == (-922337203685477580)) = false := beq_eq_false_iff_ne.mpr c27
                   have c27b1 : (x5_4 != (-922337203685477580)) = true := bne_iff_ne.mpr c27
                   have H' := Aside0.mk H
                   clear H
                   have p24 : 0 ≤ (x7_4 : Int) := of_decide_eq_true (by first | (with_reducible assumption) | assumption)
                   have q24 : x7_4 < (x4_5.size : Int) := of_decide_eq_true (by first | (with_reducible assumption) | assumption)
                   have hx24 := bt_at x4_5 x7_4
                   replace p24 := eq_true p24
                   replace q24 := eq_true q24
                   go_wp2
                   go_roundg kj15
                   case measure => have := HJ1.out; have := HJ5.out; have := HJ8.out; have := HK4.out; have := HJ15.out; omega
                   case rel => exact ⟨(wrap64 ((wrap64 (10 * x5_4)) - (((bt x4_5 x7_4) - 48) % 256))), (false), (wrap64 (x7_4 + 1)), (by first | rfl | (simp; done) | (simp [*]; done)), (by first | rfl | (simp; done) | (simp [*]; done)), (by first | rfl | (simp; done) | (simp [*]; done)), H', ⟨by have := HJ1.out; have := HJ5.out; have := HJ8.out; have := HK4.out; have := HJ15.out; omega⟩, by repeat (first | exact Drawn0.refl _ | apply Drawn0.step)⟩
               ·rw [if_neg c23] at H
                exact absurd H (by simp)
              ·rw [if_neg c22] at H
               exact absurd H (by simp)
          ·rw [if_neg c15] at H
           have c15b0 : decide (x7_4 < (x4_5.size : Int)) = false := decide_eq_false c15
           clear c15
           by_cases c29 : x4_5.toList = a0.toList
           ·rw [if_pos c29] at H
            have c29b0 : (x4_5.toList == a0.toList) = true := beq_iff_eq.mpr c29
            have c29b1 : (x4_5.toList != a0.toList) = false := bne_eq_false_iff_eq.mpr c29
            clear c29
            by_cases c30 : x5_4 = (-9223372036854775808)
            ·rw [if_pos c30] at H
             have c30b0 : (x5_4 == (-9223372036854775808)) = true := beq_iff_eq.mpr c30
             have c30b1 : (x5_4 != (-9223372036854775808)) = false := bne_eq_false_iff_eq.mpr c30
             clear c30
             simp only [Option.some.injEq, Prod.mk.injEq] at H
             obtain ⟨rfl, rfl⟩ := H
             go_wp2
             go_ret2
             exact ⟨by first | rfl | (simp; done) | (simp [*]; done), by repeat (first | exact Drawn0.refl _ | apply Drawn0.step)⟩
            ·rw [if_neg c30] at H
             have c30b0 : (x5_4 == (-9223372036854775808)) = false := beq_eq_false_iff_ne.mpr c30
             have c30b1 : (x5_4 != (-9223372036854775808)) = true := bne_iff_ne.mpr c30
             by_cases c31 : x6_4 = true
             ·subst c31
              have H1 : (some (0, 3)) = some (r1, r2) := by rw [if_pos rfl] at H; exact H
              clear H
              have H := H1
              clear H1
              simp only [Option.some.injEq, Prod.mk.injEq] at H
              obtain ⟨rfl, rfl⟩ := H
              go_wp2
              go_ret2
              exact ⟨by first | rfl | (simp; done) | (simp [*]; done), by repeat (first | exact Drawn0.refl _ | apply Drawn0.step)⟩
             ·replace c31 := Bool.eq_false_iff.mpr c31
              subst c31
              have H1 : (some (wrap64 (-x5_4), 0)) = some (r1, r2) := by rw [if_neg (show ¬ (false = true) by decide)] at H; exact H
              clear H
              have H := H1
              clear H1
              simp only [Option.some.injEq, Prod.mk.injEq] at H
              obtain ⟨rfl, rfl⟩ := H
              go_wp2
              go_ret2
              exact ⟨by first | rfl | (simp; done) | (simp [*]; done), by repeat (first | exact Drawn0.refl _ | apply Drawn0.step)⟩
           ·rw [if_neg c29] at H
            have c29b0 : (x4_5.toList == a0.toList) = false := beq_eq_false_iff_ne.mpr c29
            have c29b1 : (x4_5.toList != a0.toList) = true := bne_iff_ne.mpr c29
            by_cases c32 : x6_4 = true
            ·subst c32
             have H1 : (some (0, 3)) = some (r1, r2) := by rw [if_pos rfl] at H; exact H
             clear H
             have H := H1
             clear H1
             simp only [Option.some.injEq, Prod.mk.injEq] at H
             obtain ⟨rfl, rfl⟩ := H
             go_wp2
             go_ret2
             exact ⟨by first | rfl | (simp; done) | (simp [*]; done), by repeat (first | exact Drawn0.refl _ | apply Drawn0.step)⟩
            ·replace c32 := Bool.eq_false_iff.mpr c32
             subst c32
             have H1 : (some (x5_4, 0)) = some (r1, r2) := by rw [if_neg (show ¬ (false = true) by decide)] at H; exact H
             clear H
             have H := H1
             clear H1
             simp only [Option.some.injEq, Prod.mk.injEq] at H
             obtain ⟨rfl, rfl⟩ := H
             go_wp2
             go_ret2
             exact ⟨by first | rfl | (simp; done) | (simp [*]; done), by repeat (first | exact Drawn0.refl _ | apply Drawn0.step)⟩

/-! ### girandoleref20_value: function 110 -/
def girandoleref20_value.f (k : Nat) (a0 : ByteArray) (a1 : Bool) : Option (Int × Int) := if a1 = true then (if a0.toList = ([116, 114, 117, 101] : List UInt8) then (some (1, 0)) else (if a0.toList = ([102, 97, 108, 115, 101] : List UInt8) then (some (0, 0)) else (some (0, 1)))) else ((girandoleref20_number.f k a0).bind fun bt174 => (some (bt174.1, bt174.2)))
theorem girandoleref20_value.mono : ∀ a0 a1 k, LeO (girandoleref20_value.f k a0 a1) (girandoleref20_value.f (k + 1) a0 a1) := by
 intro a0 a1 k
 unfold girandoleref20_value.f
 repeat' first
   | (with_reducible exact girandoleref20_number.mono _ _)
   | (with_reducible exact LeO.refl _)
   | (with_reducible exact LeO.none _)
   | (with_reducible refine LeO.ite ?_ ?_)
   | (with_reducible refine LeO.bind ?_ (fun _ => ?_))
   | exact girandoleref20_number.mono _ _
   | exact LeO.none _
   | refine LeO.ite ?_ ?_
   | refine LeO.bind ?_ (fun _ => ?_)
set_option maxHeartbeats 8000000 in
set_option maxRecDepth 100000 in
theorem girandoleref20_value.calls (k : Nat) (a0 : ByteArray) (a1 : Bool) (r1 : Int) (r2 : Int) (w : World) (h : girandoleref20_value.f k a0 a1 = some (r1, r2)) :
  Calls Tryd.prog 110 #[.string a0, .bool a1] w fun e w' => e = .returned (.tuple #[.int .i64 r1, .int .i64 r2]) ∧ Drawn0 w w' := by
 have H : (if a1 = true then (if a0.toList = ([116, 114, 117, 101] : List UInt8) then (some (1, 0)) else (if a0.toList = ([102, 97, 108, 115, 101] : List UInt8) then (some (0, 0)) else (some (0, 1)))) else ((girandoleref20_number.f k a0).bind fun bt174 => (some (bt174.1, bt174.2)))) = some (r1, r2) := h
 clear h
 by_cases c3 : a1 = true
 ·subst c3
  have H1 : (if a0.toList = ([116, 114, 117, 101] : List UInt8) then (some (1, 0)) else (if a0.toList = ([102, 97, 108, 115, 101] : List UInt8) then (some (0, 0)) else (some (0, 1)))) = some (r1, r2) := by rw [if_pos rfl] at H; exact H
  clear H
  have H := H1
  clear H1
  by_cases c4 : a0.toList = ([116, 114, 117, 101] : List UInt8)
  ·rw [if_pos c4] at H
   have c4b0 : (a0.toList == ([116, 114, 117, 101] : List UInt8)) = true := beq_iff_eq.mpr c4
   have c4b1 : (a0.toList != ([116, 114, 117, 101] : List UInt8)) = false := bne_eq_false_iff_eq.mpr c4
   clear c4
   simp only [Option.some.injEq, Prod.mk.injEq] at H
   obtain ⟨rfl, rfl⟩ := H
   go_enter Tryd.func110, Tryd.ntmps110
   go_wp2
   go_ret2
   exact ⟨by first | rfl | (simp; done) | (simp [*]; done), by repeat (first | exact Drawn0.refl _ | apply Drawn0.step)⟩
  ·rw [if_neg c4] at H
   have c4b0 : (a0.toList == ([116, 114, 117, 101] : List UInt8)) = false := beq_eq_false_iff_ne.mpr c4
   have c4b1 : (a0.toList != ([116, 114, 117, 101] : List UInt8)) = true := bne_iff_ne.mpr c4
   by_cases c5 : a0.toList = ([102, 97, 108, 115, 101] : List UInt8)
   ·rw [if_pos c5] at H
    have c5b0 : (a0.toList == ([102, 97, 108, 115, 101] : List UInt8)) = true := beq_iff_eq.mpr c5
    have c5b1 : (a0.toList != ([102, 97, 108, 115, 101] : List UInt8)) = false := bne_eq_false_iff_eq.mpr c5
    clear c5
    simp only [Option.some.injEq, Prod.mk.injEq] at H
    obtain ⟨rfl, rfl⟩ := H
    go_enter Tryd.func110, Tryd.ntmps110
    go_wp2
    go_ret2
    exact ⟨by first | rfl | (simp; done) | (simp [*]; done), by repeat (first | exact Drawn0.refl _ | apply Drawn0.step)⟩
   ·rw [if_neg c5] at H
    have c5b0 : (a0.toList == ([102, 97, 108, 115, 101] : List UInt8)) = false := beq_eq_false_iff_ne.mpr c5
    have c5b1 : (a0.toList != ([102, 97, 108, 115, 101] : List UInt8)) = true := bne_iff_ne.mpr c5
    simp only [Option.some.injEq, Prod.mk.injEq] at H
    obtain ⟨rfl, rfl⟩ := H
    go_enter Tryd.func110, Tryd.ntmps110
    go_wp2
    go_ret2
    exact ⟨by first | rfl | (simp; done) | (simp [*]; done), by repeat (first | exact Drawn0.refl _ | apply Drawn0.step)⟩
 ·replace c3 := Bool.eq_false_iff.mpr c3
  subst c3
  have H1 : ((girandoleref20_number.f k a0).bind fun bt174 => (some (bt174.1, bt174.2))) = some (r1, r2) := by rw [if_neg (show ¬ (false = true) by decide)] at H; exact H
  clear H
  have H := H1
  clear H1
  replace H := Option.bind_eq_some_iff.mp H
  obtain ⟨⟨t174, t175⟩, A60, H⟩ := H
  replace H : (some (t174, t175)) = some (r1, r2) := H
  have A6 := Aside0.mk A60
  clear A60
  simp only [Option.some.injEq, Prod.mk.injEq] at H
  obtain ⟨rfl, rfl⟩ := H
  go_enter Tryd.func110, Tryd.ntmps110
  go_wp2_with (first | ((with_reducible refine gate_callee (f := 130) rfl ?_); refine goesL_ (some 9) rfl rfl Tryd.func130 (by kernel_rfl) rfl #[.string a0] rfl (by (try simp only [List.map_toArray, List.map_cons, List.map_nil]); first | done | rfl | (simp only [List.length_drop, List.length_take]; rfl)) ?_; (with_reducible refine (girandoleref20_number.calls k a0 t174 t175 _ A6.out).mono ?_); rintro e w' ⟨rfl, ⟨nd, rfl⟩⟩; refine ⟨_, rfl, ?_⟩))
  go_ret2
  exact ⟨by first | rfl | (simp; done) | (simp [*]; done), by repeat (first | exact Drawn0.refl _ | apply Drawn0.step)⟩

end Go.Proofs.YtnlkjimpefebbaaDoor.XFF
