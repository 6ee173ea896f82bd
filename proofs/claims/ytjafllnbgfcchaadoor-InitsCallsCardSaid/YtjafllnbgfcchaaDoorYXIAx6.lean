import Derived.Test.YtjafllnbgfcchaaDoorYGXIAx0
import Derived.Test.YtjafllnbgfcchaaDoorYXIAx5
-- Written by a program of this session (wip/xprint) out of the translation.
namespace Go.Proofs.YtjafllnbgfcchaaDoor.XIA
open Go.RowKit Go.Proofs.YtjafllnbgfcchaaDoorW.PrintWords Go.Proofs.YtjafllnbgfcchaaDoorW.PrintLast Go.Proofs.YtjafllnbgfcchaaDoorW.PrintMore Go.Proofs.YtjafllnbgfcchaaDoor.XK
attribute [local go_sem] max2_int min2_int max_two min_two max_three min_three max_four min_four   -- for this text's walks alone
set_option linter.unusedVariables false
set_option linter.unusedSimpArgs false

attribute [local go_sem high] eqA27
/-! ### girandolelaw07_InitsCalls: function 6 -/
def girandolelaw07_InitsCalls.l0 : Nat → Int → Int → ByteArray → Int → Option (Bool)
 | 0, _, _, _, _ => none
 | k + 1, x0, x1, x5, x6 => if x6 > 0 then (if x1 = x6 then (if 4 + x5.size ≤ 9223372036854775807 then (if 2 + ((⟨#[112, 114, 101, 32]⟩ : ByteArray) ++ x5).size ≤ 9223372036854775807 then (if ((⟨#[103, 40]⟩ : ByteArray) ++ ((⟨#[112, 114, 101, 32]⟩ : ByteArray) ++ x5)).size + 1 ≤ 9223372036854775807 then (girandolelaw07_InitsCalls.l0 k x0 x1 (((⟨#[103, 40]⟩ : ByteArray) ++ ((⟨#[112, 114, 101, 32]⟩ : ByteArray) ++ x5)) ++ (⟨#[41]⟩ : ByteArray)) (wrap64 (x6 - 1))) else (none)) else (none)) else (none)) else (if 2 + x5.size ≤ 9223372036854775807 then (if ((⟨#[103, 40]⟩ : ByteArray) ++ x5).size + 1 ≤ 9223372036854775807 then (girandolelaw07_InitsCalls.l0 k x0 x1 (((⟨#[103, 40]⟩ : ByteArray) ++ x5) ++ (⟨#[41]⟩ : ByteArray)) (wrap64 (x6 - 1))) else (none)) else (none))) else (if x1 = 0 then (if 4 + x5.size ≤ 9223372036854775807 then (if 45 + ((⟨#[112, 114, 101, 32]⟩ : ByteArray) ++ x5).size ≤ 9223372036854775807 then (if ((⟨#[110, 111, 100, 101, 32, 102, 40, 120, 58, 32, 105, 110, 116, 41, 32, 114, 101, 116, 117, 114, 110, 115, 32, 40, 121, 58, 32, 105, 110, 116, 41, 32, 108, 101, 116, 32, 121, 32, 61, 32, 48, 32, 45, 62, 32]⟩ : ByteArray) ++ ((⟨#[112, 114, 101, 32]⟩ : ByteArray) ++ x5)).size + 52 ≤ 9223372036854775807 then ((parse_Program.f (((⟨#[110, 111, 100, 101, 32, 102, 40, 120, 58, 32, 105, 110, 116, 41, 32, 114, 101, 116, 117, 114, 110, 115, 32, 40, 121, 58, 32, 105, 110, 116, 41, 32, 108, 101, 116, 32, 121, 32, 61, 32, 48, 32, 45, 62, 32]⟩ : ByteArray) ++ ((⟨#[112, 114, 101, 32]⟩ : ByteArray) ++ x5)) ++ (⟨#[59, 32, 116, 101, 108, 32, 110, 111, 100, 101, 32, 103, 40, 97, 58, 32, 105, 110, 116, 41, 32, 114, 101, 116, 117, 114, 110, 115, 32, 40, 98, 58, 32, 105, 110, 116, 41, 32, 108, 101, 116, 32, 98, 32, 61, 32, 97, 59, 32, 116, 101, 108]⟩ : ByteArray))).bind fun bt205 => (if (bt205.2.1 == 0 && (bt205.2.2 == 0)) = true then ((inits_Check.f k bt205.1).bind fun bt211 => (some ((bt211.1 == 0 && (bt211.2 == 0)) == true))) else (some false))) else (none)) else (none)) else (none)) else (if 45 + x5.size ≤ 9223372036854775807 then (if ((⟨#[110, 111, 100, 101, 32, 102, 40, 120, 58, 32, 105, 110, 116, 41, 32, 114, 101, 116, 117, 114, 110, 115, 32, 40, 121, 58, 32, 105, 110, 116, 41, 32, 108, 101, 116, 32, 121, 32, 61, 32, 48, 32, 45, 62, 32]⟩ : ByteArray) ++ x5).size + 52 ≤ 9223372036854775807 then ((parse_Program.f (((⟨#[110, 111, 100, 101, 32, 102, 40, 120, 58, 32, 105, 110, 116, 41, 32, 114, 101, 116, 117, 114, 110, 115, 32, 40, 121, 58, 32, 105, 110, 116, 41, 32, 108, 101, 116, 32, 121, 32, 61, 32, 48, 32, 45, 62, 32]⟩ : ByteArray) ++ x5) ++ (⟨#[59, 32, 116, 101, 108, 32, 110, 111, 100, 101, 32, 103, 40, 97, 58, 32, 105, 110, 116, 41, 32, 114, 101, 116, 117, 114, 110, 115, 32, 40, 98, 58, 32, 105, 110, 116, 41, 32, 108, 101, 116, 32, 98, 32, 61, 32, 97, 59, 32, 116, 101, 108]⟩ : ByteArray))).bind fun bt213 => (if (bt213.2.1 == 0 && (bt213.2.2 == 0)) = true then ((inits_Check.f k bt213.1).bind fun bt219 => (some ((bt219.1 == 0 && (bt219.2 == 0)) == (decide (x1 > x0))))) else (some false))) else (none)) else (none)))
def girandolelaw07_InitsCalls.f (k : Nat) (a0 : Int) (a1 : Int) : Option (Bool) := (girandolelaw07_awake.f k).bind fun t204 => (if t204 = true then (if (wrap64 ((Int.tmod (Go.bits .and .i64 a0 255) 13) + 2)) = 0 then (none) else (girandolelaw07_InitsCalls.l0 k (Int.tmod (Go.bits .and .i64 a0 255) 13) (Int.tmod (Go.bits .and .i64 a1 255) (wrap64 ((Int.tmod (Go.bits .and .i64 a0 255) 13) + 2))) (⟨#[120]⟩ : ByteArray) (Int.tmod (Go.bits .and .i64 a0 255) 13))) else (some false))
set_option maxHeartbeats 8000000 in
set_option maxRecDepth 100000 in
theorem girandolelaw07_InitsCalls.calls (k : Nat) (a0 : Int) (a1 : Int) (r : Bool) (w : World) (h : girandolelaw07_InitsCalls.f k a0 a1 = some r) (hT : Tabs w) :
  Calls Tryd.prog 6 #[.int .i64 a0, .int .i64 a1] w fun e w' => e = .returned (.bool r) ∧ Below w.heap.size w w' := by
 have HT := Aside0.mk hT
 clear hT
 have hu27 := Tryd.underlying27
 have HB := Aside0.mk (Below.refl w.heap.size w)
 have H : ((girandolelaw07_awake.f k).bind fun t204 => (if t204 = true then (if (wrap64 ((Int.tmod (Go.bits .and .i64 a0 255) 13) + 2)) = 0 then (none) else (girandolelaw07_InitsCalls.l0 k (Int.tmod (Go.bits .and .i64 a0 255) 13) (Int.tmod (Go.bits .and .i64 a1 255) (wrap64 ((Int.tmod (Go.bits .and .i64 a0 255) 13) + 2))) (⟨#[120]⟩ : ByteArray) (Int.tmod (Go.bits .and .i64 a0 255) 13))) else (some false))) = some r := h
 clear h
 replace H := Option.bind_eq_some_iff.mp H
 obtain ⟨t204, A30, H⟩ := H
 replace H : (if t204 = true then (if (wrap64 ((Int.tmod (Go.bits .and .i64 a0 255) 13) + 2)) = 0 then (none) else (girandolelaw07_InitsCalls.l0 k (Int.tmod (Go.bits .and .i64 a0 255) 13) (Int.tmod (Go.bits .and .i64 a1 255) (wrap64 ((Int.tmod (Go.bits .and .i64 a0 255) 13) + 2))) (⟨#[120]⟩ : ByteArray) (Int.tmod (Go.bits .and .i64 a0 255) 13))) else (some false)) = some r := H
 have A3 := Aside0.mk A30
 clear A30
 by_cases c4 : t204 = true
 ·subst c4
  have H1 : (if (wrap64 ((Int.tmod (Go.bits .and .i64 a0 255) 13) + 2)) = 0 then (none) else (girandolelaw07_InitsCalls.l0 k (Int.tmod (Go.bits .and .i64 a0 255) 13) (Int.tmod (Go.bits .and .i64 a1 255) (wrap64 ((Int.tmod (Go.bits .and .i64 a0 255) 13) + 2))) (⟨#[120]⟩ : ByteArray) (Int.tmod (Go.bits .and .i64 a0 255) 13))) = some r := by rw [if_pos rfl] at H; exact H
  clear H
  have H := H1
  clear H1
  by_cases c5 : (wrap64 ((Int.tmod (Go.bits .and .i64 a0 255) 13) + 2)) = 0
  ·rw [if_pos c5] at H
   exact absurd H (by simp)
  ·rw [if_neg c5] at H
   have c5b0 : ((wrap64 ((Int.tmod (Go.bits .and .i64 a0 255) 13) + 2)) == 0) = false := beq_eq_false_iff_ne.mpr c5
   have c5b1 : ((wrap64 ((Int.tmod (Go.bits .and .i64 a0 255) 13) + 2)) != 0) = true := bne_iff_ne.mpr c5
   have H' := Aside0.mk H
   clear H
   go_enter Tryd.func6, Tryd.ntmps6
   go_wp2_with (first | ((with_reducible refine gate_callee (f := 23) rfl ?_); refine goesL_ (some 9) rfl rfl Tryd.func23 (by kernel_rfl) rfl #[] rfl (by (try simp only [List.map_toArray, List.map_cons, List.map_nil]); first | done | rfl | (simp only [List.length_drop, List.length_take]; rfl)) ?_; (with_reducible refine (girandolelaw07_awake.calls k  true _ A3.out ?side1).mono ?_); (case side1 => exact Tabs.below HT.out (by repeat (first | (with_reducible first | exact HB.out | apply below_alloc | apply pw_below_drewN | apply below_drew1) | exact HB.out))); rintro e w6 ⟨rfl, hb⟩; refine ⟨_, rfl, ?_⟩; have n0_ := Aside0.mk (below_step (by repeat (first | (with_reducible first | exact HB.out | apply below_alloc | apply pw_below_drewN | apply below_drew1) | exact HB.out)) hb); clear HB; have HB := n0_; clear n0_; (try clear hb); (try clear hb2); (try clear hk); (try clear hi)))
   go_loopg [5, 6] k (fun kq v5 v6 w' => ∃ (x5_1 : ByteArray) (x6_1 : Int), v5 = .string x5_1 ∧ v6 = .int .i64 x6_1 ∧ Aside0 (girandolelaw07_InitsCalls.l0 kq (Int.tmod (Go.bits .and .i64 a0 255) 13) (Int.tmod (Go.bits .and .i64 a1 255) (wrap64 ((Int.tmod (Go.bits .and .i64 a0 255) 13) + 2))) x5_1 x6_1 = some r) ∧ Aside0 (kq ≤ k) ∧ Aside0 (Below w.heap.size w w'))
   case atStart => exact ⟨((⟨#[120]⟩ : ByteArray)), (Int.tmod (Go.bits .and .i64 a0 255) 13), (by first | rfl | (simp; done) | (simp [*]; done)), (by first | rfl | (simp; done) | (simp [*]; done)), H', ⟨Nat.le_refl _⟩, ⟨by repeat (first | (with_reducible first | exact HB.out | apply below_alloc | apply pw_below_drewN | apply below_drew1) | exact HB.out)⟩⟩
   case round =>
    clear H'
    try clear c2
    try clear p2
    try clear c4
    try clear c5
    try clear c5b0
    try clear c5b1
    try clear c6
    try clear p6
    obtain ⟨x5_1, x6_1, rfl, rfl, HA, HK1, HB⟩ := hrel
    cases gk with
    | zero => exact absurd HA.out (by simp [girandolelaw07_InitsCalls.l0])
    | succ k1 =>
     have H := HA.out
     clear HA
     simp only [girandolelaw07_InitsCalls.l0] at H
     by_cases c7 : x6_1 > 0
     ·rw [if_pos c7] at H
      have c7b0 : decide (0 < x6_1) = true := decide_eq_true c7
      clear c7
      by_cases c8 : (Int.tmod (Go.bits .and .i64 a1 255) (wrap64 ((Int.tmod (Go.bits .and .i64 a0 255) 13) + 2))) = x6_1
      ·rw [if_pos c8] at H
       have c8b0 : ((Int.tmod (Go.bits .and .i64 a1 255) (wrap64 ((Int.tmod (Go.bits .and .i64 a0 255) 13) + 2))) == x6_1) = true := beq_iff_eq.mpr c8
       have c8b1 : ((Int.tmod (Go.bits .and .i64 a1 255) (wrap64 ((Int.tmod (Go.bits .and .i64 a0 255) 13) + 2))) != x6_1) = false := bne_eq_false_iff_eq.mpr c8
       clear c8
       by_cases c9 : 4 + x5_1.size ≤ 9223372036854775807
       ·rw [if_pos c9] at H
        have c9b0 := eq_true c9
        have c9b1 : decide (4 + x5_1.size ≤ 9223372036854775807) = true := decide_eq_true c9
        try have c9b2 : (9223372036854775807 < 4 + x5_1.size) = False := eq_false (Nat.not_lt.2 c9)
        by_cases c10 : 2 + ((⟨#[112, 114, 101, 32]⟩ : ByteArray) ++ x5_1).size ≤ 9223372036854775807
        ·rw [if_pos c10] at H
         have c10b0 := eq_true c10
         have c10b1 : decide (2 + ((⟨#[112, 114, 101, 32]⟩ : ByteArray) ++ x5_1).size ≤ 9223372036854775807) = true := decide_eq_true c10
         try have c10b2 : (9223372036854775807 < 2 + ((⟨#[112, 114, 101, 32]⟩ : ByteArray) ++ x5_1).size) = False := eq_false (Nat.not_lt.2 c10)
         try have c10b9 : (9223372036854775807 < 2 + (4 + x5_1.size)) = False := eq_false (by have h_ := c10; simp only [ByteArray.size_append] at h_; exact Nat.not_lt.2 h_)
         by_cases c11 : ((⟨#[103, 40]⟩ : ByteArray) ++ ((⟨#[112, 114, 101, 32]⟩ : ByteArray) ++ x5_1)).size + 1 ≤ 9223372036854775807
         ·rw [if_pos c11] at H
          have c11b0 := eq_true c11
          have c11b1 : decide (((⟨#[103, 40]⟩ : ByteArray) ++ ((⟨#[112, 114, 101, 32]⟩ : ByteArray) ++ x5_1)).size + 1 ≤ 9223372036854775807) = true := decide_eq_true c11
          try have c11b2 : (9223372036854775807 < ((⟨#[103, 40]⟩ : ByteArray) ++ ((⟨#[112, 114, 101, 32]⟩ : ByteArray) ++ x5_1)).size + 1) = False := eq_false (Nat.not_lt.2 c11)
          try have c11b9 : (9223372036854775807 < 2 + (4 + x5_1.size) + 1) = False := eq_false (by have h_ := c11; simp only [ByteArray.size_append] at h_; exact Nat.not_lt.2 h_)
          have H' := Aside0.mk H
          clear H
          go_wp2
          go_roundg k1
          case measure => have := HK1.out; omega
          case rel => exact ⟨(((⟨#[103, 40]⟩ : ByteArray) ++ ((⟨#[112, 114, 101, 32]⟩ : ByteArray) ++ x5_1)) ++ (⟨#[41]⟩ : ByteArray)), (wrap64 (x6_1 - 1)), (by first | rfl | (simp; done) | (simp [*]; done)), (by first | rfl | (simp; done) | (simp [*]; done)), H', ⟨by have := HK1.out; omega⟩, ⟨by repeat (first | (with_reducible first | exact HB.out | apply below_alloc | apply pw_below_drewN | apply below_drew1) | exact HB.out)⟩⟩
         ·rw [if_neg c11] at H
          exact absurd H (by simp)
        ·rw [if_neg c10] at H
         exact absurd H (by simp)
       ·rw [if_neg c9] at H
        exact absurd H (by simp)
      ·rw [if_neg c8] at H
       have c8b0 : ((Int.tmod (Go.bits .and .i64 a1 255) (wrap64 ((Int.tmod (Go.bits .and .i64 a0 255) 13) + 2))) == x6_1) = false := beq_eq_false_iff_ne.mpr c8
       have c8b1 : ((Int.tmod (Go.bits .and .i64 a1 255) (wrap64 ((Int.tmod (Go.bits .and .i64 a0 255) 13) + 2))) != x6_1) = true := bne_iff_ne.mpr c8
       by_cases c12 : 2 + x5_1.size ≤ 9223372036854775807
       ·rw [if_pos c12] at H
        have c12b0 := eq_true c12
        have c12b1 : decide (2 + x5_1.size ≤ 9223372036854775807) = true := decide_eq_true c12
        try have c12b2 : (9223372036854775807 < 2 + x5_1.size) = False := eq_false (Nat.not_lt.2 c12)
        by_cases c13 : ((⟨#[103, 40]⟩ : ByteArray) ++ x5_1).size + 1 ≤ 9223372036854775807
        ·rw [if_pos c13] at H
         have c13b0 := eq_true c13
         have c13b1 : decide (((⟨#[103, 40]⟩ : ByteArray) ++ x5_1).size + 1 ≤ 9223372036854775807) = true := decide_eq_true c13
         try have c13b2 : (9223372036854775807 < ((⟨#[103, 40]⟩ : ByteArray) ++ x5_1).size + 1) = False := eq_false (Nat.not_lt.2 c13)
         try have c13b9 : (9223372036854775807 < 2 + x5_1.size + 1) = False := eq_false (by have h_ := c13; simp only [ByteArray.size_append] at h_; exact Nat.not_lt.2 h_)
         have H' := Aside0.mk H
         clear H
         go_wp2
         go_roundg k1
         case measure => have := HK1.out; omega
         case rel => exact ⟨(((⟨#[103, 40]⟩ : ByteArray) ++ x5_1) ++ (⟨#[41]⟩ : ByteArray)), (wrap64 (x6_1 - 1)), (by first | rfl | (simp; done) | (simp [*]; done)), (by first | rfl | (simp; done) | (simp [*]; done)), H', ⟨by have := HK1.out; omega⟩, ⟨by repeat (first | (with_reducible first | exact HB.out | apply below_alloc | apply pw_below_drewN | apply below_drew1) | exact HB.out)⟩⟩
        ·rw [if_neg c13] at H
         exact absurd H (by simp)
       ·rw [if_neg c12] at H
        exact absurd H (by simp)
     ·rw [if_neg c7] at H
      have c7b0 : decide (0 < x6_1) = false := decide_eq_false c7
      clear c7
      by_cases c14 : (Int.tmod (Go.bits .and .i64 a1 255) (wrap64 ((Int.tmod (Go.bits .and .i64 a0 255) 13) + 2))) = 0
      ·rw [if_pos c14] at H
       have c14b0 : ((Int.tmod (Go.bits .and .i64 a1 255) (wrap64 ((Int.tmod (Go.bits .and .i64 a0 255) 13) + 2))) == 0) = true := beq_iff_eq.mpr c14
       have c14b1 : ((Int.tmod (Go.bits .and .i64 a1 255) (wrap64 ((Int.tmod (Go.bits .and .i64 a0 255) 13) + 2))) != 0) = false := bne_eq_false_iff_eq.mpr c14
       clear c14
       by_cases c15 : 4 + x5_1.size ≤ 9223372036854775807
       ·rw [if_pos c15] at H
        have c15b0 := eq_true c15
        have c15b1 : decide (4 + x5_1.size ≤ 9223372036854775807) = true := decide_eq_true c15
        try have c15b2 : (9223372036854775807 < 4 + x5_1.size) = False := eq_false (Nat.not_lt.2 c15)
        by_cases c16 : 45 + ((⟨#[112, 114, 101, 32]⟩ : ByteArray) ++ x5_1).size ≤ 9223372036854775807
        ·rw [if_pos c16] at H
         have c16b0 := eq_true c16
         have c16b1 : decide (45 + ((⟨#[112, 114, 101, 32]⟩ : ByteArray) ++ x5_1).size ≤ 9223372036854775807) = true := decide_eq_true c16
         try have c16b2 : (9223372036854775807 < 45 + ((⟨#[112, 114, 101, 32]⟩ : ByteArray) ++ x5_1).size) = False := eq_false (Nat.not_lt.2 c16)
         try have c16b9 : (9223372036854775807 < 45 + (4 + x5_1.size)) = False := eq_false (by have h_ := c16; simp only [ByteArray.size_append] at h_; exact Nat.not_lt.2 h_)
         by_cases c17 : ((⟨#[110, 111, 100, 101, 32, 102, 40, 120, 58, 32, 105, 110, 116, 41, 32, 114, 101, 116, 117, 114, 110, 115, 32, 40, 121, 58, 32, 105, 110, 116, 41, 32, 108, 101, 116, 32, 121, 32, 61, 32, 48, 32, 45, 62, 32]⟩ : ByteArray) ++ ((⟨#[112, 114, 101, 32]⟩ : ByteArray) ++ x5_1)).size + 52 ≤ 9223372036854775807
         ·rw [if_pos c17] at H
          have c17b0 := eq_true c17
          have c17b1 : decide (((⟨#[110, 111, 100, 101, 32, 102, 40, 120, 58, 32, 105, 110, 116, 41, 32, 114, 101, 116, 117, 114, 110, 115, 32, 40, 121, 58, 32, 105, 110, 116, 41, 32, 108, 101, 116, 32, 121, 32, 61, 32, 48, 32, 45, 62, 32]⟩ : ByteArray) ++ ((⟨#[112, 114, 101, 32]⟩ : ByteArray) ++ x5_1)).size + 52 ≤ 9223372036854775807) = true := decide_eq_true c17
          try have c17b2 : (9223372036854775807 < ((⟨#[110, 111, 100, 101, 32, 102, 40, 120, 58, 32, 105, 110, 116, 41, 32, 114, 101, 116, 117, 114, 110, 115, 32, 40, 121, 58, 32, 105, 110, 116, 41, 32, 108, 101, 116, 32, 121, 32, 61, 32, 48, 32, 45, 62, 32]⟩ : ByteArray) ++ ((⟨#[112, 114, 101, 32]⟩ : ByteArray) ++ x5_1)).size + 52) = False := eq_false (Nat.not_lt.2 c17)
          try have c17b9 : (9223372036854775807 < 45 + (4 + x5_1.size) + 52) = False := eq_false (by have h_ := c17; simp only [ByteArray.size_append] at h_; exact Nat.not_lt.2 h_)
          replace H := Option.bind_eq_some_iff.mp H
          obtain ⟨⟨t205, t208, t209⟩, A180, H⟩ := H
          replace H : (if (t208 == 0 && (t209 == 0)) = true then ((inits_Check.f k1 t205).bind fun bt211 => (some ((bt211.1 == 0 && (bt211.2 == 0)) == true))) else (some false)) = some r := H
          have A18 := Aside0.mk A180
          clear A180
          by_cases c19 : (t208 == 0 && (t209 == 0)) = true
          ·rw [if_pos c19] at H
           have c19b0 : (t208 == 0 && (t209 == 0)) = true := c19
           (try (have c19b1 : decide (t208 = 0 && (t209 == 0)) = true := by simpa using c19))
           (try (have c19b2 : (t208 == 0 && (t209 == 0)) = true := by simpa using c19))
           clear c19
           replace H := Option.bind_eq_some_iff.mp H
           obtain ⟨⟨t211, t212⟩, A200, H⟩ := H
           replace H : (some ((t211 == 0 && (t212 == 0)) == true)) = some r := H
           have A20 := Aside0.mk A200
           clear A200
           obtain rfl := Option.some.inj H
           go_wp2_with (first | ((with_reducible refine gate_callee (f := 15) rfl ?_); refine goesL_ (some 40) rfl rfl Tryd.func15 (by kernel_rfl) rfl #[.string (((⟨#[110, 111, 100, 101, 32, 102, 40, 120, 58, 32, 105, 110, 116, 41, 32, 114, 101, 116, 117, 114, 110, 115, 32, 40, 121, 58, 32, 105, 110, 116, 41, 32, 108, 101, 116, 32, 121, 32, 61, 32, 48, 32, 45, 62, 32]⟩ : ByteArray) ++ ((⟨#[112, 114, 101, 32]⟩ : ByteArray) ++ x5_1)) ++ (⟨#[59, 32, 116, 101, 108, 32, 110, 111, 100, 101, 32, 103, 40, 97, 58, 32, 105, 110, 116, 41, 32, 114, 101, 116, 117, 114, 110, 115, 32, 40, 98, 58, 32, 105, 110, 116, 41, 32, 108, 101, 116, 32, 98, 32, 61, 32, 97, 59, 32, 116, 101, 108]⟩ : ByteArray))] rfl (by (try simp only [List.map_toArray, List.map_cons, List.map_nil]); first | done | rfl | (simp only [List.length_drop, List.length_take]; rfl)) ?_; (with_reducible refine (parse_Program.calls (((⟨#[110, 111, 100, 101, 32, 102, 40, 120, 58, 32, 105, 110, 116, 41, 32, 114, 101, 116, 117, 114, 110, 115, 32, 40, 121, 58, 32, 105, 110, 116, 41, 32, 108, 101, 116, 32, 121, 32, 61, 32, 48, 32, 45, 62, 32]⟩ : ByteArray) ++ ((⟨#[112, 114, 101, 32]⟩ : ByteArray) ++ x5_1)) ++ (⟨#[59, 32, 116, 101, 108, 32, 110, 111, 100, 101, 32, 103, 40, 97, 58, 32, 105, 110, 116, 41, 32, 114, 101, 116, 117, 114, 110, 115, 32, 40, 98, 58, 32, 105, 110, 116, 41, 32, 108, 101, 116, 32, 98, 32, 61, 32, 97, 59, 32, 116, 101, 108]⟩ : ByteArray)) t205 t208 t209 _ A18.out ?side1).mono ?_); (case side1 => exact Tabs.below HT.out (by repeat (first | (with_reducible first | exact HB.out | apply below_alloc | apply pw_below_drewN | apply below_drew1) | exact HB.out))); rintro e w21 ⟨v206, rfl, ho0, hb⟩; refine ⟨_, rfl, ?_⟩; have n0_ := Aside0.mk (Kd.R_lower ho0 (below_size (by repeat (first | (with_reducible first | exact HB.out | apply below_alloc | apply pw_below_drewN | apply below_drew1) | exact HB.out)))); have n1_ := Aside0.mk (below_step (by repeat (first | (with_reducible first | exact HB.out | apply below_alloc | apply pw_below_drewN | apply below_drew1) | exact HB.out)) hb); clear HB; have HO207 := n0_; have HB := n1_; clear n0_ n1_; (try clear hb); (try clear hb2); (try clear hk); (try clear hi); (try clear ho0)) | ((with_reducible refine gate_dst (N := 8) rfl ?_); refine box_event ?hg (N := 8) ?hd (cs := #[.int .i64 0, .int .i64 0]) (t := 27) ?hr ?_; (case hd => rfl); (case hg => rfl); (case hr => first | (go_simp; done) | (go_simp; rfl)); intro gb210 hg w22 hbox hb; have n0_ := Aside0.mk (Kd.R_below (by (with_reducible repeat (first | apply Kd.R_alloc | apply Kd.R_drewN | apply Kd.R_drew)); exact HO207.out) hb); have n1_ := Aside0.mk (below_step (by repeat (first | (with_reducible first | exact HB.out | apply below_alloc | apply pw_below_drewN | apply below_drew1) | exact HB.out)) hb); have n2_ := Aside0.mk (hbox); have n3_ := Aside0.mk ((by rw [hg]; exact (below_size (by repeat (first | (with_reducible first | exact HB.out | apply below_alloc | apply pw_below_drewN | apply below_drew1) | exact HB.out))) : w.heap.size ≤ gb210)); have n4_ := Aside0.mk ((by rw [hg]; exact (below_size (by repeat (first | (with_reducible first | exact HB.out | apply below_alloc | apply pw_below_drewN | apply below_drew1) | exact HB.out))) : w.heap.size ≤ gb210)); clear HO207; clear HB; have HO207 := n0_; have HB := n1_; have BK210 := n2_; have GW210 := n3_; have GE210 := n4_; clear n0_ n1_ n2_ n3_ n4_; clear hb hbox hg; have hcz23_0 : w22.cell? ⟨gb210, 0, none⟩ = some (.int .i64 0) := (blk_cell BK210.out 0).trans rfl; have hcz23_1 : w22.cell? ⟨gb210, 1, none⟩ = some (.int .i64 0) := (blk_cell BK210.out 1).trans rfl; have hfz23_0 := blk_frozen BK210.out 0; have hfz23_1 := blk_frozen BK210.out 1; obtain ⟨Ao24, co24, eo24⟩ := Kd.R_slice HO207.out; subst eo24) | (go_at_call 24; (with_reducible refine (inits_Check.calls k1 _ _ t205 t211 t212 _ ?side1 ?side2 A20.out).mono ?_); (case side1 => refine (Kd.R_reads' (e := 34) (base := w.heap.size) (ok := fun k_ => True) (n := t205.length) (c := co24) ?_).2.2; exact (by (with_reducible repeat (first | apply Kd.R_alloc | apply Kd.R_drewN | apply Kd.R_drew)); exact (Kd.R_mono (Kd.R_far (p := ⟨gb210, 1, none⟩) (Kd.R_far (p := ⟨gb210, 0, none⟩) (Kd.R_types HO207.out BK210.out (by decide)) (fun _ hk => hk.2) (.int .i64 t208)) (fun _ hk => hk.2) (.int .i64 t209)) (fun _ h_ => h_.1)))); (case side2 => exact (Kd.R_reads' HO207.out).2.1); rintro e w25 ⟨rfl, hb⟩; have n0_ := Aside0.mk (Kd.R_below (by (with_reducible repeat (first | apply Kd.R_alloc | apply Kd.R_drewN | apply Kd.R_drew)); exact (Kd.R_mono (Kd.R_far (p := ⟨gb210, 1, none⟩) (Kd.R_far (p := ⟨gb210, 0, none⟩) (Kd.R_types HO207.out BK210.out (by decide)) (fun _ hk => hk.2) (.int .i64 t208)) (fun _ hk => hk.2) (.int .i64 t209)) (fun _ h_ => h_.1))) hb); have n1_ := Aside0.mk (blk_below (g := gb210) (o := .cells #[.int .i64 t208, .int .i64 t209] 27 (0, 0)) (by (with_reducible repeat (first | refine blk_drewN ?_ _ | refine blk_drew ?_ | refine blk_alloc ?_ _)); refine blk_put (cs := #[.int .i64 t208, .int .i64 0]) ?_ 1 _ rfl; (with_reducible repeat (first | refine blk_drewN ?_ _ | refine blk_drew ?_ | refine blk_alloc ?_ _)); refine blk_put (cs := #[.int .i64 0, .int .i64 0]) ?_ 0 _ rfl; (with_reducible repeat (first | refine blk_drewN ?_ _ | refine blk_drew ?_ | refine blk_alloc ?_ _)); exact BK210.out) hb); have n2_ := Aside0.mk (below_step (by repeat (first | (with_reducible first | exact HB.out | apply below_alloc | apply pw_below_drewN | apply below_drew1 | refine below_set ?_ GE210.out) | exact HB.out)) hb); clear HO207; clear BK210; clear HB; have HO207 := n0_; have BK210 := n1_; have HB := n2_; clear n0_ n1_ n2_; (try clear hb); (try clear hb2); (try clear hk); (try clear hi)))
           go_ret
           exact ⟨by first | rfl | (simp [errW_none, errW_some] <;> rfl) | (simp [*, errW_none, errW_some] <;> rfl), by repeat (first | (with_reducible first | exact HB.out | apply below_alloc | apply pw_below_drewN | apply below_drew1 | refine below_set ?_ GE210.out) | exact HB.out)⟩
          ·rw [if_neg c19] at H
           have c19b0 : (t208 == 0 && (t209 == 0)) = false := by simpa using c19
           (try (have c19b1 : decide (t208 = 0 && (t209 == 0)) = false := by simpa using c19))
           (try (have c19b2 : (t208 == 0 && (t209 == 0)) = false := by simpa using c19))
           (try (have c19b3 : ¬ (t208 = 0 && (t209 == 0)) := by simpa using c19))
           clear c19
           obtain rfl := Option.some.inj H
           go_wp2_with (first | ((with_reducible refine gate_callee (f := 15) rfl ?_); refine goesL_ (some 40) rfl rfl Tryd.func15 (by kernel_rfl) rfl #[.string (((⟨#[110, 111, 100, 101, 32, 102, 40, 120, 58, 32, 105, 110, 116, 41, 32, 114, 101, 116, 117, 114, 110, 115, 32, 40, 121, 58, 32, 105, 110, 116, 41, 32, 108, 101, 116, 32, 121, 32, 61, 32, 48, 32, 45, 62, 32]⟩ : ByteArray) ++ ((⟨#[112, 114, 101, 32]⟩ : ByteArray) ++ x5_1)) ++ (⟨#[59, 32, 116, 101, 108, 32, 110, 111, 100, 101, 32, 103, 40, 97, 58, 32, 105, 110, 116, 41, 32, 114, 101, 116, 117, 114, 110, 115, 32, 40, 98, 58, 32, 105, 110, 116, 41, 32, 108, 101, 116, 32, 98, 32, 61, 32, 97, 59, 32, 116, 101, 108]⟩ : ByteArray))] rfl (by (try simp only [List.map_toArray, List.map_cons, List.map_nil]); first | done | rfl | (simp only [List.length_drop, List.length_take]; rfl)) ?_; (with_reducible refine (parse_Program.calls (((⟨#[110, 111, 100, 101, 32, 102, 40, 120, 58, 32, 105, 110, 116, 41, 32, 114, 101, 116, 117, 114, 110, 115, 32, 40, 121, 58, 32, 105, 110, 116, 41, 32, 108, 101, 116, 32, 121, 32, 61, 32, 48, 32, 45, 62, 32]⟩ : ByteArray) ++ ((⟨#[112, 114, 101, 32]⟩ : ByteArray) ++ x5_1)) ++ (⟨#[59, 32, 116, 101, 108, 32, 110, 111, 100, 101, 32, 103, 40, 97, 58, 32, 105, 110, 116, 41, 32, 114, 101, 116, 117, 114, 110, 115, 32, 40, 98, 58, 32, 105, 110, 116, 41, 32, 108, 101, 116, 32, 98, 32, 61, 32, 97, 59, 32, 116, 101, 108]⟩ : ByteArray)) t205 t208 t209 _ A18.out ?side1).mono ?_); (case side1 => exact Tabs.below HT.out (by repeat (first | (with_reducible first | exact HB.out | apply below_alloc | apply pw_below_drewN | apply below_drew1) | exact HB.out))); rintro e w26 ⟨v206, rfl, ho0, hb⟩; refine ⟨_, rfl, ?_⟩; have n0_ := Aside0.mk (Kd.R_lower ho0 (below_size (by repeat (first | (with_reducible first | exact HB.out | apply below_alloc | apply pw_below_drewN | apply below_drew1) | exact HB.out)))); have n1_ := Aside0.mk (below_step (by repeat (first | (with_reducible first | exact HB.out | apply below_alloc | apply pw_below_drewN | apply below_drew1) | exact HB.out)) hb); clear HB; have HO207 := n0_; have HB := n1_; clear n0_ n1_; (try clear hb); (try clear hb2); (try clear hk); (try clear hi); (try clear ho0)) | ((with_reducible refine gate_dst (N := 8) rfl ?_); refine box_event ?hg (N := 8) ?hd (cs := #[.int .i64 0, .int .i64 0]) (t := 27) ?hr ?_; (case hd => rfl); (case hg => rfl); (case hr => first | (go_simp; done) | (go_simp; rfl)); intro gb210 hg w27 hbox hb; have n0_ := Aside0.mk (Kd.R_below (by (with_reducible repeat (first | apply Kd.R_alloc | apply Kd.R_drewN | apply Kd.R_drew)); exact HO207.out) hb); have n1_ := Aside0.mk (below_step (by repeat (first | (with_reducible first | exact HB.out | apply below_alloc | apply pw_below_drewN | apply below_drew1) | exact HB.out)) hb); have n2_ := Aside0.mk (hbox); have n3_ := Aside0.mk ((by rw [hg]; exact (below_size (by repeat (first | (with_reducible first | exact HB.out | apply below_alloc | apply pw_below_drewN | apply below_drew1) | exact HB.out))) : w.heap.size ≤ gb210)); have n4_ := Aside0.mk ((by rw [hg]; exact (below_size (by repeat (first | (with_reducible first | exact HB.out | apply below_alloc | apply pw_below_drewN | apply below_drew1) | exact HB.out))) : w.heap.size ≤ gb210)); clear HO207; clear HB; have HO207 := n0_; have HB := n1_; have BK210 := n2_; have GW210 := n3_; have GE210 := n4_; clear n0_ n1_ n2_ n3_ n4_; clear hb hbox hg; have hcz28_0 : w27.cell? ⟨gb210, 0, none⟩ = some (.int .i64 0) := (blk_cell BK210.out 0).trans rfl; have hcz28_1 : w27.cell? ⟨gb210, 1, none⟩ = some (.int .i64 0) := (blk_cell BK210.out 1).trans rfl; have hfz28_0 := blk_frozen BK210.out 0; have hfz28_1 := blk_frozen BK210.out 1))
           go_ret
           exact ⟨by first | rfl | (simp [errW_none, errW_some] <;> rfl) | (simp [*, errW_none, errW_some] <;> rfl), by repeat (first | (with_reducible first | exact HB.out | apply below_alloc | apply pw_below_drewN | apply below_drew1 | refine below_set ?_ GE210.out) | exact HB.out)⟩
         ·rw [if_neg c17] at H
          exact absurd H (by simp)
        ·rw [if_neg c16] at H
         exact absurd H (by simp)
       ·rw [if_neg c15] at H
        exact absurd H (by simp)
      ·rw [if_neg c14] at H
       have c14b0 : ((Int.tmod (Go.bits .and .i64 a1 255) (wrap64 ((Int.tmod (Go.bits .and .i64 a0 255) 13) + 2))) == 0) = false := beq_eq_false_iff_ne.mpr c14
       have c14b1 : ((Int.tmod (Go.bits .and .i64 a1 255) (wrap64 ((Int.tmod (Go.bits .and .i64 a0 255) 13) + 2))) != 0) = true := bne_iff_ne.mpr c14
       by_cases c29 : 45 + x5_1.size ≤ 9223372036854775807
       ·rw [if_pos c29] at H
        have c29b0 := eq_true c29
        have c29b1 : decide (45 + x5_1.size ≤ 9223372036854775807) = true := decide_eq_true c29
        try have c29b2 : (9223372036854775807 < 45 + x5_1.size) = False := eq_false (Nat.not_lt.2 c29)
        by_cases c30 : ((⟨#[110, 111, 100, 101, 32, 102, 40, 120, 58, 32, 105, 110, 116, 41, 32, 114, 101, 116, 117, 114, 110, 115, 32, 40, 121, 58, 32, 105, 110, 116, 41, 32, 108, 101, 116, 32, 121, 32, 61, 32, 48, 32, 45, 62, 32]⟩ : ByteArray) ++ x5_1).size + 52 ≤ 9223372036854775807
        ·rw [if_pos c30] at H
         have c30b0 := eq_true c30
         have c30b1 : decide (((⟨#[110, 111, 100, 101, 32, 102, 40, 120, 58, 32, 105, 110, 116, 41, 32, 114, 101, 116, 117, 114, 110, 115, 32, 40, 121, 58, 32, 105, 110, 116, 41, 32, 108, 101, 116, 32, 121, 32, 61, 32, 48, 32, 45, 62, 32]⟩ : ByteArray) ++ x5_1).size + 52 ≤ 9223372036854775807) = true := decide_eq_true c30
         try have c30b2 : (9223372036854775807 < ((⟨#[110, 111, 100, 101, 32, 102, 40, 120, 58, 32, 105, 110, 116, 41, 32, 114, 101, 116, 117, 114, 110, 115, 32, 40, 121, 58, 32, 105, 110, 116, 41, 32, 108, 101, 116, 32, 121, 32, 61, 32, 48, 32, 45, 62, 32]⟩ : ByteArray) ++ x5_1).size + 52) = False := eq_false (Nat.not_lt.2 c30)
         try have c30b9 : (9223372036854775807 < 45 + x5_1.size + 52) = False := eq_false (by have h_ := c30; simp only [ByteArray.size_append] at h_; exact Nat.not_lt.2 h_)
         replace H := Option.bind_eq_some_iff.mp H
         obtain ⟨⟨t213, t216, t217⟩, A310, H⟩ := H
         replace H : (if (t216 == 0 && (t217 == 0)) = true then ((inits_Check.f k1 t213).bind fun bt219 => (some ((bt219.1 == 0 && (bt219.2 == 0)) == (decide ((Int.tmod (Go.bits .and .i64 a1 255) (wrap64 ((Int.tmod (Go.bits .and .i64 a0 255) 13) + 2))) > (Int.tmod (Go.bits .and .i64 a0 255) 13)))))) else (some false)) = some r := H
         have A31 := Aside0.mk A310
         clear A310
         by_cases c32 : (t216 == 0 && (t217 == 0)) = true
         ·rw [if_pos c32] at H
          have c32b0 : (t216 == 0 && (t217 == 0)) = true := c32
          (try (have c32b1 : decide (t216 = 0 && (t217 == 0)) = true := by simpa using c32))
          (try (have c32b2 : (t216 == 0 && (t217 == 0)) = true := by simpa using c32))
          clear c32
          replace H := Option.bind_eq_some_iff.mp H
          obtain ⟨⟨t219, t220⟩, A330, H⟩ := H
          replace H : (some ((t219 == 0 && (t220 == 0)) == (decide ((Int.tmod (Go.bits .and .i64 a1 255) (wrap64 ((Int.tmod (Go.bits .and .i64 a0 255) 13) + 2))) > (Int.tmod (Go.bits .and .i64 a0 255) 13))))) = some r := H
          have A33 := Aside0.mk A330
          clear A330
          obtain rfl := Option.some.inj H
          go_wp2_with (first | ((with_reducible refine gate_callee (f := 15) rfl ?_); refine goesL_ (some 40) rfl rfl Tryd.func15 (by kernel_rfl) rfl #[.string (((⟨#[110, 111, 100, 101, 32, 102, 40, 120, 58, 32, 105, 110, 116, 41, 32, 114, 101, 116, 117, 114, 110, 115, 32, 40, 121, 58, 32, 105, 110, 116, 41, 32, 108, 101, 116, 32, 121, 32, 61, 32, 48, 32, 45, 62, 32]⟩ : ByteArray) ++ x5_1) ++ (⟨#[59, 32, 116, 101, 108, 32, 110, 111, 100, 101, 32, 103, 40, 97, 58, 32, 105, 110, 116, 41, 32, 114, 101, 116, 117, 114, 110, 115, 32, 40, 98, 58, 32, 105, 110, 116, 41, 32, 108, 101, 116, 32, 98, 32, 61, 32, 97, 59, 32, 116, 101, 108]⟩ : ByteArray))] rfl (by (try simp only [List.map_toArray, List.map_cons, List.map_nil]); first | done | rfl | (simp only [List.length_drop, List.length_take]; rfl)) ?_; (with_reducible refine (parse_Program.calls (((⟨#[110, 111, 100, 101, 32, 102, 40, 120, 58, 32, 105, 110, 116, 41, 32, 114, 101, 116, 117, 114, 110, 115, 32, 40, 121, 58, 32, 105, 110, 116, 41, 32, 108, 101, 116, 32, 121, 32, 61, 32, 48, 32, 45, 62, 32]⟩ : ByteArray) ++ x5_1) ++ (⟨#[59, 32, 116, 101, 108, 32, 110, 111, 100, 101, 32, 103, 40, 97, 58, 32, 105, 110, 116, 41, 32, 114, 101, 116, 117, 114, 110, 115, 32, 40, 98, 58, 32, 105, 110, 116, 41, 32, 108, 101, 116, 32, 98, 32, 61, 32, 97, 59, 32, 116, 101, 108]⟩ : ByteArray)) t213 t216 t217 _ A31.out ?side1).mono ?_); (case side1 => exact Tabs.below HT.out (by repeat (first | (with_reducible first | exact HB.out | apply below_alloc | apply pw_below_drewN | apply below_drew1) | exact HB.out))); rintro e w34 ⟨v214, rfl, ho0, hb⟩; refine ⟨_, rfl, ?_⟩; have n0_ := Aside0.mk (Kd.R_lower ho0 (below_size (by repeat (first | (with_reducible first | exact HB.out | apply below_alloc | apply pw_below_drewN | apply below_drew1) | exact HB.out)))); have n1_ := Aside0.mk (below_step (by repeat (first | (with_reducible first | exact HB.out | apply below_alloc | apply pw_below_drewN | apply below_drew1) | exact HB.out)) hb); clear HB; have HO215 := n0_; have HB := n1_; clear n0_ n1_; (try clear hb); (try clear hb2); (try clear hk); (try clear hi); (try clear ho0)) | ((with_reducible refine gate_dst (N := 8) rfl ?_); refine box_event ?hg (N := 8) ?hd (cs := #[.int .i64 0, .int .i64 0]) (t := 27) ?hr ?_; (case hd => rfl); (case hg => rfl); (case hr => first | (go_simp; done) | (go_simp; rfl)); intro gb218 hg w35 hbox hb; have n0_ := Aside0.mk (Kd.R_below (by (with_reducible repeat (first | apply Kd.R_alloc | apply Kd.R_drewN | apply Kd.R_drew)); exact HO215.out) hb); have n1_ := Aside0.mk (below_step (by repeat (first | (with_reducible first | exact HB.out | apply below_alloc | apply pw_below_drewN | apply below_drew1) | exact HB.out)) hb); have n2_ := Aside0.mk (hbox); have n3_ := Aside0.mk ((by rw [hg]; exact (below_size (by repeat (first | (with_reducible first | exact HB.out | apply below_alloc | apply pw_below_drewN | apply below_drew1) | exact HB.out))) : w.heap.size ≤ gb218)); have n4_ := Aside0.mk ((by rw [hg]; exact (below_size (by repeat (first | (with_reducible first | exact HB.out | apply below_alloc | apply pw_below_drewN | apply below_drew1) | exact HB.out))) : w.heap.size ≤ gb218)); clear HO215; clear HB; have HO215 := n0_; have HB := n1_; have BK218 := n2_; have GW218 := n3_; have GE218 := n4_; clear n0_ n1_ n2_ n3_ n4_; clear hb hbox hg; have hcz36_0 : w35.cell? ⟨gb218, 0, none⟩ = some (.int .i64 0) := (blk_cell BK218.out 0).trans rfl; have hcz36_1 : w35.cell? ⟨gb218, 1, none⟩ = some (.int .i64 0) := (blk_cell BK218.out 1).trans rfl; have hfz36_0 := blk_frozen BK218.out 0; have hfz36_1 := blk_frozen BK218.out 1; obtain ⟨Ao37, co37, eo37⟩ := Kd.R_slice HO215.out; subst eo37) | (go_at_call 24; (with_reducible refine (inits_Check.calls k1 _ _ t213 t219 t220 _ ?side1 ?side2 A33.out).mono ?_); (case side1 => refine (Kd.R_reads' (e := 34) (base := w.heap.size) (ok := fun k_ => True) (n := t213.length) (c := co37) ?_).2.2; exact (by (with_reducible repeat (first | apply Kd.R_alloc | apply Kd.R_drewN | apply Kd.R_drew)); exact (Kd.R_mono (Kd.R_far (p := ⟨gb218, 1, none⟩) (Kd.R_far (p := ⟨gb218, 0, none⟩) (Kd.R_types HO215.out BK218.out (by decide)) (fun _ hk => hk.2) (.int .i64 t216)) (fun _ hk => hk.2) (.int .i64 t217)) (fun _ h_ => h_.1)))); (case side2 => exact (Kd.R_reads' HO215.out).2.1); rintro e w38 ⟨rfl, hb⟩; have n0_ := Aside0.mk (Kd.R_below (by (with_reducible repeat (first | apply Kd.R_alloc | apply Kd.R_drewN | apply Kd.R_drew)); exact (Kd.R_mono (Kd.R_far (p := ⟨gb218, 1, none⟩) (Kd.R_far (p := ⟨gb218, 0, none⟩) (Kd.R_types HO215.out BK218.out (by decide)) (fun _ hk => hk.2) (.int .i64 t216)) (fun _ hk => hk.2) (.int .i64 t217)) (fun _ h_ => h_.1))) hb); have n1_ := Aside0.mk (blk_below (g := gb218) (o := .cells #[.int .i64 t216, .int .i64 t217] 27 (0, 0)) (by (with_reducible repeat (first | refine blk_drewN ?_ _ | refine blk_drew ?_ | refine blk_alloc ?_ _)); refine blk_put (cs := #[.int .i64 t216, .int .i64 0]) ?_ 1 _ rfl; (with_reducible repeat (first | refine blk_drewN ?_ _ | refine blk_drew ?_ | refine blk_alloc ?_ _)); refine blk_put (cs := #[.int .i64 0, .int .i64 0]) ?_ 0 _ rfl; (with_reducible repeat (first | refine blk_drewN ?_ _ | refine blk_drew ?_ | refine blk_alloc ?_ _)); exact BK218.out) hb); have n2_ := Aside0.mk (below_step (by repeat (first | (with_reducible first | exact HB.out | apply below_alloc | apply pw_below_drewN | apply below_drew1 | refine below_set ?_ GE218.out) | exact HB.out)) hb); clear HO215; clear BK218; clear HB; have HO215 := n0_; have BK218 := n1_; have HB := n2_; clear n0_ n1_ n2_; (try clear hb); (try clear hb2); (try clear hk); (try clear hi)))
          go_ret
          exact ⟨by first | rfl | (simp [errW_none, errW_some] <;> rfl) | (simp [*, errW_none, errW_some] <;> rfl), by repeat (first | (with_reducible first | exact HB.out | apply below_alloc | apply pw_below_drewN | apply below_drew1 | refine below_set ?_ GE218.out) | exact HB.out)⟩
         ·rw [if_neg c32] at H
          have c32b0 : (t216 == 0 && (t217 == 0)) = false := by simpa using c32
          (try (have c32b1 : decide (t216 = 0 && (t217 == 0)) = false := by simpa using c32))
          (try (have c32b2 : (t216 == 0 && (t217 == 0)) = false := by simpa using c32))
          (try (have c32b3 : ¬ (t216 = 0 && (t217 == 0)) := by simpa using c32))
          clear c32
          obtain rfl := Option.some.inj H
          go_wp2_with (first | ((with_reducible refine gate_callee (f := 15) rfl ?_); refine goesL_ (some 40) rfl rfl Tryd.func15 (by kernel_rfl) rfl #[.string (((⟨#[110, 111, 100, 101, 32, 102, 40, 120, 58, 32, 105, 110, 116, 41, 32, 114, 101, 116, 117, 114, 110, 115, 32, 40, 121, 58, 32, 105, 110, 116, 41, 32, 108, 101, 116, 32, 121, 32, 61, 32, 48, 32, 45, 62, 32]⟩ : ByteArray) ++ x5_1) ++ (⟨#[59, 32, 116, 101, 108, 32, 110, 111, 100, 101, 32, 103, 40, 97, 58, 32, 105, 110, 116, 41, 32, 114, 101, 116, 117, 114, 110, 115, 32, 40, 98, 58, 32, 105, 110, 116, 41, 32, 108, 101, 116, 32, 98, 32, 61, 32, 97, 59, 32, 116, 101, 108]⟩ : ByteArray))] rfl (by (try simp only [List.map_toArray, List.map_cons, List.map_nil]); first | done | rfl | (simp only [List.length_drop, List.length_take]; rfl)) ?_; (with_reducible refine (parse_Program.calls (((⟨#[110, 111, 100, 101, 32, 102, 40, 120, 58, 32, 105, 110, 116, 41, 32, 114, 101, 116, 117, 114, 110, 115, 32, 40, 121, 58, 32, 105, 110, 116, 41, 32, 108, 101, 116, 32, 121, 32, 61, 32, 48, 32, 45, 62, 32]⟩ : ByteArray) ++ x5_1) ++ (⟨#[59, 32, 116, 101, 108, 32, 110, 111, 100, 101, 32, 103, 40, 97, 58, 32, 105, 110, 116, 41, 32, 114, 101, 116, 117, 114, 110, 115, 32, 40, 98, 58, 32, 105, 110, 116, 41, 32, 108, 101, 116, 32, 98, 32, 61, 32, 97, 59, 32, 116, 101, 108]⟩ : ByteArray)) t213 t216 t217 _ A31.out ?side1).mono ?_); (case side1 => exact Tabs.below HT.out (by repeat (first | (with_reducible first | exact HB.out | apply below_alloc | apply pw_below_drewN | apply below_drew1) | exact HB.out))); rintro e w39 ⟨v214, rfl, ho0, hb⟩; refine ⟨_, rfl, ?_⟩; have n0_ := Aside0.mk (Kd.R_lower ho0 (below_size (by repeat (first | (with_reducible first | exact HB.out | apply below_alloc | apply pw_below_drewN | apply below_drew1) | exact HB.out)))); have n1_ := Aside0.mk (below_step (by repeat (first | (with_reducible first | exact HB.out | apply below_alloc | apply pw_below_drewN | apply below_drew1) | exact HB.out)) hb); clear HB; have HO215 := n0_; have HB := n1_; clear n0_ n1_; (try clear hb); (try clear hb2); (try clear hk); (try clear hi); (try clear ho0)) | ((with_reducible refine gate_dst (N := 8) rfl ?_); refine box_event ?hg (N := 8) ?hd (cs := #[.int .i64 0, .int .i64 0]) (t := 27) ?hr ?_; (case hd => rfl); (case hg => rfl); (case hr => first | (go_simp; done) | (go_simp; rfl)); intro gb218 hg w40 hbox hb; have n0_ := Aside0.mk (Kd.R_below (by (with_reducible repeat (first | apply Kd.R_alloc | apply Kd.R_drewN | apply Kd.R_drew)); exact HO215.out) hb); have n1_ := Aside0.mk (below_step (by repeat (first | (with_reducible first | exact HB.out | apply below_alloc | apply pw_below_drewN | apply below_drew1) | exact HB.out)) hb); have n2_ := Aside0.mk (hbox); have n3_ := Aside0.mk ((by rw [hg]; exact (below_size (by repeat (first | (with_reducible first | exact HB.out | apply below_alloc | apply pw_below_drewN | apply below_drew1) | exact HB.out))) : w.heap.size ≤ gb218)); have n4_ := Aside0.mk ((by rw [hg]; exact (below_size (by repeat (first | (with_reducible first | exact HB.out | apply below_alloc | apply pw_below_drewN | apply below_drew1) | exact HB.out))) : w.heap.size ≤ gb218)); clear HO215; clear HB; have HO215 := n0_; have HB := n1_; have BK218 := n2_; have GW218 := n3_; have GE218 := n4_; clear n0_ n1_ n2_ n3_ n4_; clear hb hbox hg; have hcz41_0 : w40.cell? ⟨gb218, 0, none⟩ = some (.int .i64 0) := (blk_cell BK218.out 0).trans rfl; have hcz41_1 : w40.cell? ⟨gb218, 1, none⟩ = some (.int .i64 0) := (blk_cell BK218.out 1).trans rfl; have hfz41_0 := blk_frozen BK218.out 0; have hfz41_1 := blk_frozen BK218.out 1))
          go_ret
          exact ⟨by first | rfl | (simp [errW_none, errW_some] <;> rfl) | (simp [*, errW_none, errW_some] <;> rfl), by repeat (first | (with_reducible first | exact HB.out | apply below_alloc | apply pw_below_drewN | apply below_drew1 | refine below_set ?_ GE218.out) | exact HB.out)⟩
        ·rw [if_neg c30] at H
         exact absurd H (by simp)
       ·rw [if_neg c29] at H
        exact absurd H (by simp)
 ·replace c4 := Bool.eq_false_iff.mpr c4
  subst c4
  have H1 : (some false) = some r := by rw [if_neg (show ¬ (false = true) by decide)] at H; exact H
  clear H
  have H := H1
  clear H1
  obtain rfl := Option.some.inj H
  go_enter Tryd.func6, Tryd.ntmps6
  go_wp2_with (first | ((with_reducible refine gate_callee (f := 23) rfl ?_); refine goesL_ (some 9) rfl rfl Tryd.func23 (by kernel_rfl) rfl #[] rfl (by (try simp only [List.map_toArray, List.map_cons, List.map_nil]); first | done | rfl | (simp only [List.length_drop, List.length_take]; rfl)) ?_; (with_reducible refine (girandolelaw07_awake.calls k  false _ A3.out ?side1).mono ?_); (case side1 => exact Tabs.below HT.out (by repeat (first | (with_reducible first | exact HB.out | apply below_alloc | apply pw_below_drewN | apply below_drew1) | exact HB.out))); rintro e w42 ⟨rfl, hb⟩; refine ⟨_, rfl, ?_⟩; have n0_ := Aside0.mk (below_step (by repeat (first | (with_reducible first | exact HB.out | apply below_alloc | apply pw_below_drewN | apply below_drew1) | exact HB.out)) hb); clear HB; have HB := n0_; clear n0_; (try clear hb); (try clear hb2); (try clear hk); (try clear hi)))
  go_ret
  exact ⟨by first | rfl | (simp [errW_none, errW_some] <;> rfl) | (simp [*, errW_none, errW_some] <;> rfl), by repeat (first | (with_reducible first | exact HB.out | apply below_alloc | apply pw_below_drewN | apply below_drew1) | exact HB.out)⟩

/-- THE ONE PURE STATEMENT of girandolelaw07_InitsCalls: yours. -/
def girandolelaw07_InitsCalls.Pure : Prop := ∀ (a0 : Int) (a1 : Int), (Lit.int .i64 a0).wf = true → (Lit.int .i64 a1).wf = true → ∃ k, girandolelaw07_InitsCalls.f k a0 a1 = some true
theorem girandolelaw07_InitsCalls.walk (P : girandolelaw07_InitsCalls.Pure) (a0 : Int) (a1 : Int) (w : World) (w0 : (Lit.int .i64 a0).wf = true) (w1 : (Lit.int .i64 a1).wf = true) (hT : Tabs w) :
  Calls Tryd.prog 6 #[.int .i64 a0, .int .i64 a1] w fun e w' => e = .returned (.bool true) ∧ Below w.heap.size w w' := by
 obtain ⟨k, h⟩ := P a0 a1 w0 w1
 refine (girandolelaw07_InitsCalls.calls k a0 a1 true w h hT).mono ?_
 rintro e w' ⟨rfl, hd⟩
 exact ⟨rfl, hd⟩

end Go.Proofs.YtjafllnbgfcchaaDoor.XIA
