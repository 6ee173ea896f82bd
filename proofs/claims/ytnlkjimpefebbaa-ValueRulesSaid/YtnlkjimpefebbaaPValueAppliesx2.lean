-- PRINTED BY print.sh 35421559b90ae4d0a3588c463048766b98c2df88dd9212a6774a882060cdf62d: not written by this session
import Derived.Test.YtnlkjimpefebbaaPValueAppliesx0
import Derived.Test.YtnlkjimpefebbaaPValueAppliesx1
namespace Go.Proofs.Ytnlkjimpefebbaa.PValueApplies
open Go.RowKit Go.Proofs.YtnlkjimpefebbaaW.PrintWords Go.Proofs.YtnlkjimpefebbaaW.PrintLast Go.Proofs.YtnlkjimpefebbaaW.PrintMore
attribute [local go_sem] max2_int min2_int max_two min_two max_three min_three max_four min_four   -- for this text's walks alone
set_option linter.unusedVariables false
set_option linter.unusedSimpArgs false

/-! ### girandoleref10_times: function 27 -/
def girandoleref10_times.l0 : Nat → Int → Int → Int → Option (Int)
  | 0, _, _, _ => none
  | k + 1, x5, x6, x7 => if x7 > 0 then (if (Int.tmod x7 2) = 1 then (girandoleref10_times.l0 k (IntKind.u64.wrap (x5 + x6)) (IntKind.u64.wrap (x6 + x6)) (IntKind.u64.wrap (Int.tdiv x7 2))) else (girandoleref10_times.l0 k x5 (IntKind.u64.wrap (x6 + x6)) (IntKind.u64.wrap (Int.tdiv x7 2)))) else (some (wrap64 (x5)))
def girandoleref10_times.f (k : Nat) (a0 : Int) (a1 : Int) : Option (Int) := girandoleref10_times.l0 k 0 (IntKind.u64.wrap (a0)) (IntKind.u64.wrap (a1))
theorem girandoleref10_times.mono_l : ∀ k, (∀ y0 y1 y2, LeO (girandoleref10_times.l0 k y0 y1 y2) (girandoleref10_times.l0 (k + 1) y0 y1 y2))
  | 0 => fun _ _ _ r h => by simp [girandoleref10_times.l0] at h
  | k + 1 => by
    have ih0 := girandoleref10_times.mono_l k
    · intro y0 y1 y2
      unfold girandoleref10_times.l0
      repeat' first
      | (with_reducible exact ih0 _ _ _)
      | (with_reducible exact LeO.refl _)
      | (with_reducible exact LeO.none _)
      | (with_reducible refine LeO.ite ?_ ?_)
      | (with_reducible refine LeO.bind ?_ (fun _ => ?_))
      | exact ih0 _ _ _
      | exact LeO.none _
      | refine LeO.ite ?_ ?_
      | refine LeO.bind ?_ (fun _ => ?_)
theorem girandoleref10_times.mono : ∀ a0 a1 k, LeO (girandoleref10_times.f k a0 a1) (girandoleref10_times.f (k + 1) a0 a1) := by
  intro a0 a1 k
  have ih0 := girandoleref10_times.mono_l k
  unfold girandoleref10_times.f
  repeat' first
      | (with_reducible exact ih0 _ _ _)
      | (with_reducible exact LeO.refl _)
      | (with_reducible exact LeO.none _)
      | (with_reducible refine LeO.ite ?_ ?_)
      | (with_reducible refine LeO.bind ?_ (fun _ => ?_))
      | exact ih0 _ _ _
      | exact LeO.none _
      | refine LeO.ite ?_ ?_
      | refine LeO.bind ?_ (fun _ => ?_)
set_option maxHeartbeats 8000000 in
set_option maxRecDepth 100000 in
theorem girandoleref10_times.calls (k : Nat) (a0 : Int) (a1 : Int) (r : Int) (w : World) (h : girandoleref10_times.f k a0 a1 = some r) :
    Calls Try.prog 27 #[.int .i64 a0, .int .i64 a1] w fun e w' => e = .returned (.int .i64 r) ∧ Drawn0 w w' := by
  have H : (girandoleref10_times.l0 k 0 (IntKind.u64.wrap (a0)) (IntKind.u64.wrap (a1))) = some r := h
  clear h
  have H' := Aside0.mk H
  clear H
  go_enter Try.func27, Try.ntmps27
  go_wp2
  go_loopg [5, 6, 7] k (fun kq v5 v6 v7 w' => ∃ (x5_1 : Int) (x6_1 : Int) (x7_1 : Int), v5 = .int .u64 x5_1 ∧ v6 = .int .u64 x6_1 ∧ v7 = .int .u64 x7_1 ∧ Aside0 (girandoleref10_times.l0 kq x5_1 x6_1 x7_1 = some r) ∧ Aside0 (kq ≤ k) ∧ Drawn0 w w')
  case atStart => exact ⟨(0), (IntKind.u64.wrap (a0)), (IntKind.u64.wrap (a1)), (by first | rfl | (simp; done) | (simp [*]; done)), (by first | rfl | (simp; done) | (simp [*]; done)), (by first | rfl | (simp; done) | (simp [*]; done)), H', ⟨Nat.le_refl _⟩, by repeat (first | exact Drawn0.refl _ | apply Drawn0.step)⟩
  case round =>
    clear H'
    try clear c2
    try clear p2
    obtain ⟨x5_1, x6_1, x7_1, rfl, rfl, rfl, HA, HK1, ⟨m1, rfl⟩⟩ := hrel
    cases gk with
    | zero => exact absurd HA.out (by simp [girandoleref10_times.l0])
    | succ k1 =>
      have H := HA.out
      clear HA
      simp only [girandoleref10_times.l0] at H
      by_cases c3 : x7_1 > 0
      · rw [if_pos c3] at H
        have c3b0 : decide (0 < x7_1) = true := decide_eq_true c3
        clear c3
        by_cases c4 : (Int.tmod x7_1 2) = 1
        · rw [if_pos c4] at H
          have c4b0 : ((Int.tmod x7_1 2) == 1) = true := beq_iff_eq.mpr c4
          have c4b1 : ((Int.tmod x7_1 2) != 1) = false := bne_eq_false_iff_eq.mpr c4
          clear c4
          have H' := Aside0.mk H
          clear H
          go_wp2
          go_roundg k1
          case measure => have := HK1.out; omega
          case rel => exact ⟨(IntKind.u64.wrap (x5_1 + x6_1)), (IntKind.u64.wrap (x6_1 + x6_1)), (IntKind.u64.wrap (Int.tdiv x7_1 2)), (by first | rfl | (simp; done) | (simp [*]; done)), (by first | rfl | (simp; done) | (simp [*]; done)), (by first | rfl | (simp; done) | (simp [*]; done)), H', ⟨by have := HK1.out; omega⟩, by repeat (first | exact Drawn0.refl _ | apply Drawn0.step)⟩
        · rw [if_neg c4] at H
          have c4b0 : ((Int.tmod x7_1 2) == 1) = false := beq_eq_false_iff_ne.mpr c4
          have c4b1 : ((Int.tmod x7_1 2) != 1) = true := bne_iff_ne.mpr c4
          have H' := Aside0.mk H
          clear H
          go_wp2
          go_roundg k1
          case measure => have := HK1.out; omega
          case rel => exact ⟨(x5_1), (IntKind.u64.wrap (x6_1 + x6_1)), (IntKind.u64.wrap (Int.tdiv x7_1 2)), (by first | rfl | (simp; done) | (simp [*]; done)), (by first | rfl | (simp; done) | (simp [*]; done)), (by first | rfl | (simp; done) | (simp [*]; done)), H', ⟨by have := HK1.out; omega⟩, by repeat (first | exact Drawn0.refl _ | apply Drawn0.step)⟩
      · rw [if_neg c3] at H
        have c3b0 : decide (0 < x7_1) = false := decide_eq_false c3
        clear c3
        obtain rfl := Option.some.inj H
        go_wp2
        go_ret
        exact ⟨by first | rfl | (simp; done) | (simp [*]; done), by repeat (first | exact Drawn0.refl _ | apply Drawn0.step)⟩

/-! ### girandoleref10_size: function 31 -/
def girandoleref10_size.f (a0 : Int) : Option (Int) := if a0 < 0 then (some (IntKind.u64.wrap ((IntKind.u64.wrap (wrap64 (-(wrap64 (a0 + 1))))) + 1))) else (some (IntKind.u64.wrap (a0)))
set_option maxHeartbeats 8000000 in
set_option maxRecDepth 100000 in
theorem girandoleref10_size.calls (a0 : Int) (r : Int) (w : World) (h : girandoleref10_size.f a0 = some r) :
    Calls Try.prog 31 #[.int .i64 a0] w fun e w' => e = .returned (.int .u64 r) ∧ Drawn0 w w' := by
  have H : (if a0 < 0 then (some (IntKind.u64.wrap ((IntKind.u64.wrap (wrap64 (-(wrap64 (a0 + 1))))) + 1))) else (some (IntKind.u64.wrap (a0)))) = some r := h
  clear h
  by_cases c2 : a0 < 0
  · rw [if_pos c2] at H
    have c2b0 : decide (a0 < 0) = true := decide_eq_true c2
    clear c2
    obtain rfl := Option.some.inj H
    go_enter Try.func31, Try.ntmps31
    go_wp2
    go_ret
    exact ⟨by first | rfl | (simp; done) | (simp [*]; done), by repeat (first | exact Drawn0.refl _ | apply Drawn0.step)⟩
  · rw [if_neg c2] at H
    have c2b0 : decide (a0 < 0) = false := decide_eq_false c2
    clear c2
    obtain rfl := Option.some.inj H
    go_enter Try.func31, Try.ntmps31
    go_wp2
    go_ret
    exact ⟨by first | rfl | (simp; done) | (simp [*]; done), by repeat (first | exact Drawn0.refl _ | apply Drawn0.step)⟩

/-! ### girandoleref10_over: function 28 -/
def girandoleref10_over.f (a0 : Int) (a1 : Int) : Option (Int) := (girandoleref10_size.f a0).bind fun t144 => ((girandoleref10_size.f a1).bind fun t145 => (if t145 = 0 then (none) else (if ((decide (a0 < 0)) != (decide (a1 < 0))) = true then (some (wrap64 (IntKind.u64.wrap (-(IntKind.u64.wrap (Int.tdiv t144 t145)))))) else (some (wrap64 (IntKind.u64.wrap (Int.tdiv t144 t145)))))))
set_option maxHeartbeats 8000000 in
set_option maxRecDepth 100000 in
theorem girandoleref10_over.calls (a0 : Int) (a1 : Int) (r : Int) (w : World) (h : girandoleref10_over.f a0 a1 = some r) :
    Calls Try.prog 28 #[.int .i64 a0, .int .i64 a1] w fun e w' => e = .returned (.int .i64 r) ∧ Drawn0 w w' := by
  have H : ((girandoleref10_size.f a0).bind fun t144 => ((girandoleref10_size.f a1).bind fun t145 => (if t145 = 0 then (none) else (if ((decide (a0 < 0)) != (decide (a1 < 0))) = true then (some (wrap64 (IntKind.u64.wrap (-(IntKind.u64.wrap (Int.tdiv t144 t145)))))) else (some (wrap64 (IntKind.u64.wrap (Int.tdiv t144 t145)))))))) = some r := h
  clear h
  replace H := Option.bind_eq_some_iff.mp H
  obtain ⟨t144, A30, H⟩ := H
  replace H : ((girandoleref10_size.f a1).bind fun t145 => (if t145 = 0 then (none) else (if ((decide (a0 < 0)) != (decide (a1 < 0))) = true then (some (wrap64 (IntKind.u64.wrap (-(IntKind.u64.wrap (Int.tdiv t144 t145)))))) else (some (wrap64 (IntKind.u64.wrap (Int.tdiv t144 t145))))))) = some r := H
  have A3 := Aside0.mk A30
  clear A30
  replace H := Option.bind_eq_some_iff.mp H
  obtain ⟨t145, A40, H⟩ := H
  replace H : (if t145 = 0 then (none) else (if ((decide (a0 < 0)) != (decide (a1 < 0))) = true then (some (wrap64 (IntKind.u64.wrap (-(IntKind.u64.wrap (Int.tdiv t144 t145)))))) else (some (wrap64 (IntKind.u64.wrap (Int.tdiv t144 t145)))))) = some r := H
  have A4 := Aside0.mk A40
  clear A40
  by_cases c5 : t145 = 0
  · rw [if_pos c5] at H
    exact absurd H (by simp)
  · rw [if_neg c5] at H
    have c5b0 : (t145 == 0) = false := beq_eq_false_iff_ne.mpr c5
    have c5b1 : (t145 != 0) = true := bne_iff_ne.mpr c5
    by_cases c6 : ((decide (a0 < 0)) != (decide (a1 < 0))) = true
    · rw [if_pos c6] at H
      have c6b0 : ((decide (a0 < 0)) != (decide (a1 < 0))) = true := c6
      (try (have c6b1 : decide ((decide (a0 < 0)) = (decide (a1 < 0))) = false := by simpa using c6))
      (try (have c6b2 : ((decide (a0 < 0)) == (decide (a1 < 0))) = false := by simpa using c6))
      (try (have c6b3 : ¬ ((decide (a0 < 0)) = (decide (a1 < 0))) := by simpa using c6))
      clear c6
      obtain rfl := Option.some.inj H
      go_enter Try.func28, Try.ntmps28
      go_wp2_with (first | ((with_reducible refine gate_callee (f := 31) rfl ?_); refine goesL_ (some 7) rfl rfl Try.func31 (by kernel_rfl) rfl #[.int .i64 a0] rfl (by (try simp only [List.map_toArray, List.map_cons, List.map_nil]); first | done | rfl | (simp only [List.length_drop, List.length_take]; rfl)) ?_; (with_reducible refine (girandoleref10_size.calls a0 t144 _ A3.out).mono ?_); rintro e w' ⟨rfl, ⟨nd, rfl⟩⟩; refine ⟨_, rfl, ?_⟩) | ((with_reducible refine gate_callee (f := 31) rfl ?_); refine goesL_ (some 9) rfl rfl Try.func31 (by kernel_rfl) rfl #[.int .i64 a1] rfl (by (try simp only [List.map_toArray, List.map_cons, List.map_nil]); first | done | rfl | (simp only [List.length_drop, List.length_take]; rfl)) ?_; (with_reducible refine (girandoleref10_size.calls a1 t145 _ A4.out).mono ?_); rintro e w' ⟨rfl, ⟨nd, rfl⟩⟩; refine ⟨_, rfl, ?_⟩))
      go_ret
      exact ⟨by first | rfl | (simp; done) | (simp [*]; done), by repeat (first | exact Drawn0.refl _ | apply Drawn0.step)⟩
    · rw [if_neg c6] at H
      have c6b0 : ((decide (a0 < 0)) != (decide (a1 < 0))) = false := by simpa using c6
      (try (have c6b1 : decide ((decide (a0 < 0)) = (decide (a1 < 0))) = true := by simpa using c6))
      (try (have c6b2 : ((decide (a0 < 0)) == (decide (a1 < 0))) = true := by simpa using c6))
      clear c6
      obtain rfl := Option.some.inj H
      go_enter Try.func28, Try.ntmps28
      go_wp2_with (first | ((with_reducible refine gate_callee (f := 31) rfl ?_); refine goesL_ (some 7) rfl rfl Try.func31 (by kernel_rfl) rfl #[.int .i64 a0] rfl (by (try simp only [List.map_toArray, List.map_cons, List.map_nil]); first | done | rfl | (simp only [List.length_drop, List.length_take]; rfl)) ?_; (with_reducible refine (girandoleref10_size.calls a0 t144 _ A3.out).mono ?_); rintro e w' ⟨rfl, ⟨nd, rfl⟩⟩; refine ⟨_, rfl, ?_⟩) | ((with_reducible refine gate_callee (f := 31) rfl ?_); refine goesL_ (some 9) rfl rfl Try.func31 (by kernel_rfl) rfl #[.int .i64 a1] rfl (by (try simp only [List.map_toArray, List.map_cons, List.map_nil]); first | done | rfl | (simp only [List.length_drop, List.length_take]; rfl)) ?_; (with_reducible refine (girandoleref10_size.calls a1 t145 _ A4.out).mono ?_); rintro e w' ⟨rfl, ⟨nd, rfl⟩⟩; refine ⟨_, rfl, ?_⟩))
      go_ret
      exact ⟨by first | rfl | (simp; done) | (simp [*]; done), by repeat (first | exact Drawn0.refl _ | apply Drawn0.step)⟩

/-! ### girandoleref10_Apply: function 21 -/
def girandoleref10_Apply.f (k : Nat) (a0 : ByteArray) (a1 : Int) (a2 : Int) (a3 : Int) : Option (Int) := if a0.toList = ([99, 111, 112, 121] : List UInt8) then (some a1) else (if a0.toList = ([110, 101, 103] : List UInt8) then (some (wrap64 (-a1))) else (if a0.toList = ([110, 111, 116] : List UInt8) then ((girandoleref10_truth.f (a1 == 0)).bind fun t146 => (some t146)) else (if a0.toList = ([105, 102] : List UInt8) then (if a1 = 0 then (some a3) else (some a2)) else (if a0.toList = ([43] : List UInt8) then (some (wrap64 (IntKind.u64.wrap ((IntKind.u64.wrap (a1)) + (IntKind.u64.wrap (a2)))))) else (if a0.toList = ([45] : List UInt8) then (some (wrap64 (IntKind.u64.wrap ((IntKind.u64.wrap (a1)) - (IntKind.u64.wrap (a2)))))) else (if a0.toList = ([42] : List UInt8) then ((girandoleref10_times.f k a1 a2).bind fun t147 => (some t147)) else (if a0.toList = ([47] : List UInt8) then ((girandoleref10_over.f a1 a2).bind fun t148 => (some t148)) else (if a0.toList = ([109, 111, 100] : List UInt8) then ((girandoleref10_over.f a1 a2).bind fun t149 => ((girandoleref10_times.f k a2 t149).bind fun t150 => (some (wrap64 (IntKind.u64.wrap ((IntKind.u64.wrap (a1)) - (IntKind.u64.wrap (t150)))))))) else (if a0.toList = ([97, 110, 100] : List UInt8) then (if a1 = 1 then ((girandoleref10_truth.f (a2 == 1)).bind fun t151 => (some t151)) else ((girandoleref10_truth.f false).bind fun t152 => (some t152))) else (if a0.toList = ([111, 114] : List UInt8) then (if a1 = 1 then ((girandoleref10_truth.f true).bind fun t153 => (some t153)) else ((girandoleref10_truth.f (a2 == 1)).bind fun t154 => (some t154))) else (if a0.toList = ([120, 111, 114] : List UInt8) then ((girandoleref10_truth.f (a1 != a2)).bind fun t155 => (some t155)) else (if a0.toList = ([60] : List UInt8) then ((girandoleref10_truth.f (decide (a1 < a2))).bind fun t156 => (some t156)) else (if a0.toList = ([60, 61] : List UInt8) then ((girandoleref10_truth.f (!(decide (a2 < a1)))).bind fun t157 => (some t157)) else (if a0.toList = ([62] : List UInt8) then ((girandoleref10_truth.f (decide (a2 < a1))).bind fun t158 => (some t158)) else (if a0.toList = ([62, 61] : List UInt8) then ((girandoleref10_truth.f (!(decide (a1 < a2)))).bind fun t159 => (some t159)) else (if a0.toList = ([61] : List UInt8) then ((girandoleref10_truth.f (a1 == a2)).bind fun t160 => (some t160)) else ((girandoleref10_truth.f (a1 != a2)).bind fun t161 => (some t161))))))))))))))))))
theorem girandoleref10_Apply.mono : ∀ a0 a1 a2 a3 k, LeO (girandoleref10_Apply.f k a0 a1 a2 a3) (girandoleref10_Apply.f (k + 1) a0 a1 a2 a3) := by
  intro a0 a1 a2 a3 k
  unfold girandoleref10_Apply.f
  repeat' first
      | (with_reducible exact girandoleref10_times.mono _ _ _)
      | (with_reducible exact LeO.refl _)
      | (with_reducible exact LeO.none _)
      | (with_reducible refine LeO.ite ?_ ?_)
      | (with_reducible refine LeO.bind ?_ (fun _ => ?_))
      | exact girandoleref10_times.mono _ _ _
      | exact LeO.none _
      | refine LeO.ite ?_ ?_
      | refine LeO.bind ?_ (fun _ => ?_)
set_option maxHeartbeats 8000000 in
set_option maxRecDepth 100000 in
theorem girandoleref10_Apply.calls (k : Nat) (a0 : ByteArray) (a1 : Int) (a2 : Int) (a3 : Int) (r : Int) (w : World) (h : girandoleref10_Apply.f k a0 a1 a2 a3 = some r) :
    Calls Try.prog 21 #[.string a0, .int .i64 a1, .int .i64 a2, .int .i64 a3] w fun e w' => e = .returned (.int .i64 r) ∧ Drawn0 w w' := by
  have H : (if a0.toList = ([99, 111, 112, 121] : List UInt8) then (some a1) else (if a0.toList = ([110, 101, 103] : List UInt8) then (some (wrap64 (-a1))) else (if a0.toList = ([110, 111, 116] : List UInt8) then ((girandoleref10_truth.f (a1 == 0)).bind fun t146 => (some t146)) else (if a0.toList = ([105, 102] : List UInt8) then (if a1 = 0 then (some a3) else (some a2)) else (if a0.toList = ([43] : List UInt8) then (some (wrap64 (IntKind.u64.wrap ((IntKind.u64.wrap (a1)) + (IntKind.u64.wrap (a2)))))) else (if a0.toList = ([45] : List UInt8) then (some (wrap64 (IntKind.u64.wrap ((IntKind.u64.wrap (a1)) - (IntKind.u64.wrap (a2)))))) else (if a0.toList = ([42] : List UInt8) then ((girandoleref10_times.f k a1 a2).bind fun t147 => (some t147)) else (if a0.toList = ([47] : List UInt8) then ((girandoleref10_over.f a1 a2).bind fun t148 => (some t148)) else (if a0.toList = ([109, 111, 100] : List UInt8) then ((girandoleref10_over.f a1 a2).bind fun t149 => ((girandoleref10_times.f k a2 t149).bind fun t150 => (some (wrap64 (IntKind.u64.wrap ((IntKind.u64.wrap (a1)) - (IntKind.u64.wrap (t150)))))))) else (if a0.toList = ([97, 110, 100] : List UInt8) then (if a1 = 1 then ((girandoleref10_truth.f (a2 == 1)).bind fun t151 => (some t151)) else ((girandoleref10_truth.f false).bind fun t152 => (some t152))) else (if a0.toList = ([111, 114] : List UInt8) then (if a1 = 1 then ((girandoleref10_truth.f true).bind fun t153 => (some t153)) else ((girandoleref10_truth.f (a2 == 1)).bind fun t154 => (some t154))) else (if a0.toList = ([120, 111, 114] : List UInt8) then ((girandoleref10_truth.f (a1 != a2)).bind fun t155 => (some t155)) else (if a0.toList = ([60] : List UInt8) then ((girandoleref10_truth.f (decide (a1 < a2))).bind fun t156 => (some t156)) else (if a0.toList = ([60, 61] : List UInt8) then ((girandoleref10_truth.f (!(decide (a2 < a1)))).bind fun t157 => (some t157)) else (if a0.toList = ([62] : List UInt8) then ((girandoleref10_truth.f (decide (a2 < a1))).bind fun t158 => (some t158)) else (if a0.toList = ([62, 61] : List UInt8) then ((girandoleref10_truth.f (!(decide (a1 < a2)))).bind fun t159 => (some t159)) else (if a0.toList = ([61] : List UInt8) then ((girandoleref10_truth.f (a1 == a2)).bind fun t160 => (some t160)) else ((girandoleref10_truth.f (a1 != a2)).bind fun t161 => (some t161))))))))))))))))))) = some r := h
  clear h
  by_cases c5 : a0.toList = ([99, 111, 112, 121] : List UInt8)
  · rw [if_pos c5] at H
    have c5b0 : (a0.toList == ([99, 111, 112, 121] : List UInt8)) = true := beq_iff_eq.mpr c5
    have c5b1 : (a0.toList != ([99, 111, 112, 121] : List UInt8)) = false := bne_eq_false_iff_eq.mpr c5
    clear c5
    obtain rfl := Option.some.inj H
    go_enter Try.func21, Try.ntmps21
    go_wp2
    go_ret
    exact ⟨by first | rfl | (simp; done) | (simp [*]; done), by repeat (first | exact Drawn0.refl _ | apply Drawn0.step)⟩
  · rw [if_neg c5] at H
    have c5b0 : (a0.toList == ([99, 111, 112, 121] : List UInt8)) = false := beq_eq_false_iff_ne.mpr c5
    have c5b1 : (a0.toList != ([99, 111, 112, 121] : List UInt8)) = true := bne_iff_ne.mpr c5
    by_cases c6 : a0.toList = ([110, 101, 103] : List UInt8)
    · rw [if_pos c6] at H
      have c6b0 : (a0.toList == ([110, 101, 103] : List UInt8)) = true := beq_iff_eq.mpr c6
      have c6b1 : (a0.toList != ([110, 101, 103] : List UInt8)) = false := bne_eq_false_iff_eq.mpr c6
      clear c6
      obtain rfl := Option.some.inj H
      go_enter Try.func21, Try.ntmps21
      go_wp2
      go_ret
      exact ⟨by first | rfl | (simp; done) | (simp [*]; done), by repeat (first | exact Drawn0.refl _ | apply Drawn0.step)⟩
    · rw [if_neg c6] at H
      have c6b0 : (a0.toList == ([110, 101, 103] : List UInt8)) = false := beq_eq_false_iff_ne.mpr c6
      have c6b1 : (a0.toList != ([110, 101, 103] : List UInt8)) = true := bne_iff_ne.mpr c6
      by_cases c7 : a0.toList = ([110, 111, 116] : List UInt8)
      · rw [if_pos c7] at H
        have c7b0 : (a0.toList == ([110, 111, 116] : List UInt8)) = true := beq_iff_eq.mpr c7
        have c7b1 : (a0.toList != ([110, 111, 116] : List UInt8)) = false := bne_eq_false_iff_eq.mpr c7
        clear c7
        replace H := Option.bind_eq_some_iff.mp H
        obtain ⟨t146, A80, H⟩ := H
        replace H : (some t146) = some r := H
        have A8 := Aside0.mk A80
        clear A80
        obtain rfl := Option.some.inj H
        go_enter Try.func21, Try.ntmps21
        go_wp2_with (first | ((with_reducible refine gate_callee (f := 26) rfl ?_); refine goesL_ (some 21) rfl rfl Try.func26 (by kernel_rfl) rfl #[.bool (a1 == 0)] rfl (by (try simp only [List.map_toArray, List.map_cons, List.map_nil]); first | done | rfl | (simp only [List.length_drop, List.length_take]; rfl)) ?_; (with_reducible refine (girandoleref10_truth.calls (a1 == 0) t146 _ A8.out).mono ?_); rintro e w' ⟨rfl, ⟨nd, rfl⟩⟩; refine ⟨_, rfl, ?_⟩))
        go_ret
        exact ⟨by first | rfl | (simp; done) | (simp [*]; done), by repeat (first | exact Drawn0.refl _ | apply Drawn0.step)⟩
      · rw [if_neg c7] at H
        have c7b0 : (a0.toList == ([110, 111, 116] : List UInt8)) = false := beq_eq_false_iff_ne.mpr c7
        have c7b1 : (a0.toList != ([110, 111, 116] : List UInt8)) = true := bne_iff_ne.mpr c7
        by_cases c9 : a0.toList = ([105, 102] : List UInt8)
        · rw [if_pos c9] at H
          have c9b0 : (a0.toList == ([105, 102] : List UInt8)) = true := beq_iff_eq.mpr c9
          have c9b1 : (a0.toList != ([105, 102] : List UInt8)) = false := bne_eq_false_iff_eq.mpr c9
          clear c9
          by_cases c10 : a1 = 0
          · rw [if_pos c10] at H
            have c10b0 : (a1 == 0) = true := beq_iff_eq.mpr c10
            have c10b1 : (a1 != 0) = false := bne_eq_false_iff_eq.mpr c10
            clear c10
            obtain rfl := Option.some.inj H
            go_enter Try.func21, Try.ntmps21
            go_wp2
            go_ret
            exact ⟨by first | rfl | (simp; done) | (simp [*]; done), by repeat (first | exact Drawn0.refl _ | apply Drawn0.step)⟩
          · rw [if_neg c10] at H
            have c10b0 : (a1 == 0) = false := beq_eq_false_iff_ne.mpr c10
            have c10b1 : (a1 != 0) = true := bne_iff_ne.mpr c10
            obtain rfl := Option.some.inj H
            go_enter Try.func21, Try.ntmps21
            go_wp2
            go_ret
            exact ⟨by first | rfl | (simp; done) | (simp [*]; done), by repeat (first | exact Drawn0.refl _ | apply Drawn0.step)⟩
        · rw [if_neg c9] at H
          have c9b0 : (a0.toList == ([105, 102] : List UInt8)) = false := beq_eq_false_iff_ne.mpr c9
          have c9b1 : (a0.toList != ([105, 102] : List UInt8)) = true := bne_iff_ne.mpr c9
          by_cases c11 : a0.toList = ([43] : List UInt8)
          · rw [if_pos c11] at H
            have c11b0 : (a0.toList == ([43] : List UInt8)) = true := beq_iff_eq.mpr c11
            have c11b1 : (a0.toList != ([43] : List UInt8)) = false := bne_eq_false_iff_eq.mpr c11
            clear c11
            obtain rfl := Option.some.inj H
            go_enter Try.func21, Try.ntmps21
            go_wp2
            go_ret
            exact ⟨by first | rfl | (simp; done) | (simp [*]; done), by repeat (first | exact Drawn0.refl _ | apply Drawn0.step)⟩
          · rw [if_neg c11] at H
            have c11b0 : (a0.toList == ([43] : List UInt8)) = false := beq_eq_false_iff_ne.mpr c11
            have c11b1 : (a0.toList != ([43] : List UInt8)) = true := bne_iff_ne.mpr c11
            by_cases c12 : a0.toList = ([45] : List UInt8)
            · rw [if_pos c12] at H
              have c12b0 : (a0.toList == ([45] : List UInt8)) = true := beq_iff_eq.mpr c12
              have c12b1 : (a0.toList != ([45] : List UInt8)) = false := bne_eq_false_iff_eq.mpr c12
              clear c12
              obtain rfl := Option.some.inj H
              go_enter Try.func21, Try.ntmps21
              go_wp2
              go_ret
              exact ⟨by first | rfl | (simp; done) | (simp [*]; done), by repeat (first | exact Drawn0.refl _ | apply Drawn0.step)⟩
            · rw [if_neg c12] at H
              have c12b0 : (a0.toList == ([45] : List UInt8)) = false := beq_eq_false_iff_ne.mpr c12
              have c12b1 : (a0.toList != ([45] : List UInt8)) = true := bne_iff_ne.mpr c12
              by_cases c13 : a0.toList = ([42] : List UInt8)
              · rw [if_pos c13] at H
                have c13b0 : (a0.toList == ([42] : List UInt8)) = true := beq_iff_eq.mpr c13
                have c13b1 : (a0.toList != ([42] : List UInt8)) = false := bne_eq_false_iff_eq.mpr c13
                clear c13
                replace H := Option.bind_eq_some_iff.mp H
                obtain ⟨t147, A140, H⟩ := H
                replace H : (some t147) = some r := H
                have A14 := Aside0.mk A140
                clear A140
                obtain rfl := Option.some.inj H
                go_enter Try.func21, Try.ntmps21
                go_wp2_with (first | ((with_reducible refine gate_callee (f := 27) rfl ?_); refine goesL_ (some 48) rfl rfl Try.func27 (by kernel_rfl) rfl #[.int .i64 a1, .int .i64 a2] rfl (by (try simp only [List.map_toArray, List.map_cons, List.map_nil]); first | done | rfl | (simp only [List.length_drop, List.length_take]; rfl)) ?_; (with_reducible refine (girandoleref10_times.calls k a1 a2 t147 _ A14.out).mono ?_); rintro e w' ⟨rfl, ⟨nd, rfl⟩⟩; refine ⟨_, rfl, ?_⟩))
                go_ret
                exact ⟨by first | rfl | (simp; done) | (simp [*]; done), by repeat (first | exact Drawn0.refl _ | apply Drawn0.step)⟩
              · rw [if_neg c13] at H
                have c13b0 : (a0.toList == ([42] : List UInt8)) = false := beq_eq_false_iff_ne.mpr c13
                have c13b1 : (a0.toList != ([42] : List UInt8)) = true := bne_iff_ne.mpr c13
                by_cases c15 : a0.toList = ([47] : List UInt8)
                · rw [if_pos c15] at H
                  have c15b0 : (a0.toList == ([47] : List UInt8)) = true := beq_iff_eq.mpr c15
                  have c15b1 : (a0.toList != ([47] : List UInt8)) = false := bne_eq_false_iff_eq.mpr c15
                  clear c15
                  replace H := Option.bind_eq_some_iff.mp H
                  obtain ⟨t148, A160, H⟩ := H
                  replace H : (some t148) = some r := H
                  have A16 := Aside0.mk A160
                  clear A160
                  obtain rfl := Option.some.inj H
                  go_enter Try.func21, Try.ntmps21
                  go_wp2_with (first | ((with_reducible refine gate_callee (f := 28) rfl ?_); refine goesL_ (some 53) rfl rfl Try.func28 (by kernel_rfl) rfl #[.int .i64 a1, .int .i64 a2] rfl (by (try simp only [List.map_toArray, List.map_cons, List.map_nil]); first | done | rfl | (simp only [List.length_drop, List.length_take]; rfl)) ?_; (with_reducible refine (girandoleref10_over.calls a1 a2 t148 _ A16.out).mono ?_); rintro e w' ⟨rfl, ⟨nd, rfl⟩⟩; refine ⟨_, rfl, ?_⟩))
                  go_ret
                  exact ⟨by first | rfl | (simp; done) | (simp [*]; done), by repeat (first | exact Drawn0.refl _ | apply Drawn0.step)⟩
                · rw [if_neg c15] at H
                  have c15b0 : (a0.toList == ([47] : List UInt8)) = false := beq_eq_false_iff_ne.mpr c15
                  have c15b1 : (a0.toList != ([47] : List UInt8)) = true := bne_iff_ne.mpr c15
                  by_cases c17 : a0.toList = ([109, 111, 100] : List UInt8)
                  · rw [if_pos c17] at H
                    have c17b0 : (a0.toList == ([109, 111, 100] : List UInt8)) = true := beq_iff_eq.mpr c17
                    have c17b1 : (a0.toList != ([109, 111, 100] : List UInt8)) = false := bne_eq_false_iff_eq.mpr c17
                    clear c17
                    replace H := Option.bind_eq_some_iff.mp H
                    obtain ⟨t149, A180, H⟩ := H
                    replace H : ((girandoleref10_times.f k a2 t149).bind fun t150 => (some (wrap64 (IntKind.u64.wrap ((IntKind.u64.wrap (a1)) - (IntKind.u64.wrap (t150))))))) = some r := H
                    have A18 := Aside0.mk A180
                    clear A180
                    replace H := Option.bind_eq_some_iff.mp H
                    obtain ⟨t150, A190, H⟩ := H
                    replace H : (some (wrap64 (IntKind.u64.wrap ((IntKind.u64.wrap (a1)) - (IntKind.u64.wrap (t150)))))) = some r := H
                    have A19 := Aside0.mk A190
                    clear A190
                    obtain rfl := Option.some.inj H
                    go_enter Try.func21, Try.ntmps21
                    go_wp2_with (first | ((with_reducible refine gate_callee (f := 28) rfl ?_); refine goesL_ (some 61) rfl rfl Try.func28 (by kernel_rfl) rfl #[.int .i64 a1, .int .i64 a2] rfl (by (try simp only [List.map_toArray, List.map_cons, List.map_nil]); first | done | rfl | (simp only [List.length_drop, List.length_take]; rfl)) ?_; (with_reducible refine (girandoleref10_over.calls a1 a2 t149 _ A18.out).mono ?_); rintro e w' ⟨rfl, ⟨nd, rfl⟩⟩; refine ⟨_, rfl, ?_⟩) | ((with_reducible refine gate_callee (f := 27) rfl ?_); refine goesL_ (some 62) rfl rfl Try.func27 (by kernel_rfl) rfl #[.int .i64 a2, .int .i64 t149] rfl (by (try simp only [List.map_toArray, List.map_cons, List.map_nil]); first | done | rfl | (simp only [List.length_drop, List.length_take]; rfl)) ?_; (with_reducible refine (girandoleref10_times.calls k a2 t149 t150 _ A19.out).mono ?_); rintro e w' ⟨rfl, ⟨nd, rfl⟩⟩; refine ⟨_, rfl, ?_⟩))
                    go_ret
                    exact ⟨by first | rfl | (simp; done) | (simp [*]; done), by repeat (first | exact Drawn0.refl _ | apply Drawn0.step)⟩
                  · rw [if_neg c17] at H
                    have c17b0 : (a0.toList == ([109, 111, 100] : List UInt8)) = false := beq_eq_false_iff_ne.mpr c17
                    have c17b1 : (a0.toList != ([109, 111, 100] : List UInt8)) = true := bne_iff_ne.mpr c17
                    by_cases c20 : a0.toList = ([97, 110, 100] : List UInt8)
                    · rw [if_pos c20] at H
                      have c20b0 : (a0.toList == ([97, 110, 100] : List UInt8)) = true := beq_iff_eq.mpr c20
                      have c20b1 : (a0.toList != ([97, 110, 100] : List UInt8)) = false := bne_eq_false_iff_eq.mpr c20
                      clear c20
                      by_cases c21 : a1 = 1
                      · rw [if_pos c21] at H
                        have c21b0 : (a1 == 1) = true := beq_iff_eq.mpr c21
                        have c21b1 : (a1 != 1) = false := bne_eq_false_iff_eq.mpr c21
                        clear c21
                        replace H := Option.bind_eq_some_iff.mp H
                        obtain ⟨t151, A220, H⟩ := H
                        replace H : (some t151) = some r := H
                        have A22 := Aside0.mk A220
                        clear A220
                        obtain rfl := Option.some.inj H
                        go_enter Try.func21, Try.ntmps21
                        go_wp2_with (first | ((with_reducible refine gate_callee (f := 26) rfl ?_); refine goesL_ (some 74) rfl rfl Try.func26 (by kernel_rfl) rfl #[.bool (a2 == 1)] rfl (by (try simp only [List.map_toArray, List.map_cons, List.map_nil]); first | done | rfl | (simp only [List.length_drop, List.length_take]; rfl)) ?_; (with_reducible refine (girandoleref10_truth.calls (a2 == 1) t151 _ A22.out).mono ?_); rintro e w' ⟨rfl, ⟨nd, rfl⟩⟩; refine ⟨_, rfl, ?_⟩))
                        go_ret
                        exact ⟨by first | rfl | (simp; done) | (simp [*]; done), by repeat (first | exact Drawn0.refl _ | apply Drawn0.step)⟩
                      · rw [if_neg c21] at H
                        have c21b0 : (a1 == 1) = false := beq_eq_false_iff_ne.mpr c21
                        have c21b1 : (a1 != 1) = true := bne_iff_ne.mpr c21
                        replace H := Option.bind_eq_some_iff.mp H
                        obtain ⟨t152, A230, H⟩ := H
                        replace H : (some t152) = some r := H
                        have A23 := Aside0.mk A230
                        clear A230
                        obtain rfl := Option.some.inj H
                        go_enter Try.func21, Try.ntmps21
                        go_wp2_with (first | ((with_reducible refine gate_callee (f := 26) rfl ?_); refine goesL_ (some 74) rfl rfl Try.func26 (by kernel_rfl) rfl #[.bool false] rfl (by (try simp only [List.map_toArray, List.map_cons, List.map_nil]); first | done | rfl | (simp only [List.length_drop, List.length_take]; rfl)) ?_; (with_reducible refine (girandoleref10_truth.calls false t152 _ A23.out).mono ?_); rintro e w' ⟨rfl, ⟨nd, rfl⟩⟩; refine ⟨_, rfl, ?_⟩))
                        go_ret
                        exact ⟨by first | rfl | (simp; done) | (simp [*]; done), by repeat (first | exact Drawn0.refl _ | apply Drawn0.step)⟩
                    · rw [if_neg c20] at H
                      have c20b0 : (a0.toList == ([97, 110, 100] : List UInt8)) = false := beq_eq_false_iff_ne.mpr c20
                      have c20b1 : (a0.toList != ([97, 110, 100] : List UInt8)) = true := bne_iff_ne.mpr c20
                      by_cases c24 : a0.toList = ([111, 114] : List UInt8)
                      · rw [if_pos c24] at H
                        have c24b0 : (a0.toList == ([111, 114] : List UInt8)) = true := beq_iff_eq.mpr c24
                        have c24b1 : (a0.toList != ([111, 114] : List UInt8)) = false := bne_eq_false_iff_eq.mpr c24
                        clear c24
                        by_cases c25 : a1 = 1
                        · rw [if_pos c25] at H
                          have c25b0 : (a1 == 1) = true := beq_iff_eq.mpr c25
                          have c25b1 : (a1 != 1) = false := bne_eq_false_iff_eq.mpr c25
                          clear c25
                          replace H := Option.bind_eq_some_iff.mp H
                          obtain ⟨t153, A260, H⟩ := H
                          replace H : (some t153) = some r := H
                          have A26 := Aside0.mk A260
                          clear A260
                          obtain rfl := Option.some.inj H
                          go_enter Try.func21, Try.ntmps21
                          go_wp2_with (first | ((with_reducible refine gate_callee (f := 26) rfl ?_); refine goesL_ (some 83) rfl rfl Try.func26 (by kernel_rfl) rfl #[.bool true] rfl (by (try simp only [List.map_toArray, List.map_cons, List.map_nil]); first | done | rfl | (simp only [List.length_drop, List.length_take]; rfl)) ?_; (with_reducible refine (girandoleref10_truth.calls true t153 _ A26.out).mono ?_); rintro e w' ⟨rfl, ⟨nd, rfl⟩⟩; refine ⟨_, rfl, ?_⟩))
                          go_ret
                          exact ⟨by first | rfl | (simp; done) | (simp [*]; done), by repeat (first | exact Drawn0.refl _ | apply Drawn0.step)⟩
                        · rw [if_neg c25] at H
                          have c25b0 : (a1 == 1) = false := beq_eq_false_iff_ne.mpr c25
                          have c25b1 : (a1 != 1) = true := bne_iff_ne.mpr c25
                          replace H := Option.bind_eq_some_iff.mp H
                          obtain ⟨t154, A270, H⟩ := H
                          replace H : (some t154) = some r := H
                          have A27 := Aside0.mk A270
                          clear A270
                          obtain rfl := Option.some.inj H
                          go_enter Try.func21, Try.ntmps21
                          go_wp2_with (first | ((with_reducible refine gate_callee (f := 26) rfl ?_); refine goesL_ (some 83) rfl rfl Try.func26 (by kernel_rfl) rfl #[.bool (a2 == 1)] rfl (by (try simp only [List.map_toArray, List.map_cons, List.map_nil]); first | done | rfl | (simp only [List.length_drop, List.length_take]; rfl)) ?_; (with_reducible refine (girandoleref10_truth.calls (a2 == 1) t154 _ A27.out).mono ?_); rintro e w' ⟨rfl, ⟨nd, rfl⟩⟩; refine ⟨_, rfl, ?_⟩))
                          go_ret
                          exact ⟨by first | rfl | (simp; done) | (simp [*]; done), by repeat (first | exact Drawn0.refl _ | apply Drawn0.step)⟩
                      · rw [if_neg c24] at H
                        have c24b0 : (a0.toList == ([111, 114] : List UInt8)) = false := beq_eq_false_iff_ne.mpr c24
                        have c24b1 : (a0.toList != ([111, 114] : List UInt8)) = true := bne_iff_ne.mpr c24
                        by_cases c28 : a0.toList = ([120, 111, 114] : List UInt8)
                        · rw [if_pos c28] at H
                          have c28b0 : (a0.toList == ([120, 111, 114] : List UInt8)) = true := beq_iff_eq.mpr c28
                          have c28b1 : (a0.toList != ([120, 111, 114] : List UInt8)) = false := bne_eq_false_iff_eq.mpr c28
                          clear c28
                          replace H := Option.bind_eq_some_iff.mp H
                          obtain ⟨t155, A290, H⟩ := H
                          replace H : (some t155) = some r := H
                          have A29 := Aside0.mk A290
                          clear A290
                          obtain rfl := Option.some.inj H
                          go_enter Try.func21, Try.ntmps21
                          go_wp2_with (first | ((with_reducible refine gate_callee (f := 26) rfl ?_); refine goesL_ (some 89) rfl rfl Try.func26 (by kernel_rfl) rfl #[.bool (a1 != a2)] rfl (by (try simp only [List.map_toArray, List.map_cons, List.map_nil]); first | done | rfl | (simp only [List.length_drop, List.length_take]; rfl)) ?_; (with_reducible refine (girandoleref10_truth.calls (a1 != a2) t155 _ A29.out).mono ?_); rintro e w' ⟨rfl, ⟨nd, rfl⟩⟩; refine ⟨_, rfl, ?_⟩))
                          go_ret
                          exact ⟨by first | rfl | (simp; done) | (simp [*]; done), by repeat (first | exact Drawn0.refl _ | apply Drawn0.step)⟩
                        · rw [if_neg c28] at H
                          have c28b0 : (a0.toList == ([120, 111, 114] : List UInt8)) = false := beq_eq_false_iff_ne.mpr c28
                          have c28b1 : (a0.toList != ([120, 111, 114] : List UInt8)) = true := bne_iff_ne.mpr c28
                          by_cases c30 : a0.toList = ([60] : List UInt8)
                          · rw [if_pos c30] at H
                            have c30b0 : (a0.toList == ([60] : List UInt8)) = true := beq_iff_eq.mpr c30
                            have c30b1 : (a0.toList != ([60] : List UInt8)) = false := bne_eq_false_iff_eq.mpr c30
                            clear c30
                            replace H := Option.bind_eq_some_iff.mp H
                            obtain ⟨t156, A310, H⟩ := H
                            replace H : (some t156) = some r := H
                            have A31 := Aside0.mk A310
                            clear A310
                            obtain rfl := Option.some.inj H
                            go_enter Try.func21, Try.ntmps21
                            go_wp2_with (first | ((with_reducible refine gate_callee (f := 26) rfl ?_); refine goesL_ (some 95) rfl rfl Try.func26 (by kernel_rfl) rfl #[.bool (decide (a1 < a2))] rfl (by (try simp only [List.map_toArray, List.map_cons, List.map_nil]); first | done | rfl | (simp only [List.length_drop, List.length_take]; rfl)) ?_; (with_reducible refine (girandoleref10_truth.calls (decide (a1 < a2)) t156 _ A31.out).mono ?_); rintro e w' ⟨rfl, ⟨nd, rfl⟩⟩; refine ⟨_, rfl, ?_⟩))
                            go_ret
                            exact ⟨by first | rfl | (simp; done) | (simp [*]; done), by repeat (first | exact Drawn0.refl _ | apply Drawn0.step)⟩
                          · rw [if_neg c30] at H
                            have c30b0 : (a0.toList == ([60] : List UInt8)) = false := beq_eq_false_iff_ne.mpr c30
                            have c30b1 : (a0.toList != ([60] : List UInt8)) = true := bne_iff_ne.mpr c30
                            by_cases c32 : a0.toList = ([60, 61] : List UInt8)
                            · rw [if_pos c32] at H
                              have c32b0 : (a0.toList == ([60, 61] : List UInt8)) = true := beq_iff_eq.mpr c32
                              have c32b1 : (a0.toList != ([60, 61] : List UInt8)) = false := bne_eq_false_iff_eq.mpr c32
                              clear c32
                              replace H := Option.bind_eq_some_iff.mp H
                              obtain ⟨t157, A330, H⟩ := H
                              replace H : (some t157) = some r := H
                              have A33 := Aside0.mk A330
                              clear A330
                              obtain rfl := Option.some.inj H
                              go_enter Try.func21, Try.ntmps21
                              go_wp2_with (first | ((with_reducible refine gate_callee (f := 26) rfl ?_); refine goesL_ (some 102) rfl rfl Try.func26 (by kernel_rfl) rfl #[.bool (!(decide (a2 < a1)))] rfl (by (try simp only [List.map_toArray, List.map_cons, List.map_nil]); first | done | rfl | (simp only [List.length_drop, List.length_take]; rfl)) ?_; (with_reducible refine (girandoleref10_truth.calls (!(decide (a2 < a1))) t157 _ A33.out).mono ?_); rintro e w' ⟨rfl, ⟨nd, rfl⟩⟩; refine ⟨_, rfl, ?_⟩))
                              go_ret
                              exact ⟨by first | rfl | (simp; done) | (simp [*]; done), by repeat (first | exact Drawn0.refl _ | apply Drawn0.step)⟩
                            · rw [if_neg c32] at H
                              have c32b0 : (a0.toList == ([60, 61] : List UInt8)) = false := beq_eq_false_iff_ne.mpr c32
                              have c32b1 : (a0.toList != ([60, 61] : List UInt8)) = true := bne_iff_ne.mpr c32
                              by_cases c34 : a0.toList = ([62] : List UInt8)
                              · rw [if_pos c34] at H
                                have c34b0 : (a0.toList == ([62] : List UInt8)) = true := beq_iff_eq.mpr c34
                                have c34b1 : (a0.toList != ([62] : List UInt8)) = false := bne_eq_false_iff_eq.mpr c34
                                clear c34
                                replace H := Option.bind_eq_some_iff.mp H
                                obtain ⟨t158, A350, H⟩ := H
                                replace H : (some t158) = some r := H
                                have A35 := Aside0.mk A350
                                clear A350
                                obtain rfl := Option.some.inj H
                                go_enter Try.func21, Try.ntmps21
                                go_wp2_with (first | ((with_reducible refine gate_callee (f := 26) rfl ?_); refine goesL_ (some 108) rfl rfl Try.func26 (by kernel_rfl) rfl #[.bool (decide (a2 < a1))] rfl (by (try simp only [List.map_toArray, List.map_cons, List.map_nil]); first | done | rfl | (simp only [List.length_drop, List.length_take]; rfl)) ?_; (with_reducible refine (girandoleref10_truth.calls (decide (a2 < a1)) t158 _ A35.out).mono ?_); rintro e w' ⟨rfl, ⟨nd, rfl⟩⟩; refine ⟨_, rfl, ?_⟩))
                                go_ret
                                exact ⟨by first | rfl | (simp; done) | (simp [*]; done), by repeat (first | exact Drawn0.refl _ | apply Drawn0.step)⟩
                              · rw [if_neg c34] at H
                                have c34b0 : (a0.toList == ([62] : List UInt8)) = false := beq_eq_false_iff_ne.mpr c34
                                have c34b1 : (a0.toList != ([62] : List UInt8)) = true := bne_iff_ne.mpr c34
                                by_cases c36 : a0.toList = ([62, 61] : List UInt8)
                                · rw [if_pos c36] at H
                                  have c36b0 : (a0.toList == ([62, 61] : List UInt8)) = true := beq_iff_eq.mpr c36
                                  have c36b1 : (a0.toList != ([62, 61] : List UInt8)) = false := bne_eq_false_iff_eq.mpr c36
                                  clear c36
                                  replace H := Option.bind_eq_some_iff.mp H
                                  obtain ⟨t159, A370, H⟩ := H
                                  replace H : (some t159) = some r := H
                                  have A37 := Aside0.mk A370
                                  clear A370
                                  obtain rfl := Option.some.inj H
                                  go_enter Try.func21, Try.ntmps21
                                  go_wp2_with (first | ((with_reducible refine gate_callee (f := 26) rfl ?_); refine goesL_ (some 115) rfl rfl Try.func26 (by kernel_rfl) rfl #[.bool (!(decide (a1 < a2)))] rfl (by (try simp only [List.map_toArray, List.map_cons, List.map_nil]); first | done | rfl | (simp only [List.length_drop, List.length_take]; rfl)) ?_; (with_reducible refine (girandoleref10_truth.calls (!(decide (a1 < a2))) t159 _ A37.out).mono ?_); rintro e w' ⟨rfl, ⟨nd, rfl⟩⟩; refine ⟨_, rfl, ?_⟩))
                                  go_ret
                                  exact ⟨by first | rfl | (simp; done) | (simp [*]; done), by repeat (first | exact Drawn0.refl _ | apply Drawn0.step)⟩
                                · rw [if_neg c36] at H
                                  have c36b0 : (a0.toList == ([62, 61] : List UInt8)) = false := beq_eq_false_iff_ne.mpr c36
                                  have c36b1 : (a0.toList != ([62, 61] : List UInt8)) = true := bne_iff_ne.mpr c36
                                  by_cases c38 : a0.toList = ([61] : List UInt8)
                                  · rw [if_pos c38] at H
                                    have c38b0 : (a0.toList == ([61] : List UInt8)) = true := beq_iff_eq.mpr c38
                                    have c38b1 : (a0.toList != ([61] : List UInt8)) = false := bne_eq_false_iff_eq.mpr c38
                                    clear c38
                                    replace H := Option.bind_eq_some_iff.mp H
                                    obtain ⟨t160, A390, H⟩ := H
                                    replace H : (some t160) = some r := H
                                    have A39 := Aside0.mk A390
                                    clear A390
                                    obtain rfl := Option.some.inj H
                                    go_enter Try.func21, Try.ntmps21
                                    go_wp2_with (first | ((with_reducible refine gate_callee (f := 26) rfl ?_); refine goesL_ (some 121) rfl rfl Try.func26 (by kernel_rfl) rfl #[.bool (a1 == a2)] rfl (by (try simp only [List.map_toArray, List.map_cons, List.map_nil]); first | done | rfl | (simp only [List.length_drop, List.length_take]; rfl)) ?_; (with_reducible refine (girandoleref10_truth.calls (a1 == a2) t160 _ A39.out).mono ?_); rintro e w' ⟨rfl, ⟨nd, rfl⟩⟩; refine ⟨_, rfl, ?_⟩))
                                    go_ret
                                    exact ⟨by first | rfl | (simp; done) | (simp [*]; done), by repeat (first | exact Drawn0.refl _ | apply Drawn0.step)⟩
                                  · rw [if_neg c38] at H
                                    have c38b0 : (a0.toList == ([61] : List UInt8)) = false := beq_eq_false_iff_ne.mpr c38
                                    have c38b1 : (a0.toList != ([61] : List UInt8)) = true := bne_iff_ne.mpr c38
                                    replace H := Option.bind_eq_some_iff.mp H
                                    obtain ⟨t161, A400, H⟩ := H
                                    replace H : (some t161) = some r := H
                                    have A40 := Aside0.mk A400
                                    clear A400
                                    obtain rfl := Option.some.inj H
                                    go_enter Try.func21, Try.ntmps21
                                    go_wp2_with (first | ((with_reducible refine gate_callee (f := 26) rfl ?_); refine goesL_ (some 125) rfl rfl Try.func26 (by kernel_rfl) rfl #[.bool (a1 != a2)] rfl (by (try simp only [List.map_toArray, List.map_cons, List.map_nil]); first | done | rfl | (simp only [List.length_drop, List.length_take]; rfl)) ?_; (with_reducible refine (girandoleref10_truth.calls (a1 != a2) t161 _ A40.out).mono ?_); rintro e w' ⟨rfl, ⟨nd, rfl⟩⟩; refine ⟨_, rfl, ?_⟩))
                                    go_ret
                                    exact ⟨by first | rfl | (simp; done) | (simp [*]; done), by repeat (first | exact Drawn0.refl _ | apply Drawn0.step)⟩

end Go.Proofs.Ytnlkjimpefebbaa.PValueApplies
