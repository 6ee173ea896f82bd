import Derived.Test.YtjafllnbgfcchaaDoorZAGXTBx0
-- Written by a program of this session (wip/xprint) out of the translation.
namespace Go.Proofs.YtjafllnbgfcchaaDoor.XTB
open Go.RowKit Go.Proofs.YtjafllnbgfcchaaDoorW.PrintWords Go.Proofs.YtjafllnbgfcchaaDoorW.PrintLast Go.Proofs.YtjafllnbgfcchaaDoorW.PrintMore Go.Proofs.YtjafllnbgfcchaaDoor.XK
attribute [local go_sem] max2_int min2_int max_two min_two max_three min_three max_four min_four   -- for this text's walks alone
set_option linter.unusedVariables false
set_option linter.unusedSimpArgs false

attribute [local go_sem high] eqA27
/-! ### girandolelaw05_TypesAwaits: function 11 -/
mutual
def girandolelaw05_TypesAwaits.j0 : Nat → Bool → Bool → List Bool → ByteArray → Bool → Option (Bool)
 | 0, _, _, _, _, _ => none
 | k + 1, x0, x1, x2, x7, x8 => girandolelaw05_TypesAwaits.l0 k x0 x1 x7 x8 x2 (x2.length : Int) 0
def girandolelaw05_TypesAwaits.l0 : Nat → Bool → Bool → ByteArray → Bool → List Bool → Int → Int → Option (Bool)
 | 0, _, _, _, _, _, _, _ => none
 | k + 1, x0, x1, x7, x8, x29, x30, x31 => if x31 < x30 then (if 0 ≤ x31 then (if x31 < (x29.length : Int) then (if x31 = 0 then (if rdOf false x29 x31 = true then (if 8 + 4 ≤ 9223372036854775807 then (if x8 = true then (girandolelaw05_TypesAwaits.l0 k x0 x1 ((⟨#[32, 97, 102, 116, 101, 114, 32, 40]⟩ : ByteArray) ++ (⟨#[116, 114, 117, 101]⟩ : ByteArray)) ((rdOf false x29 x31) == x0) x29 x30 (wrap64 (x31 + 1))) else (girandolelaw05_TypesAwaits.l0 k x0 x1 ((⟨#[32, 97, 102, 116, 101, 114, 32, 40]⟩ : ByteArray) ++ (⟨#[116, 114, 117, 101]⟩ : ByteArray)) false x29 x30 (wrap64 (x31 + 1)))) else (none)) else (if 8 + 1 ≤ 9223372036854775807 then (if x8 = true then (girandolelaw05_TypesAwaits.l0 k x0 x1 ((⟨#[32, 97, 102, 116, 101, 114, 32, 40]⟩ : ByteArray) ++ (⟨#[55]⟩ : ByteArray)) ((rdOf false x29 x31) == x0) x29 x30 (wrap64 (x31 + 1))) else (girandolelaw05_TypesAwaits.l0 k x0 x1 ((⟨#[32, 97, 102, 116, 101, 114, 32, 40]⟩ : ByteArray) ++ (⟨#[55]⟩ : ByteArray)) false x29 x30 (wrap64 (x31 + 1)))) else (none))) else (if x7.size + 2 ≤ 9223372036854775807 then (if rdOf false x29 x31 = true then (if (x7 ++ (⟨#[44, 32]⟩ : ByteArray)).size + 4 ≤ 9223372036854775807 then (if x8 = true then (girandolelaw05_TypesAwaits.l0 k x0 x1 ((x7 ++ (⟨#[44, 32]⟩ : ByteArray)) ++ (⟨#[116, 114, 117, 101]⟩ : ByteArray)) ((rdOf false x29 x31) == x0) x29 x30 (wrap64 (x31 + 1))) else (girandolelaw05_TypesAwaits.l0 k x0 x1 ((x7 ++ (⟨#[44, 32]⟩ : ByteArray)) ++ (⟨#[116, 114, 117, 101]⟩ : ByteArray)) false x29 x30 (wrap64 (x31 + 1)))) else (none)) else (if (x7 ++ (⟨#[44, 32]⟩ : ByteArray)).size + 1 ≤ 9223372036854775807 then (if x8 = true then (girandolelaw05_TypesAwaits.l0 k x0 x1 ((x7 ++ (⟨#[44, 32]⟩ : ByteArray)) ++ (⟨#[55]⟩ : ByteArray)) ((rdOf false x29 x31) == x0) x29 x30 (wrap64 (x31 + 1))) else (girandolelaw05_TypesAwaits.l0 k x0 x1 ((x7 ++ (⟨#[44, 32]⟩ : ByteArray)) ++ (⟨#[55]⟩ : ByteArray)) false x29 x30 (wrap64 (x31 + 1)))) else (none))) else (none))) else (none)) else (none)) else (if x7.toList = ([] : List UInt8) then (girandolelaw05_TypesAwaits.j2 k x0 x1 x7 x8) else (if x7.size + 1 ≤ 9223372036854775807 then (girandolelaw05_TypesAwaits.j2 k x0 x1 (x7 ++ (⟨#[41]⟩ : ByteArray)) x8) else (none)))
def girandolelaw05_TypesAwaits.j2 : Nat → Bool → Bool → ByteArray → Bool → Option (Bool)
 | 0, _, _, _, _ => none
 | k + 1, x0, x1, x7, x8 => (girandolelaw05_TypesAwaits_1.f x1).bind fun t122 => (if 21 + t122.size ≤ 9223372036854775807 then (if ((⟨#[110, 111, 100, 101, 32, 102, 40, 41, 32, 114, 101, 116, 117, 114, 110, 115, 32, 40, 121, 58, 32]⟩ : ByteArray) ++ t122).size + 16 ≤ 9223372036854775807 then ((girandolelaw05_TypesAwaits_1.f x0).bind fun t123 => (if (((⟨#[110, 111, 100, 101, 32, 102, 40, 41, 32, 114, 101, 116, 117, 114, 110, 115, 32, 40, 121, 58, 32]⟩ : ByteArray) ++ t122) ++ (⟨#[41, 32, 118, 97, 114, 32, 117, 58, 32, 102, 117, 116, 117, 114, 101, 32]⟩ : ByteArray)).size + t123.size ≤ 9223372036854775807 then (if ((((⟨#[110, 111, 100, 101, 32, 102, 40, 41, 32, 114, 101, 116, 117, 114, 110, 115, 32, 40, 121, 58, 32]⟩ : ByteArray) ++ t122) ++ (⟨#[41, 32, 118, 97, 114, 32, 117, 58, 32, 102, 117, 116, 117, 114, 101, 32]⟩ : ByteArray)) ++ t123).size + 32 ≤ 9223372036854775807 then (if (((((⟨#[110, 111, 100, 101, 32, 102, 40, 41, 32, 114, 101, 116, 117, 114, 110, 115, 32, 40, 121, 58, 32]⟩ : ByteArray) ++ t122) ++ (⟨#[41, 32, 118, 97, 114, 32, 117, 58, 32, 102, 117, 116, 117, 114, 101, 32]⟩ : ByteArray)) ++ t123) ++ (⟨#[59, 32, 108, 101, 116, 32, 117, 32, 61, 32, 97, 115, 121, 110, 99, 32, 103, 40, 41, 59, 32, 121, 32, 61, 32, 97, 119, 97, 105, 116, 32, 117]⟩ : ByteArray)).size + x7.size ≤ 9223372036854775807 then (if ((((((⟨#[110, 111, 100, 101, 32, 102, 40, 41, 32, 114, 101, 116, 117, 114, 110, 115, 32, 40, 121, 58, 32]⟩ : ByteArray) ++ t122) ++ (⟨#[41, 32, 118, 97, 114, 32, 117, 58, 32, 102, 117, 116, 117, 114, 101, 32]⟩ : ByteArray)) ++ t123) ++ (⟨#[59, 32, 108, 101, 116, 32, 117, 32, 61, 32, 97, 115, 121, 110, 99, 32, 103, 40, 41, 59, 32, 121, 32, 61, 32, 97, 119, 97, 105, 116, 32, 117]⟩ : ByteArray)) ++ x7).size + 27 ≤ 9223372036854775807 then ((girandolelaw05_TypesAwaits_1.f x0).bind fun t124 => (if (((((((⟨#[110, 111, 100, 101, 32, 102, 40, 41, 32, 114, 101, 116, 117, 114, 110, 115, 32, 40, 121, 58, 32]⟩ : ByteArray) ++ t122) ++ (⟨#[41, 32, 118, 97, 114, 32, 117, 58, 32, 102, 117, 116, 117, 114, 101, 32]⟩ : ByteArray)) ++ t123) ++ (⟨#[59, 32, 108, 101, 116, 32, 117, 32, 61, 32, 97, 115, 121, 110, 99, 32, 103, 40, 41, 59, 32, 121, 32, 61, 32, 97, 119, 97, 105, 116, 32, 117]⟩ : ByteArray)) ++ x7) ++ (⟨#[59, 32, 116, 101, 108, 32, 110, 111, 100, 101, 32, 103, 40, 41, 32, 114, 101, 116, 117, 114, 110, 115, 32, 40, 120, 58, 32]⟩ : ByteArray)).size + t124.size ≤ 9223372036854775807 then (if ((((((((⟨#[110, 111, 100, 101, 32, 102, 40, 41, 32, 114, 101, 116, 117, 114, 110, 115, 32, 40, 121, 58, 32]⟩ : ByteArray) ++ t122) ++ (⟨#[41, 32, 118, 97, 114, 32, 117, 58, 32, 102, 117, 116, 117, 114, 101, 32]⟩ : ByteArray)) ++ t123) ++ (⟨#[59, 32, 108, 101, 116, 32, 117, 32, 61, 32, 97, 115, 121, 110, 99, 32, 103, 40, 41, 59, 32, 121, 32, 61, 32, 97, 119, 97, 105, 116, 32, 117]⟩ : ByteArray)) ++ x7) ++ (⟨#[59, 32, 116, 101, 108, 32, 110, 111, 100, 101, 32, 103, 40, 41, 32, 114, 101, 116, 117, 114, 110, 115, 32, 40, 120, 58, 32]⟩ : ByteArray)) ++ t124).size + 20 ≤ 9223372036854775807 then ((parse_Program.f (((((((((⟨#[110, 111, 100, 101, 32, 102, 40, 41, 32, 114, 101, 116, 117, 114, 110, 115, 32, 40, 121, 58, 32]⟩ : ByteArray) ++ t122) ++ (⟨#[41, 32, 118, 97, 114, 32, 117, 58, 32, 102, 117, 116, 117, 114, 101, 32]⟩ : ByteArray)) ++ t123) ++ (⟨#[59, 32, 108, 101, 116, 32, 117, 32, 61, 32, 97, 115, 121, 110, 99, 32, 103, 40, 41, 59, 32, 121, 32, 61, 32, 97, 119, 97, 105, 116, 32, 117]⟩ : ByteArray)) ++ x7) ++ (⟨#[59, 32, 116, 101, 108, 32, 110, 111, 100, 101, 32, 103, 40, 41, 32, 114, 101, 116, 117, 114, 110, 115, 32, 40, 120, 58, 32]⟩ : ByteArray)) ++ t124) ++ (⟨#[41, 32, 108, 101, 116, 32, 120, 32, 61, 32, 48, 32, 60, 32, 49, 59, 32, 116, 101, 108]⟩ : ByteArray))).bind fun bt125 => (if (!(bt125.2.1 == 0) || (!(bt125.2.2 == 0))) = true then (some false) else ((types_Check.f bt125.1).bind fun bt131 => (if x8 = true then (some ((bt131.1 == 0 && (bt131.2 == 0)) == x0)) else (some ((bt131.1 == 0 && (bt131.2 == 0)) == false)))))) else (none)) else (none))) else (none)) else (none)) else (none)) else (none))) else (none)) else (none))
end
def girandolelaw05_TypesAwaits.f (k : Nat) (a0 : Bool) (a1 : Bool) (l2 : List Bool) : Option (Bool) := (girandolelaw05_awake.f).bind fun t119 => (if t119 = true then (if 0 ≤ (mn (l2.length : Int) 10) then (if (mn (l2.length : Int) 10) ≤ (l2.length : Int) then (if (a0 == a1) = true then (girandolelaw05_TypesAwaits.j0 k a0 a1 (l2.take ((mn (l2.length : Int) 10) : Int).toNat) (⟨#[]⟩ : ByteArray) (decide (((l2.take ((mn (l2.length : Int) 10) : Int).toNat).length : Int) ≤ 8))) else (girandolelaw05_TypesAwaits.j0 k a0 a1 (l2.take ((mn (l2.length : Int) 10) : Int).toNat) (⟨#[]⟩ : ByteArray) false)) else (none)) else (none)) else (some false))
set_option maxHeartbeats 8000000 in
set_option maxRecDepth 100000 in
theorem girandolelaw05_TypesAwaits.calls (k : Nat) (a0 : Bool) (a1 : Bool) (A2 : Option Addr) (c2 : Nat) (l2 : List Bool) (r : Bool) (w : World) (hr2 : Kd.C Kd.bool w A2 l2.length l2) (hc2 : l2.length ≤ c2) (h : girandolelaw05_TypesAwaits.f k a0 a1 l2 = some r) (hT : Tabs w) :
  Calls Tryd.prog 11 #[.bool a0, .bool a1, .slice A2 l2.length c2] w fun e w' => e = .returned (.bool r) ∧ Below w.heap.size w w' := by
 have HT := Aside0.mk hT
 clear hT
 have hu27 := Tryd.underlying27
 have HR2 := Aside0.mk hr2
 have HC2 := Aside0.mk hc2
 clear hr2 hc2
 have HB := Aside0.mk (Below.refl w.heap.size w)
 have H : ((girandolelaw05_awake.f).bind fun t119 => (if t119 = true then (if 0 ≤ (mn (l2.length : Int) 10) then (if (mn (l2.length : Int) 10) ≤ (l2.length : Int) then (if (a0 == a1) = true then (girandolelaw05_TypesAwaits.j0 k a0 a1 (l2.take ((mn (l2.length : Int) 10) : Int).toNat) (⟨#[]⟩ : ByteArray) (decide (((l2.take ((mn (l2.length : Int) 10) : Int).toNat).length : Int) ≤ 8))) else (girandolelaw05_TypesAwaits.j0 k a0 a1 (l2.take ((mn (l2.length : Int) 10) : Int).toNat) (⟨#[]⟩ : ByteArray) false)) else (none)) else (none)) else (some false))) = some r := h
 clear h
 replace H := Option.bind_eq_some_iff.mp H
 obtain ⟨t119, A40, H⟩ := H
 try dsimp only at H
 have A4 := Aside0.mk A40
 clear A40
 by_cases c5 : t119 = true
 ·subst c5
  have H1 : (if 0 ≤ (mn (l2.length : Int) 10) then (if (mn (l2.length : Int) 10) ≤ (l2.length : Int) then (if (a0 == a1) = true then (girandolelaw05_TypesAwaits.j0 k a0 a1 (l2.take ((mn (l2.length : Int) 10) : Int).toNat) (⟨#[]⟩ : ByteArray) (decide (((l2.take ((mn (l2.length : Int) 10) : Int).toNat).length : Int) ≤ 8))) else (girandolelaw05_TypesAwaits.j0 k a0 a1 (l2.take ((mn (l2.length : Int) 10) : Int).toNat) (⟨#[]⟩ : ByteArray) false)) else (none)) else (none)) = some r := by rw [if_pos rfl] at H; exact H
  clear H
  have H := H1
  clear H1
  obtain ⟨ji6, hji6⟩ : ∃ j_ : Int, (mn (l2.length : Int) 10) = j_ := ⟨_, rfl⟩
  replace H : (if 0 ≤ (ji6) then (if (ji6) ≤ (l2.length : Int) then (if (a0 == a1) = true then (girandolelaw05_TypesAwaits.j0 k a0 a1 (l2.take ((ji6) : Int).toNat) (⟨#[]⟩ : ByteArray) (decide (((l2.take ((ji6) : Int).toNat).length : Int) ≤ 8))) else (girandolelaw05_TypesAwaits.j0 k a0 a1 (l2.take ((ji6) : Int).toNat) (⟨#[]⟩ : ByteArray) false)) else (none)) else (none)) = some r := by first | (rw [hji6] at H; exact H) | (simp only [hji6] at H ⊢; exact H)
  (try rw [hji6] at A4)
  (try (have hji6h : ji6 ≤ 10 := by (rw [← hji6]; unfold mn; (repeat' split) <;> omega)))
  (try (have hji6g : ji6 ≤ 64 := by omega))
  (try (have hji6l : 0 ≤ ji6 := by (rw [← hji6]; unfold mn; (repeat' split) <;> omega)))
  (try (have hji6m : 0 ≤ ji6 := by omega))
  have hji6_ : (if 10 < (l2.length : Int) then 10 else (l2.length : Int)) = ji6 := hji6
  by_cases c7 : 0 ≤ (ji6)
  ·rw [if_pos c7] at H
   have c7b0 := eq_true c7
   have c7b1 : decide (0 ≤ (ji6)) = true := decide_eq_true c7
   clear c7
   by_cases c8 : (ji6) ≤ (l2.length : Int)
   ·rw [if_pos c8] at H
    have c8b0 := eq_true c8
    have c8b1 : decide ((ji6) ≤ (l2.length : Int)) = true := decide_eq_true c8
    clear c8
    have HC9 := Aside0.mk H
    clear H
    go_enter Tryd.func11, Tryd.ntmps11
    go_upto_region 4 with (first | ((with_reducible refine gate_callee (f := 31) rfl ?_); refine goesL_ (some 14) rfl rfl Tryd.func31 (by kernel_rfl) rfl #[] rfl (by (try simp only [List.map_toArray, List.map_cons, List.map_nil]); first | done | rfl | (simp only [List.length_drop, List.length_take]; rfl)) ?_; (with_reducible refine (girandolelaw05_awake.calls  true _ A4.out ?side1).mono ?_); (case side1 => exact Tabs.below HT.out (by repeat (first | (with_reducible first | exact HB.out | apply below_alloc | apply pw_below_drewN | apply below_drew1) | exact HB.out))); rintro e w10 ⟨rfl, hb⟩; refine ⟨_, rfl, ?_⟩; have n0_ := Aside0.mk (below_step (by repeat (first | (with_reducible first | exact HB.out | apply below_alloc | apply pw_below_drewN | apply below_drew1) | exact HB.out)) hb); clear HB; have HB := n0_; clear n0_; (try clear hb); (try clear hb2); (try clear hk); (try clear hi); obtain ⟨i011, hi011, _, hsz11, _⟩ := info_parts info4; obtain ⟨hcut11, hA11, hC11⟩ := print_take_of (P := Tryd.prog) Value.bool false 59 4 .i64 Tryd.underlying59 hi011 hsz11 A2 c2 l2 (ji6) (of_decide_eq_true (by first | (with_reducible assumption) | assumption)) (of_decide_eq_true (by first | (with_reducible assumption) | assumption)) HC2.out; have HR120 := Aside0.mk (Kd.C_of_reads (h1 := fun _ => rfl) (hA11 _ (Kd.reads_of_C HR2.out))); have HC120 := Aside0.mk hC11; clear hA11 hC11 hi011 hsz11))
    (try simp only [Act.put, List.setIfInBounds_toArray, List.set_cons_zero, List.set_cons_succ])
    go_cut [7, 8] (fun v7 v8 wc => ∃ (kq : Nat) (x7_8 : ByteArray) (x8_8 : Bool), v7 = .string x7_8 ∧ v8 = .bool x8_8 ∧ Aside0 (girandolelaw05_TypesAwaits.j0 kq a0 a1 (l2.take ((ji6) : Int).toNat) x7_8 x8_8 = some r) ∧ Aside0 (kq ≤ k) ∧ Aside0 (Below w.heap.size w wc))
    case first =>
     have H := HC9.out
     clear HC9
     by_cases c12 : (a0 == a1) = true
     ·rw [if_pos c12] at H
      have c12b0 : (a0 == a1) = true := c12
      (try (have c12b1 : decide (a0 = a1) = true := by simpa using c12))
      (try (have c12b2 : (a0 == a1) = true := by simpa using c12))
      clear c12
      (first | rw [c12b0] | (simp only [i64_w, i32_w]; rw [c12b0]) | skip)
      have H' := Aside0.mk H
      clear H
      go_wp2
      go_meet
      case rel => exact ⟨_, ((⟨#[]⟩ : ByteArray)), (decide (((l2.take ((ji6) : Int).toNat).length : Int) ≤ 8)), (by first | rfl | (simp; done) | (simp [*]; done)), (by first | rfl | (refine congrArg Value.bool (decide_eq_decide.2 ?_); rw [List.length_take]; omega) | (simp; done) | (simp only [← hji6] <;> (first | rfl | simp)) | (simp [*]; done)), H', ⟨by first | omega | exact Nat.le_refl _⟩, ⟨by repeat (first | (with_reducible first | exact HB.out | apply below_alloc | apply pw_below_drewN | apply below_drew1) | exact HB.out)⟩⟩
     ·rw [if_neg c12] at H
      have c12b0 : (a0 == a1) = false := by simpa using c12
      (try (have c12b1 : decide (a0 = a1) = false := by simpa using c12))
      (try (have c12b2 : (a0 == a1) = false := by simpa using c12))
      (try (have c12b3 : ¬ (a0 = a1) := by simpa using c12))
      clear c12
      (first | rw [c12b0] | (simp only [i64_w, i32_w]; rw [c12b0]) | skip)
      have H' := Aside0.mk H
      clear H
      go_wp2
      go_meet
      case rel => exact ⟨_, ((⟨#[]⟩ : ByteArray)), (false), (by first | rfl | (simp; done) | (simp [*]; done)), (by first | rfl | (simp; done) | (simp [*]; done)), H', ⟨by first | omega | exact Nat.le_refl _⟩, ⟨by repeat (first | (with_reducible first | exact HB.out | apply below_alloc | apply pw_below_drewN | apply below_drew1) | exact HB.out)⟩⟩
    case rest =>
     clear HC9
     try clear c1
     try clear c2
     try clear p2
     try clear c3
     try clear c5
     try clear c7
     try clear c7b0
     try clear c7b1
     try clear c8
     try clear c8b0
     try clear c8b1
     try clear c11
     try clear c12
     try clear c12b0
     try clear c12b1
     try clear c12b2
     obtain ⟨kq, x7_8, x8_8, rfl, rfl, HA, HJ8, HB⟩ := hcut
     cases kq with
     | zero => exact absurd HA.out (by simp [girandolelaw05_TypesAwaits.j0])
     | succ kj8 =>
      have H := HA.out
      clear HA
      simp only [girandolelaw05_TypesAwaits.j0] at H
      have H' := Aside0.mk H
      clear H
      go_wp2
      go_loopg [7, 8, 31] kj8 (fun kq v7 v8 v31 w' => ∃ (x7_2 : ByteArray) (x8_2 : Bool) (x31_2 : Int), v7 = .string x7_2 ∧ v8 = .bool x8_2 ∧ v31 = .int .i64 x31_2 ∧ Aside0 (girandolelaw05_TypesAwaits.l0 kq a0 a1 x7_2 x8_2 (l2.take ((ji6) : Int).toNat) ((l2.take ((ji6) : Int).toNat).length : Int) x31_2 = some r) ∧ Aside0 (kq ≤ kj8) ∧ Aside0 (Below w.heap.size w w'))
      case atStart => exact ⟨(x7_8), (x8_8), (0), (by first | rfl | (simp; done) | (simp [*]; done)), (by first | rfl | (simp; done) | (simp [*]; done)), (by first | rfl | (simp; done) | (simp [*]; done)), H', ⟨Nat.le_refl _⟩, ⟨by repeat (first | (with_reducible first | exact HB.out | apply below_alloc | apply pw_below_drewN | apply below_drew1) | exact HB.out)⟩⟩
      case round =>
       clear H'
       try clear c1
       try clear c2
       try clear p2
       try clear c3
       try clear c5
       try clear c7
       try clear c7b0
       try clear c7b1
       try clear c8
       try clear c8b0
       try clear c8b1
       try clear c11
       try clear c12
       try clear c12b0
       try clear c12b1
       try clear c12b2
       try clear p2
       obtain ⟨x7_2, x8_2, x31_2, rfl, rfl, rfl, HA, HK2, HB⟩ := hrel
       cases gk with
       | zero => exact absurd HA.out (by simp [girandolelaw05_TypesAwaits.l0])
       | succ k2 =>
        have H := HA.out
        clear HA
        simp only [girandolelaw05_TypesAwaits.l0] at H
        by_cases c13 : x31_2 < ((l2.take ((ji6) : Int).toNat).length : Int)
        ·rw [if_pos c13] at H
         have c13b0 : decide (x31_2 < ((l2.take ((ji6) : Int).toNat).length : Int)) = true := decide_eq_true c13
         try have c13b5 : decide ((ji6 : Int) ≤ (l2.length : Int)) = true := decide_eq_true (by have z_ := hji6_; split at z_ <;> omega)
         try have c13b7 : decide (x31_2 < max ji6 0) = true := (by have h_ := c13b0; rw [decide_eq_true_eq] at h_ ⊢; rw [List.length_take] at h_; omega)
         try have c13b6 : (x31_2 < max ji6 0) = True := (by simpa only [decide_eq_true_eq, decide_eq_false_iff_not, eq_iff_iff, iff_true, iff_false] using c13b7)
         clear c13
         by_cases c14 : 0 ≤ x31_2
         ·rw [if_pos c14] at H
          have c14b0 : decide (0 ≤ x31_2) = true := decide_eq_true c14
          clear c14
          by_cases c15 : x31_2 < ((l2.take ((ji6) : Int).toNat).length : Int)
          ·rw [if_pos c15] at H
           have c15b0 : decide (x31_2 < ((l2.take ((ji6) : Int).toNat).length : Int)) = true := decide_eq_true c15
           try have c15b5 : decide ((ji6 : Int) ≤ (l2.length : Int)) = true := decide_eq_true (by have z_ := hji6_; split at z_ <;> omega)
           try have c15b7 : decide (x31_2 < max ji6 0) = true := (by have h_ := c15b0; rw [decide_eq_true_eq] at h_ ⊢; rw [List.length_take] at h_; omega)
           try have c15b6 : (x31_2 < max ji6 0) = True := (by simpa only [decide_eq_true_eq, decide_eq_false_iff_not, eq_iff_iff, iff_true, iff_false] using c15b7)
           clear c15
           by_cases c16 : x31_2 = 0
           ·rw [if_pos c16] at H
            have c16b0 : (x31_2 == 0) = true := beq_iff_eq.mpr c16
            have c16b1 : (x31_2 != 0) = false := bne_eq_false_iff_eq.mpr c16
            clear c16
            obtain ⟨bq17, hbq17⟩ : ∃ b_ : Bool, b_ = (rdOf false (l2.take ((ji6) : Int).toNat) x31_2) := ⟨_, rfl⟩
            replace H : (if bq17 = true then (if 8 + 4 ≤ 9223372036854775807 then (if x8_2 = true then (girandolelaw05_TypesAwaits.l0 k2 a0 a1 ((⟨#[32, 97, 102, 116, 101, 114, 32, 40]⟩ : ByteArray) ++ (⟨#[116, 114, 117, 101]⟩ : ByteArray)) ((bq17) == a0) (l2.take ((ji6) : Int).toNat) ((l2.take ((ji6) : Int).toNat).length : Int) (wrap64 (x31_2 + 1))) else (girandolelaw05_TypesAwaits.l0 k2 a0 a1 ((⟨#[32, 97, 102, 116, 101, 114, 32, 40]⟩ : ByteArray) ++ (⟨#[116, 114, 117, 101]⟩ : ByteArray)) false (l2.take ((ji6) : Int).toNat) ((l2.take ((ji6) : Int).toNat).length : Int) (wrap64 (x31_2 + 1)))) else (none)) else (if 8 + 1 ≤ 9223372036854775807 then (if x8_2 = true then (girandolelaw05_TypesAwaits.l0 k2 a0 a1 ((⟨#[32, 97, 102, 116, 101, 114, 32, 40]⟩ : ByteArray) ++ (⟨#[55]⟩ : ByteArray)) ((bq17) == a0) (l2.take ((ji6) : Int).toNat) ((l2.take ((ji6) : Int).toNat).length : Int) (wrap64 (x31_2 + 1))) else (girandolelaw05_TypesAwaits.l0 k2 a0 a1 ((⟨#[32, 97, 102, 116, 101, 114, 32, 40]⟩ : ByteArray) ++ (⟨#[55]⟩ : ByteArray)) false (l2.take ((ji6) : Int).toNat) ((l2.take ((ji6) : Int).toNat).length : Int) (wrap64 (x31_2 + 1)))) else (none))) = some r := by rw [← hbq17] at H; exact H
            have Nbq17 := Aside0.mk hbq17
            clear hbq17
            by_cases c18 : bq17 = true
            ·subst c18
             have H1 : (if 8 + 4 ≤ 9223372036854775807 then (if x8_2 = true then (girandolelaw05_TypesAwaits.l0 k2 a0 a1 ((⟨#[32, 97, 102, 116, 101, 114, 32, 40]⟩ : ByteArray) ++ (⟨#[116, 114, 117, 101]⟩ : ByteArray)) ((true) == a0) (l2.take ((ji6) : Int).toNat) ((l2.take ((ji6) : Int).toNat).length : Int) (wrap64 (x31_2 + 1))) else (girandolelaw05_TypesAwaits.l0 k2 a0 a1 ((⟨#[32, 97, 102, 116, 101, 114, 32, 40]⟩ : ByteArray) ++ (⟨#[116, 114, 117, 101]⟩ : ByteArray)) false (l2.take ((ji6) : Int).toNat) ((l2.take ((ji6) : Int).toNat).length : Int) (wrap64 (x31_2 + 1)))) else (none)) = some r := by rw [if_pos rfl] at H; exact H
             clear H
             have H := H1
             clear H1
             by_cases c19 : 8 + 4 ≤ 9223372036854775807
             ·rw [if_pos c19] at H
              have c19b0 := eq_true c19
              have c19b1 : decide (8 + 4 ≤ 9223372036854775807) = true := decide_eq_true c19
              try have c19b2 : (9223372036854775807 < 8 + 4) = False := eq_false (Nat.not_lt.2 c19)
              by_cases c20 : x8_2 = true
              ·subst c20
               have H1 : (girandolelaw05_TypesAwaits.l0 k2 a0 a1 ((⟨#[32, 97, 102, 116, 101, 114, 32, 40]⟩ : ByteArray) ++ (⟨#[116, 114, 117, 101]⟩ : ByteArray)) ((true) == a0) (l2.take ((ji6) : Int).toNat) ((l2.take ((ji6) : Int).toNat).length : Int) (wrap64 (x31_2 + 1))) = some r := by rw [if_pos rfl] at H; exact H
               clear H
               have H := H1
               clear H1
               have H' := Aside0.mk H
               clear H
               have p121 : 0 ≤ (x31_2 : Int) := of_decide_eq_true (by first | (with_reducible assumption) | assumption)
               have q121 : x31_2 < ((l2.take ((ji6) : Int).toNat).length : Int) := of_decide_eq_true (by first | (with_reducible assumption) | assumption)
               obtain ⟨ad121, e121, hx121_0⟩ := Kd.at_bool HR120.out x31_2 p121 q121
               (try rw [← Nbq17.out] at hx121_0)
               cases e121
               replace hx121_0 := (HB.out.cell (World.block_lt_of_cell? w _ hx121_0)).trans hx121_0
               replace p121 := eq_true p121
               replace q121 := eq_true q121
               go_wp2
               go_roundg k2
               case measure => have := HJ8.out; have := HK2.out; omega
               case rel => exact ⟨((⟨#[32, 97, 102, 116, 101, 114, 32, 40]⟩ : ByteArray) ++ (⟨#[116, 114, 117, 101]⟩ : ByteArray)), (((true) == a0)), (wrap64 (x31_2 + 1)), (by first | rfl | (simp; done) | (simp [*]; done)), (by first | rfl | (simp; done) | (simp [*]; done)), (by first | rfl | (simp; done) | (simp [*]; done)), H', ⟨by have := HJ8.out; have := HK2.out; omega⟩, ⟨by repeat (first | (with_reducible first | exact HB.out | apply below_alloc | apply pw_below_drewN | apply below_drew1) | exact HB.out)⟩⟩
              ·replace c20 := Bool.eq_false_iff.mpr c20
               subst c20
               have H1 : (girandolelaw05_TypesAwaits.l0 k2 a0 a1 ((⟨#[32, 97, 102, 116, 101, 114, 32, 40]⟩ : ByteArray) ++ (⟨#[116, 114, 117, 101]⟩ : ByteArray)) false (l2.take ((ji6) : Int).toNat) ((l2.take ((ji6) : Int).toNat).length : Int) (wrap64 (x31_2 + 1))) = some r := by rw [if_neg (show ¬ (false = true) by decide)] at H; exact H
               clear H
               have H := H1
               clear H1
               have H' := Aside0.mk H
               clear H
               have p121 : 0 ≤ (x31_2 : Int) := of_decide_eq_true (by first | (with_reducible assumption) | assumption)
               have q121 : x31_2 < ((l2.take ((ji6) : Int).toNat).length : Int) := of_decide_eq_true (by first | (with_reducible assumption) | assumption)
               obtain ⟨ad121, e121, hx121_0⟩ := Kd.at_bool HR120.out x31_2 p121 q121
               (try rw [← Nbq17.out] at hx121_0)
               cases e121
               replace hx121_0 := (HB.out.cell (World.block_lt_of_cell? w _ hx121_0)).trans hx121_0
               replace p121 := eq_true p121
               replace q121 := eq_true q121
               go_wp2
               go_roundg k2
               case measure => have := HJ8.out; have := HK2.out; omega
               case rel => exact ⟨((⟨#[32, 97, 102, 116, 101, 114, 32, 40]⟩ : ByteArray) ++ (⟨#[116, 114, 117, 101]⟩ : ByteArray)), (false), (wrap64 (x31_2 + 1)), (by first | rfl | (simp; done) | (simp [*]; done)), (by first | rfl | (simp; done) | (simp [*]; done)), (by first | rfl | (simp; done) | (simp [*]; done)), H', ⟨by have := HJ8.out; have := HK2.out; omega⟩, ⟨by repeat (first | (with_reducible first | exact HB.out | apply below_alloc | apply pw_below_drewN | apply below_drew1) | exact HB.out)⟩⟩
             ·rw [if_neg c19] at H
              exact absurd H (by simp)
            ·replace c18 := Bool.eq_false_iff.mpr c18
             subst c18
             have H1 : (if 8 + 1 ≤ 9223372036854775807 then (if x8_2 = true then (girandolelaw05_TypesAwaits.l0 k2 a0 a1 ((⟨#[32, 97, 102, 116, 101, 114, 32, 40]⟩ : ByteArray) ++ (⟨#[55]⟩ : ByteArray)) ((false) == a0) (l2.take ((ji6) : Int).toNat) ((l2.take ((ji6) : Int).toNat).length : Int) (wrap64 (x31_2 + 1))) else (girandolelaw05_TypesAwaits.l0 k2 a0 a1 ((⟨#[32, 97, 102, 116, 101, 114, 32, 40]⟩ : ByteArray) ++ (⟨#[55]⟩ : ByteArray)) false (l2.take ((ji6) : Int).toNat) ((l2.take ((ji6) : Int).toNat).length : Int) (wrap64 (x31_2 + 1)))) else (none)) = some r := by rw [if_neg (show ¬ (false = true) by decide)] at H; exact H
             clear H
             have H := H1
             clear H1
             by_cases c21 : 8 + 1 ≤ 9223372036854775807
             ·rw [if_pos c21] at H
              have c21b0 := eq_true c21
              have c21b1 : decide (8 + 1 ≤ 9223372036854775807) = true := decide_eq_true c21
              try have c21b2 : (9223372036854775807 < 8 + 1) = False := eq_false (Nat.not_lt.2 c21)
              by_cases c22 : x8_2 = true
              ·subst c22
               have H1 : (girandolelaw05_TypesAwaits.l0 k2 a0 a1 ((⟨#[32, 97, 102, 116, 101, 114, 32, 40]⟩ : ByteArray) ++ (⟨#[55]⟩ : ByteArray)) ((false) == a0) (l2.take ((ji6) : Int).toNat) ((l2.take ((ji6) : Int).toNat).length : Int) (wrap64 (x31_2 + 1))) = some r := by rw [if_pos rfl] at H; exact H
               clear H
               have H := H1
               clear H1
               have H' := Aside0.mk H
               clear H
               have p121 : 0 ≤ (x31_2 : Int) := of_decide_eq_true (by first | (with_reducible assumption) | assumption)
               have q121 : x31_2 < ((l2.take ((ji6) : Int).toNat).length : Int) := of_decide_eq_true (by first | (with_reducible assumption) | assumption)
               obtain ⟨ad121, e121, hx121_0⟩ := Kd.at_bool HR120.out x31_2 p121 q121
               (try rw [← Nbq17.out] at hx121_0)
               cases e121
               replace hx121_0 := (HB.out.cell (World.block_lt_of_cell? w _ hx121_0)).trans hx121_0
               replace p121 := eq_true p121
               replace q121 := eq_true q121
               go_wp2
               go_roundg k2
               case measure => have := HJ8.out; have := HK2.out; omega
               case rel => exact ⟨((⟨#[32, 97, 102, 116, 101, 114, 32, 40]⟩ : ByteArray) ++ (⟨#[55]⟩ : ByteArray)), (((false) == a0)), (wrap64 (x31_2 + 1)), (by first | rfl | (simp; done) | (simp [*]; done)), (by first | rfl | (simp; done) | (simp [*]; done)), (by first | rfl | (simp; done) | (simp [*]; done)), H', ⟨by have := HJ8.out; have := HK2.out; omega⟩, ⟨by repeat (first | (with_reducible first | exact HB.out | apply below_alloc | apply pw_below_drewN | apply below_drew1) | exact HB.out)⟩⟩
              ·replace c22 := Bool.eq_false_iff.mpr c22
               subst c22
               have H1 : (girandolelaw05_TypesAwaits.l0 k2 a0 a1 ((⟨#[32, 97, 102, 116, 101, 114, 32, 40]⟩ : ByteArray) ++ (⟨#[55]⟩ : ByteArray)) false (l2.take ((ji6) : Int).toNat) ((l2.take ((ji6) : Int).toNat).length : Int) (wrap64 (x31_2 + 1))) = some r := by rw [if_neg (show ¬ (false = true) by decide)] at H; exact H
               clear H
               have H := H1
               clear H1
               have H' := Aside0.mk H
               clear H
               have p121 : 0 ≤ (x31_2 : Int) := of_decide_eq_true (by first | (with_reducible assumption) | assumption)
               have q121 : x31_2 < ((l2.take ((ji6) : Int).toNat).length : Int) := of_decide_eq_true (by first | (with_reducible assumption) | assumption)
               obtain ⟨ad121, e121, hx121_0⟩ := Kd.at_bool HR120.out x31_2 p121 q121
               (try rw [← Nbq17.out] at hx121_0)
               cases e121
               replace hx121_0 := (HB.out.cell (World.block_lt_of_cell? w _ hx121_0)).trans hx121_0
               replace p121 := eq_true p121
               replace q121 := eq_true q121
               go_wp2
               go_roundg k2
               case measure => have := HJ8.out; have := HK2.out; omega
               case rel => exact ⟨((⟨#[32, 97, 102, 116, 101, 114, 32, 40]⟩ : ByteArray) ++ (⟨#[55]⟩ : ByteArray)), (false), (wrap64 (x31_2 + 1)), (by first | rfl | (simp; done) | (simp [*]; done)), (by first | rfl | (simp; done) | (simp [*]; done)), (by first | rfl | (simp; done) | (simp [*]; done)), H', ⟨by have := HJ8.out; have := HK2.out; omega⟩, ⟨by repeat (first | (with_reducible first | exact HB.out | apply below_alloc | apply pw_below_drewN | apply below_drew1) | exact HB.out)⟩⟩
             ·rw [if_neg c21] at H
              exact absurd H (by simp)
           ·rw [if_neg c16] at H
            have c16b0 : (x31_2 == 0) = false := beq_eq_false_iff_ne.mpr c16
            have c16b1 : (x31_2 != 0) = true := bne_iff_ne.mpr c16
            by_cases c23 : x7_2.size + 2 ≤ 9223372036854775807
            ·rw [if_pos c23] at H
             have c23b0 := eq_true c23
             have c23b1 : decide (x7_2.size + 2 ≤ 9223372036854775807) = true := decide_eq_true c23
             try have c23b2 : (9223372036854775807 < x7_2.size + 2) = False := eq_false (Nat.not_lt.2 c23)
             obtain ⟨bq24, hbq24⟩ : ∃ b_ : Bool, b_ = (rdOf false (l2.take ((ji6) : Int).toNat) x31_2) := ⟨_, rfl⟩
             replace H : (if bq24 = true then (if (x7_2 ++ (⟨#[44, 32]⟩ : ByteArray)).size + 4 ≤ 9223372036854775807 then (if x8_2 = true then (girandolelaw05_TypesAwaits.l0 k2 a0 a1 ((x7_2 ++ (⟨#[44, 32]⟩ : ByteArray)) ++ (⟨#[116, 114, 117, 101]⟩ : ByteArray)) ((bq24) == a0) (l2.take ((ji6) : Int).toNat) ((l2.take ((ji6) : Int).toNat).length : Int) (wrap64 (x31_2 + 1))) else (girandolelaw05_TypesAwaits.l0 k2 a0 a1 ((x7_2 ++ (⟨#[44, 32]⟩ : ByteArray)) ++ (⟨#[116, 114, 117, 101]⟩ : ByteArray)) false (l2.take ((ji6) : Int).toNat) ((l2.take ((ji6) : Int).toNat).length : Int) (wrap64 (x31_2 + 1)))) else (none)) else (if (x7_2 ++ (⟨#[44, 32]⟩ : ByteArray)).size + 1 ≤ 9223372036854775807 then (if x8_2 = true then (girandolelaw05_TypesAwaits.l0 k2 a0 a1 ((x7_2 ++ (⟨#[44, 32]⟩ : ByteArray)) ++ (⟨#[55]⟩ : ByteArray)) ((bq24) == a0) (l2.take ((ji6) : Int).toNat) ((l2.take ((ji6) : Int).toNat).length : Int) (wrap64 (x31_2 + 1))) else (girandolelaw05_TypesAwaits.l0 k2 a0 a1 ((x7_2 ++ (⟨#[44, 32]⟩ : ByteArray)) ++ (⟨#[55]⟩ : ByteArray)) false (l2.take ((ji6) : Int).toNat) ((l2.take ((ji6) : Int).toNat).length : Int) (wrap64 (x31_2 + 1)))) else (none))) = some r := by rw [← hbq24] at H; exact H
             have Nbq24 := Aside0.mk hbq24
             clear hbq24
             by_cases c25 : bq24 = true
             ·subst c25
              have H1 : (if (x7_2 ++ (⟨#[44, 32]⟩ : ByteArray)).size + 4 ≤ 9223372036854775807 then (if x8_2 = true then (girandolelaw05_TypesAwaits.l0 k2 a0 a1 ((x7_2 ++ (⟨#[44, 32]⟩ : ByteArray)) ++ (⟨#[116, 114, 117, 101]⟩ : ByteArray)) ((true) == a0) (l2.take ((ji6) : Int).toNat) ((l2.take ((ji6) : Int).toNat).length : Int) (wrap64 (x31_2 + 1))) else (girandolelaw05_TypesAwaits.l0 k2 a0 a1 ((x7_2 ++ (⟨#[44, 32]⟩ : ByteArray)) ++ (⟨#[116, 114, 117, 101]⟩ : ByteArray)) false (l2.take ((ji6) : Int).toNat) ((l2.take ((ji6) : Int).toNat).length : Int) (wrap64 (x31_2 + 1)))) else (none)) = some r := by rw [if_pos rfl] at H; exact H
              clear H
              have H := H1
              clear H1
              by_cases c26 : (x7_2 ++ (⟨#[44, 32]⟩ : ByteArray)).size + 4 ≤ 9223372036854775807
              ·rw [if_pos c26] at H
               have c26b0 := eq_true c26
               have c26b1 : decide ((x7_2 ++ (⟨#[44, 32]⟩ : ByteArray)).size + 4 ≤ 9223372036854775807) = true := decide_eq_true c26
               try have c26b2 : (9223372036854775807 < (x7_2 ++ (⟨#[44, 32]⟩ : ByteArray)).size + 4) = False := eq_false (Nat.not_lt.2 c26)
               try have c26b9 : (9223372036854775807 < x7_2.size + 2 + 4) = False := eq_false (by have h_ := c26; simp only [ByteArray.size_append] at h_; exact Nat.not_lt.2 h_)
               by_cases c27 : x8_2 = true
               ·subst c27
                have H1 : (girandolelaw05_TypesAwaits.l0 k2 a0 a1 ((x7_2 ++ (⟨#[44, 32]⟩ : ByteArray)) ++ (⟨#[116, 114, 117, 101]⟩ : ByteArray)) ((true) == a0) (l2.take ((ji6) : Int).toNat) ((l2.take ((ji6) : Int).toNat).length : Int) (wrap64 (x31_2 + 1))) = some r := by rw [if_pos rfl] at H; exact H
                clear H
                have H := H1
                clear H1
                have H' := Aside0.mk H
                clear H
                have p121 : 0 ≤ (x31_2 : Int) := of_decide_eq_true (by first | (with_reducible assumption) | assumption)
                have q121 : x31_2 < ((l2.take ((ji6) : Int).toNat).length : Int) := of_decide_eq_true (by first | (with_reducible assumption) | assumption)
                obtain ⟨ad121, e121, hx121_0⟩ := Kd.at_bool HR120.out x31_2 p121 q121
                (try rw [← Nbq24.out] at hx121_0)
                cases e121
                replace hx121_0 := (HB.out.cell (World.block_lt_of_cell? w _ hx121_0)).trans hx121_0
                replace p121 := eq_true p121
                replace q121 := eq_true q121
                go_wp2
                go_roundg k2
                case measure => have := HJ8.out; have := HK2.out; omega
                case rel => exact ⟨((x7_2 ++ (⟨#[44, 32]⟩ : ByteArray)) ++ (⟨#[116, 114, 117, 101]⟩ : ByteArray)), (((true) == a0)), (wrap64 (x31_2 + 1)), (by first | rfl | (simp; done) | (simp [*]; done)), (by first | rfl | (simp; done) | (simp [*]; done)), (by first | rfl | (simp; done) | (simp [*]; done)), H', ⟨by have := HJ8.out; have := HK2.out; omega⟩, ⟨by repeat (first | (with_reducible first | exact HB.out | apply below_alloc | apply pw_below_drewN | apply below_drew1) | exact HB.out)⟩⟩
               ·replace c27 := Bool.eq_false_iff.mpr c27
                subst c27
                have H1 : (girandolelaw05_TypesAwaits.l0 k2 a0 a1 ((x7_2 ++ (⟨#[44, 32]⟩ : ByteArray)) ++ (⟨#[116, 114, 117, 101]⟩ : ByteArray)) false (l2.take ((ji6) : Int).toNat) ((l2.take ((ji6) : Int).toNat).length : Int) (wrap64 (x31_2 + 1))) = some r := by rw [if_neg (show ¬ (false = true) by decide)] at H; exact H
                clear H
                have H := H1
                clear H1
                have H' := Aside0.mk H
                clear H
                have p121 : 0 ≤ (x31_2 : Int) := of_decide_eq_true (by first | (with_reducible assumption) | assumption)
                have q121 : x31_2 < ((l2.take ((ji6) : Int).toNat).length : Int) := of_decide_eq_true (by first | (with_reducible assumption) | assumption)
                obtain ⟨ad121, e121, hx121_0⟩ := Kd.at_bool HR120.out x31_2 p121 q121
                (try rw [← Nbq24.out] at hx121_0)
                cases e121
                replace hx121_0 := (HB.out.cell (World.block_lt_of_cell? w _ hx121_0)).trans hx121_0
                replace p121 := eq_true p121
                replace q121 := eq_true q121
                go_wp2
                go_roundg k2
                case measure => have := HJ8.out; have := HK2.out; omega
                case rel => exact ⟨((x7_2 ++ (⟨#[44, 32]⟩ : ByteArray)) ++ (⟨#[116, 114, 117, 101]⟩ : ByteArray)), (false), (wrap64 (x31_2 + 1)), (by first | rfl | (simp; done) | (simp [*]; done)), (by first | rfl | (simp; done) | (simp [*]; done)), (by first | rfl | (simp; done) | (simp [*]; done)), H', ⟨by have := HJ8.out; have := HK2.out; omega⟩, ⟨by repeat (first | (with_reducible first | exact HB.out | apply below_alloc | apply pw_below_drewN | apply below_drew1) | exact HB.out)⟩⟩
              ·rw [if_neg c26] at H
               exact absurd H (by simp)
             ·replace c25 := Bool.eq_false_iff.mpr c25
              subst c25
              have H1 : (if (x7_2 ++ (⟨#[44, 32]⟩ : ByteArray)).size + 1 ≤ 9223372036854775807 then (if x8_2 = true then (girandolelaw05_TypesAwaits.l0 k2 a0 a1 ((x7_2 ++ (⟨#[44, 32]⟩ : ByteArray)) ++ (⟨#[55]⟩ : ByteArray)) ((false) == a0) (l2.take ((ji6) : Int).toNat) ((l2.take ((ji6) : Int).toNat).length : Int) (wrap64 (x31_2 + 1))) else (girandolelaw05_TypesAwaits.l0 k2 a0 a1 ((x7_2 ++ (⟨#[44, 32]⟩ : ByteArray)) ++ (⟨#[55]⟩ : ByteArray)) false (l2.take ((ji6) : Int).toNat) ((l2.take ((ji6) : Int).toNat).length : Int) (wrap64 (x31_2 + 1)))) else (none)) = some r := by rw [if_neg (show ¬ (false = true) by decide)] at H; exact H
              clear H
              have H := H1
              clear H1
              by_cases c28 : (x7_2 ++ (⟨#[44, 32]⟩ : ByteArray)).size + 1 ≤ 9223372036854775807
              ·rw [if_pos c28] at H
               have c28b0 := eq_true c28
               have c28b1 : decide ((x7_2 ++ (⟨#[44, 32]⟩ : ByteArray)).size + 1 ≤ 9223372036854775807) = true := decide_eq_true c28
               try have c28b2 : (9223372036854775807 < (x7_2 ++ (⟨#[44, 32]⟩ : ByteArray)).size + 1) = False := eq_false (Nat.not_lt.2 c28)
               try have c28b9 : (9223372036854775807 < x7_2.size + 2 + 1) = False := eq_false (by have h_ := c28; simp only [ByteArray.size_append] at h_; exact Nat.not_lt.2 h_)
               by_cases c29 : x8_2 = true
               ·subst c29
                have H1 : (girandolelaw05_TypesAwaits.l0 k2 a0 a1 ((x7_2 ++ (⟨#[44, 32]⟩ : ByteArray)) ++ (⟨#[55]⟩ : ByteArray)) ((false) == a0) (l2.take ((ji6) : Int).toNat) ((l2.take ((ji6) : Int).toNat).length : Int) (wrap64 (x31_2 + 1))) = some r := by rw [if_pos rfl] at H; exact H
                clear H
                have H := H1
                clear H1
                have H' := Aside0.mk H
                clear H
                have p121 : 0 ≤ (x31_2 : Int) := of_decide_eq_true (by first | (with_reducible assumption) | assumption)
                have q121 : x31_2 < ((l2.take ((ji6) : Int).toNat).length : Int) := of_decide_eq_true (by first | (with_reducible assumption) | assumption)
                obtain ⟨ad121, e121, hx121_0⟩ := Kd.at_bool HR120.out x31_2 p121 q121
                (try rw [← Nbq24.out] at hx121_0)
                cases e121
                replace hx121_0 := (HB.out.cell (World.block_lt_of_cell? w _ hx121_0)).trans hx121_0
                replace p121 := eq_true p121
                replace q121 := eq_true q121
                go_wp2
                go_roundg k2
                case measure => have := HJ8.out; have := HK2.out; omega
                case rel => exact ⟨((x7_2 ++ (⟨#[44, 32]⟩ : ByteArray)) ++ (⟨#[55]⟩ : ByteArray)), (((false) == a0)), (wrap64 (x31_2 + 1)), (by first | rfl | (simp; done) | (simp [*]; done)), (by first | rfl | (simp; done) | (simp [*]; done)), (by first | rfl | (simp; done) | (simp [*]; done)), H', ⟨by have := HJ8.out; have := HK2.out; omega⟩, ⟨by repeat (first | (with_reducible first | exact HB.out | apply below_alloc | apply pw_below_drewN | apply below_drew1) | exact HB.out)⟩⟩
               ·replace c29 := Bool.eq_false_iff.mpr c29
                subst c29
                have H1 : (girandolelaw05_TypesAwaits.l0 k2 a0 a1 ((x7_2 ++ (⟨#[44, 32]⟩ : ByteArray)) ++ (⟨#[55]⟩ : ByteArray)) false (l2.take ((ji6) : Int).toNat) ((l2.take ((ji6) : Int).toNat).length : Int) (wrap64 (x31_2 + 1))) = some r := by rw [if_neg (show ¬ (false = true) by decide)] at H; exact H
                clear H
                have H := H1
                clear H1
                have H' := Aside0.mk H
                clear H
                have p121 : 0 ≤ (x31_2 : Int) := of_decide_eq_true (by first | (with_reducible assumption) | assumption)
                have q121 : x31_2 < ((l2.take ((ji6) : Int).toNat).length : Int) := of_decide_eq_true (by first | (with_reducible assumption) | assumption)
                obtain ⟨ad121, e121, hx121_0⟩ := Kd.at_bool HR120.out x31_2 p121 q121
                (try rw [← Nbq24.out] at hx121_0)
                cases e121
                replace hx121_0 := (HB.out.cell (World.block_lt_of_cell? w _ hx121_0)).trans hx121_0
                replace p121 := eq_true p121
                replace q121 := eq_true q121
                go_wp2
                go_roundg k2
                case measure => have := HJ8.out; have := HK2.out; omega
                case rel => exact ⟨((x7_2 ++ (⟨#[44, 32]⟩ : ByteArray)) ++ (⟨#[55]⟩ : ByteArray)), (false), (wrap64 (x31_2 + 1)), (by first | rfl | (simp; done) | (simp [*]; done)), (by first | rfl | (simp; done) | (simp [*]; done)), (by first | rfl | (simp; done) | (simp [*]; done)), H', ⟨by have := HJ8.out; have := HK2.out; omega⟩, ⟨by repeat (first | (with_reducible first | exact HB.out | apply below_alloc | apply pw_below_drewN | apply below_drew1) | exact HB.out)⟩⟩
              ·rw [if_neg c28] at H
               exact absurd H (by simp)
            ·rw [if_neg c23] at H
             exact absurd H (by simp)
          ·rw [if_neg c15] at H
           exact absurd H (by simp)
         ·rw [if_neg c14] at H
          exact absurd H (by simp)
        ·rw [if_neg c13] at H
         have c13b0 : decide (x31_2 < ((l2.take ((ji6) : Int).toNat).length : Int)) = false := decide_eq_false c13
         try have c13b5 : decide ((ji6 : Int) ≤ (l2.length : Int)) = true := decide_eq_true (by have z_ := hji6_; split at z_ <;> omega)
         try have c13b7 : decide (x31_2 < max ji6 0) = false := (by have h_ := c13b0; rw [decide_eq_false_iff_not] at h_ ⊢; rw [List.length_take] at h_; have k_ : ((ji6) : Int) ≤ (l2.length : Int) := of_decide_eq_true (by first | (with_reducible assumption) | assumption); omega)
         try have c13b6 : (x31_2 < max ji6 0) = False := (by simpa only [decide_eq_true_eq, decide_eq_false_iff_not, eq_iff_iff, iff_true, iff_false] using c13b7)
         clear c13
         have HC30 := Aside0.mk H
         clear H
         go_upto_if 53 with (fail)
         go_cut [7] (fun v7 wc => ∃ (kq : Nat) (x7_29 : ByteArray), v7 = .string x7_29 ∧ Aside0 (girandolelaw05_TypesAwaits.j2 kq a0 a1 x7_29 x8_2 = some r) ∧ Aside0 (kq ≤ k2) ∧ Aside0 (Below w.heap.size w wc))
         case first =>
          have H := HC30.out
          clear HC30
          by_cases c31 : x7_2.toList = ([] : List UInt8)
          ·rw [if_pos c31] at H
           have c31b0 : (x7_2.toList == ([] : List UInt8)) = true := beq_iff_eq.mpr c31
           have c31b1 : (x7_2.toList != ([] : List UInt8)) = false := bne_eq_false_iff_eq.mpr c31
           have c31b3 : x7_2.toList.isEmpty = true := by rw [c31]; rfl
           have c31b4 : (x7_2.toList = ([] : List UInt8)) = True := eq_true c31
           have c31b5 : (!x7_2.toList.isEmpty) = false := by rw [c31b3]; rfl
           clear c31
           (first | rw [c31b5] | rw [c31b0] | (simp only [i64_w, i32_w]; rw [c31b0]) | skip)
           have H' := Aside0.mk H
           clear H
           go_wp2
           go_meet
           case rel => exact ⟨_, (x7_2), (by first | rfl | (simp; done) | (simp [*]; done)), H', ⟨by have := HJ8.out; have := HK2.out; first | omega | exact Nat.le_refl _⟩, ⟨by repeat (first | (with_reducible first | exact HB.out | apply below_alloc | apply pw_below_drewN | apply below_drew1) | exact HB.out)⟩⟩
          ·rw [if_neg c31] at H
           have c31b0 : (x7_2.toList == ([] : List UInt8)) = false := beq_eq_false_iff_ne.mpr c31
           have c31b1 : (x7_2.toList != ([] : List UInt8)) = true := bne_iff_ne.mpr c31
           have c31b3 : x7_2.toList.isEmpty = false := by simpa using c31
           have c31b4 : (x7_2.toList = ([] : List UInt8)) = False := eq_false c31
           have c31b5 : (!x7_2.toList.isEmpty) = true := by rw [c31b3]; rfl
           (first | rw [c31b5] | rw [c31b0] | (simp only [i64_w, i32_w]; rw [c31b0]) | skip)
           by_cases c32 : x7_2.size + 1 ≤ 9223372036854775807
           ·rw [if_pos c32] at H
            have c32b0 := eq_true c32
            have c32b1 : decide (x7_2.size + 1 ≤ 9223372036854775807) = true := decide_eq_true c32
            try have c32b2 : (9223372036854775807 < x7_2.size + 1) = False := eq_false (Nat.not_lt.2 c32)
            have H' := Aside0.mk H
            clear H
            go_wp2
            go_meet
            case rel => exact ⟨_, (x7_2 ++ (⟨#[41]⟩ : ByteArray)), (by first | rfl | (simp; done) | (simp [*]; done)), H', ⟨by have := HJ8.out; have := HK2.out; first | omega | exact Nat.le_refl _⟩, ⟨by repeat (first | (with_reducible first | exact HB.out | apply below_alloc | apply pw_below_drewN | apply below_drew1) | exact HB.out)⟩⟩
           ·rw [if_neg c32] at H
            exact absurd H (by simp)
         case rest =>
          clear HC30
          try clear c1
          try clear p1
          try clear q1
          try clear hx1
          try clear c2
          try clear p2
          try clear q2
          try clear c3
          try clear c5
          try clear p6
          try clear c7
          try clear c7b0
          try clear c7b1
          try clear c8
          try clear c8b0
          try clear c8b1
          try clear c11
          try clear c12
          try clear c12b0
          try clear c12b1
          try clear c12b2
          try clear p12
          try clear q12
          try clear hx12
          try clear c13
          try clear c13b0
          try clear c14
          try clear c14b0
          try clear c15
          try clear c15b0
          try clear c16
          try clear c16b0
          try clear c16b1
          try clear q17
          try clear c18
          try clear c19
          try clear c19b0
          try clear c19b1
          try clear c19b2
          try clear c20
          try clear c21
          try clear c21b0
          try clear c21b1
          try clear c21b2
          try clear c22
          try clear c23
          try clear c23b0
          try clear c23b1
          try clear c23b2
          try clear q24
          try clear c25
          try clear c26
          try clear c26b0
          try clear c26b1
          try clear c26b2
          try clear c27
          try clear c28
          try clear c28b0
          try clear c28b1
          try clear c28b2
          try clear c29
          try clear c31
          try clear c31b0
          try clear c31b1
          try clear c32
          try clear c32b0
          try clear c32b1
          try clear c32b2
          try clear hx121_0
          try clear p121
          try clear p2
          try clear q121
          obtain ⟨kq, x7_29, rfl, HA, HJ29, HB⟩ := hcut
          cases kq with
          | zero => exact absurd HA.out (by simp [girandolelaw05_TypesAwaits.j2])
          | succ kj29 =>
           have H := HA.out
           clear HA
           simp only [girandolelaw05_TypesAwaits.j2] at H
           replace H := Option.bind_eq_some_iff.mp H
           obtain ⟨t122, A330, H⟩ := H
           try dsimp only at H
           have A33 := Aside0.mk A330
           clear A330
           by_cases c34 : 21 + t122.size ≤ 9223372036854775807
           ·rw [if_pos c34] at H
            have c34b0 := eq_true c34
            have c34b1 : decide (21 + t122.size ≤ 9223372036854775807) = true := decide_eq_true c34
            try have c34b2 : (9223372036854775807 < 21 + t122.size) = False := eq_false (Nat.not_lt.2 c34)
            by_cases c35 : ((⟨#[110, 111, 100, 101, 32, 102, 40, 41, 32, 114, 101, 116, 117, 114, 110, 115, 32, 40, 121, 58, 32]⟩ : ByteArray) ++ t122).size + 16 ≤ 9223372036854775807
            ·rw [if_pos c35] at H
             have c35b0 := eq_true c35
             have c35b1 : decide (((⟨#[110, 111, 100, 101, 32, 102, 40, 41, 32, 114, 101, 116, 117, 114, 110, 115, 32, 40, 121, 58, 32]⟩ : ByteArray) ++ t122).size + 16 ≤ 9223372036854775807) = true := decide_eq_true c35
             try have c35b2 : (9223372036854775807 < ((⟨#[110, 111, 100, 101, 32, 102, 40, 41, 32, 114, 101, 116, 117, 114, 110, 115, 32, 40, 121, 58, 32]⟩ : ByteArray) ++ t122).size + 16) = False := eq_false (Nat.not_lt.2 c35)
             try have c35b9 : (9223372036854775807 < 21 + t122.size + 16) = False := eq_false (by have h_ := c35; simp only [ByteArray.size_append] at h_; exact Nat.not_lt.2 h_)
             replace H := Option.bind_eq_some_iff.mp H
             obtain ⟨t123, A360, H⟩ := H
             try dsimp only at H
             have A36 := Aside0.mk A360
             clear A360
             by_cases c37 : (((⟨#[110, 111, 100, 101, 32, 102, 40, 41, 32, 114, 101, 116, 117, 114, 110, 115, 32, 40, 121, 58, 32]⟩ : ByteArray) ++ t122) ++ (⟨#[41, 32, 118, 97, 114, 32, 117, 58, 32, 102, 117, 116, 117, 114, 101, 32]⟩ : ByteArray)).size + t123.size ≤ 9223372036854775807
             ·rw [if_pos c37] at H
              have c37b0 := eq_true c37
              have c37b1 : decide ((((⟨#[110, 111, 100, 101, 32, 102, 40, 41, 32, 114, 101, 116, 117, 114, 110, 115, 32, 40, 121, 58, 32]⟩ : ByteArray) ++ t122) ++ (⟨#[41, 32, 118, 97, 114, 32, 117, 58, 32, 102, 117, 116, 117, 114, 101, 32]⟩ : ByteArray)).size + t123.size ≤ 9223372036854775807) = true := decide_eq_true c37
              try have c37b2 : (9223372036854775807 < (((⟨#[110, 111, 100, 101, 32, 102, 40, 41, 32, 114, 101, 116, 117, 114, 110, 115, 32, 40, 121, 58, 32]⟩ : ByteArray) ++ t122) ++ (⟨#[41, 32, 118, 97, 114, 32, 117, 58, 32, 102, 117, 116, 117, 114, 101, 32]⟩ : ByteArray)).size + t123.size) = False := eq_false (Nat.not_lt.2 c37)
              try have c37b9 : (9223372036854775807 < 21 + t122.size + 16 + t123.size) = False := eq_false (by have h_ := c37; simp only [ByteArray.size_append] at h_; exact Nat.not_lt.2 h_)
              by_cases c38 : ((((⟨#[110, 111, 100, 101, 32, 102, 40, 41, 32, 114, 101, 116, 117, 114, 110, 115, 32, 40, 121, 58, 32]⟩ : ByteArray) ++ t122) ++ (⟨#[41, 32, 118, 97, 114, 32, 117, 58, 32, 102, 117, 116, 117, 114, 101, 32]⟩ : ByteArray)) ++ t123).size + 32 ≤ 9223372036854775807
              ·rw [if_pos c38] at H
               have c38b0 := eq_true c38
               have c38b1 : decide (((((⟨#[110, 111, 100, 101, 32, 102, 40, 41, 32, 114, 101, 116, 117, 114, 110, 115, 32, 40, 121, 58, 32]⟩ : ByteArray) ++ t122) ++ (⟨#[41, 32, 118, 97, 114, 32, 117, 58, 32, 102, 117, 116, 117, 114, 101, 32]⟩ : ByteArray)) ++ t123).size + 32 ≤ 9223372036854775807) = true := decide_eq_true c38
               try have c38b2 : (9223372036854775807 < ((((⟨#[110, 111, 100, 101, 32, 102, 40, 41, 32, 114, 101, 116, 117, 114, 110, 115, 32, 40, 121, 58, 32]⟩ : ByteArray) ++ t122) ++ (⟨#[41, 32, 118, 97, 114, 32, 117, 58, 32, 102, 117, 116, 117, 114, 101, 32]⟩ : ByteArray)) ++ t123).size + 32) = False := eq_false (Nat.not_lt.2 c38)
               try have c38b9 : (9223372036854775807 < 21 + t122.size + 16 + t123.size + 32) = False := eq_false (by have h_ := c38; simp only [ByteArray.size_append] at h_; exact Nat.not_lt.2 h_)
               by_cases c39 : (((((⟨#[110, 111, 100, 101, 32, 102, 40, 41, 32, 114, 101, 116, 117, 114, 110, 115, 32, 40, 121, 58, 32]⟩ : ByteArray) ++ t122) ++ (⟨#[41, 32, 118, 97, 114, 32, 117, 58, 32, 102, 117, 116, 117, 114, 101, 32]⟩ : ByteArray)) ++ t123) ++ (⟨#[59, 32, 108, 101, 116, 32, 117, 32, 61, 32, 97, 115, 121, 110, 99, 32, 103, 40, 41, 59, 32, 121, 32, 61, 32, 97, 119, 97, 105, 116, 32, 117]⟩ : ByteArray)).size + x7_29.size ≤ 9223372036854775807
               ·rw [if_pos c39] at H
                have c39b0 := eq_true c39
                have c39b1 : decide ((((((⟨#[110, 111, 100, 101, 32, 102, 40, 41, 32, 114, 101, 116, 117, 114, 110, 115, 32, 40, 121, 58, 32]⟩ : ByteArray) ++ t122) ++ (⟨#[41, 32, 118, 97, 114, 32, 117, 58, 32, 102, 117, 116, 117, 114, 101, 32]⟩ : ByteArray)) ++ t123) ++ (⟨#[59, 32, 108, 101, 116, 32, 117, 32, 61, 32, 97, 115, 121, 110, 99, 32, 103, 40, 41, 59, 32, 121, 32, 61, 32, 97, 119, 97, 105, 116, 32, 117]⟩ : ByteArray)).size + x7_29.size ≤ 9223372036854775807) = true := decide_eq_true c39
                try have c39b2 : (9223372036854775807 < (((((⟨#[110, 111, 100, 101, 32, 102, 40, 41, 32, 114, 101, 116, 117, 114, 110, 115, 32, 40, 121, 58, 32]⟩ : ByteArray) ++ t122) ++ (⟨#[41, 32, 118, 97, 114, 32, 117, 58, 32, 102, 117, 116, 117, 114, 101, 32]⟩ : ByteArray)) ++ t123) ++ (⟨#[59, 32, 108, 101, 116, 32, 117, 32, 61, 32, 97, 115, 121, 110, 99, 32, 103, 40, 41, 59, 32, 121, 32, 61, 32, 97, 119, 97, 105, 116, 32, 117]⟩ : ByteArray)).size + x7_29.size) = False := eq_false (Nat.not_lt.2 c39)
                try have c39b9 : (9223372036854775807 < 21 + t122.size + 16 + t123.size + 32 + x7_29.size) = False := eq_false (by have h_ := c39; simp only [ByteArray.size_append] at h_; exact Nat.not_lt.2 h_)
                by_cases c40 : ((((((⟨#[110, 111, 100, 101, 32, 102, 40, 41, 32, 114, 101, 116, 117, 114, 110, 115, 32, 40, 121, 58, 32]⟩ : ByteArray) ++ t122) ++ (⟨#[41, 32, 118, 97, 114, 32, 117, 58, 32, 102, 117, 116, 117, 114, 101, 32]⟩ : ByteArray)) ++ t123) ++ (⟨#[59, 32, 108, 101, 116, 32, 117, 32, 61, 32, 97, 115, 121, 110, 99, 32, 103, 40, 41, 59, 32, 121, 32, 61, 32, 97, 119, 97, 105, 116, 32, 117]⟩ : ByteArray)) ++ x7_29).size + 27 ≤ 9223372036854775807
                ·rw [if_pos c40] at H
                 have c40b0 := eq_true c40
                 have c40b1 : decide (((((((⟨#[110, 111, 100, 101, 32, 102, 40, 41, 32, 114, 101, 116, 117, 114, 110, 115, 32, 40, 121, 58, 32]⟩ : ByteArray) ++ t122) ++ (⟨#[41, 32, 118, 97, 114, 32, 117, 58, 32, 102, 117, 116, 117, 114, 101, 32]⟩ : ByteArray)) ++ t123) ++ (⟨#[59, 32, 108, 101, 116, 32, 117, 32, 61, 32, 97, 115, 121, 110, 99, 32, 103, 40, 41, 59, 32, 121, 32, 61, 32, 97, 119, 97, 105, 116, 32, 117]⟩ : ByteArray)) ++ x7_29).size + 27 ≤ 9223372036854775807) = true := decide_eq_true c40
                 try have c40b2 : (9223372036854775807 < ((((((⟨#[110, 111, 100, 101, 32, 102, 40, 41, 32, 114, 101, 116, 117, 114, 110, 115, 32, 40, 121, 58, 32]⟩ : ByteArray) ++ t122) ++ (⟨#[41, 32, 118, 97, 114, 32, 117, 58, 32, 102, 117, 116, 117, 114, 101, 32]⟩ : ByteArray)) ++ t123) ++ (⟨#[59, 32, 108, 101, 116, 32, 117, 32, 61, 32, 97, 115, 121, 110, 99, 32, 103, 40, 41, 59, 32, 121, 32, 61, 32, 97, 119, 97, 105, 116, 32, 117]⟩ : ByteArray)) ++ x7_29).size + 27) = False := eq_false (Nat.not_lt.2 c40)
                 try have c40b9 : (9223372036854775807 < 21 + t122.size + 16 + t123.size + 32 + x7_29.size + 27) = False := eq_false (by have h_ := c40; simp only [ByteArray.size_append] at h_; exact Nat.not_lt.2 h_)
                 replace H := Option.bind_eq_some_iff.mp H
                 obtain ⟨t124, A410, H⟩ := H
                 try dsimp only at H
                 have A41 := Aside0.mk A410
                 clear A410
                 by_cases c42 : (((((((⟨#[110, 111, 100, 101, 32, 102, 40, 41, 32, 114, 101, 116, 117, 114, 110, 115, 32, 40, 121, 58, 32]⟩ : ByteArray) ++ t122) ++ (⟨#[41, 32, 118, 97, 114, 32, 117, 58, 32, 102, 117, 116, 117, 114, 101, 32]⟩ : ByteArray)) ++ t123) ++ (⟨#[59, 32, 108, 101, 116, 32, 117, 32, 61, 32, 97, 115, 121, 110, 99, 32, 103, 40, 41, 59, 32, 121, 32, 61, 32, 97, 119, 97, 105, 116, 32, 117]⟩ : ByteArray)) ++ x7_29) ++ (⟨#[59, 32, 116, 101, 108, 32, 110, 111, 100, 101, 32, 103, 40, 41, 32, 114, 101, 116, 117, 114, 110, 115, 32, 40, 120, 58, 32]⟩ : ByteArray)).size + t124.size ≤ 9223372036854775807
                 ·rw [if_pos c42] at H
                  have c42b0 := eq_true c42
                  have c42b1 : decide ((((((((⟨#[110, 111, 100, 101, 32, 102, 40, 41, 32, 114, 101, 116, 117, 114, 110, 115, 32, 40, 121, 58, 32]⟩ : ByteArray) ++ t122) ++ (⟨#[41, 32, 118, 97, 114, 32, 117, 58, 32, 102, 117, 116, 117, 114, 101, 32]⟩ : ByteArray)) ++ t123) ++ (⟨#[59, 32, 108, 101, 116, 32, 117, 32, 61, 32, 97, 115, 121, 110, 99, 32, 103, 40, 41, 59, 32, 121, 32, 61, 32, 97, 119, 97, 105, 116, 32, 117]⟩ : ByteArray)) ++ x7_29) ++ (⟨#[59, 32, 116, 101, 108, 32, 110, 111, 100, 101, 32, 103, 40, 41, 32, 114, 101, 116, 117, 114, 110, 115, 32, 40, 120, 58, 32]⟩ : ByteArray)).size + t124.size ≤ 9223372036854775807) = true := decide_eq_true c42
                  try have c42b2 : (9223372036854775807 < (((((((⟨#[110, 111, 100, 101, 32, 102, 40, 41, 32, 114, 101, 116, 117, 114, 110, 115, 32, 40, 121, 58, 32]⟩ : ByteArray) ++ t122) ++ (⟨#[41, 32, 118, 97, 114, 32, 117, 58, 32, 102, 117, 116, 117, 114, 101, 32]⟩ : ByteArray)) ++ t123) ++ (⟨#[59, 32, 108, 101, 116, 32, 117, 32, 61, 32, 97, 115, 121, 110, 99, 32, 103, 40, 41, 59, 32, 121, 32, 61, 32, 97, 119, 97, 105, 116, 32, 117]⟩ : ByteArray)) ++ x7_29) ++ (⟨#[59, 32, 116, 101, 108, 32, 110, 111, 100, 101, 32, 103, 40, 41, 32, 114, 101, 116, 117, 114, 110, 115, 32, 40, 120, 58, 32]⟩ : ByteArray)).size + t124.size) = False := eq_false (Nat.not_lt.2 c42)
                  try have c42b9 : (9223372036854775807 < 21 + t122.size + 16 + t123.size + 32 + x7_29.size + 27 + t124.size) = False := eq_false (by have h_ := c42; simp only [ByteArray.size_append] at h_; exact Nat.not_lt.2 h_)
                  by_cases c43 : ((((((((⟨#[110, 111, 100, 101, 32, 102, 40, 41, 32, 114, 101, 116, 117, 114, 110, 115, 32, 40, 121, 58, 32]⟩ : ByteArray) ++ t122) ++ (⟨#[41, 32, 118, 97, 114, 32, 117, 58, 32, 102, 117, 116, 117, 114, 101, 32]⟩ : ByteArray)) ++ t123) ++ (⟨#[59, 32, 108, 101, 116, 32, 117, 32, 61, 32, 97, 115, 121, 110, 99, 32, 103, 40, 41, 59, 32, 121, 32, 61, 32, 97, 119, 97, 105, 116, 32, 117]⟩ : ByteArray)) ++ x7_29) ++ (⟨#[59, 32, 116, 101, 108, 32, 110, 111, 100, 101, 32, 103, 40, 41, 32, 114, 101, 116, 117, 114, 110, 115, 32, 40, 120, 58, 32]⟩ : ByteArray)) ++ t124).size + 20 ≤ 9223372036854775807
                  ·rw [if_pos c43] at H
                   have c43b0 := eq_true c43
                   have c43b1 : decide (((((((((⟨#[110, 111, 100, 101, 32, 102, 40, 41, 32, 114, 101, 116, 117, 114, 110, 115, 32, 40, 121, 58, 32]⟩ : ByteArray) ++ t122) ++ (⟨#[41, 32, 118, 97, 114, 32, 117, 58, 32, 102, 117, 116, 117, 114, 101, 32]⟩ : ByteArray)) ++ t123) ++ (⟨#[59, 32, 108, 101, 116, 32, 117, 32, 61, 32, 97, 115, 121, 110, 99, 32, 103, 40, 41, 59, 32, 121, 32, 61, 32, 97, 119, 97, 105, 116, 32, 117]⟩ : ByteArray)) ++ x7_29) ++ (⟨#[59, 32, 116, 101, 108, 32, 110, 111, 100, 101, 32, 103, 40, 41, 32, 114, 101, 116, 117, 114, 110, 115, 32, 40, 120, 58, 32]⟩ : ByteArray)) ++ t124).size + 20 ≤ 9223372036854775807) = true := decide_eq_true c43
                   try have c43b2 : (9223372036854775807 < ((((((((⟨#[110, 111, 100, 101, 32, 102, 40, 41, 32, 114, 101, 116, 117, 114, 110, 115, 32, 40, 121, 58, 32]⟩ : ByteArray) ++ t122) ++ (⟨#[41, 32, 118, 97, 114, 32, 117, 58, 32, 102, 117, 116, 117, 114, 101, 32]⟩ : ByteArray)) ++ t123) ++ (⟨#[59, 32, 108, 101, 116, 32, 117, 32, 61, 32, 97, 115, 121, 110, 99, 32, 103, 40, 41, 59, 32, 121, 32, 61, 32, 97, 119, 97, 105, 116, 32, 117]⟩ : ByteArray)) ++ x7_29) ++ (⟨#[59, 32, 116, 101, 108, 32, 110, 111, 100, 101, 32, 103, 40, 41, 32, 114, 101, 116, 117, 114, 110, 115, 32, 40, 120, 58, 32]⟩ : ByteArray)) ++ t124).size + 20) = False := eq_false (Nat.not_lt.2 c43)
                   try have c43b9 : (9223372036854775807 < 21 + t122.size + 16 + t123.size + 32 + x7_29.size + 27 + t124.size + 20) = False := eq_false (by have h_ := c43; simp only [ByteArray.size_append] at h_; exact Nat.not_lt.2 h_)
                   replace H := Option.bind_eq_some_iff.mp H
                   obtain ⟨⟨t125, t128, t129⟩, A440, H⟩ := H
                   try dsimp only at H
                   have A44 := Aside0.mk A440
                   clear A440
                   by_cases c45 : (!(t128 == 0) || (!(t129 == 0))) = true
                   ·rw [if_pos c45] at H
                    have c45b0 : (!(t128 == 0) || (!(t129 == 0))) = true := c45
                    clear c45
                    obtain rfl := Option.some.inj H
                    go_wp2_with (first | ((with_reducible refine Vf.gate_calleeV rfl ?_); refine Vf.goesLV_ (some 59) rfl rfl Tryd.func35 (by kernel_rfl) rfl #[.bool a1] rfl (by rfl) (by (try simp only [List.map_toArray, List.map_cons, List.map_nil]); first | done | rfl | (simp only [List.length_drop, List.length_take]; rfl)) ?_; (with_reducible refine (girandolelaw05_TypesAwaits_1.calls a1 t122 _ A33.out).mono ?_); rintro e w46 ⟨rfl, hb⟩; refine ⟨_, rfl, ?_⟩; have n0_ := Aside0.mk (below_step (by repeat (first | (with_reducible first | exact HB.out | apply below_alloc | apply pw_below_drewN | apply below_drew1) | exact HB.out)) hb); clear HB; have HB := n0_; clear n0_; (try clear hb); (try clear hb2); (try clear hk); (try clear hi)) | ((with_reducible refine Vf.gate_calleeV rfl ?_); refine Vf.goesLV_ (some 64) rfl rfl Tryd.func35 (by kernel_rfl) rfl #[.bool a0] rfl (by rfl) (by (try simp only [List.map_toArray, List.map_cons, List.map_nil]); first | done | rfl | (simp only [List.length_drop, List.length_take]; rfl)) ?_; (with_reducible refine (girandolelaw05_TypesAwaits_1.calls a0 t123 _ A36.out).mono ?_); rintro e w47 ⟨rfl, hb⟩; refine ⟨_, rfl, ?_⟩; have n0_ := Aside0.mk (below_step (by repeat (first | (with_reducible first | exact HB.out | apply below_alloc | apply pw_below_drewN | apply below_drew1) | exact HB.out)) hb); clear HB; have HB := n0_; clear n0_; (try clear hb); (try clear hb2); (try clear hk); (try clear hi)) | ((with_reducible refine Vf.gate_calleeV rfl ?_); refine Vf.goesLV_ (some 72) rfl rfl Tryd.func35 (by kernel_rfl) rfl #[.bool a0] rfl (by rfl) (by (try simp only [List.map_toArray, List.map_cons, List.map_nil]); first | done | rfl | (simp only [List.length_drop, List.length_take]; rfl)) ?_; (with_reducible refine (girandolelaw05_TypesAwaits_1.calls a0 t124 _ A41.out).mono ?_); rintro e w48 ⟨rfl, hb⟩; refine ⟨_, rfl, ?_⟩; have n0_ := Aside0.mk (below_step (by repeat (first | (with_reducible first | exact HB.out | apply below_alloc | apply pw_below_drewN | apply below_drew1) | exact HB.out)) hb); clear HB; have HB := n0_; clear n0_; (try clear hb); (try clear hb2); (try clear hk); (try clear hi)) | ((with_reducible refine gate_callee (f := 15) rfl ?_); refine goesL_ (some 75) rfl rfl Tryd.func15 (by kernel_rfl) rfl #[.string (((((((((⟨#[110, 111, 100, 101, 32, 102, 40, 41, 32, 114, 101, 116, 117, 114, 110, 115, 32, 40, 121, 58, 32]⟩ : ByteArray) ++ t122) ++ (⟨#[41, 32, 118, 97, 114, 32, 117, 58, 32, 102, 117, 116, 117, 114, 101, 32]⟩ : ByteArray)) ++ t123) ++ (⟨#[59, 32, 108, 101, 116, 32, 117, 32, 61, 32, 97, 115, 121, 110, 99, 32, 103, 40, 41, 59, 32, 121, 32, 61, 32, 97, 119, 97, 105, 116, 32, 117]⟩ : ByteArray)) ++ x7_29) ++ (⟨#[59, 32, 116, 101, 108, 32, 110, 111, 100, 101, 32, 103, 40, 41, 32, 114, 101, 116, 117, 114, 110, 115, 32, 40, 120, 58, 32]⟩ : ByteArray)) ++ t124) ++ (⟨#[41, 32, 108, 101, 116, 32, 120, 32, 61, 32, 48, 32, 60, 32, 49, 59, 32, 116, 101, 108]⟩ : ByteArray))] rfl (by (try simp only [List.map_toArray, List.map_cons, List.map_nil]); first | done | rfl | (simp only [List.length_drop, List.length_take]; rfl)) ?_; (with_reducible refine (parse_Program.calls (((((((((⟨#[110, 111, 100, 101, 32, 102, 40, 41, 32, 114, 101, 116, 117, 114, 110, 115, 32, 40, 121, 58, 32]⟩ : ByteArray) ++ t122) ++ (⟨#[41, 32, 118, 97, 114, 32, 117, 58, 32, 102, 117, 116, 117, 114, 101, 32]⟩ : ByteArray)) ++ t123) ++ (⟨#[59, 32, 108, 101, 116, 32, 117, 32, 61, 32, 97, 115, 121, 110, 99, 32, 103, 40, 41, 59, 32, 121, 32, 61, 32, 97, 119, 97, 105, 116, 32, 117]⟩ : ByteArray)) ++ x7_29) ++ (⟨#[59, 32, 116, 101, 108, 32, 110, 111, 100, 101, 32, 103, 40, 41, 32, 114, 101, 116, 117, 114, 110, 115, 32, 40, 120, 58, 32]⟩ : ByteArray)) ++ t124) ++ (⟨#[41, 32, 108, 101, 116, 32, 120, 32, 61, 32, 48, 32, 60, 32, 49, 59, 32, 116, 101, 108]⟩ : ByteArray)) t125 t128 t129 _ A44.out ?side1).mono ?_); (case side1 => exact Tabs.below HT.out (by repeat (first | (with_reducible first | exact HB.out | apply below_alloc | apply pw_below_drewN | apply below_drew1) | exact HB.out))); rintro e w49 ⟨v126, rfl, ho0, hb⟩; refine ⟨_, rfl, ?_⟩; have n0_ := Aside0.mk (Kd.R_lower ho0 (below_size (by repeat (first | (with_reducible first | exact HB.out | apply below_alloc | apply pw_below_drewN | apply below_drew1) | exact HB.out)))); have n1_ := Aside0.mk (below_step (by repeat (first | (with_reducible first | exact HB.out | apply below_alloc | apply pw_below_drewN | apply below_drew1) | exact HB.out)) hb); clear HB; have HO127 := n0_; have HB := n1_; clear n0_ n1_; (try clear hb); (try clear hb2); (try clear hk); (try clear hi); (try clear ho0)) | ((with_reducible refine gate_dst (N := 13) rfl ?_); (try (refine gate_guard (by rfl) ?_; dsimp only)); refine box_event ?hg (N := 13) ?hd (cs := #[.int .i64 0, .int .i64 0]) (t := 27) ?hr ?_; (case hd => rfl); (case hg => rfl); (case hr => first | (go_simp; done) | (go_simp; rfl)); intro gb130 hg w50 hbox hb; have n0_ := Aside0.mk (Kd.R_below (by (with_reducible repeat (first | apply Kd.R_alloc | apply Kd.R_drewN | apply Kd.R_drew)); exact HO127.out) hb); have n1_ := Aside0.mk (below_step (by repeat (first | (with_reducible first | exact HB.out | apply below_alloc | apply pw_below_drewN | apply below_drew1) | exact HB.out)) hb); have n2_ := Aside0.mk (hbox); have n3_ := Aside0.mk ((by rw [hg]; exact (below_size (by repeat (first | (with_reducible first | exact HB.out | apply below_alloc | apply pw_below_drewN | apply below_drew1) | exact HB.out))) : w.heap.size ≤ gb130)); have n4_ := Aside0.mk ((by rw [hg]; exact (below_size (by repeat (first | (with_reducible first | exact HB.out | apply below_alloc | apply pw_below_drewN | apply below_drew1) | exact HB.out))) : w.heap.size ≤ gb130)); clear HO127; clear HB; have HO127 := n0_; have HB := n1_; have BK130 := n2_; have GW130 := n3_; have GE130 := n4_; clear n0_ n1_ n2_ n3_ n4_; clear hb hbox hg; have hcz51_0 : w50.cell? ⟨gb130, 0, none⟩ = some (.int .i64 0) := (blk_cell BK130.out 0).trans rfl; have hcz51_1 : w50.cell? ⟨gb130, 1, none⟩ = some (.int .i64 0) := (blk_cell BK130.out 1).trans rfl; have hfz51_0 := blk_frozen BK130.out 0; have hfz51_1 := blk_frozen BK130.out 1))
                    go_ret
                    exact ⟨by first | rfl | (simp [errW_none, errW_some] <;> rfl) | (simp only [← hji6]; first | rfl | (simp [errW_none, errW_some] <;> rfl)) | (simp [*, errW_none, errW_some] <;> rfl), by repeat (first | (with_reducible first | exact HB.out | apply below_alloc | apply pw_below_drewN | apply below_drew1 | refine below_set ?_ GE130.out) | exact HB.out)⟩
                   ·rw [if_neg c45] at H
                    have c45b0 : (!(t128 == 0) || (!(t129 == 0))) = false := by simpa using c45
                    clear c45
                    replace H := Option.bind_eq_some_iff.mp H
                    obtain ⟨⟨t131, t132⟩, A520, H⟩ := H
                    try dsimp only at H
                    have A52 := Aside0.mk A520
                    clear A520
                    by_cases c53 : x8_2 = true
                    ·subst c53
                     have H1 : (some ((t131 == 0 && (t132 == 0)) == a0)) = some r := by rw [if_pos rfl] at H; exact H
                     clear H
                     have H := H1
                     clear H1
                     obtain rfl := Option.some.inj H
                     go_wp2_with (first | ((with_reducible refine Vf.gate_calleeV rfl ?_); refine Vf.goesLV_ (some 59) rfl rfl Tryd.func35 (by kernel_rfl) rfl #[.bool a1] rfl (by rfl) (by (try simp only [List.map_toArray, List.map_cons, List.map_nil]); first | done | rfl | (simp only [List.length_drop, List.length_take]; rfl)) ?_; (with_reducible refine (girandolelaw05_TypesAwaits_1.calls a1 t122 _ A33.out).mono ?_); rintro e w54 ⟨rfl, hb⟩; refine ⟨_, rfl, ?_⟩; have n0_ := Aside0.mk (below_step (by repeat (first | (with_reducible first | exact HB.out | apply below_alloc | apply pw_below_drewN | apply below_drew1) | exact HB.out)) hb); clear HB; have HB := n0_; clear n0_; (try clear hb); (try clear hb2); (try clear hk); (try clear hi)) | ((with_reducible refine Vf.gate_calleeV rfl ?_); refine Vf.goesLV_ (some 64) rfl rfl Tryd.func35 (by kernel_rfl) rfl #[.bool a0] rfl (by rfl) (by (try simp only [List.map_toArray, List.map_cons, List.map_nil]); first | done | rfl | (simp only [List.length_drop, List.length_take]; rfl)) ?_; (with_reducible refine (girandolelaw05_TypesAwaits_1.calls a0 t123 _ A36.out).mono ?_); rintro e w55 ⟨rfl, hb⟩; refine ⟨_, rfl, ?_⟩; have n0_ := Aside0.mk (below_step (by repeat (first | (with_reducible first | exact HB.out | apply below_alloc | apply pw_below_drewN | apply below_drew1) | exact HB.out)) hb); clear HB; have HB := n0_; clear n0_; (try clear hb); (try clear hb2); (try clear hk); (try clear hi)) | ((with_reducible refine Vf.gate_calleeV rfl ?_); refine Vf.goesLV_ (some 72) rfl rfl Tryd.func35 (by kernel_rfl) rfl #[.bool a0] rfl (by rfl) (by (try simp only [List.map_toArray, List.map_cons, List.map_nil]); first | done | rfl | (simp only [List.length_drop, List.length_take]; rfl)) ?_; (with_reducible refine (girandolelaw05_TypesAwaits_1.calls a0 t124 _ A41.out).mono ?_); rintro e w56 ⟨rfl, hb⟩; refine ⟨_, rfl, ?_⟩; have n0_ := Aside0.mk (below_step (by repeat (first | (with_reducible first | exact HB.out | apply below_alloc | apply pw_below_drewN | apply below_drew1) | exact HB.out)) hb); clear HB; have HB := n0_; clear n0_; (try clear hb); (try clear hb2); (try clear hk); (try clear hi)) | ((with_reducible refine gate_callee (f := 15) rfl ?_); refine goesL_ (some 75) rfl rfl Tryd.func15 (by kernel_rfl) rfl #[.string (((((((((⟨#[110, 111, 100, 101, 32, 102, 40, 41, 32, 114, 101, 116, 117, 114, 110, 115, 32, 40, 121, 58, 32]⟩ : ByteArray) ++ t122) ++ (⟨#[41, 32, 118, 97, 114, 32, 117, 58, 32, 102, 117, 116, 117, 114, 101, 32]⟩ : ByteArray)) ++ t123) ++ (⟨#[59, 32, 108, 101, 116, 32, 117, 32, 61, 32, 97, 115, 121, 110, 99, 32, 103, 40, 41, 59, 32, 121, 32, 61, 32, 97, 119, 97, 105, 116, 32, 117]⟩ : ByteArray)) ++ x7_29) ++ (⟨#[59, 32, 116, 101, 108, 32, 110, 111, 100, 101, 32, 103, 40, 41, 32, 114, 101, 116, 117, 114, 110, 115, 32, 40, 120, 58, 32]⟩ : ByteArray)) ++ t124) ++ (⟨#[41, 32, 108, 101, 116, 32, 120, 32, 61, 32, 48, 32, 60, 32, 49, 59, 32, 116, 101, 108]⟩ : ByteArray))] rfl (by (try simp only [List.map_toArray, List.map_cons, List.map_nil]); first | done | rfl | (simp only [List.length_drop, List.length_take]; rfl)) ?_; (with_reducible refine (parse_Program.calls (((((((((⟨#[110, 111, 100, 101, 32, 102, 40, 41, 32, 114, 101, 116, 117, 114, 110, 115, 32, 40, 121, 58, 32]⟩ : ByteArray) ++ t122) ++ (⟨#[41, 32, 118, 97, 114, 32, 117, 58, 32, 102, 117, 116, 117, 114, 101, 32]⟩ : ByteArray)) ++ t123) ++ (⟨#[59, 32, 108, 101, 116, 32, 117, 32, 61, 32, 97, 115, 121, 110, 99, 32, 103, 40, 41, 59, 32, 121, 32, 61, 32, 97, 119, 97, 105, 116, 32, 117]⟩ : ByteArray)) ++ x7_29) ++ (⟨#[59, 32, 116, 101, 108, 32, 110, 111, 100, 101, 32, 103, 40, 41, 32, 114, 101, 116, 117, 114, 110, 115, 32, 40, 120, 58, 32]⟩ : ByteArray)) ++ t124) ++ (⟨#[41, 32, 108, 101, 116, 32, 120, 32, 61, 32, 48, 32, 60, 32, 49, 59, 32, 116, 101, 108]⟩ : ByteArray)) t125 t128 t129 _ A44.out ?side1).mono ?_); (case side1 => exact Tabs.below HT.out (by repeat (first | (with_reducible first | exact HB.out | apply below_alloc | apply pw_below_drewN | apply below_drew1) | exact HB.out))); rintro e w57 ⟨v126, rfl, ho0, hb⟩; refine ⟨_, rfl, ?_⟩; have n0_ := Aside0.mk (Kd.R_lower ho0 (below_size (by repeat (first | (with_reducible first | exact HB.out | apply below_alloc | apply pw_below_drewN | apply below_drew1) | exact HB.out)))); have n1_ := Aside0.mk (below_step (by repeat (first | (with_reducible first | exact HB.out | apply below_alloc | apply pw_below_drewN | apply below_drew1) | exact HB.out)) hb); clear HB; have HO127 := n0_; have HB := n1_; clear n0_ n1_; (try clear hb); (try clear hb2); (try clear hk); (try clear hi); (try clear ho0)) | ((with_reducible refine gate_dst (N := 13) rfl ?_); (try (refine gate_guard (by rfl) ?_; dsimp only)); refine box_event ?hg (N := 13) ?hd (cs := #[.int .i64 0, .int .i64 0]) (t := 27) ?hr ?_; (case hd => rfl); (case hg => rfl); (case hr => first | (go_simp; done) | (go_simp; rfl)); intro gb130 hg w58 hbox hb; have n0_ := Aside0.mk (Kd.R_below (by (with_reducible repeat (first | apply Kd.R_alloc | apply Kd.R_drewN | apply Kd.R_drew)); exact HO127.out) hb); have n1_ := Aside0.mk (below_step (by repeat (first | (with_reducible first | exact HB.out | apply below_alloc | apply pw_below_drewN | apply below_drew1) | exact HB.out)) hb); have n2_ := Aside0.mk (hbox); have n3_ := Aside0.mk ((by rw [hg]; exact (below_size (by repeat (first | (with_reducible first | exact HB.out | apply below_alloc | apply pw_below_drewN | apply below_drew1) | exact HB.out))) : w.heap.size ≤ gb130)); have n4_ := Aside0.mk ((by rw [hg]; exact (below_size (by repeat (first | (with_reducible first | exact HB.out | apply below_alloc | apply pw_below_drewN | apply below_drew1) | exact HB.out))) : w.heap.size ≤ gb130)); clear HO127; clear HB; have HO127 := n0_; have HB := n1_; have BK130 := n2_; have GW130 := n3_; have GE130 := n4_; clear n0_ n1_ n2_ n3_ n4_; clear hb hbox hg; have hcz59_0 : w58.cell? ⟨gb130, 0, none⟩ = some (.int .i64 0) := (blk_cell BK130.out 0).trans rfl; have hcz59_1 : w58.cell? ⟨gb130, 1, none⟩ = some (.int .i64 0) := (blk_cell BK130.out 1).trans rfl; have hfz59_0 := blk_frozen BK130.out 0; have hfz59_1 := blk_frozen BK130.out 1; obtain ⟨Ao60, co60, eo60⟩ := Kd.R_slice HO127.out; subst eo60) | ((with_reducible refine gate_callee (f := 32) rfl ?_); refine goesL_ (some 82) rfl rfl Tryd.func32 (by kernel_rfl) rfl #[.slice Ao60 t125.length co60] rfl (by (try simp only [List.map_toArray, List.map_cons, List.map_nil]); first | done | rfl | (simp only [List.length_drop, List.length_take]; rfl)) ?_; (with_reducible refine (types_Check.calls _ _ t125 t131 t132 _ ?side1 ?side2 A52.out).mono ?_); (case side1 => refine (Kd.R_reads' (e := 34) (base := w.heap.size) (ok := fun k_ => True) (n := t125.length) (c := co60) ?_).2.2; exact (by (with_reducible repeat (first | apply Kd.R_alloc | apply Kd.R_drewN | apply Kd.R_drew)); exact (Kd.R_mono (Kd.R_far (p := ⟨gb130, 1, none⟩) (Kd.R_far (p := ⟨gb130, 0, none⟩) (Kd.R_types HO127.out BK130.out (by decide)) (fun _ hk => hk.2) (.int .i64 t128)) (fun _ hk => hk.2) (.int .i64 t129)) (fun _ h_ => h_.1)))); (case side2 => exact (Kd.R_reads' HO127.out).2.1); rintro e w61 ⟨rfl, hb⟩; refine ⟨_, rfl, ?_⟩; have n0_ := Aside0.mk (Kd.R_below (by (with_reducible repeat (first | apply Kd.R_alloc | apply Kd.R_drewN | apply Kd.R_drew)); exact (Kd.R_mono (Kd.R_far (p := ⟨gb130, 1, none⟩) (Kd.R_far (p := ⟨gb130, 0, none⟩) (Kd.R_types HO127.out BK130.out (by decide)) (fun _ hk => hk.2) (.int .i64 t128)) (fun _ hk => hk.2) (.int .i64 t129)) (fun _ h_ => h_.1))) hb); have n1_ := Aside0.mk (blk_below (g := gb130) (o := .cells #[.int .i64 t128, .int .i64 t129] 27 (0, 0)) (by (with_reducible repeat (first | refine blk_drewN ?_ _ | refine blk_drew ?_ | refine blk_alloc ?_ _)); refine blk_put (cs := #[.int .i64 t128, .int .i64 0]) ?_ 1 _ rfl; (with_reducible repeat (first | refine blk_drewN ?_ _ | refine blk_drew ?_ | refine blk_alloc ?_ _)); refine blk_put (cs := #[.int .i64 0, .int .i64 0]) ?_ 0 _ rfl; (with_reducible repeat (first | refine blk_drewN ?_ _ | refine blk_drew ?_ | refine blk_alloc ?_ _)); exact BK130.out) hb); have n2_ := Aside0.mk (below_step (by repeat (first | (with_reducible first | exact HB.out | apply below_alloc | apply pw_below_drewN | apply below_drew1 | refine below_set ?_ GE130.out) | exact HB.out)) hb); clear HO127; clear BK130; clear HB; have HO127 := n0_; have BK130 := n1_; have HB := n2_; clear n0_ n1_ n2_; (try clear hb); (try clear hb2); (try clear hk); (try clear hi)))
                     go_ret
                     exact ⟨by first | rfl | (simp [errW_none, errW_some] <;> rfl) | (simp only [← hji6]; first | rfl | (simp [errW_none, errW_some] <;> rfl)) | (simp [*, errW_none, errW_some] <;> rfl), by repeat (first | (with_reducible first | exact HB.out | apply below_alloc | apply pw_below_drewN | apply below_drew1 | refine below_set ?_ GE130.out) | exact HB.out)⟩
                    ·replace c53 := Bool.eq_false_iff.mpr c53
                     subst c53
                     have H1 : (some ((t131 == 0 && (t132 == 0)) == false)) = some r := by rw [if_neg (show ¬ (false = true) by decide)] at H; exact H
                     clear H
                     have H := H1
                     clear H1
                     obtain rfl := Option.some.inj H
                     go_wp2_with (first | ((with_reducible refine Vf.gate_calleeV rfl ?_); refine Vf.goesLV_ (some 59) rfl rfl Tryd.func35 (by kernel_rfl) rfl #[.bool a1] rfl (by rfl) (by (try simp only [List.map_toArray, List.map_cons, List.map_nil]); first | done | rfl | (simp only [List.length_drop, List.length_take]; rfl)) ?_; (with_reducible refine (girandolelaw05_TypesAwaits_1.calls a1 t122 _ A33.out).mono ?_); rintro e w62 ⟨rfl, hb⟩; refine ⟨_, rfl, ?_⟩; have n0_ := Aside0.mk (below_step (by repeat (first | (with_reducible first | exact HB.out | apply below_alloc | apply pw_below_drewN | apply below_drew1) | exact HB.out)) hb); clear HB; have HB := n0_; clear n0_; (try clear hb); (try clear hb2); (try clear hk); (try clear hi)) | ((with_reducible refine Vf.gate_calleeV rfl ?_); refine Vf.goesLV_ (some 64) rfl rfl Tryd.func35 (by kernel_rfl) rfl #[.bool a0] rfl (by rfl) (by (try simp only [List.map_toArray, List.map_cons, List.map_nil]); first | done | rfl | (simp only [List.length_drop, List.length_take]; rfl)) ?_; (with_reducible refine (girandolelaw05_TypesAwaits_1.calls a0 t123 _ A36.out).mono ?_); rintro e w63 ⟨rfl, hb⟩; refine ⟨_, rfl, ?_⟩; have n0_ := Aside0.mk (below_step (by repeat (first | (with_reducible first | exact HB.out | apply below_alloc | apply pw_below_drewN | apply below_drew1) | exact HB.out)) hb); clear HB; have HB := n0_; clear n0_; (try clear hb); (try clear hb2); (try clear hk); (try clear hi)) | ((with_reducible refine Vf.gate_calleeV rfl ?_); refine Vf.goesLV_ (some 72) rfl rfl Tryd.func35 (by kernel_rfl) rfl #[.bool a0] rfl (by rfl) (by (try simp only [List.map_toArray, List.map_cons, List.map_nil]); first | done | rfl | (simp only [List.length_drop, List.length_take]; rfl)) ?_; (with_reducible refine (girandolelaw05_TypesAwaits_1.calls a0 t124 _ A41.out).mono ?_); rintro e w64 ⟨rfl, hb⟩; refine ⟨_, rfl, ?_⟩; have n0_ := Aside0.mk (below_step (by repeat (first | (with_reducible first | exact HB.out | apply below_alloc | apply pw_below_drewN | apply below_drew1) | exact HB.out)) hb); clear HB; have HB := n0_; clear n0_; (try clear hb); (try clear hb2); (try clear hk); (try clear hi)) | ((with_reducible refine gate_callee (f := 15) rfl ?_); refine goesL_ (some 75) rfl rfl Tryd.func15 (by kernel_rfl) rfl #[.string (((((((((⟨#[110, 111, 100, 101, 32, 102, 40, 41, 32, 114, 101, 116, 117, 114, 110, 115, 32, 40, 121, 58, 32]⟩ : ByteArray) ++ t122) ++ (⟨#[41, 32, 118, 97, 114, 32, 117, 58, 32, 102, 117, 116, 117, 114, 101, 32]⟩ : ByteArray)) ++ t123) ++ (⟨#[59, 32, 108, 101, 116, 32, 117, 32, 61, 32, 97, 115, 121, 110, 99, 32, 103, 40, 41, 59, 32, 121, 32, 61, 32, 97, 119, 97, 105, 116, 32, 117]⟩ : ByteArray)) ++ x7_29) ++ (⟨#[59, 32, 116, 101, 108, 32, 110, 111, 100, 101, 32, 103, 40, 41, 32, 114, 101, 116, 117, 114, 110, 115, 32, 40, 120, 58, 32]⟩ : ByteArray)) ++ t124) ++ (⟨#[41, 32, 108, 101, 116, 32, 120, 32, 61, 32, 48, 32, 60, 32, 49, 59, 32, 116, 101, 108]⟩ : ByteArray))] rfl (by (try simp only [List.map_toArray, List.map_cons, List.map_nil]); first | done | rfl | (simp only [List.length_drop, List.length_take]; rfl)) ?_; (with_reducible refine (parse_Program.calls (((((((((⟨#[110, 111, 100, 101, 32, 102, 40, 41, 32, 114, 101, 116, 117, 114, 110, 115, 32, 40, 121, 58, 32]⟩ : ByteArray) ++ t122) ++ (⟨#[41, 32, 118, 97, 114, 32, 117, 58, 32, 102, 117, 116, 117, 114, 101, 32]⟩ : ByteArray)) ++ t123) ++ (⟨#[59, 32, 108, 101, 116, 32, 117, 32, 61, 32, 97, 115, 121, 110, 99, 32, 103, 40, 41, 59, 32, 121, 32, 61, 32, 97, 119, 97, 105, 116, 32, 117]⟩ : ByteArray)) ++ x7_29) ++ (⟨#[59, 32, 116, 101, 108, 32, 110, 111, 100, 101, 32, 103, 40, 41, 32, 114, 101, 116, 117, 114, 110, 115, 32, 40, 120, 58, 32]⟩ : ByteArray)) ++ t124) ++ (⟨#[41, 32, 108, 101, 116, 32, 120, 32, 61, 32, 48, 32, 60, 32, 49, 59, 32, 116, 101, 108]⟩ : ByteArray)) t125 t128 t129 _ A44.out ?side1).mono ?_); (case side1 => exact Tabs.below HT.out (by repeat (first | (with_reducible first | exact HB.out | apply below_alloc | apply pw_below_drewN | apply below_drew1) | exact HB.out))); rintro e w65 ⟨v126, rfl, ho0, hb⟩; refine ⟨_, rfl, ?_⟩; have n0_ := Aside0.mk (Kd.R_lower ho0 (below_size (by repeat (first | (with_reducible first | exact HB.out | apply below_alloc | apply pw_below_drewN | apply below_drew1) | exact HB.out)))); have n1_ := Aside0.mk (below_step (by repeat (first | (with_reducible first | exact HB.out | apply below_alloc | apply pw_below_drewN | apply below_drew1) | exact HB.out)) hb); clear HB; have HO127 := n0_; have HB := n1_; clear n0_ n1_; (try clear hb); (try clear hb2); (try clear hk); (try clear hi); (try clear ho0)) | ((with_reducible refine gate_dst (N := 13) rfl ?_); (try (refine gate_guard (by rfl) ?_; dsimp only)); refine box_event ?hg (N := 13) ?hd (cs := #[.int .i64 0, .int .i64 0]) (t := 27) ?hr ?_; (case hd => rfl); (case hg => rfl); (case hr => first | (go_simp; done) | (go_simp; rfl)); intro gb130 hg w66 hbox hb; have n0_ := Aside0.mk (Kd.R_below (by (with_reducible repeat (first | apply Kd.R_alloc | apply Kd.R_drewN | apply Kd.R_drew)); exact HO127.out) hb); have n1_ := Aside0.mk (below_step (by repeat (first | (with_reducible first | exact HB.out | apply below_alloc | apply pw_below_drewN | apply below_drew1) | exact HB.out)) hb); have n2_ := Aside0.mk (hbox); have n3_ := Aside0.mk ((by rw [hg]; exact (below_size (by repeat (first | (with_reducible first | exact HB.out | apply below_alloc | apply pw_below_drewN | apply below_drew1) | exact HB.out))) : w.heap.size ≤ gb130)); have n4_ := Aside0.mk ((by rw [hg]; exact (below_size (by repeat (first | (with_reducible first | exact HB.out | apply below_alloc | apply pw_below_drewN | apply below_drew1) | exact HB.out))) : w.heap.size ≤ gb130)); clear HO127; clear HB; have HO127 := n0_; have HB := n1_; have BK130 := n2_; have GW130 := n3_; have GE130 := n4_; clear n0_ n1_ n2_ n3_ n4_; clear hb hbox hg; have hcz67_0 : w66.cell? ⟨gb130, 0, none⟩ = some (.int .i64 0) := (blk_cell BK130.out 0).trans rfl; have hcz67_1 : w66.cell? ⟨gb130, 1, none⟩ = some (.int .i64 0) := (blk_cell BK130.out 1).trans rfl; have hfz67_0 := blk_frozen BK130.out 0; have hfz67_1 := blk_frozen BK130.out 1; obtain ⟨Ao68, co68, eo68⟩ := Kd.R_slice HO127.out; subst eo68) | ((with_reducible refine gate_callee (f := 32) rfl ?_); refine goesL_ (some 82) rfl rfl Tryd.func32 (by kernel_rfl) rfl #[.slice Ao68 t125.length co68] rfl (by (try simp only [List.map_toArray, List.map_cons, List.map_nil]); first | done | rfl | (simp only [List.length_drop, List.length_take]; rfl)) ?_; (with_reducible refine (types_Check.calls _ _ t125 t131 t132 _ ?side1 ?side2 A52.out).mono ?_); (case side1 => refine (Kd.R_reads' (e := 34) (base := w.heap.size) (ok := fun k_ => True) (n := t125.length) (c := co68) ?_).2.2; exact (by (with_reducible repeat (first | apply Kd.R_alloc | apply Kd.R_drewN | apply Kd.R_drew)); exact (Kd.R_mono (Kd.R_far (p := ⟨gb130, 1, none⟩) (Kd.R_far (p := ⟨gb130, 0, none⟩) (Kd.R_types HO127.out BK130.out (by decide)) (fun _ hk => hk.2) (.int .i64 t128)) (fun _ hk => hk.2) (.int .i64 t129)) (fun _ h_ => h_.1)))); (case side2 => exact (Kd.R_reads' HO127.out).2.1); rintro e w69 ⟨rfl, hb⟩; refine ⟨_, rfl, ?_⟩; have n0_ := Aside0.mk (Kd.R_below (by (with_reducible repeat (first | apply Kd.R_alloc | apply Kd.R_drewN | apply Kd.R_drew)); exact (Kd.R_mono (Kd.R_far (p := ⟨gb130, 1, none⟩) (Kd.R_far (p := ⟨gb130, 0, none⟩) (Kd.R_types HO127.out BK130.out (by decide)) (fun _ hk => hk.2) (.int .i64 t128)) (fun _ hk => hk.2) (.int .i64 t129)) (fun _ h_ => h_.1))) hb); have n1_ := Aside0.mk (blk_below (g := gb130) (o := .cells #[.int .i64 t128, .int .i64 t129] 27 (0, 0)) (by (with_reducible repeat (first | refine blk_drewN ?_ _ | refine blk_drew ?_ | refine blk_alloc ?_ _)); refine blk_put (cs := #[.int .i64 t128, .int .i64 0]) ?_ 1 _ rfl; (with_reducible repeat (first | refine blk_drewN ?_ _ | refine blk_drew ?_ | refine blk_alloc ?_ _)); refine blk_put (cs := #[.int .i64 0, .int .i64 0]) ?_ 0 _ rfl; (with_reducible repeat (first | refine blk_drewN ?_ _ | refine blk_drew ?_ | refine blk_alloc ?_ _)); exact BK130.out) hb); have n2_ := Aside0.mk (below_step (by repeat (first | (with_reducible first | exact HB.out | apply below_alloc | apply pw_below_drewN | apply below_drew1 | refine below_set ?_ GE130.out) | exact HB.out)) hb); clear HO127; clear BK130; clear HB; have HO127 := n0_; have BK130 := n1_; have HB := n2_; clear n0_ n1_ n2_; (try clear hb); (try clear hb2); (try clear hk); (try clear hi)))
                     go_ret
                     exact ⟨by first | rfl | (simp [errW_none, errW_some] <;> rfl) | (simp only [← hji6]; first | rfl | (simp [errW_none, errW_some] <;> rfl)) | (simp [*, errW_none, errW_some] <;> rfl), by repeat (first | (with_reducible first | exact HB.out | apply below_alloc | apply pw_below_drewN | apply below_drew1 | refine below_set ?_ GE130.out) | exact HB.out)⟩
                  ·rw [if_neg c43] at H
                   exact absurd H (by simp)
                 ·rw [if_neg c42] at H
                  exact absurd H (by simp)
                ·rw [if_neg c40] at H
                 exact absurd H (by simp)
               ·rw [if_neg c39] at H
                exact absurd H (by simp)
              ·rw [if_neg c38] at H
               exact absurd H (by simp)
             ·rw [if_neg c37] at H
              exact absurd H (by simp)
            ·rw [if_neg c35] at H
             exact absurd H (by simp)
           ·rw [if_neg c34] at H
            exact absurd H (by simp)
   ·rw [if_neg c8] at H
    exact absurd H (by simp)
  ·rw [if_neg c7] at H
   exact absurd H (by simp)
 ·replace c5 := Bool.eq_false_iff.mpr c5
  subst c5
  have H1 : (some false) = some r := by rw [if_neg (show ¬ (false = true) by decide)] at H; exact H
  clear H
  have H := H1
  clear H1
  obtain rfl := Option.some.inj H
  go_enter Tryd.func11, Tryd.ntmps11
  go_wp2_with (first | ((with_reducible refine gate_callee (f := 31) rfl ?_); refine goesL_ (some 14) rfl rfl Tryd.func31 (by kernel_rfl) rfl #[] rfl (by (try simp only [List.map_toArray, List.map_cons, List.map_nil]); first | done | rfl | (simp only [List.length_drop, List.length_take]; rfl)) ?_; (with_reducible refine (girandolelaw05_awake.calls  false _ A4.out ?side1).mono ?_); (case side1 => exact Tabs.below HT.out (by repeat (first | (with_reducible first | exact HB.out | apply below_alloc | apply pw_below_drewN | apply below_drew1) | exact HB.out))); rintro e w70 ⟨rfl, hb⟩; refine ⟨_, rfl, ?_⟩; have n0_ := Aside0.mk (below_step (by repeat (first | (with_reducible first | exact HB.out | apply below_alloc | apply pw_below_drewN | apply below_drew1) | exact HB.out)) hb); clear HB; have HB := n0_; clear n0_; (try clear hb); (try clear hb2); (try clear hk); (try clear hi)))
  go_ret
  exact ⟨by first | rfl | (simp [errW_none, errW_some] <;> rfl) | (simp [*, errW_none, errW_some] <;> rfl), by repeat (first | (with_reducible first | exact HB.out | apply below_alloc | apply pw_below_drewN | apply below_drew1) | exact HB.out)⟩

end Go.Proofs.YtjafllnbgfcchaaDoor.XTB
