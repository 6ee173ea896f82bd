/- The statement ValueParts: for every two numbers, a division's parts are the whole. No condition. -/
import Derived.Test.YtnlkjimpefebbaaRows
import Derived.Test.YtnlkjimpefebbaaVal
import Derived.WalkKit
import Derived.ProofKit
import Derived.OpenShut
import Derived.ShutString
import Derived.ChangeOld
import Derived.Below
import Derived.SizedLaws
namespace Go.Proofs.Ytnlkjimpefebbaa.Wk
open Go Go.RowKit Go.Proofs.Ytnlkjimpefebbaa.PValueApplies Go.Proofs.YtnlkjimpefebbaaW.PrintWords Go.Proofs.YtnlkjimpefebbaaW.PrintLast
set_option maxHeartbeats 1600000 in
theorem parts_walk (a b : Int) (w : World) (q r p : Int) (hb : 0 < b ∨ b < 0) (hr : r = 0 ∨ (0 < r ∧ 0 ≤ a ∧ (0 < b → r < b) ∧ (b < 0 → b < -r)) ∨ (r < 0 ∧ a < 0 ∧ (0 < b → -r < b) ∧ (b < 0 → b < r))) (hl : -9223372036854775808 < r)
    (hq : value_Apply.f ⟨#[47]⟩ [a, b] = some q) (hm : value_Apply.f ⟨#[109, 111, 100]⟩ [a, b] = some r) (hp : value_Apply.f ⟨#[42]⟩ [q, b] = some p) (hs : value_Apply.f ⟨#[43]⟩ [p, r] = some a) (hh : r ≤ 9223372036854775807) :
    Calls Try.prog 6 #[.int .i64 a, .int .i64 b] w fun e w' => e = .returned (.bool true) ∧ Below w.heap.size w w' := by
  have Hq := Lib.hid hq
  have Hm := Lib.hid hm
  have Hp := Lib.hid hp
  have Hs := Lib.hid hs
  clear hq hm hp hs
  have hb0 : (b == 0) = false := by simpa using (by omega : ¬ b = 0)
  rcases hb with hb | hb <;> rcases hr with rfl | ⟨h1, h2, h3, h4⟩ | ⟨h1, h2, h3, h4⟩
  all_goals first | (have h5 := h3 hb; clear h3 h4) | (have h5 := h4 hb; clear h3 h4) | skip
  all_goals
    go_enter Try.func6, Try.ntmps6
    go_wp2_with fail
    refine (awake_any _).mono ?_
    rintro e w1 ⟨rfl, hB1⟩
    have HB := Lib.hid hB1; clear hB1
    go_wp2_with fail
    refine (apply2 _ _ _ _ _ _ Hq.out (by go_simp) (by go_simp)).mono ?_
    rintro e w2 ⟨rfl, ⟨n2, rfl⟩⟩
    go_wp2_with fail
    refine (apply2 _ _ _ _ _ _ Hm.out (by go_simp) (by go_simp)).mono ?_
    rintro e w2 ⟨rfl, ⟨n3, rfl⟩⟩
    go_wp2_with fail
    refine (apply2 _ _ _ _ _ _ Hp.out (by go_simp) (by go_simp)).mono ?_
    rintro e w2 ⟨rfl, ⟨n4, rfl⟩⟩
    go_wp2_with fail
    refine (apply2 _ _ _ _ _ _ Hs.out (by go_simp) (by go_simp)).mono ?_
    rintro e w2 ⟨rfl, ⟨n5, rfl⟩⟩
    go_wp2_with fail
    go_ret
    refine ⟨by rfl, ?_⟩
    repeat (first | (with_reducible first | exact HB.out | apply below_alloc | apply pw_below_drewN | apply below_drew1) | exact HB.out)

theorem parts_zero (a : Int) (w : World) : Calls Try.prog 6 #[.int .i64 a, .int .i64 0] w fun e w' => e = .returned (.bool true) ∧ Below w.heap.size w w' := by
  go_enter Try.func6, Try.ntmps6
  go_wp2_with fail
  refine (awake_any _).mono ?_
  rintro e w1 ⟨rfl, hB1⟩
  have HB := Lib.hid hB1; clear hB1
  go_wp2_with fail
  refine (awake_any _).mono ?_
  rintro e w2 ⟨rfl, hB2⟩
  have HB2 := Lib.hid hB2; clear hB2
  go_wp2_with fail
  go_ret
  exact ⟨by rfl, below_then HB.out HB.out.size HB2.out⟩

theorem parts_any (a b : Int) (w : World) (wa : (Lit.int .i64 a).wf = true) (wb : (Lit.int .i64 b).wf = true) :
    Calls Try.prog 6 #[.int .i64 a, .int .i64 b] w fun e w' => e = .returned (.bool true) ∧ Below w.heap.size w w' := by
  have ha := wf_bounds wa
  have hb := wf_bounds wb
  by_cases h0 : b = 0
  · subst h0; exact parts_zero a w
  · have hm := Int.tmod_add_mul_tdiv a b
    have hs : wrap64 (wrap64 (wrap64 (Int.tdiv a b) * b) + Int.tmod a b) = a := by
      rw [wrap64_mul, wrap64_add, Int.mul_comm, Int.add_comm, hm]; unfold wrap64; omega
    have hn : (Int.tmod a b).natAbs < b.natAbs := by rw [Int.natAbs_tmod]; exact Nat.mod_lt _ (by omega)
    have hp : 0 ≤ a → 0 ≤ Int.tmod a b := fun h => Int.tmod_nonneg b h
    have hq : a < 0 → Int.tmod a b ≤ 0 := fun h => by
      have h1 := Int.tmod_nonneg (a := -a) b (by omega)
      rw [Int.neg_tmod] at h1
      omega
    exact parts_walk a b w _ (Int.tmod a b) _ (by omega) (by omega) (by omega) (f_div a b h0) (f_mod a b h0) (f_mul _ _) (by rw [f_add, hs]) (by omega)
end Go.Proofs.Ytnlkjimpefebbaa.Wk
namespace Go.Proofs.Ytnlkjimpefebbaa.valueParts
open Go.ChangeShapes Go.WideShapes Go.ChangeAt Go.RowKit
open Go.ChangeMaps (open_string shut_string)
theorem own : ownKnob Try.prog.godebug = none := by kernel_rfl
set_option maxRecDepth 100000 in
theorem lifted (os : Os) (started : os.Started) (H : Type) (enc : TypeId × Value → H) :
    ReturnsInHanded {} Try.checked os 6 .any (Rows.valuePartsSpec.pre6 enc Try.prog Try.f6 Rows.valuePartsRow.domain false) (Rows.valuePartsSpec.post enc Try.prog Try.f6 false true false false) := by
  refine returnsInHanded_of_change_sized (C := Try.checked) own started (by kernel_rfl) Try.func6
    (ChangeSpec.witness6 (enc := enc) (C := Try.checked) false ⟨#[], #[.int .i64 0, .int .i64 0], []⟩ 8 (by kernel_rfl) (by kernel_rfl) (by kernel_rfl) (by kernel_rfl)) ?_
  intro W base args ds gs before hval0 hW hcnd hsz0 _
  have hval : ∀ (j : Nat) t v, Try.f6.params[j]? = some t → args[j]? = some v → Value.okWide Try.prog W .any base t v := hval0
  have hW' := hW
  obtain ⟨p, q, hA0, hV, rfl, hfz, hnd⟩ := hW
  have hA : DataW.TrodAll enc Try.prog W 0 (fun _ => true) true Try.f6.params.toList args.toList ds p := hA0
  rw [Try.params6] at hA hval
  obtain ⟨v0, vs0, d0, ds0, p0, q0, hargs, rfl, rfl, h0, r0⟩ := trodAll_cons hA
  obtain ⟨v1, vs1, d1, ds1, p1, q1, rfl, rfl, rfl, h1, r1⟩ := trodAll_cons r0
  obtain ⟨rfl, rfl, rfl⟩ := trodAll_nil r1
  obtain rfl : args = #[v0, v1] := by cases args; simp_all
  obtain ⟨rfl, rfl⟩ := trodVars_none hV
  obtain ⟨a0, rfl, rfl, rfl, w0⟩ := open_int Try.underlying2 (hval 0 2 v0 rfl rfl) h0
  obtain ⟨a1, rfl, rfl, rfl, w1⟩ := open_int Try.underlying2 (hval 1 2 v1 rfl rfl) h1
  clear hA0 hval0 hsz0
  refine (Wk.parts_any a0 a1 W w0 w1).mono fun e W' ⟨he, bel⟩ => ?_
  subst he
  exact ⟨_, rfl, _, _, _, [], _, [], hW', trodAll_mk1 (shut_bool Try.underlying4 _), (trodAll_cons_mk (shut_int Try.underlying2 w0) (trodAll_cons_mk (shut_int Try.underlying2 w1) trodAll_mk0)), rfl, bel.frame _, fun h => by cases h⟩
theorem over : Rows.valuePartsRow.holds Try.pinned (OpenSpec.ofChange Rows.valuePartsSpec) :=
  OpenClaim.holds_of_wide 6 Try.f6 rfl rfl rfl rfl rfl rfl rfl ⟨rfl, rfl, rfl, rfl, rfl⟩ rfl rfl rfl rfl rfl (by kernel_rfl) Try.func6 (by kernel_rfl)
    (of_decide_eq_true (by kernel_rfl)) (by unfold Func.isWrapper; first | (rw [if_pos (by decide +kernel)]; kernel_rfl) | (rw [if_neg (by decide +kernel)]; exact ⟨rfl, rfl⟩))
    (fun os started H enc _ => lifted os started H enc)
theorem proved : Rows.ValuePartsSaid := over
end Go.Proofs.Ytnlkjimpefebbaa.valueParts
namespace Go.Proofs.Ytnlkjimpefebbaa
/-- The row, under a short name, for the claim. -/
theorem valueParts_holds : Rows.ValuePartsSaid := valueParts.proved
end Go.Proofs.Ytnlkjimpefebbaa
