/- What value.Apply does with two numbers, by the printed contract; facts on wrapping. No condition. -/
import Derived.Test.YtnlkjimpefebbaaPValueAppliesx2
import Derived.WalkLawsBesides
import Derived.Lib.Hide
namespace Go.Proofs.Ytnlkjimpefebbaa.Wk
open Go Go.RowKit Go.Proofs.Ytnlkjimpefebbaa.PValueApplies Go.Proofs.YtnlkjimpefebbaaW.PrintWords Go.Proofs.YtnlkjimpefebbaaW.PrintLast

theorem C2 {W : World} {g : Nat} {a b : Int} (h0 : W.cell? ⟨g, 0, none⟩ = some (.int .i64 a)) (h1 : W.cell? ⟨g, 1, none⟩ = some (.int .i64 b)) : Kd.C (Kd.int .i64) W (some ⟨g, 0, none⟩) 2 [a, b] := by
  refine ⟨rfl, by omega, fun _ => ⟨_, rfl, ?_⟩⟩
  intro j p hp
  match j, hp with
  | 0, hp => 
    obtain rfl : a = p := by simpa using hp
    exact ⟨[.int .i64 a], rfl, rfl, fun i u hu => by
      match i, hu with
      | 0, hu => 
        obtain rfl := Option.some.inj hu
        simpa [Kd.int, Kd.scalar, Addr.add] using h0⟩
  | 1, hp => 
    obtain rfl : b = p := by simpa using hp
    exact ⟨[.int .i64 b], rfl, rfl, fun i u hu => by
      match i, hu with
      | 0, hu => 
        obtain rfl := Option.some.inj hu
        simpa [Kd.int, Kd.scalar, Addr.add] using h1⟩

theorem apply2 (op : ByteArray) (a b r : Int) (g : Nat) (w : World) (h : value_Apply.f op [a, b] = some r) (h0 : w.cell? ⟨g, 0, none⟩ = some (.int .i64 a)) (h1 : w.cell? ⟨g, 1, none⟩ = some (.int .i64 b)) :
    Calls Try.prog 22 #[.string op, .slice (some ⟨g, 0, none⟩) 2 2] w fun e w' => e = .returned (.int .i64 r) ∧ Drawn0 w w' :=
  value_Apply.calls op (some ⟨g, 0, none⟩) 2 [a, b] r w (C2 h0 h1) (Nat.le_refl _) h

theorem awake_eq : girandolelaw10_awake.f = some true := by decide +kernel
theorem awake_any (w : World) : Calls Try.prog 20 #[] w fun e w' => e = .returned (.bool true) ∧ Below w.heap.size w w' := girandolelaw10_awake.calls true w awake_eq



theorem wf_bounds {n : Int} (h : (Lit.int .i64 n).wf = true) : -9223372036854775808 ≤ n ∧ n ≤ 9223372036854775807 := by
  simpa [Lit.wf, IntKind.min, IntKind.max, IntKind.signed, IntKind.bits] using h
theorem wrap64_congr {a b : Int} (h : a % 18446744073709551616 = b % 18446744073709551616) : wrap64 a = wrap64 b := by unfold wrap64; omega
theorem wrap64_mod (a : Int) : wrap64 a % 18446744073709551616 = a % 18446744073709551616 := by unfold wrap64; omega
theorem wrap64_mul (a b : Int) : wrap64 (wrap64 a * b) = wrap64 (a * b) := wrap64_congr (by rw [Int.mul_emod, wrap64_mod, ← Int.mul_emod])
theorem wrap64_add (a b : Int) : wrap64 (wrap64 a + b) = wrap64 (a + b) := wrap64_congr (by rw [Int.add_emod, wrap64_mod, ← Int.add_emod])

theorem f_div (a b : Int) (hb : b ≠ 0) : value_Apply.f ⟨#[47]⟩ [a, b] = some (wrap64 (Int.tdiv a b)) := by
  have e : (⟨#[47]⟩ : ByteArray).toList = [47] := by decide +kernel
  unfold value_Apply.f value_rest.f
  simp only [e]
  by_cases h1 : b = -1
  · subst h1; simp [rd]
  · simp [rd, h1, hb]
theorem f_mod (a b : Int) (hb : b ≠ 0) : value_Apply.f ⟨#[109, 111, 100]⟩ [a, b] = some (Int.tmod a b) := by
  have e : (⟨#[109, 111, 100]⟩ : ByteArray).toList = [109, 111, 100] := by decide +kernel
  unfold value_Apply.f value_rest.f
  simp only [e]
  by_cases h1 : b = -1
  · subst h1; simp [rd]
  · simp [rd, h1, hb]
theorem f_mul (a b : Int) : value_Apply.f ⟨#[42]⟩ [a, b] = some (wrap64 (a * b)) := by
  have e : (⟨#[42]⟩ : ByteArray).toList = [42] := by decide +kernel
  unfold value_Apply.f
  simp only [e]
  simp [rd]
theorem f_add (a b : Int) : value_Apply.f ⟨#[43]⟩ [a, b] = some (wrap64 (a + b)) := by
  have e : (⟨#[43]⟩ : ByteArray).toList = [43] := by decide +kernel
  unfold value_Apply.f
  simp only [e]
  simp [rd]

end Go.Proofs.Ytnlkjimpefebbaa.Wk
