/- FeedBack's second argument, a slice of slices of integers, opened. -/
import Derived.Test.YtnlkjimpefebbaaDoorFeedLines
import Derived.Deep.Matrix
namespace Go.Proofs.YtnlkjimpefebbaaDoor.Back
set_option linter.unusedVariables false
open Go Go.RowKit Go.Proofs.YtnlkjimpefebbaaDoorW.PrintWords Go.Proofs.YtnlkjimpefebbaaDoorW.PrintLast
theorem inner_C {W : World} {A : Option Addr} {L C : Nat} {Z : List Int} (hL : L ≤ C) (hC : C ≤ maxLen) (hZ : Z.length = C) (h0 : A = none → C = 0)
    (h : ∀ a', A = some a' → ∀ c, c < C → W.cell? (a'.add c) = some (.int .i64 (Z.getD c 0))) : (Kd.int .i64).C W A (Z.take L).length (Z.take L) := by
  refine Kd.C_of_reads (d := (0 : Int)) (h1 := fun _ => rfl) ⟨rfl, by unfold maxLen at hC; simp; omega, fun hn => ?_⟩
  have hl : (Z.take L).length = L := by simp; omega
  cases A with
  | none => have := h0 rfl; omega
  | some a =>
    refine ⟨a, rfl, fun j hj => ?_⟩
    rw [h a rfl j (by omega)]
    have hj2 : j < L := by omega
    simp [List.getD_eq_getElem?_getD, hj2]
theorem outer_C {W : World} {a : Addr} {len cap : Nat} {A : Nat → Option Addr} {L C : Nat → Nat} {Z : Nat → List Int} (hlen : len ≤ cap) (hcap : cap ≤ maxLen)
    (h : ∀ r, r < cap → W.cell? (a.add r) = some (.slice (A r) (L r) (C r)) ∧ L r ≤ C r ∧ C r ≤ maxLen ∧ (Z r).length = C r ∧ (∀ n ∈ Z r, (Lit.int .i64 n).wf = true) ∧ (A r = none → C r = 0) ∧
        ∀ a', A r = some a' → 0 ≤ a'.block ∧ ∀ c, c < C r → W.cell? (a'.add c) = some (.int .i64 ((Z r).getD c 0))) :
    ∃ l : List (List Int), len = l.length ∧ (Kd.slice 2 (Kd.int .i64)).C W (some a) l.length l ∧ l.length ≤ cap ∧ ∀ r ∈ l, ∀ x ∈ r, inR x := by
  refine ⟨(List.range len).map fun r => (Z r).take (L r), by simp, ⟨rfl, by unfold maxLen at hcap; simp; omega, fun hn => ⟨a, rfl, fun j p hj => ?_⟩⟩, by simpa using hlen, ?_⟩
  · have hjl : j < len := by have := (List.getElem?_eq_some_iff.1 hj).1; simpa using this
    rw [List.getElem?_map, List.getElem?_range hjl] at hj
    have hp : (Z j).take (L j) = p := Option.some.inj hj
    subst hp
    obtain ⟨hc, h1, h2, h3, h4, h5, h6⟩ := h j (by omega)
    have hl : ((Z j).take (L j)).length = L j := by simp; omega
    refine ⟨[.slice (A j) ((Z j).take (L j)).length (C j)], rfl, ⟨_, _, rfl, by omega, inner_C h1 h2 h3 h5 (fun a' ha => (h6 a' ha).2)⟩, fun i u hu => ?_⟩
    cases i with
    | zero =>
      have e : Value.slice (A j) ((Z j).take (L j)).length (C j) = u := by simpa using hu
      rw [← e, hl]
      have e2 : j * (Kd.slice 2 (Kd.int .i64)).sz + 0 = j := Nat.mul_one j
      rw [e2]
      exact hc
    | succ i => simp at hu
  · intro r hr x hx
    obtain ⟨j, hj, rfl⟩ := List.mem_map.1 hr
    obtain ⟨_, _, _, _, h4, _⟩ := h j (by have := List.mem_range.1 hj; omega)
    have := h4 x (List.mem_of_mem_take hx)
    simpa [Lit.wf, IntKind.min, IntKind.max, IntKind.signed, IntKind.bits, inR] using this
end Go.Proofs.YtnlkjimpefebbaaDoor.Back
