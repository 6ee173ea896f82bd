/- What the feed reads of a text, plain: parting at a byte, numbers by tens. -/
import Derived.Lib.SplitLaws
import Derived.Lib.ParseIntB
import Derived.Test.YtnlkjimpefebbaaDoorFeedLib
namespace Go.Proofs.YtnlkjimpefebbaaDoor.FP
set_option linter.unusedVariables false
open Go Go.Proofs.YtnlkjimpefebbaaDoor.Fl
/-- Parted at each c: what is open, then the rest. -/
def sp (c : UInt8) : List UInt8 → List UInt8 → List (List UInt8)
  | acc, [] => [acc]
  | acc, x :: l => if x = c then acc :: sp c [] l else sp c (acc ++ [x]) l
theorem sp_splitK (c : UInt8) : ∀ (l acc : List UInt8), sp c acc l = match Lib.splitK [c] 0 (l.count c) l with | h :: t => (acc ++ h) :: t | [] => [] := by
  intro l
  induction l with
  | nil => intro acc; simp [sp, Lib.splitK]
  | cons x l ih =>
    intro acc
    by_cases hx : x = c
    · subst hx
      rw [sp, if_pos rfl, ih []]
      have hc : (x :: l).count x = l.count x + 1 := by simp
      have hi : Lib.index (x :: l) [x] = 0 := by rw [Lib.index]; simp [List.isPrefixOf]
      rw [hc, Lib.splitK, hi]
      simp
      split <;> simp_all
    · rw [sp, if_neg hx, ih]
      have hc : (x :: l).count c = l.count c := by simp [hx]
      have hi : Lib.index (x :: l) [c] = if Lib.index l [c] == -1 then -1 else Lib.index l [c] + 1 := by
        have hp : ([c] : List UInt8).isPrefixOf (x :: l) = false := by simp [List.isPrefixOf, Ne.symm hx]
        rw [Lib.index, hp]; simp
      rw [hc]
      cases hk : l.count c with
      | zero => simp [Lib.splitK]
      | succ k =>
        rw [Lib.splitK, Lib.splitK, hi]
        have hge := Lib.index_ge l [c]
        by_cases hm : Lib.index l [c] = -1
        · simp [hm]
        · obtain ⟨j, hj⟩ : ∃ j : Nat, Lib.index l [c] = j := ⟨(Lib.index l [c]).toNat, by omega⟩
          rw [hj]
          have e1 : ((j : Int) == -1) = false := by rw [beq_eq_false_iff_ne]; omega
          have e2 : (((j : Int) + 1) == -1) = false := by rw [beq_eq_false_iff_ne]; omega
          have e3 : ((j : Int) + 1).toNat = j + 1 := by omega
          simp only [e1, e2, e3, Bool.false_eq_true, if_false]
          simp
theorem split_eq (c : UInt8) (s : ByteArray) : Lib.splitB ⟨#[c]⟩ 0 (Lib.countB s ⟨#[c]⟩) s = (sp c [] s.data.toList).map fun l => ⟨l.toArray⟩ := by
  have h := Lib.splitB_data ⟨#[c]⟩ 0 (Lib.countB s ⟨#[c]⟩) s
  have hc : Lib.countB s ⟨#[c]⟩ = s.data.toList.count c := Lib.count_one c _
  have e : sp c [] s.data.toList = (Lib.splitB ⟨#[c]⟩ 0 (Lib.countB s ⟨#[c]⟩) s).map (·.data.toList) := by
    rw [h, sp_splitK, hc]
    show _ = Lib.splitK [c] 0 _ _
    split <;> simp_all
  rw [e, List.map_map]
  refine (List.map_id'' ?_ _).symm
  intro x
  rfl
def val (acc : Nat) (l : List UInt8) : Nat := l.foldl (fun a c => a * 10 + (c.toNat - 48)) acc
theorem val_ge : ∀ (l : List UInt8) (acc : Nat), acc ≤ val acc l := by
  intro l
  induction l with
  | nil => intro acc; exact Nat.le_refl _
  | cons c l ih =>
    intro acc
    have := ih (acc * 10 + (c.toNat - 48))
    have e : val acc (c :: l) = val (acc * 10 + (c.toNat - 48)) l := rfl
    omega
theorem dig_nat {c : UInt8} (h : isDig c = true) : 48 ≤ c.toNat ∧ c.toNat ≤ 57 := by
  simp only [isDig, Bool.and_eq_true, decide_eq_true_eq, UInt8.le_iff_toNat_le] at h
  exact h
theorem uintM_dig : ∀ (l : List UInt8) (acc : Nat), l.all isDig = true → acc ≤ 18446744073709551615 →
    Lib.parseUintM 18446744073709551615 acc l = if val acc l ≤ 18446744073709551615 then .ok (val acc l) else .range := by
  intro l
  induction l with
  | nil => intro acc _ h; rw [Lib.parseUintM, if_pos (show val acc [] ≤ _ from h)]; rfl
  | cons c l ih =>
    intro acc h ha
    rw [List.all_cons, Bool.and_eq_true] at h
    have hc := dig_nat h.1
    have e : val acc (c :: l) = val (acc * 10 + (c.toNat - 48)) l := rfl
    have hg := val_ge l (acc * 10 + (c.toNat - 48))
    rw [Lib.parseUintM, if_pos hc, e]
    by_cases h1 : 1844674407370955162 ≤ acc
    · rw [if_pos h1, if_neg (by omega)]
    · rw [if_neg h1]
      by_cases h2 : 18446744073709551615 < acc * 10 + (c.toNat - 48)
      · rw [if_pos h2, if_neg (by omega)]
      · rw [if_neg h2, ih _ h.2 (by omega)]
/-- A number's digits, told by the sign: the value, the error's number. -/
def ends (neg : Bool) (v : Nat) : Int × Int := if neg then (if v ≤ 9223372036854775808 then (-(v : Int), 0) else (0, 3)) else (if v < 9223372036854775808 then ((v : Int), 0) else (0, 3))
def num (neg : Bool) (d l : List UInt8) : Int × Int := if d = [] ∨ d.all isDig = false ∨ (d.head? = some 48 ∧ l ≠ [48]) then (0, 1) else ends neg (val 0 d)
theorem uintB_dig (d : List UInt8) (h1 : d ≠ []) (h2 : d.all isDig = true) : Lib.parseUintB 64 d = if val 0 d ≤ 18446744073709551615 then .ok (val 0 d) else .range := by
  unfold Lib.parseUintB
  rw [if_neg h1]
  exact uintM_dig d 0 h2 (by omega)
theorem num_minus (r : List UInt8) : numF (45 :: r) = num true r (45 :: r) := by
  have e : Lib.trimPrefix (45 :: r) [45] = r := by simp [Lib.trimPrefix, Lib.hasPrefix, List.isPrefixOf]
  by_cases h : r = [] ∨ r.all isDig = false ∨ (r.head? = some 48 ∧ (45 :: r : List UInt8) ≠ [48])
  · simp only [numF, num, e, if_pos h]
  · simp only [numF, num, e, if_neg h]
    simp only [not_or] at h
    have h2 : r.all isDig = true := by simpa using h.2.1
    simp only [Lib.parseIntB]
    have hu : (if (45 : UInt8).toNat = 43 ∨ (45 : UInt8).toNat = 45 then r else 45 :: r) = r := rfl
    rw [hu, uintB_dig r h.1 h2]
    unfold ends
    by_cases hv : val 0 r ≤ 18446744073709551615
    · rw [if_pos hv]
      simp
      by_cases hw : val 0 r ≤ 9223372036854775808
      · have : ¬ 9223372036854775808 < val 0 r := by omega
        simp [hw, this]
      · have : 9223372036854775808 < val 0 r := by omega
        simp [hw, this]
    · rw [if_neg hv]
      have : ¬ val 0 r ≤ 9223372036854775808 := by omega
      simp [this]
theorem num_plain (l : List UInt8) (h : l.head? ≠ some 45) : numF l = num false l l := by
  have e : Lib.trimPrefix l [45] = l := by
    cases l with
    | nil => rfl
    | cons c r =>
      have : ¬ (45 : UInt8) = c := fun hc => h (by rw [← hc]; rfl)
      simp [Lib.trimPrefix, Lib.hasPrefix, List.isPrefixOf, this]
  by_cases hh : l = [] ∨ l.all isDig = false ∨ (l.head? = some 48 ∧ l ≠ [48])
  · simp only [numF, num, e, if_pos hh]
  · simp only [numF, num, e, if_neg hh]
    simp only [not_or] at hh
    have h2 : l.all isDig = true := by simpa using hh.2.1
    cases l with
    | nil => exact absurd rfl hh.1
    | cons c r =>
      have hd := dig_nat (by rw [List.all_cons, Bool.and_eq_true] at h2; exact h2.1)
      simp only [Lib.parseIntB]
      have hu : (if c.toNat = 43 ∨ c.toNat = 45 then r else c :: r) = c :: r := if_neg (by omega)
      rw [hu, uintB_dig _ hh.1 h2]
      have hn : ¬ c.toNat = 45 := by omega
      unfold ends
      generalize val 0 (c :: r) = v
      by_cases hv : v ≤ 18446744073709551615
      · rw [if_pos hv]
        simp [hn]
        by_cases hw : v < 9223372036854775808
        · have : ¬ 9223372036854775808 ≤ v := by omega
          simp [hw, this]
        · have : 9223372036854775808 ≤ v := by omega
          simp [hw, this]
      · rw [if_neg hv]
        have : ¬ v < 9223372036854775808 := by omega
        simp [this]
end Go.Proofs.YtnlkjimpefebbaaDoor.FP
