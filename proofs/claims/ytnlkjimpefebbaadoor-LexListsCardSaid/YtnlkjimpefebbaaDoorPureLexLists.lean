/- The law LexLists over numbers and lists: the words and signs are those of the page. -/
import Derived.Test.YtnlkjimpefebbaaDoorXLLcx3
import Derived.Laws.BitsLemmas
namespace Go.Proofs.YtnlkjimpefebbaaDoor.Pure
open Go Go.RowKit Go.Proofs.YtnlkjimpefebbaaDoor.XLLc Go.Proofs.YtnlkjimpefebbaaDoorW.PrintWords Go.Proofs.YtnlkjimpefebbaaDoorW.PrintLast
namespace Lists
theorem awake_ok : girandolelaw01_awake.f = some true := by decide +kernel
theorem words_ok : girandoleref01_Words.f 200 = lex_Words.f := by decide +kernel
theorem signs_ok : girandoleref01_Signs.f 200 = lex_Signs.f := by decide +kernel
theorem and_mask (i : Nat) (hi : i ≤ 62) (x : Int) : Go.bits .and .i64 x (((2 ^ i - 1 : Nat)) : Int) = x % ((2 ^ i : Nat) : Int) := by
  have hp : 2 ^ i ≤ 2 ^ 62 := Nat.pow_le_pow_right (by decide) hi
  have hp0 : 0 < 2 ^ i := Nat.pow_pos (by decide)
  have h1 : (BitVec.ofInt 64 x &&& BitVec.ofInt 64 ((2 ^ i - 1 : Nat) : Int)).toNat = (x % 18446744073709551616).toNat % 2 ^ i := by
    rw [BitVec.toNat_and, BitVec.ofInt_natCast, BitVec.toNat_ofNat, Nat.mod_eq_of_lt (a := 2 ^ i - 1) (by omega), Nat.and_two_pow_sub_one_eq_mod, BitVec.toNat_ofInt]
    rfl
  have h2 : ((x % 18446744073709551616).toNat % 2 ^ i : Nat) < 2 ^ i := Nat.mod_lt _ hp0
  have h3 : (((x % 18446744073709551616).toNat % 2 ^ i : Nat) : Int) = x % ((2 ^ i : Nat) : Int) := by
    rw [Int.natCast_emod, Int.toNat_of_nonneg (Int.emod_nonneg _ (by decide))]
    apply Int.emod_emod_of_dvd
    have : (18446744073709551616 : Int) = ((2 ^ 64 : Nat) : Int) := by decide
    rw [this]
    exact Int.natCast_dvd_natCast.2 (Nat.pow_dvd_pow 2 (by omega))
  unfold Go.bits
  show IntKind.i64.wrap (((BitVec.ofInt 64 x &&& BitVec.ofInt 64 ((2 ^ i - 1 : Nat) : Int)).toNat : Nat) : Int) = _
  rw [h1, IntKind.wrap_i64, ← h3]
  omega
theorem and_65535 (x : Int) : Go.bits .and .i64 x 65535 = x % 65536 := and_mask 16 (by decide) x
theorem at_ok (a0 : Int) (n : Nat) (h : 0 < n) : 0 ≤ Int.tmod (Go.bits .and .i64 a0 65535) (n : Int) ∧ Int.tmod (Go.bits .and .i64 a0 65535) (n : Int) < (n : Int) := by
  rw [and_65535, Int.tmod_eq_emod_of_nonneg (by omega)]
  exact ⟨Int.emod_nonneg _ (by omega), Int.emod_lt_of_pos _ (by omega)⟩
end Lists
open Lists in
theorem LexLists : girandolelaw01_LexLists.Pure := by
  intro a0 _
  refine ⟨200, ?_⟩
  unfold girandolelaw01_LexLists.f
  rw [awake_ok, words_ok, signs_ok]
  obtain ⟨W, hW, lW⟩ : ∃ W, lex_Words.f = some W ∧ W.length = 25 := ⟨_, rfl, by decide +kernel⟩
  obtain ⟨S, hS, lS⟩ : ∃ S, lex_Signs.f = some S ∧ S.length = 16 := ⟨_, rfl, by decide +kernel⟩
  obtain ⟨w0, w1⟩ := at_ok a0 W.length (by omega)
  obtain ⟨s0, s1⟩ := at_ok a0 S.length (by omega)
  have wz : ¬ (W.length : Int) = 0 := by omega
  have sz : ¬ (S.length : Int) = 0 := by omega
  rw [hW, hS, Option.bind_some, if_pos rfl, Option.bind_some, Option.bind_some, Option.bind_some, if_pos rfl, Option.bind_some, if_pos rfl, Option.bind_some, if_neg wz, if_pos w0, if_pos w1, if_pos w1, if_pos rfl, Option.bind_some, if_neg sz, if_pos s0, if_pos s1, if_pos s1]
  simp
end Go.Proofs.YtnlkjimpefebbaaDoor.Pure
