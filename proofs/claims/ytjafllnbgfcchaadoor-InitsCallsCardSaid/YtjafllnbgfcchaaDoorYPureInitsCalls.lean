/- The law InitsCalls over numbers: any number of at most 12 calls within one another, with pre ahead of one of them, or of none: by reckoning each. -/
import Derived.Test.YtjafllnbgfcchaaDoorYXIAx6
namespace Go.Proofs.YtjafllnbgfcchaaDoor.Pure
open Go Go.RowKit Go.Proofs.YtjafllnbgfcchaaDoor.XIA Go.Proofs.YtjafllnbgfcchaaDoorW.PrintWords Go.Proofs.YtjafllnbgfcchaaDoorW.PrintLast
theorem and_mask (i : Nat) (hi : i ≤ 62) (x : Int) : Go.bits .and .i64 x (((2 ^ i - 1 : Nat)) : Int) = x % ((2 ^ i : Nat) : Int) := by
  have hp : 2 ^ i ≤ 2 ^ 62 := Nat.pow_le_pow_right (by decide) hi
  have hp0 : 0 < 2 ^ i := Nat.pow_pos (by decide)
  have h1 : (BitVec.ofInt 64 x &&& BitVec.ofInt 64 ((2 ^ i - 1 : Nat) : Int)).toNat = (x % 18446744073709551616).toNat % 2 ^ i := by
    rw [BitVec.toNat_and, BitVec.ofInt_natCast, BitVec.toNat_ofNat, Nat.mod_eq_of_lt (a := 2 ^ i - 1) (by omega), Nat.and_two_pow_sub_one_eq_mod, BitVec.toNat_ofInt]
    rfl
  have h2 : ((x % 18446744073709551616).toNat % 2 ^ i : Nat) < 2 ^ i := Nat.mod_lt _ hp0
  have h3 : (((x % 18446744073709551616).toNat % 2 ^ i : Nat) : Int) = x % ((2 ^ i : Nat) : Int) := by
    rw [Int.natCast_emod, Int.toNat_of_nonneg (Int.emod_nonneg _ (by decide))]
    apply Int.emod_emod_of_dvd
    have : (18446744073709551616 : Int) = ((2 ^ 64 : Nat) : Int) := by decide
    rw [this]
    exact Int.natCast_dvd_natCast.2 (Nat.pow_dvd_pow 2 (by omega))
  unfold Go.bits
  show IntKind.i64.wrap (((BitVec.ofInt 64 x &&& BitVec.ofInt 64 ((2 ^ i - 1 : Nat) : Int)).toNat : Nat) : Int) = _
  rw [h1, IntKind.wrap_i64, ← h3]
  omega
theorem and_255 (x : Int) : Go.bits .and .i64 x 255 = x % 256 := and_mask 8 (by decide) x
theorem calls_one : ∀ m : Fin 13, ∀ q : Fin 14, q.val < m.val + 2 → girandolelaw07_InitsCalls.f 100 (m.val : Int) (q.val : Int) = some true := by decide +kernel
theorem wrap_small (x : Int) (h0 : 0 ≤ x) (h1 : x < 100) : wrap64 x = x := by unfold wrap64; omega
theorem InitsCalls : girandolelaw07_InitsCalls.Pure := by
  intro a0 a1 _ _
  refine ⟨100, ?_⟩
  have h0 := Int.emod_nonneg a0 (show (256 : Int) ≠ 0 by decide)
  have h1 := Int.tmod_nonneg 13 h0
  have h2 := Int.tmod_lt_of_pos (a0 % 256) (show (0 : Int) < 13 by decide)
  obtain ⟨m, hm⟩ : ∃ m : Nat, (a0 % 256).tmod 13 = (m : Int) := ⟨((a0 % 256).tmod 13).toNat, by omega⟩
  have hlt : m < 13 := by omega
  have hA : Int.tmod (Go.bits .and .i64 a0 255) 13 = (m : Int) := by rw [and_255]; exact hm
  have hB : Int.tmod (Go.bits .and .i64 (m : Int) 255) 13 = (m : Int) := by
    rw [and_255, Int.emod_eq_of_lt (by omega) (by omega), Int.tmod_eq_of_lt (by omega) (by omega)]
  have hw : wrap64 ((m : Int) + 2) = (m : Int) + 2 := wrap_small _ (by omega) (by omega)
  have g0 := Int.emod_nonneg a1 (show (256 : Int) ≠ 0 by decide)
  have g1 := Int.tmod_nonneg ((m : Int) + 2) g0
  have g2 := Int.tmod_lt_of_pos (a1 % 256) (show (0 : Int) < (m : Int) + 2 by omega)
  obtain ⟨q, hq⟩ : ∃ q : Nat, (a1 % 256).tmod ((m : Int) + 2) = (q : Int) := ⟨((a1 % 256).tmod ((m : Int) + 2)).toNat, by omega⟩
  have hql : q < m + 2 := by omega
  have hC : Int.tmod (Go.bits .and .i64 a1 255) ((m : Int) + 2) = (q : Int) := by rw [and_255]; exact hq
  have hD : Int.tmod (Go.bits .and .i64 (q : Int) 255) ((m : Int) + 2) = (q : Int) := by
    rw [and_255, Int.emod_eq_of_lt (by omega) (by omega), Int.tmod_eq_of_lt (by omega) (by omega)]
  have h := calls_one ⟨m, hlt⟩ ⟨q, by omega⟩ hql
  unfold girandolelaw07_InitsCalls.f at h ⊢
  rw [hA, hw, hC]
  simp only [hB, hw, hD] at h
  exact h
end Go.Proofs.YtjafllnbgfcchaaDoor.Pure
