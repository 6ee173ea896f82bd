/- The law ParseDeep over numbers and lists: any number of at most 60 signs, or brackets, is read as the page says: by reckoning each. -/
import Derived.Test.YtjafllnbgfcchaaDoorZXDx2
namespace Go.Proofs.YtjafllnbgfcchaaDoor.Pure
open Go Go.RowKit Go.Proofs.YtjafllnbgfcchaaDoor.XD Go.Proofs.YtjafllnbgfcchaaDoorW.PrintWords Go.Proofs.YtjafllnbgfcchaaDoorW.PrintLast
theorem and_mask (i : Nat) (hi : i ≤ 62) (x : Int) : Go.bits .and .i64 x (((2 ^ i - 1 : Nat)) : Int) = x % ((2 ^ i : Nat) : Int) := by
  have hp : 2 ^ i ≤ 2 ^ 62 := Nat.pow_le_pow_right (by decide) hi
  have hp0 : 0 < 2 ^ i := Nat.pow_pos (by decide)
  have h1 : (BitVec.ofInt 64 x &&& BitVec.ofInt 64 ((2 ^ i - 1 : Nat) : Int)).toNat = (x % 18446744073709551616).toNat % 2 ^ i := by
    rw [BitVec.toNat_and, BitVec.ofInt_natCast, BitVec.toNat_ofNat, Nat.mod_eq_of_lt (a := 2 ^ i - 1) (by omega), Nat.and_two_pow_sub_one_eq_mod, BitVec.toNat_ofInt]
    rfl
  have h2 : ((x % 18446744073709551616).toNat % 2 ^ i : Nat) < 2 ^ i := Nat.mod_lt _ hp0
  have h3 : (((x % 18446744073709551616).toNat % 2 ^ i : Nat) : Int) = x % ((2 ^ i : Nat) : Int) := by
    rw [Int.natCast_emod, Int.toNat_of_nonneg (Int.emod_nonneg _ (by decide))]
    apply Int.emod_emod_of_dvd
    have : (18446744073709551616 : Int) = ((2 ^ 64 : Nat) : Int) := by decide
    rw [this]
    exact Int.natCast_dvd_natCast.2 (Nat.pow_dvd_pow 2 (by omega))
  unfold Go.bits
  show IntKind.i64.wrap (((BitVec.ofInt 64 x &&& BitVec.ofInt 64 ((2 ^ i - 1 : Nat) : Int)).toNat : Nat) : Int) = _
  rw [h1, IntKind.wrap_i64, ← h3]
  omega
theorem and_255 (x : Int) : Go.bits .and .i64 x 255 = x % 256 := and_mask 8 (by decide) x
theorem deep_one : ∀ m : Fin 60, ∀ b : Bool, girandolelaw03_ParseDeep.f 200 (m.val : Int) b = some true := by decide +kernel
theorem ParseDeep : girandolelaw03_ParseDeep.Pure := by
  intro a0 a1 _
  refine ⟨200, ?_⟩
  have h0 := Int.emod_nonneg a0 (show (256 : Int) ≠ 0 by decide)
  have h1 := Int.tmod_nonneg 60 h0
  have h2 := Int.tmod_lt_of_pos (a0 % 256) (show (0 : Int) < 60 by decide)
  obtain ⟨m, hm⟩ : ∃ m : Nat, (a0 % 256).tmod 60 = (m : Int) := ⟨((a0 % 256).tmod 60).toNat, by omega⟩
  have hlt : m < 60 := by omega
  have hA : Int.tmod (Go.bits .and .i64 a0 255) 60 = (m : Int) := by rw [and_255]; exact hm
  have hB : Int.tmod (Go.bits .and .i64 (m : Int) 255) 60 = (m : Int) := by
    rw [and_255, Int.emod_eq_of_lt (by omega) (by omega), Int.tmod_eq_of_lt (by omega) (by omega)]
  have h := deep_one ⟨m, hlt⟩ a1
  unfold girandolelaw03_ParseDeep.f at h ⊢
  rw [hA]
  simp only [hB] at h
  exact h
end Go.Proofs.YtjafllnbgfcchaaDoor.Pure
