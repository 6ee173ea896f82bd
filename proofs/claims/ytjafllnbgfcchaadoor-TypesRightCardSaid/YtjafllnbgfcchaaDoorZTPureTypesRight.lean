/- The law TypesRight over truths and numbers: any two names, by any of the signs: by reckoning each. -/
import Derived.Test.YtjafllnbgfcchaaDoorZTXTAx3
namespace Go.Proofs.YtjafllnbgfcchaaDoor.Pure
open Go Go.RowKit Go.Proofs.YtjafllnbgfcchaaDoor.XTA Go.Proofs.YtjafllnbgfcchaaDoorW.PrintWords Go.Proofs.YtjafllnbgfcchaaDoorW.PrintLast
theorem and_mask (i : Nat) (hi : i ≤ 62) (x : Int) : Go.bits .and .i64 x (((2 ^ i - 1 : Nat)) : Int) = x % ((2 ^ i : Nat) : Int) := by
 have hp : 2 ^ i ≤ 2 ^ 62 := Nat.pow_le_pow_right (by decide) hi
 have hp0 : 0 < 2 ^ i := Nat.pow_pos (by decide)
 have h1 : (BitVec.ofInt 64 x &&& BitVec.ofInt 64 ((2 ^ i - 1 : Nat) : Int)).toNat = (x % 18446744073709551616).toNat % 2 ^ i := by
  rw [BitVec.toNat_and, BitVec.ofInt_natCast, BitVec.toNat_ofNat, Nat.mod_eq_of_lt (a := 2 ^ i - 1) (by omega), Nat.and_two_pow_sub_one_eq_mod, BitVec.toNat_ofInt]
  rfl
 have h2 : ((x % 18446744073709551616).toNat % 2 ^ i : Nat) < 2 ^ i := Nat.mod_lt _ hp0
 have h3 : (((x % 18446744073709551616).toNat % 2 ^ i : Nat) : Int) = x % ((2 ^ i : Nat) : Int) := by
  rw [Int.natCast_emod, Int.toNat_of_nonneg (Int.emod_nonneg _ (by decide))]
  apply Int.emod_emod_of_dvd
  have : (18446744073709551616 : Int) = ((2 ^ 64 : Nat) : Int) := by decide
  rw [this]
  exact Int.natCast_dvd_natCast.2 (Nat.pow_dvd_pow 2 (by omega))
 unfold Go.bits
 show IntKind.i64.wrap (((BitVec.ofInt 64 x &&& BitVec.ofInt 64 ((2 ^ i - 1 : Nat) : Int)).toNat : Nat) : Int) = _
 rw [h1, IntKind.wrap_i64, ← h3]
 omega
theorem and_255 (x : Int) : Go.bits .and .i64 x 255 = x % 256 := and_mask 8 (by decide) x
theorem right_one : ∀ a b y : Bool, ∀ m : Fin 12, girandolelaw05_TypesRight.f 100 a b y (m.val : Int) = some true := by decide +kernel
theorem TypesRight : girandolelaw05_TypesRight.Pure := by
 intro a0 a1 a2 a3 _
 refine ⟨100, ?_⟩
 have h0 := Int.emod_nonneg a3 (show (256 : Int) ≠ 0 by decide)
 have h1 := Int.tmod_nonneg 12 h0
 have h2 := Int.tmod_lt_of_pos (a3 % 256) (show (0 : Int) < 12 by decide)
 obtain ⟨m, hm⟩ : ∃ m : Nat, (a3 % 256).tmod 12 = (m : Int) := ⟨((a3 % 256).tmod 12).toNat, by omega⟩
 have hlt : m < 12 := by omega
 have hA : Int.tmod (Go.bits .and .i64 a3 255) 12 = (m : Int) := by rw [and_255]; exact hm
 have hB : Int.tmod (Go.bits .and .i64 (m : Int) 255) 12 = (m : Int) := by
  rw [and_255, Int.emod_eq_of_lt (by omega) (by omega), Int.tmod_eq_of_lt (by omega) (by omega)]
 have h := right_one a0 a1 a2 ⟨m, hlt⟩
 unfold girandolelaw05_TypesRight.f at h ⊢
 simp only [Option.bind_some, List.length_cons, List.length_nil, Nat.zero_add, Nat.reduceAdd, Int.cast_ofNat_Int, hA] at ⊢
 simp only [Option.bind_some, List.length_cons, List.length_nil, Nat.zero_add, Nat.reduceAdd, Int.cast_ofNat_Int, hB] at h
 exact h
end Go.Proofs.YtjafllnbgfcchaaDoor.Pure
