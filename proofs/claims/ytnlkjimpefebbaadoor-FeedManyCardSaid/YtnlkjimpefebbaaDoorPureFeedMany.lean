/- The law FeedMany over numbers and lists. -/
import Derived.Test.YtnlkjimpefebbaaDoorXFFx12
import Derived.Test.YtnlkjimpefebbaaDoorFeedDecl
namespace Go.Proofs.YtnlkjimpefebbaaDoor.Pure
open Go Go.RowKit Go.Proofs.YtnlkjimpefebbaaDoor.XFF Go.Proofs.YtnlkjimpefebbaaDoor.FE Go.Proofs.YtnlkjimpefebbaaDoor.FP Go.Proofs.YtnlkjimpefebbaaDoor.Fl Go.Proofs.YtnlkjimpefebbaaDoorW.PrintWords Go.Proofs.YtnlkjimpefebbaaDoorW.PrintLast
theorem row5 : rowP [false] [53] = ([5], 0) := by decide +kernel
theorem sp_five : ∀ n, sp 10 [] (Lib.repeatL [53, 10] n) = List.replicate n [53] ++ [[]] := by
  intro n
  induction n with
  | zero => rfl
  | succ n ih =>
    rw [Lib.repeatL, List.replicate_succ]
    show sp 10 [] (53 :: 10 :: Lib.repeatL [53, 10] n) = _
    rw [sp, if_neg (by decide), sp, if_pos rfl, ih]
    rfl
theorem pgo_five : ∀ (m : Nat) (out : List (List Int)), out.length ≤ 200 →
    pgo [false] (List.replicate m [53] ++ [[]]) out.length out = if out.length + m ≤ 200 then (out ++ List.replicate m [5], -1, 0) else ([], 200, 14) := by
  intro m
  induction m with
  | zero =>
    intro out ho
    rw [if_pos (by omega)]
    simp [pgo]
  | succ m ih =>
    intro out ho
    rw [List.replicate_succ, List.cons_append, pgo, if_neg (by decide), row5]
    by_cases h : out.length = 200
    · rw [if_pos h, if_neg (by omega), h]
      rfl
    · rw [if_neg h, if_pos rfl]
      have h1 := ih (out ++ [[5]]) (by simp; omega)
      rw [List.length_append, List.length_singleton] at h1
      rw [h1]
      by_cases h2 : out.length + 1 + m ≤ 200
      · rw [if_pos h2, if_pos (by omega)]
        simp [List.replicate_succ]
      · rw [if_neg h2, if_neg (by omega)]
theorem and_mask (i : Nat) (hi : i ≤ 62) (x : Int) : Go.bits .and .i64 x (((2 ^ i - 1 : Nat)) : Int) = x % ((2 ^ i : Nat) : Int) := by
  have hp : 2 ^ i ≤ 2 ^ 62 := Nat.pow_le_pow_right (by decide) hi
  have hp0 : 0 < 2 ^ i := Nat.pow_pos (by decide)
  have h1 : (BitVec.ofInt 64 x &&& BitVec.ofInt 64 ((2 ^ i - 1 : Nat) : Int)).toNat = (x % 18446744073709551616).toNat % 2 ^ i := by
    rw [BitVec.toNat_and, BitVec.ofInt_natCast, BitVec.toNat_ofNat, Nat.mod_eq_of_lt (a := 2 ^ i - 1) (by omega), Nat.and_two_pow_sub_one_eq_mod, BitVec.toNat_ofInt]
    rfl
  have h2 : ((x % 18446744073709551616).toNat % 2 ^ i : Nat) < 2 ^ i := Nat.mod_lt _ hp0
  have h3 : (((x % 18446744073709551616).toNat % 2 ^ i : Nat) : Int) = x % ((2 ^ i : Nat) : Int) := by
    rw [Int.natCast_emod, Int.toNat_of_nonneg (Int.emod_nonneg _ (by decide))]
    apply Int.emod_emod_of_dvd
    have : (18446744073709551616 : Int) = ((2 ^ 64 : Nat) : Int) := by decide
    rw [this]
    exact Int.natCast_dvd_natCast.2 (Nat.pow_dvd_pow 2 (by omega))
  unfold Go.bits
  show IntKind.i64.wrap (((BitVec.ofInt 64 x &&& BitVec.ofInt 64 ((2 ^ i - 1 : Nat) : Int)).toNat : Nat) : Int) = _
  rw [h1, IntKind.wrap_i64, ← h3]
  omega
theorem and_255 (x : Int) : Go.bits .and .i64 x 255 = x % 256 := and_mask 8 (by decide) x
theorem FeedMany : girandolelaw20_FeedMany.Pure := by
  intro a0 _
  obtain ⟨N, hN, hNe⟩ : ∃ N : Nat, N ≤ 210 ∧ Int.tmod (Go.bits .and .i64 a0 255) 211 = (N : Int) := by
    rw [and_255]
    have h0 : 0 ≤ a0 % 256 := by omega
    have h1 : a0 % 256 < 256 := by omega
    refine ⟨((a0 % 256) % 211).toNat, by omega, ?_⟩
    rw [Int.tmod_eq_emod_of_nonneg h0]
    omega
  have h1 := decls_ev [false] (by decide)
  have h2 := own_ev (([false] : List Bool).map d84) (by decide)
  have hrl : (Lib.repeatL [53, 10] N).length = N * 2 := Lib.repeatL_length _ _
  have h3 := feed_ev ⟨#[]⟩ 0 ((([false] : List Bool).map d84).map o88) [] [] [] (B (Lib.repeatL [53, 10] N)) (by rw [B_size, hrl]; omega)
  rw [truths88] at h3
  have hp : parseP [false] (B (Lib.repeatL [53, 10] N)).data.toList = if N ≤ 200 then (List.replicate N [5], -1, 0) else ([], 200, 14) := by
    rw [B_data]
    unfold parseP
    rw [sp_five]
    have := pgo_five N [] (by simp)
    simpa using this
  rw [hp] at h3
  have hr : strings_Repeat.f (⟨#[53, 10]⟩ : ByteArray) (N : Int) = some (B (Lib.repeatL [53, 10] N)) := by
    unfold strings_Repeat.f
    rw [if_pos ⟨by omega, by omega, by decide⟩, Int.toNat_natCast]
    rfl
  refine Ev.rounds (Ev.congr (f := fun k => (girandolelaw20_awake.f k).bind fun t => if t = true then ((girandolelaw20_Decls.f k (([false] : List Bool))).bind fun t320 => ((girandolelaw02_OwnDecls.f k t320).bind fun t323 => ((feed_Parse.f k (⟨#[]⟩ : ByteArray) 0 t323 ([] : List (S88)) ([] : List (S88)) ([] : List (S136)) (B (Lib.repeatL [53, 10] N))).bind fun bt327 => (if (N : Int) > 200 then (if (bt327.1.length : Int) = 0 then (if bt327.2.1 = 200 then (some (bt327.2.2 == 14)) else (some false)) else (some false)) else (if (bt327.1.length : Int) = (N : Int) then (if bt327.2.1 = (-1) then (some (bt327.2.2 == 0)) else (some false)) else (some false)))))) else (some false)) (fun k => ?_) (Ev.bind awake_ev ?_))
  · unfold girandolelaw20_FeedMany.f
    rw [hNe, hr]
    rfl
  · simp only [if_true]
    refine Ev.bind h1 (Ev.bind h2 (Ev.bind h3 ?_))
    refine Ev.congr (f := fun _ => some true) (fun k => ?_) (Ev.now _)
    by_cases h : N ≤ 200
    · rw [if_pos h, if_neg (by omega), if_pos (by simp), if_pos rfl]
      rfl
    · rw [if_neg h, if_pos (by omega)]
      rfl
end Go.Proofs.YtnlkjimpefebbaaDoor.Pure
