/- The law LexStands over numbers and lists: each token's text stands at its place, and between stand blanks and remarks alone. -/
import Derived.Test.YtnlkjimpefebbaaDoorXLexCx4
import Derived.Test.YtnlkjimpefebbaaDoorLexPlain
namespace Go.Proofs.YtnlkjimpefebbaaDoor.Pure
open Go Go.RowKit Go.Proofs.YtnlkjimpefebbaaDoor.XLexC Go.Proofs.YtnlkjimpefebbaaDoor.LR Go.Proofs.YtnlkjimpefebbaaDoorW.PrintWords Go.Proofs.YtnlkjimpefebbaaDoorW.PrintLast
namespace Stands
theorem w1 (i : Nat) (h : i ≤ 100000) : wrap64 ((i : Int) + 1) = ((i + 1 : Nat) : Int) := by unfold wrap64; omega
theorem wa (i j : Nat) (h : i ≤ 100000) (h2 : j ≤ 100000) : wrap64 ((i : Int) + (j : Int)) = ((i + j : Nat) : Int) := by unfold wrap64; omega
theorem awake_ok : girandolelaw01_awake.f = some true := by decide +kernel
theorem cut_ok (s : ByteArray) (n : Nat) (hn : n ≤ 4000) : ∃ t, girandolelaw01_Cut.f s (n : Int) = some t ∧ t.size ≤ n := by
  unfold girandolelaw01_Cut.f
  by_cases h : (s.size : Int) > (n : Int)
  · rw [if_pos h, if_pos (by omega), if_pos (by omega)]
    refine ⟨_, rfl, ?_⟩
    simp
    omega
  · rw [if_neg h]
    exact ⟨s, rfl, by omega⟩
theorem rd36 (r : List LX.Tok) (i : Nat) (h : i < r.length) : rd_T36 (r.map lex_All.tok) (i : Int) = lex_All.tok r[i] := by
  simp [rd_T36, h]
theorem size_mk (t : List UInt8) : (⟨t.toArray⟩ : ByteArray).size = t.length := by simp [ByteArray.size]
theorem mk_toList (l : List UInt8) : (⟨l.toArray⟩ : ByteArray).toList = l := ByteArray.toList_mk l
theorem gap_f (s : ByteArray) (hs : s.size ≤ 4000) (k : Nat) (hk : k ≤ s.size) : lex_All.f (s.extract k (sk false s k)) = some ([lex_All.tok ⟨5, sk false s k - k, [], 0⟩], 0, 0) := by
  unfold lex_All.f
  have h1 := sk_drop s k hk
  rw [if_pos (by simp; omega), gap_all s hs k hk]
  rfl
theorem done_ok (s : ByteArray) (r : List LX.Tok) (n : Nat) (hn : r.length = n) (h0 : 0 < n) (hr : n ≤ 100000) (hl : (r.map (fun t => t.kind)).getLast? = some 5) :
    Ev (fun k => girandolelaw01_LexStands.l0 k s (r.map lex_All.tok) (s.size : Int) (r.map lex_All.tok) (n : Int) (n : Int)) true := by
  refine Ev.step (f := fun _ => some true) (fun k => ?_) (Ev.now _)
  have hw : wrap64 (((r.map lex_All.tok).length : Int) - 1) = ((n - 1 : Nat) : Int) := by rw [List.length_map, hn]; unfold wrap64; omega
  simp only [girandolelaw01_LexStands.l0]
  rw [if_neg (by omega), if_pos trivial, hw, if_pos (by omega), if_pos (by rw [List.length_map]; omega), rd36 r (n - 1) (by omega)]
  have h5 : (r[n - 1]'(by omega)).kind = 5 := by
    rw [List.getLast?_eq_getElem?, List.length_map, hn, List.getElem?_map, List.getElem?_eq_getElem (by omega)] at hl
    simpa using hl
  simp [lex_All.tok, h5]
theorem loop_ok (s : ByteArray) (hs : s.size ≤ 4000) (R : List LX.Tok) (hR : R.length ≤ 100000) : ∀ (rest pre : List LX.Tok) (k : Nat), R = pre ++ rest → k ≤ s.size → Lx.from_ s k = .ok rest →
    Ev (fun n => girandolelaw01_LexStands.l0 n s (R.map lex_All.tok) (k : Int) (R.map lex_All.tok) (R.length : Int) (pre.length : Int)) true := by
  intro rest
  induction rest with
  | nil =>
    intro pre k _ hk h
    rcases from_cases s k hk _ h with ⟨e, _⟩ | ⟨_, _, _, _, e, _⟩ <;> cases e
  | cons t rest ih =>
    intro pre k hR2 hk h
    have hlen : R.length = pre.length + rest.length + 1 := by rw [hR2]; simp; omega
    have hi : pre.length < R.length := by omega
    have hget : R[pre.length]'hi = t := by simp [hR2]
    obtain ⟨hsk, hk1, hk2⟩ := sk_drop s k hk
    -- one round, of a token at sk with its text
    have round : ∀ (tx : List UInt8), t.at_ = sk false s k → t.text = tx → sk false s k + tx.length ≤ s.size → (s.extract (sk false s k) (sk false s k + tx.length)).toList = tx →
        ∀ n, girandolelaw01_LexStands.l0 (n + 2) s (R.map lex_All.tok) (k : Int) (R.map lex_All.tok) (R.length : Int) (pre.length : Int) = girandolelaw01_LexStands.l0 n s (R.map lex_All.tok) ((sk false s k + tx.length : Nat) : Int) (R.map lex_All.tok) (R.length : Int) ((pre.length + 1 : Nat) : Int) := by
      intro tx hat htx hle hext n
      have f1 : (lex_All.tok t).f1 = ((sk false s k : Nat) : Int) := by rw [← hat]; rfl
      have f2 : (lex_All.tok t).f2 = ⟨tx.toArray⟩ := by rw [← htx]; rfl
      rw [show n + 2 = (n + 1) + 1 from rfl]
      simp only [girandolelaw01_LexStands.l0]
      rw [if_pos (by omega), if_pos (by omega), if_pos (by rw [List.length_map]; omega), rd36 R pre.length hi, hget, f1, f2, size_mk, if_neg (by omega), wa _ _ (by omega) (by omega), if_neg (by omega), if_pos (by omega), if_pos (by omega), if_pos (by omega)]
      simp only [Int.toNat_natCast, mk_toList, hext, bne_self_eq_false]
      simp only [girandolelaw01_LexStands.j1]
      rw [if_neg (by decide), if_pos (by omega), if_pos (by omega), if_pos (by omega)]
      simp only [Int.toNat_natCast, gap_f s hs k hk, Option.bind_some, List.length_singleton]
      rw [if_pos (by decide), if_pos (by decide), if_pos (by rfl), size_mk, wa _ _ (by omega) (by omega), w1 _ (by omega)]
    rcases from_cases s k hk _ h with ⟨e, he⟩ | ⟨kind, tx, n, r', e, h1, h2, h3, h4, h5, h6⟩
    · obtain ⟨rfl, rfl⟩ := List.cons.inj e
      have hd := done_ok s R R.length rfl (by omega) hR (by rw [hR2]; simp)
      have hlast : pre.length + 1 = R.length := by rw [hlen]; simp
      have hstep := round [] he.symm rfl (by simp; omega) (by simp [toList_data])
      refine Ev.step (f := fun n => girandolelaw01_LexStands.l0 (n + 1) s (R.map lex_All.tok) (k : Int) (R.map lex_All.tok) (R.length : Int) (pre.length : Int)) (fun n => rfl) ?_
      refine Ev.step (fun n => hstep n) ?_
      rw [hlast, show sk false s k + ([] : List UInt8).length = s.size from by simp [he]]
      exact hd
    · obtain ⟨rfl, rfl⟩ := List.cons.inj e
      have hstep := round tx rfl rfl h1 h4
      refine Ev.step (f := fun n => girandolelaw01_LexStands.l0 (n + 1) s (R.map lex_All.tok) (k : Int) (R.map lex_All.tok) (R.length : Int) (pre.length : Int)) (fun n => rfl) ?_
      refine Ev.step (fun n => hstep n) ?_
      have := ih (pre ++ [⟨kind, sk false s k, tx, n⟩]) (sk false s k + tx.length) (by rw [hR2]; simp) h1 h5
      rw [show (pre ++ [(⟨kind, sk false s k, tx, n⟩ : LX.Tok)]).length = pre.length + 1 from by simp] at this
      exact this
theorem go_len (total : Nat) : ∀ (n : Nat) (l : List UInt8) (r : List LX.Tok), LX.go total n l = .ok r → r.length ≤ n := by
  intro n
  induction n with
  | zero =>
    intro l r h
    simp only [LX.go, Except.ok.injEq] at h
    subst h
    simp
  | succ n ih =>
    intro l r h
    simp only [LX.go] at h
    split at h
    · cases h
      simp
    · split at h
      · cases h
      · split at h
        · cases h
        · rename_i r' hr'
          cases h
          have := ih _ _ hr'
          simp
          omega
end Stands
open Stands in
theorem LexStands : girandolelaw01_LexStands.Pure := by
  intro a0 _
  obtain ⟨t, ht, hsz⟩ := cut_ok a0 300 (by omega)
  refine Ev.rounds ?_
  refine Ev.congr (f := fun k => (lex_All.f t).bind fun b => if (!(b.2.1 == 0) || (!(b.2.2 == 0))) = true then (some ((b.1.length : Int) == 0)) else (girandolelaw01_LexStands.l0 k t b.1 0 b.1 (b.1.length : Int) 0)) (fun k => ?_) ?_
  · unfold girandolelaw01_LexStands.f
    rw [show (300 : Int) = ((300 : Nat) : Int) from rfl, ht, awake_ok]
    rfl
  · have hf := Lx.all_from t (by omega)
    cases hx : LX.all t.data.toList with
    | ok r =>
      have hl : lex_All.f t = some (r.map lex_All.tok, 0, 0) := by
        unfold lex_All.f
        rw [if_pos (by omega), hx]
      rw [hx] at hf
      have hlen : r.length ≤ t.size + 1 := by
        have h1 := hf.symm
        unfold Lx.from_ at h1
        have := go_len _ _ _ _ h1
        omega
      simp only [hl, Option.bind_some]
      have := loop_ok t (by omega) r (by omega) r [] 0 rfl (by omega) hf.symm
      simpa using this
    | error p =>
      obtain ⟨p, c⟩ := p
      have hl : lex_All.f t = some ([], (p : Int), (c : Int)) := by
        unfold lex_All.f
        rw [if_pos (by omega), hx]
      have hc : c ≠ 0 := by
        rw [hx] at hf
        exact err_ne t (by omega) 0 (by omega) p c hf.symm
      have hb : ((c : Int) == 0) = false := by rw [beq_eq_false_iff_ne]; omega
      simp only [hl, Option.bind_some, hb]
      simp
      exact Ev.now _
end Go.Proofs.YtnlkjimpefebbaaDoor.Pure
