/- What the plain lexer's tokens are like, for the parser. -/
import Derived.Test.YtjafllnbgfcchaaDoorZGLexName
import Derived.Test.YtjafllnbgfcchaaDoorZPurP
namespace Go.Proofs.YtjafllnbgfcchaaDoor
/-- A token without its place. -/
def tkp (t : LX.Tok) : PX.T := ⟨t.kind, t.text, t.n⟩
theorem numGo_le : ∀ (l : LX.B) (n m : Nat), n ≤ 9223372036854775808 → LX.numGo n l = some m → m ≤ 9223372036854775808
  | [], n, m, hn, h => by
    rw [LX.numGo] at h
    injection h with h
    omega
  | c :: r, n, m, hn, h => by
    rw [LX.numGo] at h
    split at h
    · cases h
    · refine numGo_le r _ m ?_ h
      have := c.toNat_lt
      omega
theorem one_kind (l : LX.B) (k : Nat) (t : LX.B) (n : Nat) (h : LX.one l = .ok (k, t, n)) : (k = 1 ∨ k = 2 ∨ k = 3 ∨ k = 4) ∧ n ≤ 9223372036854775808 := by
  unfold LX.one at h
  split at h
  · cases h
  · split at h
    · dsimp only at h
      split at h
      · cases h; exact ⟨by omega, by omega⟩
      · split at h
        · cases h
        · cases h; exact ⟨by omega, by omega⟩
    · split at h
      · dsimp only at h
        split at h
        · cases h
        · split at h
          · cases h
          · rename_i m hm
            cases h
            exact ⟨by omega, numGo_le _ _ _ (by omega) hm⟩
      · split at h
        · cases h; exact ⟨by omega, by omega⟩
        · cases h
structure ToksOk (toks : List LX.Tok) : Prop where
  good : PX.Good (toks.map tkp)
  nums : ∀ t ∈ toks, t.n ≤ 9223372036854775808
theorem go_ok (total : Nat) : ∀ (k : Nat) (l : LX.B) (r : List LX.Tok), l.length < k → LX.go total k l = .ok r → ToksOk r ∧ r.length ≤ l.length + 1
  | 0, l, r, hk, h => by omega
  | k + 1, l, r, hk, h => by
    rw [LX.go] at h
    have hs := LX.skip_len false l
    split at h
    · cases h
      refine ⟨⟨⟨[], tkp ⟨5, total, [], 0⟩, rfl, rfl, by simp⟩, ?_⟩, by simp⟩
      intro t ht
      simp at ht
      subst ht
      exact Nat.zero_le _
    · cases ho : LX.one (LX.skip false l) with
      | error e => rw [ho] at h; cases h
      | ok q =>
        obtain ⟨kind, t, n⟩ := q
        rw [ho] at h
        dsimp only at h
        have hp := LX.one_pos _ _ _ _ ho
        have hkd := one_kind _ _ _ _ ho
        cases hg : LX.go total k ((LX.skip false l).drop t.length) with
        | error e => rw [hg] at h; cases h
        | ok r' =>
          rw [hg] at h
          cases h
          have ih := go_ok total k _ r' (by rw [List.length_drop]; omega) hg
          rw [List.length_drop] at ih
          obtain ⟨⟨⟨pre, e, he, he5, hpre⟩, hn⟩, hl⟩ := ih
          refine ⟨⟨⟨tkp ⟨kind, total - (LX.skip false l).length, t, n⟩ :: pre, e, by rw [List.map_cons, he]; rfl, he5, ?_⟩, ?_⟩, by rw [List.length_cons]; omega⟩
          · intro x hx
            rcases List.mem_cons.1 hx with rfl | hx
            · show kind ≠ 5
              omega
            · exact hpre x hx
          · intro x hx
            rcases List.mem_cons.1 hx with rfl | hx
            · exact hkd.2
            · exact hn x hx
theorem all_ok {s : LX.B} {r : List LX.Tok} (h : LX.all s = .ok r) : ToksOk r ∧ r.length ≤ 4001 := by
  unfold LX.all at h
  split at h
  · cases h
  · have := go_ok s.length (s.length + 1) s r (Nat.lt_succ_self _) h
    exact ⟨this.1, by omega⟩
theorem one_err (l : LX.B) (e : Nat) (h : LX.one l = .error e) : e ≠ 0 := by
  unfold LX.one at h
  split at h
  · cases h; decide
  · split at h
    · dsimp only at h
      split at h
      · cases h
      · split at h
        · cases h; decide
        · cases h
    · split at h
      · dsimp only at h
        split at h
        · cases h; decide
        · split at h
          · cases h; decide
          · cases h
      · split at h
        · cases h
        · cases h; decide
theorem go_err (total : Nat) : ∀ (k : Nat) (l : LX.B) (p c : Nat), LX.go total k l = .error (p, c) → c ≠ 0
  | 0, l, p, c, h => by rw [LX.go] at h; cases h
  | k + 1, l, p, c, h => by
    rw [LX.go] at h
    split at h
    · cases h
    · cases ho : LX.one (LX.skip false l) with
      | error e =>
        rw [ho] at h
        cases h
        exact one_err _ _ ho
      | ok q =>
        obtain ⟨kind, t, n⟩ := q
        rw [ho] at h
        dsimp only at h
        cases hg : LX.go total k ((LX.skip false l).drop t.length) with
        | error e => rw [hg] at h; cases h; exact go_err total k _ _ _ hg
        | ok r' => rw [hg] at h; cases h
theorem all_err {s : LX.B} {p c : Nat} (h : LX.all s = .error (p, c)) : c ≠ 0 := by
  unfold LX.all at h
  split at h
  · cases h; decide
  · exact go_err _ _ _ _ _ h
end Go.Proofs.YtjafllnbgfcchaaDoor
