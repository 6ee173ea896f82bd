/- The plain lexer: its steps. No program in sight. -/
import Derived.Test.YtnlkjimpefebbaaDoorLexPure
namespace Go.Proofs.YtnlkjimpefebbaaDoor
namespace LX
theorem takeWhile_len (p : UInt8 → Bool) (l : B) : (l.takeWhile p).length ≤ l.length := by
  induction l with
  | nil => simp
  | cons a r ih => rw [List.takeWhile_cons]; split <;> simp <;> omega
theorem signs_pos : ∀ x ∈ signs, 1 ≤ x.length := by decide
theorem one_pos (l : B) (k : Nat) (t : B) (n : Nat) (h : one l = .ok (k, t, n)) : 1 ≤ t.length ∧ t.length ≤ l.length := by
  match l, h with
  | [], h => simp [one] at h
  | c :: r, h =>
    unfold one at h
    simp only at h
    by_cases hl : letter c = true
    · have hw : word c = true := by simp [word, hl]
      have ht : (c :: r).takeWhile word = t := by
        rw [if_pos hl] at h
        split at h
        · simp at h; exact h.2.1
        · split at h
          · cases h
          · simp at h; exact h.2.1
      have h2 := takeWhile_len word (c :: r)
      rw [ht] at h2
      refine ⟨?_, h2⟩
      rw [← ht, List.takeWhile_cons, if_pos hw]
      simp
    · rw [if_neg hl] at h
      by_cases hd : digit c = true
      · rw [if_pos hd] at h
        have ht : (c :: r).takeWhile digit = t := by
          split at h
          · cases h
          · split at h
            · cases h
            · simp at h; exact h.2.1
        have h2 := takeWhile_len digit (c :: r)
        rw [ht] at h2
        refine ⟨?_, h2⟩
        rw [← ht, List.takeWhile_cons, if_pos hd]
        simp
      · rw [if_neg hd] at h
        cases hf : signs.find? (fun s => s.isPrefixOf (c :: r)) with
        | none => rw [hf] at h; cases h
        | some x =>
          rw [hf] at h
          simp at h
          obtain ⟨_, rfl, _⟩ := h
          exact ⟨signs_pos x (List.mem_of_find?_eq_some hf), (List.isPrefixOf_iff_prefix.1 (by have := List.find?_some hf; exact this)).length_le⟩
theorem skip_len (b : Bool) (l : B) : (skip b l).length ≤ l.length := by
  induction l generalizing b with
  | nil => cases b <;> simp [skip]
  | cons c r ih =>
    cases b with
    | true => simp only [skip]; split <;> (refine Nat.le_trans (ih _) ?_; simp)
    | false =>
      simp only [skip]
      split
      · refine Nat.le_trans (ih _) ?_; simp
      · split
        · split
          · refine Nat.le_trans (ih _) ?_; simp
          · simp
        · simp
theorem go_fuel (total : Nat) : ∀ (n : Nat) (l : B) (a b : Nat), l.length ≤ n → n + 1 ≤ a → n + 1 ≤ b → go total a l = go total b l := by
  intro n
  induction n with
  | zero =>
    intro l a b hl ha hb
    obtain ⟨a, rfl⟩ : ∃ m, a = m + 1 := ⟨a - 1, by omega⟩
    obtain ⟨b, rfl⟩ : ∃ m, b = m + 1 := ⟨b - 1, by omega⟩
    have : l = [] := List.length_eq_zero_iff.1 (by omega)
    subst this
    simp [go, skip]
  | succ n ih =>
    intro l a b hl ha hb
    obtain ⟨a, rfl⟩ : ∃ m, a = m + 1 := ⟨a - 1, by omega⟩
    obtain ⟨b, rfl⟩ : ∃ m, b = m + 1 := ⟨b - 1, by omega⟩
    have hs := skip_len false l
    simp only [go]
    split
    · rfl
    · cases ho : one (skip false l) with
      | error e => rfl
      | ok p =>
        obtain ⟨kind, t, m⟩ := p
        have hp := one_pos _ _ _ _ ho
        have h2 : ((skip false l).drop t.length).length ≤ n := by rw [List.length_drop]; omega
        simp only
        rw [ih ((skip false l).drop t.length) a b h2 (by omega) (by omega)]
theorem skip_skip (b : Bool) (l : B) : skip false (skip b l) = skip b l := by
  induction l generalizing b with
  | nil => cases b <;> rfl
  | cons c r ih =>
    cases b with
    | true => simp only [skip]; split <;> exact ih _
    | false =>
      simp only [skip]
      by_cases hb : blank c = true
      · rw [if_pos hb]; exact ih _
      · rw [if_neg hb]
        cases r with
        | nil => simp [skip, hb]
        | cons d r' =>
          simp only
          by_cases h2 : (c == 45 && d == 45) = true
          · rw [if_pos h2]; exact ih _
          · rw [if_neg h2]; simp [skip, hb, h2]
end LX
end Go.Proofs.YtnlkjimpefebbaaDoor
