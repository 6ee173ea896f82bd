/- The plain lexer: gaps are blanks and remarks, tokens stand at their places, words with blanks between are read one by one. -/
import Derived.Test.YtnlkjimpefebbaaDoorLexAll
namespace Go.Proofs.YtnlkjimpefebbaaDoor.LR
set_option linter.unusedVariables false
open Go Go.RowKit Go.Proofs.YtnlkjimpefebbaaDoorW.PrintWords Go.Proofs.YtnlkjimpefebbaaDoorW.PrintLast Go.Proofs.YtnlkjimpefebbaaDoorW.PrintMore
theorem toList_data (s : ByteArray) : s.toList = s.data.toList := Lx.toList_data s
/-- Where the plain skip stands. -/
def sk (b : Bool) (s : ByteArray) (i : Nat) : Nat := s.size - (LX.skip b (s.data.toList.drop i)).length
theorem dlen (s : ByteArray) (i : Nat) : (s.data.toList.drop i).length = s.size - i := Lx.drop_len s i
theorem dcons (s : ByteArray) (i : Nat) (h : i < s.size) : s.data.toList.drop i = s[i] :: s.data.toList.drop (i + 1) := Lx.at_head s i h
theorem dnil (s : ByteArray) (i : Nat) (h : s.size ≤ i) : s.data.toList.drop i = [] := List.drop_eq_nil_of_le (by simpa using h)
theorem sk_drop (s : ByteArray) (k : Nat) (hk : k ≤ s.size) : LX.skip false (s.data.toList.drop k) = s.data.toList.drop (sk false s k) ∧ k ≤ sk false s k ∧ sk false s k ≤ s.size := by
  have h1 := LX.skip_len false (s.data.toList.drop k)
  rw [dlen] at h1
  have hsuf : ∀ (b : Bool) (l : List UInt8), LX.skip b l <:+ l := by
    intro b l
    induction l generalizing b with
    | nil => cases b <;> exact List.suffix_refl _
    | cons c r ih =>
      cases b with
      | true => simp only [LX.skip]; split <;> exact (ih _).trans (List.suffix_cons _ _)
      | false =>
        simp only [LX.skip]
        split
        · exact (ih _).trans (List.suffix_cons _ _)
        · split
          · split
            · exact (ih _).trans (List.suffix_cons _ _)
            · exact List.suffix_refl _
          · exact List.suffix_refl _
  have h2 := hsuf false (s.data.toList.drop k)
  have h3 := List.suffix_iff_eq_drop.1 h2
  unfold sk
  obtain ⟨n, hn⟩ : ∃ n, (LX.skip false (s.data.toList.drop k)).length = n := ⟨_, rfl⟩
  rw [hn] at h1 h3 ⊢
  refine ⟨?_, by omega, by omega⟩
  rw [h3, List.drop_drop, dlen]
  congr 1
  omega
theorem gap (g : List UInt8) : ∀ (rest : List UInt8) (b : Bool), LX.skip b (g ++ rest) = rest → LX.skip b g = [] := by
  induction g with
  | nil => intro rest b _; cases b <;> rfl
  | cons c g ih =>
    intro rest b h
    cases b with
    | true =>
      rw [List.cons_append] at h
      simp only [LX.skip] at h ⊢
      split at h
      · rw [if_pos (by assumption)]; exact ih _ _ h
      · rw [if_neg (by assumption)]; exact ih _ _ h
    | false =>
      rw [List.cons_append] at h
      simp only [LX.skip] at h ⊢
      by_cases hb : LX.blank c = true
      · rw [if_pos hb] at h ⊢; exact ih _ _ h
      · rw [if_neg hb] at h ⊢
        have big : ∀ (x : List UInt8), c :: (g ++ x) = x → False := by
          intro x e
          have := congrArg List.length e
          simp at this
          omega
        cases g with
        | nil =>
          exfalso
          cases rest with
          | nil => simp at h
          | cons d r =>
            simp only [List.nil_append] at h
            split at h
            · simp only [LX.skip] at h
              split at h
              · have := LX.skip_len false r; rw [h] at this; simp at this; omega
              · have := LX.skip_len true r; rw [h] at this; simp at this; omega
            · have := congrArg List.length h; simp at this
        | cons d g' =>
          simp only [List.cons_append] at h ⊢
          split at h
          · rw [if_pos (by assumption)]
            exact ih _ _ (by simpa using h)
          · exact (big rest (by simpa using h)).elim
theorem one_pre (l : List UInt8) (k : Nat) (t : List UInt8) (n : Nat) (h : LX.one l = .ok (k, t, n)) : t <+: l := by
  match l, h with
  | [], h => simp [LX.one] at h
  | c :: r, h =>
    unfold LX.one at h
    simp only at h
    split at h
    · split at h
      · simp at h; rw [← h.2.1]; exact List.takeWhile_prefix _
      · split at h
        · cases h
        · simp at h; rw [← h.2.1]; exact List.takeWhile_prefix _
    · split at h
      · split at h
        · cases h
        · split at h
          · cases h
          · simp at h; rw [← h.2.1]; exact List.takeWhile_prefix _
      · split at h
        · rename_i s hs
          simp at h
          obtain ⟨_, rfl, _⟩ := h
          exact List.isPrefixOf_iff_prefix.1 (by have := List.find?_some hs; exact this)
        · cases h
/-- What is read from k on: the end alone; or a token at k0, and what is read behind it. -/
theorem from_cases (s : ByteArray) (k : Nat) (hk : k ≤ s.size) (r : List LX.Tok) (h : Lx.from_ s k = .ok r) :
    (r = [⟨5, s.size, [], 0⟩] ∧ sk false s k = s.size) ∨
    ∃ kind t n r', r = ⟨kind, sk false s k, t, n⟩ :: r' ∧ sk false s k + t.length ≤ s.size ∧ kind ≠ 5 ∧ 1 ≤ t.length ∧ (s.extract (sk false s k) (sk false s k + t.length)).toList = t ∧ Lx.from_ s (sk false s k + t.length) = .ok r' ∧ LX.one (s.data.toList.drop (sk false s k)) = .ok (kind, t, n) := by
  obtain ⟨hsk, h1, h2⟩ := sk_drop s k hk
  by_cases he : sk false s k = s.size
  · left
    rw [Lx.from_end s k (by rw [hsk, he])] at h
    exact ⟨(Except.ok.inj h).symm, he⟩
  · right
    have hlt : sk false s k < s.size := by omega
    cases hone : LX.one (s.data.toList.drop (sk false s k)) with
    | error c => rw [Lx.from_err s k _ c hsk hlt hone] at h; cases h
    | ok p =>
      obtain ⟨kind, t, n⟩ := p
      rw [Lx.from_tok s k _ kind n t hsk hlt h1 hone] at h
      have hp := LX.one_pos _ _ _ _ hone
      rw [dlen] at hp
      have hpre := one_pre _ _ _ _ hone
      cases hr : Lx.from_ s (sk false s k + t.length) with
      | error e => rw [hr] at h; cases h
      | ok r' =>
        rw [hr] at h
        refine ⟨kind, t, n, r', (Except.ok.inj h).symm, by omega, Lx.one_kind _ _ _ _ hone, hp.1, ?_, hr, rfl⟩
        rw [toList_data, Lx.extract_list, show sk false s k + t.length - sk false s k = t.length from by omega]
        exact (List.prefix_iff_eq_take.1 hpre).symm
theorem gap_all (s : ByteArray) (hs : s.size ≤ 4000) (k : Nat) (hk : k ≤ s.size) : LX.all (s.extract k (sk false s k)).data.toList = .ok [⟨5, sk false s k - k, [], 0⟩] := by
  obtain ⟨hsk, h1, h2⟩ := sk_drop s k hk
  have e : (s.extract k (sk false s k)).data.toList = (s.data.toList.drop k).take (sk false s k - k) := Lx.extract_list _ _ _
  have hg : LX.skip false ((s.data.toList.drop k).take (sk false s k - k)) = [] := by
    refine gap _ (s.data.toList.drop (sk false s k)) false ?_
    have : (s.data.toList.drop k).take (sk false s k - k) ++ s.data.toList.drop (sk false s k) = s.data.toList.drop k := by
      have h3 : s.data.toList.drop (sk false s k) = (s.data.toList.drop k).drop (sk false s k - k) := by
        rw [List.drop_drop]
        congr 1
        omega
      rw [h3, List.take_append_drop]
    rw [this]
    exact hsk
  have hl : ((s.data.toList.drop k).take (sk false s k - k)).length = sk false s k - k := by
    rw [List.length_take, dlen]
    omega
  rw [e]
  unfold LX.all
  rw [hl, if_neg (by omega), LX.go, hg]
  rfl
theorem tw_blank (p : UInt8 → Bool) (w : List UInt8) (c d : UInt8) (r : List UInt8) (hc : p c = false) (hd : p d = false) : (w ++ c :: r).takeWhile p = (w ++ [d]).takeWhile p := by
  induction w with
  | nil => simp [hc, hd]
  | cons a w ih =>
    rw [List.cons_append, List.cons_append, List.takeWhile_cons, List.takeWhile_cons, ih]
theorem pre_blank (s w : List UInt8) (c : UInt8) (r : List UInt8) (hc : c ∉ s) : s.isPrefixOf (w ++ c :: r) = s.isPrefixOf w := by
  induction s generalizing w with
  | nil => simp [List.isPrefixOf]
  | cons a s ih =>
    cases w with
    | nil =>
      have : a ≠ c := fun e => hc (by rw [e]; exact List.mem_cons_self)
      simp [List.isPrefixOf, this]
    | cons b w =>
      rw [List.cons_append]
      simp only [List.isPrefixOf]
      rw [ih w (fun h => hc (List.mem_cons_of_mem _ h))]
theorem blank_no : ∀ n : Fin 256, LX.blank (UInt8.ofNat n.val) = true → LX.word (UInt8.ofNat n.val) = false ∧ LX.digit (UInt8.ofNat n.val) = false := by decide +kernel
theorem blank_no' (c : UInt8) (h : LX.blank c = true) : LX.word c = false ∧ LX.digit c = false := by
  have h2 := blank_no ⟨c.toNat, c.toNat_lt⟩
  simp only [UInt8.ofNat_toNat] at h2
  exact h2 h
theorem blank_cases (c : UInt8) (h : LX.blank c = true) : c = 32 ∨ c = 9 ∨ c = 10 := by
  unfold LX.blank at h
  simp at h
  rcases h with (h | h) | h <;> simp [h]
theorem signs_no : ∀ x ∈ LX.signs, (32 : UInt8) ∉ x ∧ (9 : UInt8) ∉ x ∧ (10 : UInt8) ∉ x := by decide
theorem find_congr {α : Type} {p q : α → Bool} : ∀ {l : List α}, (∀ x ∈ l, p x = q x) → l.find? p = l.find? q := by
  intro l
  induction l with
  | nil => intro _; rfl
  | cons a l ih =>
    intro h
    rw [List.find?_cons, List.find?_cons, h a List.mem_cons_self, ih (fun x hx => h x (List.mem_cons_of_mem _ hx))]
/-- A word, with a blank behind: what is there more is not asked. -/
theorem one_blank (w : List UInt8) (c : UInt8) (r : List UInt8) (hw : w ≠ []) (hc : LX.blank c = true) : LX.one (w ++ c :: r) = LX.one (w ++ [32]) := by
  cases w with
  | nil => exact absurd rfl hw
  | cons a w =>
    have h1 := blank_no' c hc
    have h32 := blank_no' 32 (by decide)
    have e1 := tw_blank LX.word (a :: w) c 32 r h1.1 h32.1
    have e2 := tw_blank LX.digit (a :: w) c 32 r h1.2 h32.2
    have e3 : LX.signs.find? (fun s => s.isPrefixOf ((a :: w) ++ c :: r)) = LX.signs.find? (fun s => s.isPrefixOf ((a :: w) ++ [32])) := by
      refine find_congr (fun x hx => ?_)
      have hn := signs_no x hx
      rw [pre_blank x (a :: w) c r (by rcases blank_cases c hc with rfl | rfl | rfl <;> simp [hn]), pre_blank x (a :: w) 32 [] hn.1]
    simp only [List.cons_append] at e1 e2 e3 ⊢
    unfold LX.one
    simp only [e1, e2, e3]
def seps : List (List UInt8) := [[32], [10], [9, 32], [32, 45, 45, 32, 120, 32, 60, 62, 32, 55, 10]]
def joinWords : List (List UInt8) := LX.words ++ LX.signs ++ [[120], [65, 98, 95, 57], [48], [49, 55], [57, 50, 50, 51, 51, 55, 50, 48, 51, 54, 56, 53, 52, 55, 55, 53, 56, 48, 56]]
def oneIs (w : List UInt8) : Bool := match LX.one (w ++ [32]) with | .ok (k, t, n) => t == w | .error _ => false
theorem join_one : ∀ w ∈ joinWords, oneIs w = true := by decide +kernel
theorem join_ne : ∀ w ∈ joinWords, w ≠ [] ∧ w.length ≤ 19 ∧ (w.head?.map LX.blank) = some false ∧ (w ++ [32]).isPrefixOf [45, 45] = false ∧ ([45, 45] : List UInt8).isPrefixOf (w ++ [32]) = false := by decide +kernel
theorem sep_skip : ∀ p ∈ seps, ∀ r, LX.skip false (p ++ r) = LX.skip false r := by
  intro p hp r
  simp only [seps, List.mem_cons, List.not_mem_nil, or_false] at hp
  rcases hp with rfl | rfl | rfl | rfl <;> simp [LX.skip, LX.blank]
theorem sep_head : ∀ p ∈ seps, ∃ c q, p = c :: q ∧ LX.blank c = true := by
  intro p hp
  simp only [seps, List.mem_cons, List.not_mem_nil, or_false] at hp
  rcases hp with rfl | rfl | rfl | rfl
  · exact ⟨32, [], rfl, by decide⟩
  · exact ⟨10, [], rfl, by decide⟩
  · exact ⟨9, _, rfl, by decide⟩
  · exact ⟨32, _, rfl, by decide⟩
/-- Words, each with a blank, a line's end or a remark behind. -/
def joined (l : List (List UInt8 × List UInt8)) : List UInt8 := (l.map fun p => p.1 ++ p.2).flatten
theorem join_go (total : Nat) : ∀ (l : List (List UInt8 × List UInt8)) (fuel : Nat), (∀ p ∈ l, p.1 ∈ joinWords ∧ p.2 ∈ seps) → l.length < fuel →
    ∀ l0, LX.skip false l0 = LX.skip false (joined l) → ∃ r, LX.go total fuel l0 = .ok r ∧ r.map (fun t => t.text) = l.map Prod.fst ++ [[]] ∧ (r.map (fun t => t.kind)).getLast? = some 5 := by
  intro l
  induction l with
  | nil =>
    intro fuel _ hf l0 h0
    obtain ⟨f, rfl⟩ : ∃ f, fuel = f + 1 := ⟨fuel - 1, by simp at hf; omega⟩
    refine ⟨[⟨5, total, [], 0⟩], ?_, rfl, rfl⟩
    rw [LX.go, h0]
    rfl
  | cons p l ih =>
    intro fuel hm hf l0 h0
    obtain ⟨f, rfl⟩ : ∃ f, fuel = f + 1 := ⟨fuel - 1, by simp at hf; omega⟩
    obtain ⟨w, q⟩ := p
    obtain ⟨hw, hq⟩ := hm _ List.mem_cons_self
    simp only at hw hq
    obtain ⟨c, q', rfl, hc⟩ := sep_head q hq
    obtain ⟨hne, _, hhead, _, hrem⟩ := join_ne w hw
    have hj : joined ((w, c :: q') :: l) = w ++ c :: (q' ++ joined l) := by simp [joined]
    have hs : LX.skip false (w ++ c :: (q' ++ joined l)) = w ++ c :: (q' ++ joined l) := by
      refine LX.skip_other _ ?_ ?_
      · intro a r e
        cases w with
        | nil => exact absurd rfl hne
        | cons b w =>
          rw [List.cons_append] at e
          obtain ⟨rfl, _⟩ := List.cons.inj e
          simpa using hhead
      · cases hp : List.isPrefixOf [45, 45] (w ++ c :: (q' ++ joined l)) with
        | false => rfl
        | true =>
          rw [pre_blank [45, 45] w c _ (by rcases blank_cases c hc with rfl | rfl | rfl <;> decide)] at hp
          rw [pre_blank [45, 45] w 32 [] (by decide)] at hrem
          rw [hp] at hrem
          cases hrem
    have h1 := join_one w hw
    unfold oneIs at h1
    rw [← one_blank w c (q' ++ joined l) hne hc] at h1
    have hemp : (w ++ c :: (q' ++ joined l)).isEmpty = false := by
      cases w with
      | nil => exact absurd rfl hne
      | cons b w => rfl
    rw [hj, hs] at h0
    rw [LX.go, h0]
    simp only [hemp, Bool.false_eq_true, if_false]
    cases hone : LX.one (w ++ c :: (q' ++ joined l)) with
    | error e => rw [hone] at h1; cases h1
    | ok x =>
      obtain ⟨k, t, n⟩ := x
      rw [hone] at h1
      have ht : t = w := by simpa using h1
      subst ht
      obtain ⟨r, hr, h2, h3⟩ := ih f (fun p hp => hm p (List.mem_cons_of_mem _ hp)) (by simp at hf; omega) (c :: (q' ++ joined l)) (by
        have := sep_skip (c :: q') hq (joined l)
        rw [← this]
        rfl)
      simp only [List.drop_left, hr]
      refine ⟨_, rfl, by simp [h2], ?_⟩
      simp only [List.map_cons]
      rw [List.getLast?_cons, h3]
      rfl
theorem err_ne (s : ByteArray) (hs : s.size ≤ 4000) : ∀ (k : Nat), k ≤ s.size → ∀ (p c : Nat), Lx.from_ s k = .error (p, c) → c ≠ 0 := by
  intro k
  induction hd : s.size - k using Nat.strongRecOn generalizing k with
  | _ d ih =>
    intro hk p c h
    obtain ⟨hsk, h1, h2⟩ := sk_drop s k hk
    by_cases he : sk false s k = s.size
    · rw [Lx.from_end s k (by rw [hsk, he])] at h
      cases h
    · cases hone : LX.one (s.data.toList.drop (sk false s k)) with
      | error c' =>
        rw [Lx.from_err s k _ c' hsk (by omega) hone] at h
        cases h
        exact Lx.one_err _ _ hone
      | ok x =>
        obtain ⟨kind, t, n⟩ := x
        have hp := LX.one_pos _ _ _ _ hone
        rw [dlen] at hp
        rw [Lx.from_tok s k _ kind n t hsk (by omega) h1 hone] at h
        cases hr : Lx.from_ s (sk false s k + t.length) with
        | ok r => rw [hr] at h; cases h
        | error e =>
          rw [hr] at h
          cases h
          exact ih (s.size - (sk false s k + t.length)) (by omega) (sk false s k + t.length) rfl (by omega) p c hr
theorem stands (s : ByteArray) : ∀ (r : List LX.Tok) (k : Nat), k ≤ s.size → Lx.from_ s k = .ok r → ∀ t ∈ r, t.at_ + t.text.length ≤ s.size ∧ (s.extract t.at_ (t.at_ + t.text.length)).toList = t.text := by
  intro r
  induction r with
  | nil => intro k _ _ t ht; cases ht
  | cons a r ih =>
    intro k hk h t ht
    rcases from_cases s k hk _ h with ⟨e, he⟩ | ⟨kind, tx, n, r', e, h1, h2, h3, h4, h5, h6⟩
    · obtain ⟨rfl, rfl⟩ := List.cons.inj e
      rw [List.mem_singleton.1 ht]
      refine ⟨by simp, ?_⟩
      rw [toList_data]
      simp
    · obtain ⟨rfl, rfl⟩ := List.cons.inj e
      rcases List.mem_cons.1 ht with rfl | ht
      · exact ⟨h1, h4⟩
      · exact ih _ h1 h5 t ht
end Go.Proofs.YtnlkjimpefebbaaDoor.LR
