/- The law FeedReads over numbers and lists: any text is read as its reference reads it. -/
import Derived.Test.YtnlkjimpefebbaaDoorXFFx7
import Derived.Test.YtnlkjimpefebbaaDoorFeedDecl
import Derived.Test.YtnlkjimpefebbaaDoorFeedRef
namespace Go.Proofs.YtnlkjimpefebbaaDoor.Pure
open Go Go.RowKit Go.Proofs.YtnlkjimpefebbaaDoor.XFF Go.Proofs.YtnlkjimpefebbaaDoor.FE Go.Proofs.YtnlkjimpefebbaaDoor.FP Go.Proofs.YtnlkjimpefebbaaDoor.Fl Go.Proofs.YtnlkjimpefebbaaDoorW.PrintWords Go.Proofs.YtnlkjimpefebbaaDoorW.PrintLast
theorem decls_loop' (l : List Bool) : ∀ d i, 5 - i = d → i ≤ 5 → i ≤ l.length → Ev (fun k => girandolelaw20_Decls.l0 k l ((l.take i).map d84) (i : Int)) ((l.take 5).map d84) := by
  intro d
  induction d with
  | zero =>
    intro i hd hi hil
    have : i = 5 := by omega
    subst this
    refine Ev.step (f := fun _ => some _) (fun k => ?_) (Ev.now _)
    simp only [girandolelaw20_Decls.l0]
    by_cases h : ((5 : Nat) : Int) < (l.length : Int)
    · rw [if_pos h, if_neg (by omega)]
    · rw [if_neg h]
  | succ d ih =>
    intro i hd hi hil
    by_cases h : i < l.length
    · have e : l.take (i + 1) = l.take i ++ [l[i]] := by rw [List.take_add_one, List.getElem?_eq_getElem h]; rfl
      have h1 := ih (i + 1) (by omega) (by omega) (by omega)
      rw [e, List.map_append] at h1
      refine Ev.step (fun k => ?_) h1
      simp only [girandolelaw20_Decls.l0]
      rw [if_pos (by omega), if_pos (by omega), if_pos (by omega), if_pos (by simp; omega), rdBool l i h, w1 i (by omega)]
      rfl
    · refine Ev.step (f := fun _ => some _) (fun k => ?_) (Ev.now _)
      simp only [girandolelaw20_Decls.l0]
      rw [if_neg (by omega), List.take_of_length_le (by omega), List.take_of_length_le (by omega)]
theorem decls_ev' (l : List Bool) : Ev (fun k => girandolelaw20_Decls.f k l) ((l.take 5).map d84) := decls_loop' l _ 0 rfl (by omega) (by omega)
theorem cut_ok (s : ByteArray) (n : Nat) (hn : n ≤ 4000) : ∃ t, girandolelaw01_Cut.f s (n : Int) = some t ∧ t.size ≤ n := by
  unfold girandolelaw01_Cut.f
  by_cases h : (s.size : Int) > (n : Int)
  · rw [if_pos h, if_pos (by omega), if_pos (by omega)]
    refine ⟨_, rfl, ?_⟩
    simp
    omega
  · rw [if_neg h]
    exact ⟨s, rfl, by omega⟩
theorem same_loop (l : List Int) (hl : l.length ≤ 1000000) : ∀ d i, l.length - i = d → i ≤ l.length → Ev (fun k => girandolelaw11_Same.l0 k l l (l.length : Int) (i : Int)) 0 := by
  intro d
  induction d with
  | zero =>
    intro i hd hi
    refine Ev.step (f := fun _ => some _) (fun k => ?_) (Ev.now _)
    simp only [girandolelaw11_Same.l0]
    rw [if_neg (by omega)]
  | succ d ih =>
    intro i hd hi
    refine Ev.step (fun k => ?_) (ih (i + 1) (by omega) (by omega))
    simp only [girandolelaw11_Same.l0]
    rw [if_pos (by omega), if_pos (by omega), if_pos (by omega), if_pos (by omega), if_pos trivial, w1 i (by omega)]
theorem same_ev (l : List Int) (hl : l.length ≤ 1000000) : Ev (fun k => girandolelaw11_Same.f k l l) 0 := by
  refine Ev.congr (fun k => ?_) (same_loop l hl _ 0 rfl (by omega))
  unfold girandolelaw11_Same.f
  rw [if_pos rfl]
  rfl
theorem rdL7 (l : List (List Int)) (i : Nat) (h : i < l.length) : rd_L7 l (i : Int) = l[i] := by simp [rd_L7, h]
theorem rows_loop (l : List (List Int)) (hn : l.length ≤ 1000000) (hl : ∀ r ∈ l, r.length ≤ 1000000) : ∀ d i, l.length - i = d → i ≤ l.length → Ev (fun k => girandolelaw20_FeedReads.l0 k l l (l.length : Int) (i : Int)) true := by
  intro d
  induction d with
  | zero =>
    intro i hd hi
    refine Ev.step (f := fun _ => some _) (fun k => ?_) (Ev.now _)
    simp only [girandolelaw20_FeedReads.l0]
    rw [if_neg (by omega)]
  | succ d ih =>
    intro i hd hi
    have h : i < l.length := by omega
    refine Ev.step (f := fun k => (girandolelaw11_Same.f k l[i] l[i]).bind fun t => if t = 0 then girandolelaw20_FeedReads.l0 k l l (l.length : Int) ((i + 1 : Nat) : Int) else some false) (fun k => ?_) (Ev.bind (same_ev l[i] (hl _ (List.getElem_mem _))) ?_)
    · simp only [girandolelaw20_FeedReads.l0]
      rw [if_pos (by omega), if_pos (by omega), if_pos (by omega), if_pos (by omega), rdL7 l i h, w1 i (by omega)]
    · simp only [if_true]
      exact ih (i + 1) (by omega) (by omega)
theorem rowgo_len : ∀ (ts : List Bool) (ws : List (List UInt8)) (out : List Int), (rowgo ts ws out).1.length ≤ out.length + ts.length := by
  intro ts
  induction ts with
  | nil =>
    intro ws out
    cases ws <;> simp [rowgo]
  | cons b ts ih =>
    intro ws out
    cases ws with
    | nil => simp [rowgo]
    | cons w ws =>
      rw [rowgo]
      split
      · have := ih ws (out ++ [(valP b w).1])
        simp at this ⊢
        omega
      · simp
theorem rowP_len (ts : List Bool) (line : List UInt8) : (rowP ts line).1.length ≤ ts.length := by
  unfold rowP
  split
  · split <;> simp
  · have := rowgo_len ts (sp 32 [] line) []
    simpa using this
theorem pgo_len (ts : List Bool) : ∀ (ws : List (List UInt8)) (i : Nat) (out : List (List Int)), out.length ≤ 200 → (∀ r ∈ out, r.length ≤ ts.length) →
    (pgo ts ws i out).1.length ≤ 200 ∧ ∀ r ∈ (pgo ts ws i out).1, r.length ≤ ts.length := by
  intro ws
  induction ws with
  | nil => intro i out h1 h2; exact ⟨h1, h2⟩
  | cons w ws ih =>
    intro i out h1 h2
    rw [pgo]
    split
    · exact ih _ _ h1 h2
    · split
      · simp
      · split
        · refine ih _ _ (by simp; omega) ?_
          intro r hr
          rcases List.mem_append.1 hr with hr | hr
          · exact h2 r hr
          · rw [List.mem_singleton.1 hr]
            exact rowP_len _ _
        · simp
theorem FeedReads (l0 : List Bool) (a1 : ByteArray) : ∃ k, girandolelaw20_FeedReads.f k l0 a1 = some true := by
  obtain ⟨t, ht, hts⟩ := cut_ok a1 300 (by omega)
  have hlen : (l0.take 5).length ≤ 5 := by simp; omega
  have h1 := decls_ev' l0
  have h2 := own_ev ((l0.take 5).map d84) (by simp; omega)
  have h3 := feed_ev ⟨#[]⟩ 0 (((l0.take 5).map d84).map o88) [] [] [] t (by omega)
  have h4 := ref_ev ⟨#[]⟩ 0 ((l0.take 5).map d84) [] [] [] t (by omega)
  rw [truths88] at h3
  rw [truths84] at h4
  obtain ⟨p, hp⟩ : ∃ p, parseP (l0.take 5) t.data.toList = p := ⟨_, rfl⟩
  have hb := pgo_len (l0.take 5) (sp 10 [] t.data.toList) 0 [] (by simp) (by simp)
  have hpe : pgo (l0.take 5) (sp 10 [] t.data.toList) 0 [] = p := hp
  rw [hpe] at hb
  rw [hp] at h3 h4
  have ht' : girandolelaw01_Cut.f a1 300 = some t := ht
  have hj : Ev (fun k => girandolelaw20_FeedReads.j0 k p.1 p.1 false) true := by
    refine Ev.step (f := fun k => girandolelaw20_FeedReads.l0 k p.1 p.1 (p.1.length : Int) 0) (fun k => ?_) (rows_loop p.1 (by omega) (fun r hr => by have := hb.2 r hr; omega) _ 0 rfl (by omega))
    simp only [girandolelaw20_FeedReads.j0]
    rw [if_neg (by decide)]
  refine Ev.rounds (Ev.congr (f := fun k => (girandolelaw20_awake.f k).bind fun z => if z = true then ((girandolelaw20_Decls.f k l0).bind fun t208 => ((girandolelaw02_OwnDecls.f k t208).bind fun t211 => ((feed_Parse.f k (⟨#[]⟩ : ByteArray) 0 t211 ([] : List (S88)) ([] : List (S88)) ([] : List (S136)) t).bind fun bt214 => ((girandoleref20_Parse.f k (⟨#[]⟩ : ByteArray) 0 t208 ([] : List (S84)) ([] : List (S84)) ([] : List (S131)) t).bind fun bt219 => (if bt214.2.2 = bt219.2.2 then (if bt214.2.1 = bt219.2.1 then (girandolelaw20_FeedReads.j0 k bt214.1 bt219.1 ((bt214.1.length : Int) != (bt219.1.length : Int))) else (girandolelaw20_FeedReads.j0 k bt214.1 bt219.1 true)) else (girandolelaw20_FeedReads.j0 k bt214.1 bt219.1 true)))))) else some false) (fun k => ?_) (Ev.bind awake_ev ?_))
  · unfold girandolelaw20_FeedReads.f
    rw [ht']
    rfl
  · simp only [if_true]
    refine Ev.bind h1 (Ev.bind h2 (Ev.bind h3 (Ev.bind h4 ?_)))
    refine Ev.congr (fun k => ?_) hj
    rw [if_pos rfl, if_pos rfl, bne_self_eq_false]
end Go.Proofs.YtnlkjimpefebbaaDoor.Pure
