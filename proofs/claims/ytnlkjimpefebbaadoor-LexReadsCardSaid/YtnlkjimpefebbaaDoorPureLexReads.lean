/- The law LexReads over numbers and lists: the program's lexer and the document's part any text alike. -/
import Derived.Test.YtnlkjimpefebbaaDoorXLexBx4
import Derived.Test.YtnlkjimpefebbaaDoorLexRef
namespace Go.Proofs.YtnlkjimpefebbaaDoor.Pure
open Go Go.RowKit Go.Proofs.YtnlkjimpefebbaaDoor.XLexB Go.Proofs.YtnlkjimpefebbaaDoor.LR Go.Proofs.YtnlkjimpefebbaaDoorW.PrintWords Go.Proofs.YtnlkjimpefebbaaDoorW.PrintLast
theorem awake_ok : girandolelaw01_awake.f = some true := by decide +kernel
theorem cut_ok (s : ByteArray) (n : Nat) (hn : n ≤ 4000) : ∃ t, girandolelaw01_Cut.f s (n : Int) = some t ∧ t.size ≤ n := by
  unfold girandolelaw01_Cut.f
  by_cases h : (s.size : Int) > (n : Int)
  · rw [if_pos h, if_pos (by omega), if_pos (by omega)]
    refine ⟨_, rfl, ?_⟩
    simp
    omega
  · rw [if_neg h]
    exact ⟨s, rfl, by omega⟩
theorem rd36 (r : List LX.Tok) (i : Nat) (h : i < r.length) : rd_T36 (r.map lex_All.tok) (i : Int) = lex_All.tok r[i] := by
  simp [rd_T36, h]
theorem rd35 (r : List LX.Tok) (i : Nat) (h : i < r.length) : rd_T35 (r.map tok35) (i : Int) = tok35 r[i] := by
  simp [rd_T35, h]
theorem len_from (r : List LX.Tok) : (r.map lex_All.tok).length = (r.map tok35).length := by simp
theorem loop_ok (r : List LX.Tok) (hr : r.length ≤ 100000) : ∀ d i, r.length - i = d → i ≤ r.length → Ev (fun k => girandolelaw01_LexReads.l0 k (r.map lex_All.tok) (r.map tok35) (r.length : Int) (i : Int)) true := by
  intro d
  induction d with
  | zero =>
    intro i hd hi
    refine Ev.step (f := fun _ => some true) (fun k => ?_) (Ev.now _)
    simp only [girandolelaw01_LexReads.l0]
    rw [if_neg (by omega)]
  | succ d ih =>
    intro i hd hi
    have hlt : i < r.length := by omega
    refine Ev.step (f := fun k => girandolelaw01_LexReads.l0 k (r.map lex_All.tok) (r.map tok35) (r.length : Int) ((i + 1 : Nat) : Int)) (fun k => ?_) (ih (i + 1) (by omega) (by omega))
    simp only [girandolelaw01_LexReads.l0]
    rw [if_pos (by omega), if_pos (by omega), if_pos (by rw [List.length_map]; omega), if_pos (by rw [List.length_map]; omega), rd36 r i hlt, rd35 r i hlt, w1 i (by omega)]
    simp [lex_All.tok, tok35]
theorem go_len (total : Nat) : ∀ (n : Nat) (l : List UInt8) (r : List LX.Tok), LX.go total n l = .ok r → r.length ≤ n := by
  intro n
  induction n with
  | zero =>
    intro l r h
    simp only [LX.go, Except.ok.injEq] at h
    subst h
    simp
  | succ n ih =>
    intro l r h
    simp only [LX.go] at h
    split at h
    · cases h
      simp
    · split at h
      · cases h
      · split at h
        · cases h
        · rename_i r' hr'
          cases h
          have := ih _ _ hr'
          simp
          omega
theorem all_len (s : List UInt8) (r : List LX.Tok) (h : LX.all s = .ok r) : r.length ≤ 4001 := by
  unfold LX.all at h
  split at h
  · cases h
  · have := go_len _ _ _ _ h
    omega
theorem LexReads : girandolelaw01_LexReads.Pure := by
  intro a0 _
  obtain ⟨t, ht, hsz⟩ := cut_ok a0 300 (by omega)
  refine Ev.rounds ?_
  refine Ev.congr (f := fun k => (lex_All.f t).bind fun b => (girandoleref01_All.f k t).bind fun c => (if b.2.2 = c.2.1 then (if b.2.1 = c.2.2 then (girandolelaw01_LexReads.j0 k b.1 c.1 ((b.1.length : Int) != (c.1.length : Int))) else (girandolelaw01_LexReads.j0 k b.1 c.1 true)) else (girandolelaw01_LexReads.j0 k b.1 c.1 true))) (fun k => ?_) ?_
  · unfold girandolelaw01_LexReads.f
    rw [show (300 : Int) = ((300 : Nat) : Int) from rfl, ht, awake_ok]
    rfl
  · have hr := ref_ev t (by omega)
    cases hx : LX.all t.data.toList with
    | ok r =>
      rw [hx] at hr
      have hl : lex_All.f t = some (r.map lex_All.tok, 0, 0) := by
        unfold lex_All.f
        rw [if_pos (by omega), hx]
      have hlen := all_len _ _ hx
      simp only [hl, Option.bind_some]
      refine Ev.bind hr ?_
      simp only [fin, List.nil_append, if_true, len_from, bne_self_eq_false]
      refine Ev.step (f := fun k => girandolelaw01_LexReads.l0 k (r.map lex_All.tok) (r.map tok35) (r.length : Int) ((0 : Nat) : Int)) (fun k => ?_) (loop_ok r (by omega) r.length 0 (by omega) (by omega))
      simp [girandolelaw01_LexReads.j0]
    | error p =>
      obtain ⟨p, c⟩ := p
      rw [hx] at hr
      have hl : lex_All.f t = some ([], (p : Int), (c : Int)) := by
        unfold lex_All.f
        rw [if_pos (by omega), hx]
      simp only [hl, Option.bind_some]
      refine Ev.bind hr ?_
      simp only [fin, if_true, List.length_nil, bne_self_eq_false]
      refine Ev.step (f := fun k => girandolelaw01_LexReads.l0 k [] [] 0 0) (fun k => ?_) ?_
      · simp [girandolelaw01_LexReads.j0]
      · exact loop_ok [] (by decide) 0 0 rfl (by decide)
end Go.Proofs.YtnlkjimpefebbaaDoor.Pure
