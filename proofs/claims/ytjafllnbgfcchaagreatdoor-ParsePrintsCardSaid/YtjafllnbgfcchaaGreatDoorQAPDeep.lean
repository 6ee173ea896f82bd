/- How deep an expression is: what the program's count says of what was read. -/
import Derived.Test.YtjafllnbgfcchaaGreatDoorQAPRow
import Derived.Test.YtjafllnbgfcchaaGreatDoorQAGPFine
import Derived.Test.YtjafllnbgfcchaaGreatDoorQAXKx1
namespace Go.Proofs.YtjafllnbgfcchaaGreatDoor.Px
set_option linter.unusedVariables false
open Go Go.RowKit Go.Proofs.YtjafllnbgfcchaaGreatDoorW.PrintWords Go.Proofs.YtjafllnbgfcchaaGreatDoorW.PrintLast Go.Proofs.YtjafllnbgfcchaaGreatDoorW.PrintMore Go.Proofs.YtjafllnbgfcchaaGreatDoor.Lx Go.Proofs.YtjafllnbgfcchaaGreatDoor.XK
theorem rd_real (toks : List LX.Tok) (l : List PX.Ex) (i : Nat) (h : i < l.length) : rd_T54 (reals toks l) (i : Int) = real toks l[i] := by
 unfold rd_T54
 rw [reals_map]
 simp [h]
theorem real_kids (toks : List LX.Tok) (e : PX.Ex) : (real toks e).f5 = reals toks e.kids := by
 cases e
 rw [real]
 rfl
theorem nszs_get : ∀ (l : List PX.Ex) (i : Nat) (h : i < l.length), PX.nszs l[i].kids < PX.nszs l
 | [], i, h => by simp at h
 | e :: r, 0, h => by
  cases e
  simp only [List.getElem_cons_zero, PX.nszs, PX.nsz, PX.Ex.kids]
  omega
 | e :: r, i + 1, h => by
  have h2 : i < r.length := by simpa using h
  have := nszs_get r i h2
  simp only [List.getElem_cons_succ, PX.nszs]
  omega
theorem deeps_cons (e : PX.Ex) (r : List PX.Ex) : PX.deeps (e :: r) = max (PX.deeps e.kids + 1) (PX.deeps r) := by
 cases e
 rw [PX.deeps, PX.deepE]
 rfl
theorem len_nszs : ∀ l : List PX.Ex, l.length ≤ PX.nszs l
 | [] => Nat.le_refl _
 | e :: r => by
  have := len_nszs r
  have := PX.nsz_pos e
  rw [List.length_cons, PX.nszs]
  omega
theorem mx_nat (a b : Nat) : mx (a : Int) (b : Int) = ((max a b : Nat) : Int) := by unfold mx; omega
theorem deep_ev (toks : List LX.Tok) : ∀ (n : Nat), n ≤ 1000000 → ∀ (l : List PX.Ex) (a b c : Int) (d : ByteArray) (o : Bool), PX.nszs l ≤ n → Ev (fun k => tree_Deep.f k a b c d o (reals toks l)) ((PX.deeps l + 1 : Nat) : Int) := by
 intro n
 induction n using Nat.strongRecOn with
 | _ n ih =>
 intro hn l a b c d o hl
 have hlen := len_nszs l
 have loop : ∀ q i acc, l.length - i = q → i ≤ l.length → acc ≤ 1000000 → Ev (fun k => tree_Deep.l0 k ((acc : Nat) : Int) (reals toks l) (l.length : Int) (i : Int)) ((max acc (PX.deeps (l.drop i)) + 1 : Nat) : Int) := by
  intro q
  induction q with
  | zero =>
   intro i acc hq hi hacc
   have : l.drop i = [] := List.drop_eq_nil_of_le (by omega)
   rw [this]
   refine Ev.step (f := fun _ => some ((max acc (PX.deeps []) + 1 : Nat) : Int)) (fun k => ?_) (Ev.now _)
   simp only [tree_Deep.l0]
   rw [if_neg (by omega)]
   have : PX.deeps [] = 0 := by rw [PX.deeps]
   rw [this]
   have : wrap64 ((acc : Int) + 1) = ((max acc 0 + 1 : Nat) : Int) := by unfold wrap64; omega
   rw [this]
  | succ q ihq =>
   intro i acc hq hi hacc
   have hlt : i < l.length := by omega
   have hk := nszs_get l i hlt
   have h1 := ih (PX.nszs l[i].kids) (by omega) (by omega) l[i].kids (real toks l[i]).f0 (real toks l[i]).f1 (real toks l[i]).f2 (real toks l[i]).f3 (real toks l[i]).f4 (Nat.le_refl _)
   rw [← real_kids] at h1
   have hd := PX.deeps_le _ l[i].kids (Nat.le_refl _)
   have h2 := ihq (i + 1) (max acc (PX.deeps l[i].kids + 1)) (by omega) (by omega) (by omega)
   refine Ev.step (f := fun k => (tree_Deep.f k (real toks l[i]).f0 (real toks l[i]).f1 (real toks l[i]).f2 (real toks l[i]).f3 (real toks l[i]).f4 (real toks l[i]).f5).bind fun t => tree_Deep.l0 k (mx (acc : Int) t) (reals toks l) (l.length : Int) (((i + 1 : Nat)) : Int)) (fun k => ?_) ?_
   ·simp only [tree_Deep.l0]
    have hw : wrap64 ((i : Int) + 1) = ((i + 1 : Nat) : Int) := by unfold wrap64; omega
    rw [if_pos (by omega), if_pos (by omega), if_pos (by rw [reals_len]; omega), rd_real toks l i hlt, hw]
   ·refine Ev.bind h1 ?_
    rw [mx_nat]
    rw [List.drop_eq_getElem_cons hlt, deeps_cons]
    have e : max acc (max (PX.deeps l[i].kids + 1) (PX.deeps (l.drop (i + 1)))) = max (max acc (PX.deeps l[i].kids + 1)) (PX.deeps (l.drop (i + 1))) := by omega
    rw [e]
    exact h2
 have h0 := loop l.length 0 0 (by omega) (by omega) (by omega)
 rw [List.drop_zero, Nat.zero_max] at h0
 refine Ev.step (f := fun k => tree_Deep.l0 k 0 (reals toks l) ((reals toks l).length : Int) 0) (fun k => ?_) ?_
 ·simp only [tree_Deep.f]
 ·rw [reals_len]
  exact h0
theorem deep_walk (toks : List LX.Tok) (e : PX.Ex) (he : PX.nsz e ≤ 1000000) (A : Option Addr) (c : Nat) (w : World) (hr : Kd.C k54 w A (reals toks e.kids).length (reals toks e.kids)) (hc : (reals toks e.kids).length ≤ c) :
  Calls Tryz.prog 75 #[.agg #[.int .i64 e.kind, .int .i64 (atOf toks e.place), .int .i64 e.n, .string ⟨e.name.toArray⟩, .bool e.off, .slice A (reals toks e.kids).length c]] w fun e' w' => e' = .returned (.int .i64 (PX.deep e)) ∧ Below w.heap.size w w' := by
 have h := deep_ev toks (PX.nszs e.kids) (by cases e with | mk k a n m o l => (rw [PX.nsz] at he; show PX.nszs l ≤ 1000000; omega)) e.kids e.kind (atOf toks e.place) e.n ⟨e.name.toArray⟩ e.off (Nat.le_refl _)
 obtain ⟨k, hk⟩ := h.rounds
 exact tree_Deep.calls k _ _ _ _ _ A c _ _ w hr hc hk
end Go.Proofs.YtjafllnbgfcchaaGreatDoor.Px
