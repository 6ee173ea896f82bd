/- parse.Expr, walked: the expression of a text, or its fault. -/
import Derived.Test.YtjafllnbgfcchaaGreatDoorQAGPCaught
import Derived.Test.YtjafllnbgfcchaaGreatDoorQAPKnot
import Derived.Test.YtjafllnbgfcchaaGreatDoorQAPDeep
namespace Go.Proofs.YtjafllnbgfcchaaGreatDoor.Px
set_option linter.unusedVariables false
set_option linter.unusedSimpArgs false
open Go Go.RowKit Go.Proofs.YtjafllnbgfcchaaGreatDoorW.PrintWords Go.Proofs.YtjafllnbgfcchaaGreatDoorW.PrintLast Go.Proofs.YtjafllnbgfcchaaGreatDoorW.PrintMore Go.Proofs.YtjafllnbgfcchaaGreatDoor.Lx Go.Proofs.YtjafllnbgfcchaaGreatDoor.XK
attribute [local go_sem ↓] Go.wp_at_zero Go.wp_at_succ
def readExpr (K : Nat) (s : List PX.T) : PX.Res PX.Ex := (PX.expr K s).bind fun e s1 => (PX.shallow e s1).bind fun _ s2 => .ok e s2
theorem thenEnd_expr (K : Nat) (s : List PX.T) : thenEnd (readExpr K s) = PX.exprOf K s := by
 unfold thenEnd readExpr PX.exprOf
 rw [bind_assoc_]
 congr 1
 funext e s1
 rw [bind_assoc_]
 rfl
def ExprV (o : Nat) (toks : List LX.Tok) (n1 : Nat) (W : World) (x : PX.Ex) : Prop := ∃ A c, W.heap[o]? = some (.cells #[.int .i64 x.kind, .int .i64 (atOf toks x.place), .int .i64 x.n, .string ⟨x.name.toArray⟩, .bool x.off, .slice A (reals toks x.kids).length c] 54 (0, 0)) ∧
 k54.M W n1 (fun _ => True) (real toks x) [.int .i64 x.kind, .int .i64 (atOf toks x.place), .int .i64 x.n, .string ⟨x.name.toArray⟩, .bool x.off, .slice A (reals toks x.kids).length c]
theorem ExprV.move {o : Nat} {toks : List LX.Tok} {n1 : Nat} {W W' : World} {x : PX.Ex} (h : ExprV o toks n1 W x) (hk : ∀ i, n1 ≤ i → i < W.heap.size → W'.heap[i]? = W.heap[i]?) (ho : W'.heap[o]? = W.heap[o]?) : ExprV o toks n1 W' x := by
 obtain ⟨A, c, hb, hM⟩ := h
 exact ⟨A, c, ho.trans hb, k54.M_mono (fun _ _ => trivial) (k54.M_move (fun k hk' => hk k hk'.2.1 hk'.2.2.1) (k54.M_bound hM))⟩
theorem ExV.cells' {toks : List LX.Tok} {n0 : Nat} {w : World} {x : PX.Ex} {v : Value} (h : ExV toks n0 w x v) : ∃ A c, v = .agg #[.int .i64 x.kind, .int .i64 (atOf toks x.place), .int .i64 x.n, .string ⟨x.name.toArray⟩, .bool x.off, .slice A (reals toks x.kids).length c] ∧ k54.M w n0 (fun _ => True) (real toks x) [.int .i64 x.kind, .int .i64 (atOf toks x.place), .int .i64 x.n, .string ⟨x.name.toArray⟩, .bool x.off, .slice A (reals toks x.kids).length c] := by
 obtain ⟨c, rfl, hM⟩ := h
 obtain ⟨v5, rfl, hR⟩ := k54_openM hM
 obtain ⟨A, cp, rfl⟩ := Kd.R_slice hR
 cases x
 exact ⟨A, cp, rfl, hM⟩
theorem ExM.C {toks : List LX.Tok} {n0 : Nat} {w : World} {x : PX.Ex} {A : Option Addr} {c : Nat} (hM : k54.M w n0 (fun _ => True) (real toks x) [.int .i64 x.kind, .int .i64 (atOf toks x.place), .int .i64 x.n, .string ⟨x.name.toArray⟩, .bool x.off, .slice A (reals toks x.kids).length c]) : Kd.C k54 w A (reals toks x.kids).length (reals toks x.kids) ∧ (reals toks x.kids).length ≤ c := by
 obtain ⟨A', c', he, hl, hC⟩ := k54_open (k54.K_of_M hM)
 rw [real_kids] at hl hC he
 simp only [List.cons.injEq, Value.slice.injEq, true_and, and_true] at he
 obtain ⟨_, _, _, _, _, rfl, rfl⟩ := he
 exact ⟨hC, hl⟩
set_option maxHeartbeats 4000000 in
set_option maxRecDepth 100000 in
theorem expr1_walk {p b o K : Nat} {toks : List LX.Tok} {s : List PX.T} {w : World} (hK : K ≤ 1000000) (h : PAt w p b toks s) (hout : (PX.expr K s).isOut = false)
  (ho : w.heap[o]? = some (.cells #[.int .i64 0, .int .i64 0, .int .i64 0, .string ⟨#[]⟩, .bool false, .slice none 0 0] 54 (0, 0))) (hop : o ≠ p) (hob : o ≠ b) :
  Calls Tryz.prog 73 #[.pointer (some ⟨p, 0, none⟩), .pointer (some ⟨o, 0, none⟩)] w fun e w' => Spares [p, o] w w' ∧ DoneIs p b toks w' (readExpr K s) (ExprV o toks w.heap.size) e := by
 obtain ⟨Q, hQ⟩ : ∃ Q : Ending → World → Prop, Q = fun e w' => Spares [p, o] w w' ∧ DoneIs p b toks w' (readExpr K s) (ExprV o toks w.heap.size) e := ⟨_, rfl⟩
 rw [← hQ]
 have HQ := Lib.hid hQ
 have H := Lib.hid h
 have HOT := Lib.hid hout
 have HOB := Lib.hid (And.intro ho (And.intro hop hob))
 have hol := blk_lt ho
 have hpl := h.plt
 clear hQ h hout ho hop hob
 go_enter Tryz.func73, Tryz.ntmps73
 go_wp2_with (fail)
 refine (expr_walk p b toks K hK s w H.out HOT.out).mono ?_
 rintro e w1 ⟨hO, hm⟩
 have HO := Lib.hid hO
 clear hO
 cases hr : PX.expr K s with
 | out => rw [hr] at hm; exact hm.elim
 | bad q er =>
  rw [hr] at hm
  have hm2 : e = Pan toks q er := hm
  subst hm2
  unfold Pan
  (try simp only [Exit.inBlock, Exit.then])
  rw [HQ.out]
  refine ⟨rfl, Spares.of_only HO.out (by simp), ?_⟩
  unfold readExpr
  rw [hr]
  rfl
 | ok x s1 =>
  rw [hr] at hm
  obtain ⟨hP, v, rfl, hV⟩ := hm
  obtain ⟨A, c, rfl, hM⟩ := hV.cells'
  have HM := Lib.hid hM
  have HP := Lib.hid hP
  have hob := HO.out.blk HOB.out.1 HOB.out.2.1
  obtain ⟨o0, o1, o2, o3, o4, o5, of_⟩ := blk6 hob
  have ol := blk_lt hob
  have HB := Lib.hid hob
  clear hV hM hP hob
  go_wp2_with (fail)
  obtain ⟨W, hW⟩ : ∃ W, W = ((((((w1.setCell ⟨o, 0, none⟩ (.int .i64 x.kind)).setCell ⟨o, 1, none⟩ (.int .i64 (atOf toks x.place))).setCell ⟨o, 2, none⟩ (.int .i64 x.n)).setCell ⟨o, 3, none⟩ (.string ⟨x.name.toArray⟩)).setCell ⟨o, 4, none⟩ (.bool x.off)).setCell ⟨o, 5, none⟩ (.slice A (reals toks x.kids).length c)) := ⟨_, rfl⟩
  rw [← hW]
  have hbW : W.heap[o]? = some (.cells #[.int .i64 x.kind, .int .i64 (atOf toks x.place), .int .i64 x.n, .string ⟨x.name.toArray⟩, .bool x.off, .slice A (reals toks x.kids).length c] 54 (0, 0)) := by rw [hW]; exact blk_set6 HB.out _ _ _ _ _ _
  have hSW : Spares [p, o] w W := by
   have hS1 : Spares [p, o] w w1 := Spares.of_only HO.out (by simp)
   have hmem : o ∈ [p, o] := by simp
   rw [hW]
   repeat (first | with_reducible exact hS1 | with_reducible refine Spares.store (.inr hmem) ?_)
  have hPW : PAt W p b toks s1 := by
   rw [hW]
   repeat (first | with_reducible exact HP.out | with_reducible refine PAt.store' HOB.out.2.1 HOB.out.2.2 ?_)
  have hMW := ExM.kp (n0 := w.heap.size) (W' := W) HM.out (Nat.le_refl _) (by rw [hW]; repeat (first | with_reducible exact Kp.refl | (with_reducible refine Kp.store ?_ ?_; exact hol)))
  have hsz := (PX.szs K).expr s x s1 hr
  have hfew := H.out.few
  have hsl : s.length ≤ 4001 := by
   obtain ⟨_, _, _, _, hks, _⟩ := H.out.blk
   omega
  obtain ⟨hC, hcl⟩ := ExM.C hMW
  have HX := Lib.hid (And.intro hbW (And.intro hSW (And.intro hPW hMW)))
  clear hW hbW hSW hPW hMW HM HP HB o0 o1 o2 o3 o4 o5 of_ ol
  refine (deep_walk toks x (by omega) A c W hC hcl).mono ?_
  rintro e' w2 ⟨rfl, hb2⟩
  have HB2 := Lib.hid hb2
  have hb := blk_below HX.out.1 hb2
  obtain ⟨o0, o1, o2, o3, o4, o5, of_⟩ := blk6 hb
  have HOBX := Lib.hid hb
  clear hb2 hb hC hcl
  rcases Nat.lt_or_ge 40 (PX.deep x) with hd | hd
  ·have hd1 : decide ((PX.deep x : Int) > 40) = true := by simp; omega
   have hd2 : (40 : Int) < (PX.deep x : Int) := by omega
   go_wp2_with (fail)
   (try simp only [Exit.inBlock, Exit.then])
   rw [HQ.out]
   refine ⟨rfl, HX.out.2.1.trans (Spares.of_below HB2.out), ?_⟩
   have hE : readExpr K s = .bad x.place 3 := by
    unfold readExpr
    rw [hr]
    show (PX.shallow x s1).bind _ = _
    unfold PX.shallow
    rw [if_pos hd]
    rfl
   rw [hE]
   rfl
  ·have hd1 : decide ((PX.deep x : Int) > 40) = false := by simp; omega
   have hd2 : ¬ (40 : Int) < (PX.deep x : Int) := by omega
   go_wp2_with (fail)
   (try simp only [Exit.inBlock, Exit.then])
   (first | go_end0 | refine bodyPost_ret (results_none rfl _ _ _) rfl ?_)
   rw [HQ.out]
   have hE : readExpr K s = .ok x s1 := by
    unfold readExpr
    rw [hr]
    show (PX.shallow x s1).bind _ = _
    unfold PX.shallow
    rw [if_neg (by omega)]
    rfl
   rw [hE]
   exact ⟨HX.out.2.1.trans (Spares.of_below HB2.out), HX.out.2.2.1.below HB2.out, rfl, A, c, HOBX.out, Kd.M_below HX.out.2.2.2 HB2.out⟩
end Go.Proofs.YtjafllnbgfcchaaGreatDoor.Px
