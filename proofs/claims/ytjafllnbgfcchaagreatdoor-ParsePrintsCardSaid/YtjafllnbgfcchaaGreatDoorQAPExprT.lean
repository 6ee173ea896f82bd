/- parse.Expr, walked: its answer. -/
import Derived.Test.YtjafllnbgfcchaaGreatDoorQAPExprF
import Derived.Test.YtjafllnbgfcchaaGreatDoorQAGPFine
namespace Go.Proofs.YtjafllnbgfcchaaGreatDoor.Px
set_option linter.unusedVariables false
set_option linter.unusedSimpArgs false
open Go Go.RowKit Go.Proofs.YtjafllnbgfcchaaGreatDoorW.PrintWords Go.Proofs.YtjafllnbgfcchaaGreatDoorW.PrintLast Go.Proofs.YtjafllnbgfcchaaGreatDoorW.PrintMore Go.Proofs.YtjafllnbgfcchaaGreatDoor.Lx Go.Proofs.YtjafllnbgfcchaaGreatDoor.XK
attribute [local go_sem ↓] Go.wp_at_zero Go.wp_at_succ
def rounds (toks : List LX.Tok) : Nat := 12 * toks.length + 10
def zeroEx : Value := .agg #[.int .i64 0, .int .i64 0, .int .i64 0, .string ⟨#[]⟩, .bool false, .slice none 0 0]
def ExprIs (text : LX.B) (n0 : Nat) (e : Ending) (w' : World) : Prop :=
 match LX.all text with
 | .error (k, c) => e = .returned (.tuple #[zeroEx, .agg #[.int .i64 k, .int .i64 c]])
 | .ok toks => match PX.exprOf (rounds toks) (toks.map tk) with
  | .ok x _ => ∃ A c, e = .returned (.tuple #[.agg #[.int .i64 x.kind, .int .i64 (atOf toks x.place), .int .i64 x.n, .string ⟨x.name.toArray⟩, .bool x.off, .slice A (reals toks x.kids).length c], .agg #[.int .i64 0, .int .i64 0]]) ∧
   k54.M w' n0 (fun _ => True) (real toks x) [.int .i64 x.kind, .int .i64 (atOf toks x.place), .int .i64 x.n, .string ⟨x.name.toArray⟩, .bool x.off, .slice A (reals toks x.kids).length c]
  | .bad q er => e = .returned (.tuple #[zeroEx, .agg #[.int .i64 (atOf toks q), .int .i64 er]])
  | .out => False
theorem expr_cases {text : LX.B} {o : Nat} {w w' : World} {a er : Int} (h : RunIs text (fun toks => readExpr (rounds toks) (toks.map tk)) (ExprV o) w w' a er) :
  (er ≠ 0 ∧ ∀ n0 e w2, e = .returned (.tuple #[zeroEx, .agg #[.int .i64 a, .int .i64 er]]) → ExprIs text n0 e w2) ∨
  (a = 0 ∧ er = 0 ∧ ∃ toks x s' n1, LX.all text = .ok toks ∧ PX.exprOf (rounds toks) (toks.map tk) = .ok x s' ∧ w.heap.size ≤ n1 ∧ ExprV o toks n1 w' x) := by
 unfold RunIs at h
 cases hx : LX.all text with
 | error q =>
  obtain ⟨k, c⟩ := q
  rw [hx] at h
  obtain ⟨rfl, rfl⟩ := h
  refine .inl ⟨by have := all_err hx; omega, fun n0 e w2 he => ?_⟩
  unfold ExprIs
  rw [hx]
  exact he
 | ok toks =>
  rw [hx] at h
  dsimp only at h
  rw [thenEnd_expr] at h
  cases hr : PX.exprOf (rounds toks) (toks.map tk) with
  | out => rw [hr] at h; exact h.elim
  | bad q c =>
   rw [hr] at h
   obtain ⟨rfl, rfl⟩ := h
   refine .inl ⟨by have := PX.Errs.exprOf q c hr; omega, fun n0 e w2 he => ?_⟩
   unfold ExprIs
   rw [hx]
   dsimp only
   rw [hr]
   exact he
  | ok x s' =>
   rw [hr] at h
   obtain ⟨rfl, rfl, n1, hn, hV⟩ := h
   exact .inr ⟨rfl, rfl, toks, x, s', n1, rfl, hr, hn, hV⟩
theorem drew_heap (W : World) (i : Nat) : W.drew.heap[i]? = W.heap[i]? := rfl
theorem drew_below {B : Nat} {w W : World} (h : Below B w W) : Below B w W.drew := h.drew
theorem two_res {w W5 : World} {z0 z1 z2 z3 z4 z5 y0 y1 : Value} (hb : Below w.heap.size w W5) (h0 : W5.heap[w.heap.size]? = some (.cells #[z0, z1, z2, z3, z4, z5] 54 (0, 0))) (h1 : W5.heap[w.heap.size + 1]? = some (.cells #[y0, y1] 27 (0, 0))) (v0 v1 v2 v3 v4 v5 a e : Value) :
  ((((((((W5.setCell ⟨w.heap.size, 0, none⟩ v0).setCell ⟨w.heap.size, 1, none⟩ v1).setCell ⟨w.heap.size, 2, none⟩ v2).setCell ⟨w.heap.size, 3, none⟩ v3).setCell ⟨w.heap.size, 4, none⟩ v4).setCell ⟨w.heap.size, 5, none⟩ v5).setCell ⟨w.heap.size + 1, 0, none⟩ a).setCell ⟨w.heap.size + 1, 1, none⟩ e).drew.heap[w.heap.size]? = some (.cells #[v0, v1, v2, v3, v4, v5] 54 (0, 0)) ∧
  ((((((((W5.setCell ⟨w.heap.size, 0, none⟩ v0).setCell ⟨w.heap.size, 1, none⟩ v1).setCell ⟨w.heap.size, 2, none⟩ v2).setCell ⟨w.heap.size, 3, none⟩ v3).setCell ⟨w.heap.size, 4, none⟩ v4).setCell ⟨w.heap.size, 5, none⟩ v5).setCell ⟨w.heap.size + 1, 0, none⟩ a).setCell ⟨w.heap.size + 1, 1, none⟩ e).drew.heap[w.heap.size + 1]? = some (.cells #[a, e] 27 (0, 0)) ∧
  Below w.heap.size w ((((((((W5.setCell ⟨w.heap.size, 0, none⟩ v0).setCell ⟨w.heap.size, 1, none⟩ v1).setCell ⟨w.heap.size, 2, none⟩ v2).setCell ⟨w.heap.size, 3, none⟩ v3).setCell ⟨w.heap.size, 4, none⟩ v4).setCell ⟨w.heap.size, 5, none⟩ v5).setCell ⟨w.heap.size + 1, 0, none⟩ a).setCell ⟨w.heap.size + 1, 1, none⟩ e).drew ∧
  ∀ i, i ≠ w.heap.size → i ≠ w.heap.size + 1 → ((((((((W5.setCell ⟨w.heap.size, 0, none⟩ v0).setCell ⟨w.heap.size, 1, none⟩ v1).setCell ⟨w.heap.size, 2, none⟩ v2).setCell ⟨w.heap.size, 3, none⟩ v3).setCell ⟨w.heap.size, 4, none⟩ v4).setCell ⟨w.heap.size, 5, none⟩ v5).setCell ⟨w.heap.size + 1, 0, none⟩ a).setCell ⟨w.heap.size + 1, 1, none⟩ e).drew.heap[i]? = W5.heap[i]? := by
 have hle := Nat.le_refl w.heap.size
 have hle1 : w.heap.size ≤ w.heap.size + 1 := Nat.le_succ _
 refine ⟨?_, ?_, ?_, fun i hi hi1 => ?_⟩
 ·exact blk_drew (blk_far (blk_far (blk_set6 h0 _ _ _ _ _ _) (p := ⟨w.heap.size + 1, 0, none⟩) (by simp) _) (p := ⟨w.heap.size + 1, 1, none⟩) (by simp) _)
 ·refine blk_drew (blk_set2 (a := y0) (b := y1) ?_ _ _)
  have hn : ∀ j, w.heap.size + 1 ≠ (⟨w.heap.size, j, none⟩ : Addr).block := fun j => by simp
  exact blk_far (blk_far (blk_far (blk_far (blk_far (blk_far h1 (hn 0) _) (hn 1) _) (hn 2) _) (hn 3) _) (hn 4) _) (hn 5) _
 ·refine drew_below ?_
  repeat (first | with_reducible exact hb | with_reducible refine below_store' hle ?_ | with_reducible refine below_store' hle1 ?_)
 ·rw [drew_heap]
  rw [Below.heap_setCell _ _ _ i hi1, Below.heap_setCell _ _ _ i hi1, Below.heap_setCell _ _ _ i hi, Below.heap_setCell _ _ _ i hi, Below.heap_setCell _ _ _ i hi, Below.heap_setCell _ _ _ i hi, Below.heap_setCell _ _ _ i hi, Below.heap_setCell _ _ _ i hi]
set_option maxHeartbeats 4000000 in
set_option maxRecDepth 100000 in
theorem parseExpr_walk (text : ByteArray) (w : World) (hT : Tabs w) (hs : text.size ≤ 4000) :
  Calls Tryz.prog 40 #[.string text] w fun e w' => Below w.heap.size w w' ∧ ExprIs text.data.toList w.heap.size e w' := by
 obtain ⟨Q, hQ⟩ : ∃ Q : Ending → World → Prop, Q = fun e w' => Below w.heap.size w w' ∧ ExprIs text.data.toList w.heap.size e w' := ⟨_, rfl⟩
 rw [← hQ]
 have HQ := Lib.hid hQ
 have HT := Lib.hid (And.intro hT hs)
 clear hQ hT hs
 have hmf : ∀ (fn : Fn) (first cap : Array Value) (w : World), (Instr.makeFunc fn first cap).run Tryz.prog w = .ok (.func fn first cap) w := fun _ _ _ _ => rfl
 go_enter Tryz.func40, Tryz.ntmps40
 go_wp2_with (fail)
 obtain ⟨W, hW⟩ : ∃ W, W = ((w.alloc (.cells #[.int .i64 0, .int .i64 0, .int .i64 0, .string ⟨#[]⟩, .bool false, .slice none 0 0] 54)).alloc (.cells #[.int .i64 0, .int .i64 0] 27)).alloc (.cells #[.int .i64 0, .int .i64 0, .int .i64 0, .string ⟨#[]⟩, .bool false, .slice none 0 0] 54) := ⟨_, rfl⟩
 rw [← hW]
 have hsz1 : (w.alloc (.cells #[.int .i64 0, .int .i64 0, .int .i64 0, .string ⟨#[]⟩, .bool false, .slice none 0 0] 54)).heap.size = w.heap.size + 1 := by simp
 have hsz2 : ((w.alloc (.cells #[.int .i64 0, .int .i64 0, .int .i64 0, .string ⟨#[]⟩, .bool false, .slice none 0 0] 54)).alloc (.cells #[.int .i64 0, .int .i64 0] 27)).heap.size = w.heap.size + 1 + 1 := by simp
 have h0 : W.heap[w.heap.size]? = some (.cells #[.int .i64 0, .int .i64 0, .int .i64 0, .string ⟨#[]⟩, .bool false, .slice none 0 0] 54 (0, 0)) := by rw [hW]; exact blk_alloc (blk_alloc (blk_new _ _) _) _
 have h1 : W.heap[w.heap.size + 1]? = some (.cells #[.int .i64 0, .int .i64 0] 27 (0, 0)) := by
  rw [hW, ← hsz1]
  exact blk_alloc (blk_new _ _) _
 have h2 : W.heap[w.heap.size + 1 + 1]? = some (.cells #[.int .i64 0, .int .i64 0, .int .i64 0, .string ⟨#[]⟩, .bool false, .slice none 0 0] 54 (0, 0)) := by
  rw [hW, ← hsz2]
  exact blk_new _ _
 have hbW : Below w.heap.size w W := by
  rw [hW]
  exact below_alloc (below_alloc (below_alloc (Below.refl _ _) _) _) _
 have hl2 := blk_lt h2
 clear hW hsz1 hsz2
 have HX := Lib.hid (And.intro h0 (And.intro h1 (And.intro h2 hbW)))
 clear h0 h1 h2 hbW
 refine (run_walk 73 #[] #[.pointer (some ⟨w.heap.size + 1 + 1, 0, none⟩)] (w.heap.size + 1 + 1) text (fun toks => readExpr (rounds toks) (toks.map tk)) (ExprV (w.heap.size + 1 + 1)) W (HT.out.1.below HX.out.2.2.2) HT.out.2 hl2 (enters_of Tryz.func73 (by kernel_rfl) rfl) (fun toks n1 V1 V2 x h hk ho => h.move hk ho) ?_).mono ?_
 ·intro toks p b W' hall hP hp hb hbel
  have hok := all_ok hall
  refine expr1_walk (K := rounds toks) (by unfold rounds; omega) hP ?_ (blk_below HX.out.2.2.1 hbel) (by omega) (by omega)
  exact PX.Fine.isOut ((PX.enough (rounds toks)).expr _ hok.1.good (by unfold rounds; rw [List.length_map]; exact Nat.le_refl _))
 ·rintro e w4 ⟨a, er, rfl, hS, hR⟩
  have h0 := hS.blk HX.out.1 (by simp; omega)
  have h1 := hS.blk HX.out.2.1 (by simp)
  obtain ⟨r0, r1, r2, r3, r4, r5, rf⟩ := blk6 h0
  obtain ⟨g0, g1, gf⟩ := blk2p h1
  have hsz := hS.size
  have hb4 : Below w.heap.size w w4 := by
   refine HX.out.2.2.2.trans ⟨hS.os, hS.tape, hS.output, hS.size, fun i hi => hS.keep i (by omega) (by simp; omega)⟩
  have HB4 := Lib.hid (And.intro hb4 (And.intro h0 h1))
  clear hS h0 h1 hb4
  rcases expr_cases hR with ⟨hne, hfin⟩ | ⟨rfl, rfl, toks, x, s', n1, hall, hex, hn1, A, c, hbo, hM⟩
  ·have he1 : (er != 0) = true := by simpa using hne
   have he2 : ¬ er = 0 := hne
   have HF := Lib.hid hfin
   clear hfin hR
   go_wp2_with (fail)
   generalize hW5 : World.alloc w4 _ = W5
   have hf5 : W5.heap[w4.heap.size]? = some (.cells #[.int .i64 a, .int .i64 er] 27 (0, 0)) := by rw [← hW5]; exact blk_new _ _
   have hb5 : Below w4.heap.size w4 W5 := by rw [← hW5]; exact below_alloc (Below.refl _ _) _
   have h50 := blk_below HB4.out.2.1 hb5
   have h51 := blk_below HB4.out.2.2 hb5
   obtain ⟨f0, f1, ff⟩ := blk2p hf5
   obtain ⟨s0, s1, s2, s3, s4, s5, sf⟩ := blk6 h50
   obtain ⟨t0, t1, tf⟩ := blk2p h51
   have ne1 : ¬ (w.heap.size = w.heap.size + 1) := by omega
   have ne2 : ¬ (w.heap.size + 1 = w.heap.size) := by omega
   have ne3 : ¬ (w.heap.size = w4.heap.size) := by omega
   have ne4 : ¬ (w.heap.size + 1 = w4.heap.size) := by omega
   have ne5 : ¬ (w4.heap.size = w.heap.size) := by omega
   have ne6 : ¬ (w4.heap.size = w.heap.size + 1) := by omega
   have HB5 := Lib.hid (And.intro hb5 (And.intro h50 h51))
   clear hb5 h50 h51 hf5 hW5 r0 r1 r2 r3 r4 r5 rf g0 g1 gf
   go_region
   all_goals
    go_wp2_with (fail)
    (try simp only [Exit.inBlock, Exit.then])
    obtain ⟨e0, e1, e2, e3⟩ := two_res (W5 := W5) (HB4.out.1.trans (HB5.out.1.mono (by have := HB4.out.1.size; omega))) HB5.out.2.1 HB5.out.2.2 (.int .i64 0) (.int .i64 0) (.int .i64 0) (.string ⟨#[]⟩) (.bool false) (.slice none 0 0) (.int .i64 a) (.int .i64 er)
    refine bodyPost_ret (results_cc rfl _ _ w.heap.size (w.heap.size + 1) 54 27 _ _ (0, 0) (0, 0) _ _ rfl e0 Tryz.underlying54 rfl (by kernel_rfl) rfl e1 Tryz.underlying27 rfl (by kernel_rfl)) rfl ?_
    rw [HQ.out]
    exact ⟨e2, HF.out _ _ _ rfl⟩
  ·obtain ⟨o0, o1, o2, o3, o4, o5, of_⟩ := blk6 hbo
   have HM := Lib.hid (And.intro hall (And.intro hex (And.intro hn1 (And.intro hM hbo))))
   clear hR hall hex hn1 hM hbo
   go_wp2_with (fail)
   generalize hW5 : World.alloc w4 _ = W5
   have hf5 : W5.heap[w4.heap.size]? = some (.cells #[.int .i64 0, .int .i64 0] 27 (0, 0)) := by rw [← hW5]; exact blk_new _ _
   have hb5 : Below w4.heap.size w4 W5 := by rw [← hW5]; exact below_alloc (Below.refl _ _) _
   have h50 := blk_below HB4.out.2.1 hb5
   have h51 := blk_below HB4.out.2.2 hb5
   obtain ⟨f0, f1, ff⟩ := blk2p hf5
   obtain ⟨s0, s1, s2, s3, s4, s5, sf⟩ := blk6 h50
   obtain ⟨t0, t1, tf⟩ := blk2p h51
   have ne1 : ¬ (w.heap.size = w.heap.size + 1) := by omega
   have ne2 : ¬ (w.heap.size + 1 = w.heap.size) := by omega
   have ne3 : ¬ (w.heap.size = w4.heap.size) := by omega
   have ne4 : ¬ (w.heap.size + 1 = w4.heap.size) := by omega
   have ne5 : ¬ (w4.heap.size = w.heap.size) := by omega
   have ne6 : ¬ (w4.heap.size = w.heap.size + 1) := by omega
   have h5o := blk_below HM.out.2.2.2.2 hb5
   obtain ⟨o0, o1, o2, o3, o4, o5, of_⟩ := blk6 h5o
   have ne7 : ¬ (w.heap.size + 1 + 1 = w.heap.size) := by omega
   have ne8 : ¬ (w.heap.size + 1 + 1 = w.heap.size + 1) := by omega
   have ne9 : ¬ (w.heap.size = w.heap.size + 1 + 1) := by omega
   have ne10 : ¬ (w.heap.size + 1 = w.heap.size + 1 + 1) := by omega
   clear h5o
   have HB5 := Lib.hid (And.intro hb5 (And.intro h50 h51))
   clear hb5 h50 h51 hf5 hW5 r0 r1 r2 r3 r4 r5 rf g0 g1 gf
   go_region
   all_goals
    go_wp2_with (fail)
    (try simp only [Exit.inBlock, Exit.then])
    obtain ⟨e0, e1, e2, e3⟩ := two_res (W5 := W5) (HB4.out.1.trans (HB5.out.1.mono (by have := HB4.out.1.size; omega))) HB5.out.2.1 HB5.out.2.2 (.int .i64 x.kind) (.int .i64 (atOf toks x.place)) (.int .i64 x.n) (.string ⟨x.name.toArray⟩) (.bool x.off) (.slice A (reals toks x.kids).length c) (.int .i64 0) (.int .i64 0)
    refine bodyPost_ret (results_cc rfl _ _ w.heap.size (w.heap.size + 1) 54 27 _ _ (0, 0) (0, 0) _ _ rfl e0 Tryz.underlying54 rfl (by kernel_rfl) rfl e1 Tryz.underlying27 rfl (by kernel_rfl)) rfl ?_
    rw [HQ.out]
    refine ⟨e2, ?_⟩
    unfold ExprIs
    rw [HM.out.1]
    dsimp only
    rw [HM.out.2.1]
    refine ⟨A, c, rfl, k54.M_lower (base' := w.heap.size) (base := _) (by have := HM.out.2.2.1; omega) (k54.M_mono (fun _ _ => trivial) (k54.M_move (fun k hk => ?_) (k54.M_bound HM.out.2.2.2.1)))⟩
    have h1 := hk.2.1
    have h2 := HM.out.2.2.1
    exact (e3 k (by omega) (by omega)).trans (HB5.out.1.block k hk.2.2.1)
end Go.Proofs.YtjafllnbgfcchaaGreatDoor.Px
