/- parse.Program, walked: its answer. -/
import Derived.Test.YtjafllnbgfcchaaGreatDoorQAGPNode
import Derived.Test.YtjafllnbgfcchaaGreatDoorQAPExprT
import Derived.Test.YtjafllnbgfcchaaGreatDoorQAGPFine
namespace Go.Proofs.YtjafllnbgfcchaaGreatDoor.Px
set_option linter.unusedVariables false
set_option linter.unusedSimpArgs false
open Go Go.RowKit Go.Proofs.YtjafllnbgfcchaaGreatDoorW.PrintWords Go.Proofs.YtjafllnbgfcchaaGreatDoorW.PrintLast Go.Proofs.YtjafllnbgfcchaaGreatDoorW.PrintMore Go.Proofs.YtjafllnbgfcchaaGreatDoor.Lx Go.Proofs.YtjafllnbgfcchaaGreatDoor.XK
attribute [local go_sem ↓] Go.wp_at_zero Go.wp_at_succ
def ProgIs (text : LX.B) (n0 : Nat) (e : Ending) (w' : World) : Prop :=
 match LX.all text with
 | .error (k, c) => e = .returned (.tuple #[.slice none 0 0, .agg #[.int .i64 k, .int .i64 c]])
 | .ok toks => match PX.program (rounds toks) (toks.map tk) with
  | .ok l _ => ∃ v, e = .returned (.tuple #[v, .agg #[.int .i64 0, .int .i64 0]]) ∧ k50.R 50 w' n0 (fun _ => True) v (l.map (realN toks))
  | .bad q er => e = .returned (.tuple #[.slice none 0 0, .agg #[.int .i64 (atOf toks q), .int .i64 er]])
  | .out => False
theorem thenEnd_nodes (K : Nat) (s : List PX.T) : thenEnd (PX.nodes K s) = PX.program K s := rfl
theorem prog_cases {text : LX.B} {o : Nat} {w w' : World} {a er : Int} (h : RunIs text (fun toks => PX.nodes (rounds toks) (toks.map tk)) (ProgV o) w w' a er) :
  (er ≠ 0 ∧ ∀ n0 e w2, e = .returned (.tuple #[.slice none 0 0, .agg #[.int .i64 a, .int .i64 er]]) → ProgIs text n0 e w2) ∨
  (a = 0 ∧ er = 0 ∧ ∃ toks l s' n1, LX.all text = .ok toks ∧ PX.program (rounds toks) (toks.map tk) = .ok l s' ∧ w.heap.size ≤ n1 ∧ ProgV o toks n1 w' l) := by
 unfold RunIs at h
 cases hx : LX.all text with
 | error q =>
  obtain ⟨k, c⟩ := q
  rw [hx] at h
  obtain ⟨rfl, rfl⟩ := h
  refine .inl ⟨by have := all_err hx; omega, fun n0 e w2 he => ?_⟩
  unfold ProgIs
  rw [hx]
  exact he
 | ok toks =>
  rw [hx] at h
  dsimp only at h
  rw [thenEnd_nodes] at h
  cases hr : PX.program (rounds toks) (toks.map tk) with
  | out => rw [hr] at h; exact h.elim
  | bad q c =>
   rw [hr] at h
   obtain ⟨rfl, rfl⟩ := h
   refine .inl ⟨by have := PX.Errs.program q c hr; omega, fun n0 e w2 he => ?_⟩
   unfold ProgIs
   rw [hx]
   dsimp only
   rw [hr]
   exact he
  | ok l s' =>
   rw [hr] at h
   obtain ⟨rfl, rfl, n1, hn, hV⟩ := h
   exact .inr ⟨rfl, rfl, toks, l, s', n1, rfl, hr, hn, hV⟩
theorem one_res {w W5 : World} {y0 y1 : Value} (hb : Below w.heap.size w W5) (h1 : W5.heap[w.heap.size]? = some (.cells #[y0, y1] 27 (0, 0))) (a e : Value) :
  ((W5.setCell ⟨w.heap.size, 0, none⟩ a).setCell ⟨w.heap.size, 1, none⟩ e).drew.heap[w.heap.size]? = some (.cells #[a, e] 27 (0, 0)) ∧
  Below w.heap.size w ((W5.setCell ⟨w.heap.size, 0, none⟩ a).setCell ⟨w.heap.size, 1, none⟩ e).drew ∧
  ∀ i, i ≠ w.heap.size → ((W5.setCell ⟨w.heap.size, 0, none⟩ a).setCell ⟨w.heap.size, 1, none⟩ e).drew.heap[i]? = W5.heap[i]? := by
 refine ⟨blk_drew (blk_set2 h1 _ _), drew_below (below_store' (Nat.le_refl _) (below_store' (Nat.le_refl _) hb)), fun i hi => ?_⟩
 rw [drew_heap, Below.heap_setCell _ _ _ i hi, Below.heap_setCell _ _ _ i hi]
set_option maxHeartbeats 4000000 in
set_option maxRecDepth 100000 in
theorem parseProgram_walk (text : ByteArray) (w : World) (hT : Tabs w) (hs : text.size ≤ 4000) :
  Calls Tryz.prog 14 #[.string text] w fun e w' => Below w.heap.size w w' ∧ ProgIs text.data.toList w.heap.size e w' := by
 obtain ⟨Q, hQ⟩ : ∃ Q : Ending → World → Prop, Q = fun e w' => Below w.heap.size w w' ∧ ProgIs text.data.toList w.heap.size e w' := ⟨_, rfl⟩
 rw [← hQ]
 have HQ := Lib.hid hQ
 have HT := Lib.hid (And.intro hT hs)
 clear hQ hT hs
 have hmf : ∀ (fn : Fn) (first cap : Array Value) (w : World), (Instr.makeFunc fn first cap).run Tryz.prog w = .ok (.func fn first cap) w := fun _ _ _ _ => rfl
 go_enter Tryz.func14, Tryz.ntmps14
 go_wp2_with (fail)
 obtain ⟨W, hW⟩ : ∃ W, W = (w.alloc (.cells #[.int .i64 0, .int .i64 0] 27)).alloc (.cells #[.slice none 0 0] 24) := ⟨_, rfl⟩
 rw [← hW]
 have hsz1 : (w.alloc (.cells #[.int .i64 0, .int .i64 0] 27)).heap.size = w.heap.size + 1 := by simp
 have h1 : W.heap[w.heap.size]? = some (.cells #[.int .i64 0, .int .i64 0] 27 (0, 0)) := by rw [hW]; exact blk_alloc (blk_new _ _) _
 have h2 : W.heap[w.heap.size + 1]? = some (.cells #[.slice none 0 0] 24 (0, 0)) := by
  rw [hW, ← hsz1]
  exact blk_new _ _
 have hbW : Below w.heap.size w W := by
  rw [hW]
  exact below_alloc (below_alloc (Below.refl _ _) _) _
 have hl2 := blk_lt h2
 clear hW hsz1
 have HX := Lib.hid (And.intro h1 (And.intro h2 hbW))
 clear h1 h2 hbW
 refine (run_walk 42 #[] #[.pointer (some ⟨w.heap.size + 1, 0, none⟩)] (w.heap.size + 1) text (fun toks => PX.nodes (rounds toks) (toks.map tk)) (ProgV (w.heap.size + 1)) W (HT.out.1.below HX.out.2.2) HT.out.2 hl2 (enters_of Tryz.func42 (by kernel_rfl) rfl) (fun toks n1 V1 V2 x h hk ho => h.move hk ho) ?_).mono ?_
 ·intro toks p b W' hall hP hp hb hbel
  have hok := all_ok hall
  refine prog1_walk (K := rounds toks) (by unfold rounds; omega) hP ?_ (blk_below HX.out.2.1 hbel) (by omega) (by omega)
  exact PX.Goes.isOut (PX.Goes.nodes hok.1.good (by unfold rounds; rw [List.length_map]; exact Nat.le_refl _))
 ·rintro e w4 ⟨a, er, rfl, hS, hR⟩
  have h1 := hS.blk HX.out.1 (by simp)
  obtain ⟨g0, g1, gf⟩ := blk2p h1
  have hsz := hS.size
  have hb4 : Below w.heap.size w w4 := by
   refine HX.out.2.2.trans ⟨hS.os, hS.tape, hS.output, hS.size, fun i hi => hS.keep i (by omega) (by simp; omega)⟩
  have HB4 := Lib.hid (And.intro hb4 h1)
  clear hS h1 hb4
  have ne1 : ¬ (w.heap.size = w4.heap.size) := by omega
  have ne2 : ¬ (w.heap.size + 1 = w4.heap.size) := by omega
  have ne3 : ¬ (w4.heap.size = w.heap.size) := by omega
  have ne4 : ¬ (w4.heap.size = w.heap.size + 1) := by omega
  rcases prog_cases hR with ⟨hne, hfin⟩ | ⟨rfl, rfl, toks, l, s', n1, hall, hex, hn1, A, c, hbo, hM⟩
  ·have he1 : (er != 0) = true := by simpa using hne
   have he2 : ¬ er = 0 := hne
   have HF := Lib.hid hfin
   clear hfin hR
   go_wp2_with (fail)
   generalize hW5 : World.alloc w4 _ = W5
   have hf5 : W5.heap[w4.heap.size]? = some (.cells #[.int .i64 a, .int .i64 er] 27 (0, 0)) := by rw [← hW5]; exact blk_new _ _
   have hb5 : Below w4.heap.size w4 W5 := by rw [← hW5]; exact below_alloc (Below.refl _ _) _
   have h51 := blk_below HB4.out.2 hb5
   obtain ⟨f0, f1, ff⟩ := blk2p hf5
   obtain ⟨t0, t1, tf⟩ := blk2p h51
   have HB5 := Lib.hid (And.intro hb5 h51)
   clear hb5 h51 hf5 hW5 g0 g1 gf
   go_region
   all_goals
    go_wp2_with (fail)
    (try simp only [Exit.inBlock, Exit.then])
    obtain ⟨e1, e2, e3⟩ := one_res (W5 := W5) (HB4.out.1.trans (HB5.out.1.mono (by have := HB4.out.1.size; omega))) HB5.out.2 (.int .i64 a) (.int .i64 er)
    refine bodyPost_ret (results_tmp_cell_row rfl _ _ w.heap.size 27 _ (0, 0) _ rfl e1 Tryz.underlying27 rfl (by kernel_rfl)) rfl ?_
    rw [HQ.out]
    exact ⟨e2, HF.out _ _ _ rfl⟩
  ·have o0 : w4.cell? ⟨w.heap.size + 1, 0, none⟩ = some (.slice A l.length c) := blk_cell hbo 0
   have HM := Lib.hid (And.intro hall (And.intro hex (And.intro hn1 (And.intro hM hbo))))
   clear hR hall hex hn1 hM hbo
   go_wp2_with (fail)
   generalize hW5 : World.alloc w4 _ = W5
   have hf5 : W5.heap[w4.heap.size]? = some (.cells #[.int .i64 0, .int .i64 0] 27 (0, 0)) := by rw [← hW5]; exact blk_new _ _
   have hb5 : Below w4.heap.size w4 W5 := by rw [← hW5]; exact below_alloc (Below.refl _ _) _
   have h51 := blk_below HB4.out.2 hb5
   obtain ⟨f0, f1, ff⟩ := blk2p hf5
   obtain ⟨t0, t1, tf⟩ := blk2p h51
   have o5 := blk_below HM.out.2.2.2.2 hb5
   have o0 : W5.cell? ⟨w.heap.size + 1, 0, none⟩ = some (.slice A l.length c) := blk_cell o5 0
   clear o5
   have HB5 := Lib.hid (And.intro hb5 h51)
   clear hb5 h51 hf5 hW5 g0 g1 gf
   go_region
   all_goals
    go_wp2_with (fail)
    (try simp only [Exit.inBlock, Exit.then])
    obtain ⟨e1, e2, e3⟩ := one_res (W5 := W5) (HB4.out.1.trans (HB5.out.1.mono (by have := HB4.out.1.size; omega))) HB5.out.2 (.int .i64 0) (.int .i64 0)
    refine bodyPost_ret (results_tmp_cell_row rfl _ _ w.heap.size 27 _ (0, 0) _ rfl e1 Tryz.underlying27 rfl (by kernel_rfl)) rfl ?_
    rw [HQ.out]
    refine ⟨e2, ?_⟩
    unfold ProgIs
    rw [HM.out.1]
    dsimp only
    rw [HM.out.2.1]
    refine ⟨_, rfl, Kd.R_lower (base' := w.heap.size) (base := n1) (Kd.R_mono (Kd.R_move (Kd.R_bound HM.out.2.2.2.1) (fun k hk => ?_)) (fun _ _ => trivial)) (by have := HM.out.2.2.1; omega)⟩
    have h1 := hk.2.1
    have h2 := HM.out.2.2.1
    exact (e3 k (by omega)).trans (HB5.out.1.block k hk.2.2.1)
end Go.Proofs.YtjafllnbgfcchaaGreatDoor.Px
