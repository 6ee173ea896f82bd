/- The reader of expressions, walked: if .. then .. else. -/
import Derived.Test.YtjafllnbgfcchaaGreatDoorQAGPEx
import Derived.Deep.DeepMust
namespace Go.Proofs.YtjafllnbgfcchaaGreatDoor.Px
set_option linter.unusedVariables false
set_option linter.unusedSimpArgs false
open Go Go.RowKit Go.Proofs.YtjafllnbgfcchaaGreatDoorW.PrintWords Go.Proofs.YtjafllnbgfcchaaGreatDoorW.PrintLast Go.Proofs.YtjafllnbgfcchaaGreatDoorW.PrintMore Go.Proofs.YtjafllnbgfcchaaGreatDoor.Lx Go.Proofs.YtjafllnbgfcchaaGreatDoor.XK
attribute [local go_sem ↓] Go.wp_at_zero Go.wp_at_succ

set_option maxHeartbeats 4000000 in
set_option maxRecDepth 100000 in
theorem expr_step {p b k : Nat} {toks : List LX.Tok} (ih : Walks p b toks k) : ReadsEx p b toks 74 (PX.expr (k + 1)) := by
 intro s w h hout
 obtain ⟨R, hR⟩ : ∃ R, PX.expr (k + 1) s = R := ⟨_, rfl⟩
 rw [hR] at hout ⊢
 rw [PX.expr] at hR
 have H := Lib.hid h
 have IH := Lib.hid ih
 have HR := Lib.hid hR
 have HO := Lib.hid hout
 clear h ih hR hout
 obtain ⟨Q, hQ⟩ : ∃ Q, RdIs p b toks w R (ExV toks w.heap.size) = Q := ⟨_, rfl⟩
 rw [show (fun e w' => RdIs p b toks w R (ExV toks w.heap.size) e w') = Q from hQ]
 have HQ := Lib.hid hQ
 clear hQ
 go_enter Tryz.func74, Tryz.ntmps74
 go_wp2_with (fail)
 have HS := Lib.hid (St.start (w := w) H.out)
 refine (St.takes [[105, 102]] HS.out.new (by simp) (by decide)).mono ?_
 rintro e w1 ⟨hg, hO, hS, t2, hp, hat, rfl⟩
 have HWw1 := Lib.hid hO
 have Ht2 := Lib.hid (And.intro hp hat)
 clear hO hp hat hg
 obtain ⟨B, hB⟩ : ∃ B, PX.is [[105, 102]] s = B := ⟨_, rfl⟩
 rw [hB] at hS ⊢
 have hR := HR.out
 rw [hB] at hR
 have HBw1 := Lib.hid hB
 clear HR hB
 unfold tokA tokV
 cases B with
 | false =>
  simp only [Bool.false_eq_true, if_false] at hR hS
  have HR := Lib.hid hR
  have HS := Lib.hid hS
  clear hR hS
  have lz_w1 : w.heap.size < w1.heap.size := blk_lt HS.out.l0
  go_wp2_with (fail)
  have hz := HS.out.sz
  refine (ReadsEx.call IH.out.arrow HS.out.new (HR.out ▸ HO.out)).mono ?_
  rintro e w3 ⟨hO, hm⟩
  have HWw3 := Lib.hid hO
  clear hO
  cases hr : PX.arrow k s with
  | out => rw [hr] at hm; exact hm.elim
  | bad q er =>
   rw [hr] at hm
   obtain ⟨rfl, hO2⟩ := hm
   have hF := HR.out
   rw [hr] at hF
   unfold Pan
   (try simp only [Exit.inBlock, Exit.then])
   rw [← HQ.out]
   exact ⟨rfl, RdIs.bad hF hO2⟩
  | ok x s4 =>
   rw [hr] at hm
   obtain ⟨hS, v, rfl, hV⟩ := hm
   have hR := HR.out
   rw [hr] at hR
   clear HR hr
   have HR := Lib.hid hR
   have HS := Lib.hid hS
   clear hR hS
   have lz_w3 : w.heap.size < w3.heap.size := blk_lt HS.out.l1
   obtain ⟨A_x, n_x, c_x, rfl, hM⟩ := hV.cells
   have HM_x := Lib.hid (k54.M_lower (base' := w1.heap.size + 1) (by simp) hM)
   clear hV hM
   have q1 := HS.out.l1
   obtain ⟨q1_0, q1_1, q1_2, q1_3, q1_4, q1_5, q1_f⟩ := blk6 q1
   have q1_l := blk_lt q1
   clear q1
   go_wp2_with (fail)
   have hpl := H.out.plt
   (try simp only [Exit.inBlock, Exit.then])
   refine bodyPost_ret (results_cell_row rfl _ _ w.heap.size 54 _ (0, 0) _ rfl (blk_set6 HS.out.l1 _ _ _ _ _ _) Tryz.underlying54 rfl (by kernel_rfl)) rfl ?_
   rw [← HQ.out]
   refine RdIs.ok HR.out (St.only (b := b) (toks := toks) (s := s4) (l := []) ?_) (St.pat (w := w) (l := []) ?_) ⟨_, rfl, ExM.kp HM_x.out (by omega) ?_⟩
   ·repeat (first | with_reducible exact HS.out.drop.drop | with_reducible apply St.alloc | with_reducible apply St.drewN | with_reducible apply St.drew | (with_reducible refine St.store ?_ ?_ ?_; omega; (intro x hx; simp at hx)))
   ·repeat (first | with_reducible exact HS.out.drop.drop | with_reducible apply St.alloc | with_reducible apply St.drewN | with_reducible apply St.drew | (with_reducible refine St.store ?_ ?_ ?_; omega; (intro x hx; simp at hx)))
   ·repeat (first | with_reducible exact Kp.refl | with_reducible apply Kp.alloc | with_reducible apply Kp.drew | (with_reducible refine Kp.store ?_ ?_; omega) | (with_reducible refine Kp.only ?_ HWw3.out ?_; omega) | (with_reducible refine Kp.only ?_ HWw1.out ?_; omega))
 | true =>
  simp only [if_true] at hR hS
  have HR := Lib.hid hR
  have HS := Lib.hid hS
  clear hR hS
  have lz_w1 : w.heap.size < w1.heap.size := blk_lt HS.out.l0
  go_wp2_with (fail)
  refine (ReadsEx.call IH.out.expr HS.out.new (Res_in HR.out HO.out)).mono ?_
  rintro e w5 ⟨hO, hm⟩
  have HWw5 := Lib.hid hO
  clear hO
  cases hr : PX.expr k s.tail with
  | out => rw [hr] at hm; exact hm.elim
  | bad q er =>
   rw [hr] at hm
   obtain ⟨rfl, hO2⟩ := hm
   have hF := HR.out
   rw [hr] at hF
   unfold Pan
   (try simp only [Exit.inBlock, Exit.then])
   rw [← HQ.out]
   exact ⟨rfl, RdIs.bad hF hO2⟩
  | ok x s6 =>
   rw [hr] at hm
   obtain ⟨hS, v, rfl, hV⟩ := hm
   have hR := HR.out
   rw [hr] at hR
   rw [bind_ok] at hR
   clear HR hr
   have HR := Lib.hid hR
   have HS := Lib.hid hS
   clear hR hS
   have lz_w5 : w.heap.size < w5.heap.size := blk_lt HS.out.l1
   obtain ⟨A_x, n_x, c_x, rfl, hM⟩ := hV.cells
   have HM_x := Lib.hid (k54.M_lower (base' := w1.heap.size + 1) (by simp) hM)
   clear hV hM
   go_wp2_with (fail)
   refine (St.wants [116, 104, 101, 110] HS.out.new (by simp)).mono ?_
   rintro e w7 ⟨hO, hm⟩
   have HWw7 := Lib.hid hO
   clear hO
   cases hr : PX.want [116, 104, 101, 110] s6 with
   | out => rw [hr] at hm; exact hm.elim
   | bad q er =>
    rw [hr] at hm
    obtain ⟨rfl, hO2⟩ := hm
    have hF := HR.out
    rw [hr] at hF
    unfold Pan
    (try simp only [Exit.inBlock, Exit.then])
    rw [← HQ.out]
    exact ⟨rfl, RdIs.bad hF hO2⟩
   | ok _u s8 =>
    rw [hr] at hm
    obtain ⟨hS, v, rfl, hV⟩ := hm
    have hR := HR.out
    rw [hr] at hR
    rw [bind_ok] at hR
    clear HR hr
    have HR := Lib.hid hR
    have HS := Lib.hid hS
    clear hR hS
    have lz_w7 : w.heap.size < w7.heap.size := blk_lt HS.out.l2
    clear hV
    go_wp2_with (fail)
    refine (ReadsEx.call IH.out.expr HS.out (Res_in HR.out HO.out)).mono ?_
    rintro e w9 ⟨hO, hm⟩
    have HWw9 := Lib.hid hO
    clear hO
    cases hr : PX.expr k s8 with
    | out => rw [hr] at hm; exact hm.elim
    | bad q er =>
     rw [hr] at hm
     obtain ⟨rfl, hO2⟩ := hm
     have hF := HR.out
     rw [hr] at hF
     unfold Pan
     (try simp only [Exit.inBlock, Exit.then])
     rw [← HQ.out]
     exact ⟨rfl, RdIs.bad hF hO2⟩
    | ok y s10 =>
     rw [hr] at hm
     obtain ⟨hS, v, rfl, hV⟩ := hm
     have hR := HR.out
     rw [hr] at hR
     rw [bind_ok] at hR
     clear HR hr
     have HR := Lib.hid hR
     have HS := Lib.hid hS
     clear hR hS
     have lz_w9 : w.heap.size < w9.heap.size := blk_lt HS.out.l2
     obtain ⟨A_y, n_y, c_y, rfl, hM⟩ := hV.cells
     have HM_y := Lib.hid (k54.M_lower (base' := w7.heap.size) (Nat.le_refl _) hM)
     clear hV hM
     go_wp2_with (fail)
     refine (St.wants [101, 108, 115, 101] HS.out.new (by simp)).mono ?_
     rintro e w11 ⟨hO, hm⟩
     have HWw11 := Lib.hid hO
     clear hO
     cases hr : PX.want [101, 108, 115, 101] s10 with
     | out => rw [hr] at hm; exact hm.elim
     | bad q er =>
      rw [hr] at hm
      obtain ⟨rfl, hO2⟩ := hm
      have hF := HR.out
      rw [hr] at hF
      unfold Pan
      (try simp only [Exit.inBlock, Exit.then])
      rw [← HQ.out]
      exact ⟨rfl, RdIs.bad hF hO2⟩
     | ok _u s12 =>
      rw [hr] at hm
      obtain ⟨hS, v, rfl, hV⟩ := hm
      have hR := HR.out
      rw [hr] at hR
      rw [bind_ok] at hR
      clear HR hr
      have HR := Lib.hid hR
      have HS := Lib.hid hS
      clear hR hS
      have lz_w11 : w.heap.size < w11.heap.size := blk_lt HS.out.l3
      clear hV
      go_wp2_with (fail)
      have q0 := HS.out.l0
      obtain ⟨q0_0, q0_1, q0_2, q0_3, q0_4, q0_5, q0_f⟩ := blk6 q0
      have q0_l := blk_lt q0
      clear q0
      have q1 := HS.out.l1
      obtain ⟨q1_0, q1_1, q1_2, q1_3, q1_4, q1_5, q1_f⟩ := blk6 q1
      have q1_l := blk_lt q1
      clear q1
      have q2 := HS.out.l2
      obtain ⟨q2_0, q2_1, q2_2, q2_3, q2_f⟩ := blk4 q2
      have q2_l := blk_lt q2
      clear q2
      have q3 := HS.out.l3
      obtain ⟨q3_0, q3_1, q3_2, q3_3, q3_4, q3_5, q3_f⟩ := blk6 q3
      have q3_l := blk_lt q3
      clear q3
      have hS0 : (w11.drew).cell? ⟨w1.heap.size, 1, none⟩ = some (.int .i64 t2.at_) ∧ (w11.drew).cell? ⟨w5.heap.size, 0, none⟩ = some (.int .i64 x.kind) ∧ (w11.drew).cell? ⟨w5.heap.size, 1, none⟩ = some (.int .i64 (atOf toks x.place)) ∧ (w11.drew).cell? ⟨w5.heap.size, 2, none⟩ = some (.int .i64 x.n) ∧ (w11.drew).cell? ⟨w5.heap.size, 3, none⟩ = some (.string ⟨x.name.toArray⟩) ∧ (w11.drew).cell? ⟨w5.heap.size, 4, none⟩ = some (.bool x.off) ∧ (w11.drew).cell? ⟨w5.heap.size, 5, none⟩ = some (.slice A_x n_x c_x) ∧ (w11.drew).cell? ⟨w9.heap.size, 0, none⟩ = some (.int .i64 y.kind) ∧ (w11.drew).cell? ⟨w9.heap.size, 1, none⟩ = some (.int .i64 (atOf toks y.place)) ∧ (w11.drew).cell? ⟨w9.heap.size, 2, none⟩ = some (.int .i64 y.n) ∧ (w11.drew).cell? ⟨w9.heap.size, 3, none⟩ = some (.string ⟨y.name.toArray⟩) ∧ (w11.drew).cell? ⟨w9.heap.size, 4, none⟩ = some (.bool y.off) ∧ (w11.drew).cell? ⟨w9.heap.size, 5, none⟩ = some (.slice A_y n_y c_y) := ⟨(blk4 HS.out.drew.l2).2.1, (blk6 HS.out.drew.l1).1, (blk6 HS.out.drew.l1).2.1, (blk6 HS.out.drew.l1).2.2.1, (blk6 HS.out.drew.l1).2.2.2.1, (blk6 HS.out.drew.l1).2.2.2.2.1, (blk6 HS.out.drew.l1).2.2.2.2.2.1, (blk6 HS.out.drew.l0).1, (blk6 HS.out.drew.l0).2.1, (blk6 HS.out.drew.l0).2.2.1, (blk6 HS.out.drew.l0).2.2.2.1, (blk6 HS.out.drew.l0).2.2.2.2.1, (blk6 HS.out.drew.l0).2.2.2.2.2.1⟩
      have HIN := Lib.hid (Res_in HR.out HO.out)
      have ne_0 : w9.heap.size ≠ w.heap.size := by omega
      have ne_1 : w5.heap.size ≠ w.heap.size := by omega
      have ne_2 : w1.heap.size ≠ w.heap.size := by omega
      go_region_held2 (fun w' => w'.cell? ⟨w1.heap.size, 1, none⟩ = some (.int .i64 t2.at_) ∧ w'.cell? ⟨w5.heap.size, 0, none⟩ = some (.int .i64 x.kind) ∧ w'.cell? ⟨w5.heap.size, 1, none⟩ = some (.int .i64 (atOf toks x.place)) ∧ w'.cell? ⟨w5.heap.size, 2, none⟩ = some (.int .i64 x.n) ∧ w'.cell? ⟨w5.heap.size, 3, none⟩ = some (.string ⟨x.name.toArray⟩) ∧ w'.cell? ⟨w5.heap.size, 4, none⟩ = some (.bool x.off) ∧ w'.cell? ⟨w5.heap.size, 5, none⟩ = some (.slice A_x n_x c_x) ∧ w'.cell? ⟨w9.heap.size, 0, none⟩ = some (.int .i64 y.kind) ∧ w'.cell? ⟨w9.heap.size, 1, none⟩ = some (.int .i64 (atOf toks y.place)) ∧ w'.cell? ⟨w9.heap.size, 2, none⟩ = some (.int .i64 y.n) ∧ w'.cell? ⟨w9.heap.size, 3, none⟩ = some (.string ⟨y.name.toArray⟩) ∧ w'.cell? ⟨w9.heap.size, 4, none⟩ = some (.bool y.off) ∧ w'.cell? ⟨w9.heap.size, 5, none⟩ = some (.slice A_y n_y c_y)) (first | with_reducible exact hS1 | with_reducible exact hS2 _ | with_reducible exact hS3 _ _ _ _ _ _ _ | with_reducible exact hS0) (first | (go_at_call 74; go_must (refine (ReadsEx.call IH.out.expr HS.out.drew HIN.out).mono ?_; rintro e w14 ⟨hO, hm⟩; refine Told.part hm ?_ ?_; (focus intro q er hr he hO2; subst he; have hF := HR.out; rw [hr] at hF; unfold Pan; (try simp only [Exit.inBlock, Exit.then]); rw [← HQ.out]; exact ⟨rfl, RdIs.bad hF hO2⟩); intro z s13 hr hS v he hV; have hR := HR.out; rw [hr, bind_ok] at hR; have HR2 := Lib.hid hR; obtain ⟨A_z, n_z, c_z, rfl, hM⟩ := hV.cells; subst he; have HM_z := Lib.hid (k54.M_lower (base' := w11.heap.size) (Nat.le_refl _) hM); have HS2 := Lib.hid hS; have HX3 := Lib.hid (St.init (l := [(w9.heap.size, Obj.cells #[.int .i64 y.kind, .int .i64 (atOf toks y.place), .int .i64 y.n, .string ⟨y.name.toArray⟩, .bool y.off, .slice A_y n_y c_y] 54), (w5.heap.size, Obj.cells #[.int .i64 x.kind, .int .i64 (atOf toks x.place), .int .i64 x.n, .string ⟨x.name.toArray⟩, .bool x.off, .slice A_x n_x c_x] 54), (w1.heap.size, Obj.cells #[.int .i64 t2.kind, .int .i64 t2.at_, .string ⟨t2.text.toArray⟩, .int .u64 t2.n] 35)]) hS); have hS1 : w14.cell? ⟨w1.heap.size, 1, none⟩ = some (.int .i64 t2.at_) ∧ w14.cell? ⟨w5.heap.size, 0, none⟩ = some (.int .i64 x.kind) ∧ w14.cell? ⟨w5.heap.size, 1, none⟩ = some (.int .i64 (atOf toks x.place)) ∧ w14.cell? ⟨w5.heap.size, 2, none⟩ = some (.int .i64 x.n) ∧ w14.cell? ⟨w5.heap.size, 3, none⟩ = some (.string ⟨x.name.toArray⟩) ∧ w14.cell? ⟨w5.heap.size, 4, none⟩ = some (.bool x.off) ∧ w14.cell? ⟨w5.heap.size, 5, none⟩ = some (.slice A_x n_x c_x) ∧ w14.cell? ⟨w9.heap.size, 0, none⟩ = some (.int .i64 y.kind) ∧ w14.cell? ⟨w9.heap.size, 1, none⟩ = some (.int .i64 (atOf toks y.place)) ∧ w14.cell? ⟨w9.heap.size, 2, none⟩ = some (.int .i64 y.n) ∧ w14.cell? ⟨w9.heap.size, 3, none⟩ = some (.string ⟨y.name.toArray⟩) ∧ w14.cell? ⟨w9.heap.size, 4, none⟩ = some (.bool y.off) ∧ w14.cell? ⟨w9.heap.size, 5, none⟩ = some (.slice A_y n_y c_y) := ⟨(blk4 HS2.out.l2).2.1, (blk6 HS2.out.l1).1, (blk6 HS2.out.l1).2.1, (blk6 HS2.out.l1).2.2.1, (blk6 HS2.out.l1).2.2.2.1, (blk6 HS2.out.l1).2.2.2.2.1, (blk6 HS2.out.l1).2.2.2.2.2.1, (blk6 HS2.out.l0).1, (blk6 HS2.out.l0).2.1, (blk6 HS2.out.l0).2.2.1, (blk6 HS2.out.l0).2.2.2.1, (blk6 HS2.out.l0).2.2.2.2.1, (blk6 HS2.out.l0).2.2.2.2.2.1⟩; have hS2 : ∀ o, (w14.alloc o).cell? ⟨w1.heap.size, 1, none⟩ = some (.int .i64 t2.at_) ∧ (w14.alloc o).cell? ⟨w5.heap.size, 0, none⟩ = some (.int .i64 x.kind) ∧ (w14.alloc o).cell? ⟨w5.heap.size, 1, none⟩ = some (.int .i64 (atOf toks x.place)) ∧ (w14.alloc o).cell? ⟨w5.heap.size, 2, none⟩ = some (.int .i64 x.n) ∧ (w14.alloc o).cell? ⟨w5.heap.size, 3, none⟩ = some (.string ⟨x.name.toArray⟩) ∧ (w14.alloc o).cell? ⟨w5.heap.size, 4, none⟩ = some (.bool x.off) ∧ (w14.alloc o).cell? ⟨w5.heap.size, 5, none⟩ = some (.slice A_x n_x c_x) ∧ (w14.alloc o).cell? ⟨w9.heap.size, 0, none⟩ = some (.int .i64 y.kind) ∧ (w14.alloc o).cell? ⟨w9.heap.size, 1, none⟩ = some (.int .i64 (atOf toks y.place)) ∧ (w14.alloc o).cell? ⟨w9.heap.size, 2, none⟩ = some (.int .i64 y.n) ∧ (w14.alloc o).cell? ⟨w9.heap.size, 3, none⟩ = some (.string ⟨y.name.toArray⟩) ∧ (w14.alloc o).cell? ⟨w9.heap.size, 4, none⟩ = some (.bool y.off) ∧ (w14.alloc o).cell? ⟨w9.heap.size, 5, none⟩ = some (.slice A_y n_y c_y) := fun o => ⟨(blk4 (HS2.out.alloc (o := o)).l2).2.1, (blk6 (HS2.out.alloc (o := o)).l1).1, (blk6 (HS2.out.alloc (o := o)).l1).2.1, (blk6 (HS2.out.alloc (o := o)).l1).2.2.1, (blk6 (HS2.out.alloc (o := o)).l1).2.2.2.1, (blk6 (HS2.out.alloc (o := o)).l1).2.2.2.2.1, (blk6 (HS2.out.alloc (o := o)).l1).2.2.2.2.2.1, (blk6 (HS2.out.alloc (o := o)).l0).1, (blk6 (HS2.out.alloc (o := o)).l0).2.1, (blk6 (HS2.out.alloc (o := o)).l0).2.2.1, (blk6 (HS2.out.alloc (o := o)).l0).2.2.2.1, (blk6 (HS2.out.alloc (o := o)).l0).2.2.2.2.1, (blk6 (HS2.out.alloc (o := o)).l0).2.2.2.2.2.1⟩; have hS3 : ∀ o v0 v1 v2 v3 v4 v5, (((((((w14.setCell ⟨w.heap.size, 0, none⟩ v0).setCell ⟨w.heap.size, 1, none⟩ v1).setCell ⟨w.heap.size, 2, none⟩ v2).setCell ⟨w.heap.size, 3, none⟩ v3).setCell ⟨w.heap.size, 4, none⟩ v4).setCell ⟨w.heap.size, 5, none⟩ v5).alloc o).cell? ⟨w1.heap.size, 1, none⟩ = some (.int .i64 t2.at_) ∧ (((((((w14.setCell ⟨w.heap.size, 0, none⟩ v0).setCell ⟨w.heap.size, 1, none⟩ v1).setCell ⟨w.heap.size, 2, none⟩ v2).setCell ⟨w.heap.size, 3, none⟩ v3).setCell ⟨w.heap.size, 4, none⟩ v4).setCell ⟨w.heap.size, 5, none⟩ v5).alloc o).cell? ⟨w5.heap.size, 0, none⟩ = some (.int .i64 x.kind) ∧ (((((((w14.setCell ⟨w.heap.size, 0, none⟩ v0).setCell ⟨w.heap.size, 1, none⟩ v1).setCell ⟨w.heap.size, 2, none⟩ v2).setCell ⟨w.heap.size, 3, none⟩ v3).setCell ⟨w.heap.size, 4, none⟩ v4).setCell ⟨w.heap.size, 5, none⟩ v5).alloc o).cell? ⟨w5.heap.size, 1, none⟩ = some (.int .i64 (atOf toks x.place)) ∧ (((((((w14.setCell ⟨w.heap.size, 0, none⟩ v0).setCell ⟨w.heap.size, 1, none⟩ v1).setCell ⟨w.heap.size, 2, none⟩ v2).setCell ⟨w.heap.size, 3, none⟩ v3).setCell ⟨w.heap.size, 4, none⟩ v4).setCell ⟨w.heap.size, 5, none⟩ v5).alloc o).cell? ⟨w5.heap.size, 2, none⟩ = some (.int .i64 x.n) ∧ (((((((w14.setCell ⟨w.heap.size, 0, none⟩ v0).setCell ⟨w.heap.size, 1, none⟩ v1).setCell ⟨w.heap.size, 2, none⟩ v2).setCell ⟨w.heap.size, 3, none⟩ v3).setCell ⟨w.heap.size, 4, none⟩ v4).setCell ⟨w.heap.size, 5, none⟩ v5).alloc o).cell? ⟨w5.heap.size, 3, none⟩ = some (.string ⟨x.name.toArray⟩) ∧ (((((((w14.setCell ⟨w.heap.size, 0, none⟩ v0).setCell ⟨w.heap.size, 1, none⟩ v1).setCell ⟨w.heap.size, 2, none⟩ v2).setCell ⟨w.heap.size, 3, none⟩ v3).setCell ⟨w.heap.size, 4, none⟩ v4).setCell ⟨w.heap.size, 5, none⟩ v5).alloc o).cell? ⟨w5.heap.size, 4, none⟩ = some (.bool x.off) ∧ (((((((w14.setCell ⟨w.heap.size, 0, none⟩ v0).setCell ⟨w.heap.size, 1, none⟩ v1).setCell ⟨w.heap.size, 2, none⟩ v2).setCell ⟨w.heap.size, 3, none⟩ v3).setCell ⟨w.heap.size, 4, none⟩ v4).setCell ⟨w.heap.size, 5, none⟩ v5).alloc o).cell? ⟨w5.heap.size, 5, none⟩ = some (.slice A_x n_x c_x) ∧ (((((((w14.setCell ⟨w.heap.size, 0, none⟩ v0).setCell ⟨w.heap.size, 1, none⟩ v1).setCell ⟨w.heap.size, 2, none⟩ v2).setCell ⟨w.heap.size, 3, none⟩ v3).setCell ⟨w.heap.size, 4, none⟩ v4).setCell ⟨w.heap.size, 5, none⟩ v5).alloc o).cell? ⟨w9.heap.size, 0, none⟩ = some (.int .i64 y.kind) ∧ (((((((w14.setCell ⟨w.heap.size, 0, none⟩ v0).setCell ⟨w.heap.size, 1, none⟩ v1).setCell ⟨w.heap.size, 2, none⟩ v2).setCell ⟨w.heap.size, 3, none⟩ v3).setCell ⟨w.heap.size, 4, none⟩ v4).setCell ⟨w.heap.size, 5, none⟩ v5).alloc o).cell? ⟨w9.heap.size, 1, none⟩ = some (.int .i64 (atOf toks y.place)) ∧ (((((((w14.setCell ⟨w.heap.size, 0, none⟩ v0).setCell ⟨w.heap.size, 1, none⟩ v1).setCell ⟨w.heap.size, 2, none⟩ v2).setCell ⟨w.heap.size, 3, none⟩ v3).setCell ⟨w.heap.size, 4, none⟩ v4).setCell ⟨w.heap.size, 5, none⟩ v5).alloc o).cell? ⟨w9.heap.size, 2, none⟩ = some (.int .i64 y.n) ∧ (((((((w14.setCell ⟨w.heap.size, 0, none⟩ v0).setCell ⟨w.heap.size, 1, none⟩ v1).setCell ⟨w.heap.size, 2, none⟩ v2).setCell ⟨w.heap.size, 3, none⟩ v3).setCell ⟨w.heap.size, 4, none⟩ v4).setCell ⟨w.heap.size, 5, none⟩ v5).alloc o).cell? ⟨w9.heap.size, 3, none⟩ = some (.string ⟨y.name.toArray⟩) ∧ (((((((w14.setCell ⟨w.heap.size, 0, none⟩ v0).setCell ⟨w.heap.size, 1, none⟩ v1).setCell ⟨w.heap.size, 2, none⟩ v2).setCell ⟨w.heap.size, 3, none⟩ v3).setCell ⟨w.heap.size, 4, none⟩ v4).setCell ⟨w.heap.size, 5, none⟩ v5).alloc o).cell? ⟨w9.heap.size, 4, none⟩ = some (.bool y.off) ∧ (((((((w14.setCell ⟨w.heap.size, 0, none⟩ v0).setCell ⟨w.heap.size, 1, none⟩ v1).setCell ⟨w.heap.size, 2, none⟩ v2).setCell ⟨w.heap.size, 3, none⟩ v3).setCell ⟨w.heap.size, 4, none⟩ v4).setCell ⟨w.heap.size, 5, none⟩ v5).alloc o).cell? ⟨w9.heap.size, 5, none⟩ = some (.slice A_y n_y c_y) := fun o v0 v1 v2 v3 v4 v5 => ⟨(blk4 (St.alloc (o := o) (St.store6 (v0 := v0) (v1 := v1) (v2 := v2) (v3 := v3) (v4 := v4) (v5 := v5) (Nat.le_refl _) (NB.cons ne_0 (NB.cons ne_1 (NB.cons ne_2 NB.nil))) HX3.out)).l2).2.1, (blk6 (St.alloc (o := o) (St.store6 (v0 := v0) (v1 := v1) (v2 := v2) (v3 := v3) (v4 := v4) (v5 := v5) (Nat.le_refl _) (NB.cons ne_0 (NB.cons ne_1 (NB.cons ne_2 NB.nil))) HX3.out)).l1).1, (blk6 (St.alloc (o := o) (St.store6 (v0 := v0) (v1 := v1) (v2 := v2) (v3 := v3) (v4 := v4) (v5 := v5) (Nat.le_refl _) (NB.cons ne_0 (NB.cons ne_1 (NB.cons ne_2 NB.nil))) HX3.out)).l1).2.1, (blk6 (St.alloc (o := o) (St.store6 (v0 := v0) (v1 := v1) (v2 := v2) (v3 := v3) (v4 := v4) (v5 := v5) (Nat.le_refl _) (NB.cons ne_0 (NB.cons ne_1 (NB.cons ne_2 NB.nil))) HX3.out)).l1).2.2.1, (blk6 (St.alloc (o := o) (St.store6 (v0 := v0) (v1 := v1) (v2 := v2) (v3 := v3) (v4 := v4) (v5 := v5) (Nat.le_refl _) (NB.cons ne_0 (NB.cons ne_1 (NB.cons ne_2 NB.nil))) HX3.out)).l1).2.2.2.1, (blk6 (St.alloc (o := o) (St.store6 (v0 := v0) (v1 := v1) (v2 := v2) (v3 := v3) (v4 := v4) (v5 := v5) (Nat.le_refl _) (NB.cons ne_0 (NB.cons ne_1 (NB.cons ne_2 NB.nil))) HX3.out)).l1).2.2.2.2.1, (blk6 (St.alloc (o := o) (St.store6 (v0 := v0) (v1 := v1) (v2 := v2) (v3 := v3) (v4 := v4) (v5 := v5) (Nat.le_refl _) (NB.cons ne_0 (NB.cons ne_1 (NB.cons ne_2 NB.nil))) HX3.out)).l1).2.2.2.2.2.1, (blk6 (St.alloc (o := o) (St.store6 (v0 := v0) (v1 := v1) (v2 := v2) (v3 := v3) (v4 := v4) (v5 := v5) (Nat.le_refl _) (NB.cons ne_0 (NB.cons ne_1 (NB.cons ne_2 NB.nil))) HX3.out)).l0).1, (blk6 (St.alloc (o := o) (St.store6 (v0 := v0) (v1 := v1) (v2 := v2) (v3 := v3) (v4 := v4) (v5 := v5) (Nat.le_refl _) (NB.cons ne_0 (NB.cons ne_1 (NB.cons ne_2 NB.nil))) HX3.out)).l0).2.1, (blk6 (St.alloc (o := o) (St.store6 (v0 := v0) (v1 := v1) (v2 := v2) (v3 := v3) (v4 := v4) (v5 := v5) (Nat.le_refl _) (NB.cons ne_0 (NB.cons ne_1 (NB.cons ne_2 NB.nil))) HX3.out)).l0).2.2.1, (blk6 (St.alloc (o := o) (St.store6 (v0 := v0) (v1 := v1) (v2 := v2) (v3 := v3) (v4 := v4) (v5 := v5) (Nat.le_refl _) (NB.cons ne_0 (NB.cons ne_1 (NB.cons ne_2 NB.nil))) HX3.out)).l0).2.2.2.1, (blk6 (St.alloc (o := o) (St.store6 (v0 := v0) (v1 := v1) (v2 := v2) (v3 := v3) (v4 := v4) (v5 := v5) (Nat.le_refl _) (NB.cons ne_0 (NB.cons ne_1 (NB.cons ne_2 NB.nil))) HX3.out)).l0).2.2.2.2.1, (blk6 (St.alloc (o := o) (St.store6 (v0 := v0) (v1 := v1) (v2 := v2) (v3 := v3) (v4 := v4) (v5 := v5) (Nat.le_refl _) (NB.cons ne_0 (NB.cons ne_1 (NB.cons ne_2 NB.nil))) HX3.out)).l0).2.2.2.2.2.1⟩; obtain ⟨r0, r1, r2, r3, r4, r5, rf⟩ := blk6 HS2.out.l3; have r_l := blk_lt HS2.out.l3; have l_0 := blk_lt HS2.out.l0; have l_1 := blk_lt HS2.out.l1; have l_2 := blk_lt HS2.out.l2; have HW2 := Lib.hid hO; clear hO hS hM hV hr hR hm)))
      go_wp2_with (fail)
      (try simp only [Exit.inBlock, Exit.then])
      have hpl := H.out.plt
      have hbase := HS2.out.sub (l' := []) (fun x hx => by simp at hx)
      refine bodyPost_ret (results_cell_row rfl _ _ w.heap.size 54 _ (0, 0) _ rfl (blk_alloc' (blk_set6 HS2.out.l3 _ _ _ _ _ _)) Tryz.underlying54 rfl (by kernel_rfl)) rfl ?_
      rw [← HQ.out]
      refine RdIs.ok HR2.out (St.only (b := b) (toks := toks) (s := s13) (l := []) ?_) (St.pat (w := w) (l := []) ?_) ⟨_, rfl, ?_⟩
      ·repeat (first | with_reducible exact hbase | with_reducible apply St.alloc | with_reducible apply St.drewN | with_reducible apply St.drew | (with_reducible refine St.store ?_ ?_ ?_; omega; (intro x hx; simp at hx)))
      ·repeat (first | with_reducible exact hbase | with_reducible apply St.alloc | with_reducible apply St.drewN | with_reducible apply St.drew | (with_reducible refine St.store ?_ ?_ ?_; omega; (intro x hx; simp at hx)))
      ·rw [← Ht2.out.2]
       have hM_x : k54.M _ w.heap.size (fun _ => True) (real toks x) _ := ExM.kp (W' := w14.setCell ⟨w.heap.size, 0, none⟩ (.int .i64 7) |>.setCell ⟨w.heap.size, 1, none⟩ (.int .i64 (atOf toks s.length)) |>.setCell ⟨w.heap.size, 2, none⟩ (.int .i64 0) |>.setCell ⟨w.heap.size, 3, none⟩ (.string ⟨#[]⟩) |>.setCell ⟨w.heap.size, 4, none⟩ (.bool false) |>.setCell ⟨w.heap.size, 5, none⟩ (.slice (some ⟨w14.heap.size, 0, none⟩) 3 3)) HM_x.out (by omega) (by repeat (first | with_reducible exact Kp.refl | with_reducible apply Kp.alloc | with_reducible apply Kp.drew | (with_reducible refine Kp.store ?_ ?_; omega) | (with_reducible refine Kp.only ?_ HW2.out ?_; omega) | (with_reducible refine Kp.only ?_ HWw11.out ?_; omega) | (with_reducible refine Kp.only ?_ HWw9.out ?_; omega) | (with_reducible refine Kp.only ?_ HWw7.out ?_; omega) | (with_reducible refine Kp.only ?_ HWw5.out ?_; omega) | (with_reducible refine Kp.only ?_ HWw1.out ?_; omega)))
       have hM_y : k54.M _ w.heap.size (fun _ => True) (real toks y) _ := ExM.kp (W' := w14.setCell ⟨w.heap.size, 0, none⟩ (.int .i64 7) |>.setCell ⟨w.heap.size, 1, none⟩ (.int .i64 (atOf toks s.length)) |>.setCell ⟨w.heap.size, 2, none⟩ (.int .i64 0) |>.setCell ⟨w.heap.size, 3, none⟩ (.string ⟨#[]⟩) |>.setCell ⟨w.heap.size, 4, none⟩ (.bool false) |>.setCell ⟨w.heap.size, 5, none⟩ (.slice (some ⟨w14.heap.size, 0, none⟩) 3 3)) HM_y.out (by omega) (by repeat (first | with_reducible exact Kp.refl | with_reducible apply Kp.alloc | with_reducible apply Kp.drew | (with_reducible refine Kp.store ?_ ?_; omega) | (with_reducible refine Kp.only ?_ HW2.out ?_; omega) | (with_reducible refine Kp.only ?_ HWw11.out ?_; omega) | (with_reducible refine Kp.only ?_ HWw9.out ?_; omega) | (with_reducible refine Kp.only ?_ HWw7.out ?_; omega) | (with_reducible refine Kp.only ?_ HWw5.out ?_; omega) | (with_reducible refine Kp.only ?_ HWw1.out ?_; omega)))
       have hM_z : k54.M _ w.heap.size (fun _ => True) (real toks z) _ := ExM.kp (W' := w14.setCell ⟨w.heap.size, 0, none⟩ (.int .i64 7) |>.setCell ⟨w.heap.size, 1, none⟩ (.int .i64 (atOf toks s.length)) |>.setCell ⟨w.heap.size, 2, none⟩ (.int .i64 0) |>.setCell ⟨w.heap.size, 3, none⟩ (.string ⟨#[]⟩) |>.setCell ⟨w.heap.size, 4, none⟩ (.bool false) |>.setCell ⟨w.heap.size, 5, none⟩ (.slice (some ⟨w14.heap.size, 0, none⟩) 3 3)) HM_z.out (by omega) (by repeat (first | with_reducible exact Kp.refl | with_reducible apply Kp.alloc | with_reducible apply Kp.drew | (with_reducible refine Kp.store ?_ ?_; omega) | (with_reducible refine Kp.only ?_ HW2.out ?_; omega) | (with_reducible refine Kp.only ?_ HWw11.out ?_; omega) | (with_reducible refine Kp.only ?_ HWw9.out ?_; omega) | (with_reducible refine Kp.only ?_ HWw7.out ?_; omega) | (with_reducible refine Kp.only ?_ HWw5.out ?_; omega) | (with_reducible refine Kp.only ?_ HWw1.out ?_; omega)))
       exact build3 (by rw [size_set6]; omega) hM_x hM_y hM_z (size_set6 _ _ _ _ _ _ _ _) 7 _ 0 [] false
end Go.Proofs.YtjafllnbgfcchaaGreatDoor.Px
