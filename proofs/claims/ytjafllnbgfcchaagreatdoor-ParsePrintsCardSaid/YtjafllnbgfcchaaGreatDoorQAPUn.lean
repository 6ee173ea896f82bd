/- The reader of signs ahead, walked. -/
import Derived.Test.YtjafllnbgfcchaaGreatDoorQAGPEx
import Derived.Deep.DeepMust
namespace Go.Proofs.YtjafllnbgfcchaaGreatDoor.Px
set_option linter.unusedVariables false
set_option linter.unusedSimpArgs false
open Go Go.RowKit Go.Proofs.YtjafllnbgfcchaaGreatDoorW.PrintWords Go.Proofs.YtjafllnbgfcchaaGreatDoorW.PrintLast Go.Proofs.YtjafllnbgfcchaaGreatDoorW.PrintMore Go.Proofs.YtjafllnbgfcchaaGreatDoor.Lx Go.Proofs.YtjafllnbgfcchaaGreatDoor.XK
attribute [local go_sem ↓] Go.wp_at_zero Go.wp_at_succ

set_option maxHeartbeats 4000000 in
set_option maxRecDepth 100000 in
theorem unary_step {p b k : Nat} {toks : List LX.Tok} (ih : Walks p b toks k) (hw : ReadsEx p b toks 206 (fun s => (PX.primary k s).bind fun a s1 => PX.whens k a s1)) : ReadsEx p b toks 205 (PX.unary (k + 1)) := by
 intro s w h hout
 obtain ⟨R, hR⟩ : ∃ R, PX.unary (k + 1) s = R := ⟨_, rfl⟩
 rw [hR] at hout ⊢
 rw [PX.unary] at hR
 have HW := Lib.hid hw
 clear hw
 have H := Lib.hid h
 have IH := Lib.hid ih
 have HR := Lib.hid hR
 have HO := Lib.hid hout
 clear h ih hR hout
 obtain ⟨Q, hQ⟩ : ∃ Q, RdIs p b toks w R (ExV toks w.heap.size) = Q := ⟨_, rfl⟩
 rw [show (fun e w' => RdIs p b toks w R (ExV toks w.heap.size) e w') = Q from hQ]
 have HQ := Lib.hid hQ
 clear hQ
 go_enter Tryz.func205, Tryz.ntmps205
 go_wp2_with (fail)
 have HS := Lib.hid (St.start (w := w) H.out)
 refine (St.takes [[112, 114, 101]] HS.out.new (by simp) (by decide)).mono ?_
 rintro e w1 ⟨hg, hO, hS, t2, hp, hat, rfl⟩
 have HWw1 := Lib.hid hO
 have Ht2 := Lib.hid (And.intro hp hat)
 clear hO hp hat hg
 obtain ⟨B, hB⟩ : ∃ B, PX.is [[112, 114, 101]] s = B := ⟨_, rfl⟩
 rw [hB] at hS ⊢
 have hR := HR.out
 rw [hB] at hR
 have HBw1 := Lib.hid hB
 clear HR hB
 unfold tokA tokV
 cases B with
 | false =>
  simp only [Bool.false_eq_true, if_false] at hR hS
  have HR := Lib.hid hR
  have HS := Lib.hid hS
  clear hR hS
  have lz_w1 : w.heap.size < w1.heap.size := blk_lt HS.out.l0
  go_wp2_with (fail)
  refine (St.takes [[45]] HS.out.new (by simp) (by decide)).mono ?_
  rintro e w3 ⟨hg, hO, hS, t4, hp, hat, rfl⟩
  have HWw3 := Lib.hid hO
  have Ht4 := Lib.hid (And.intro hp hat)
  clear hO hp hat hg
  obtain ⟨B, hB⟩ : ∃ B, PX.is [[45]] s = B := ⟨_, rfl⟩
  rw [hB] at hS ⊢
  have hR := HR.out
  rw [hB] at hR
  have HBw3 := Lib.hid hB
  clear HR hB
  unfold tokA tokV
  cases B with
  | false =>
   simp only [Bool.false_eq_true, if_false] at hR hS
   have HR := Lib.hid hR
   have HS := Lib.hid hS
   clear hR hS
   have lz_w3 : w.heap.size < w3.heap.size := blk_lt HS.out.l1
   go_wp2_with (fail)
   have hz := HS.out.sz
   refine (ReadsEx.call HW.out HS.out.new (HR.out ▸ HO.out)).mono ?_
   rintro e w5 ⟨hO, hm⟩
   have HWw5 := Lib.hid hO
   clear hO
   cases hr : (PX.primary k s).bind (fun a s1 => PX.whens k a s1) with
   | out => rw [hr] at hm; exact hm.elim
   | bad q er =>
    rw [hr] at hm
    obtain ⟨rfl, hO2⟩ := hm
    have hF := HR.out
    rw [hr] at hF
    unfold Pan
    (try simp only [Exit.inBlock, Exit.then])
    rw [← HQ.out]
    exact ⟨rfl, RdIs.bad hF hO2⟩
   | ok x s6 =>
    rw [hr] at hm
    obtain ⟨hS, v, rfl, hV⟩ := hm
    have hR := HR.out
    rw [hr] at hR
    clear HR hr
    have HR := Lib.hid hR
    have HS := Lib.hid hS
    clear hR hS
    have lz_w5 : w.heap.size < w5.heap.size := blk_lt HS.out.l2
    obtain ⟨A_x, n_x, c_x, rfl, hM⟩ := hV.cells
    have HM_x := Lib.hid (k54.M_lower (base' := w3.heap.size + 1) (by simp) hM)
    clear hV hM
    have q2 := HS.out.l2
    obtain ⟨q2_0, q2_1, q2_2, q2_3, q2_4, q2_5, q2_f⟩ := blk6 q2
    have q2_l := blk_lt q2
    clear q2
    go_wp2_with (fail)
    have hpl := H.out.plt
    (try simp only [Exit.inBlock, Exit.then])
    refine bodyPost_ret (results_cell_row rfl _ _ w.heap.size 54 _ (0, 0) _ rfl (blk_set6 HS.out.l2 _ _ _ _ _ _) Tryz.underlying54 rfl (by kernel_rfl)) rfl ?_
    rw [← HQ.out]
    refine RdIs.ok HR.out (St.only (b := b) (toks := toks) (s := s6) (l := []) ?_) (St.pat (w := w) (l := []) ?_) ⟨_, rfl, ExM.kp HM_x.out (by omega) ?_⟩
    ·repeat (first | with_reducible exact HS.out.drop.drop.drop | with_reducible apply St.alloc | with_reducible apply St.drewN | with_reducible apply St.drew | (with_reducible refine St.store ?_ ?_ ?_; omega; (intro x hx; simp at hx)))
    ·repeat (first | with_reducible exact HS.out.drop.drop.drop | with_reducible apply St.alloc | with_reducible apply St.drewN | with_reducible apply St.drew | (with_reducible refine St.store ?_ ?_ ?_; omega; (intro x hx; simp at hx)))
    ·repeat (first | with_reducible exact Kp.refl | with_reducible apply Kp.alloc | with_reducible apply Kp.drew | (with_reducible refine Kp.store ?_ ?_; omega) | (with_reducible refine Kp.only ?_ HWw5.out ?_; omega) | (with_reducible refine Kp.only ?_ HWw3.out ?_; omega) | (with_reducible refine Kp.only ?_ HWw1.out ?_; omega))
  | true =>
   simp only [if_true] at hR hS
   have HR := Lib.hid hR
   have HS := Lib.hid hS
   clear hR hS
   have lz_w3 : w.heap.size < w3.heap.size := blk_lt HS.out.l1
   go_wp2_with (fail)
   refine (St.peeks HS.out.new).mono ?_
   rintro e w7 ⟨hO, hS, t8, hp, hat, rfl⟩
   have HWw7 := Lib.hid hO
   have Ht8 := Lib.hid (And.intro hp hat)
   clear hO hp hat
   unfold tokA tokV
   have HS := Lib.hid hS
   clear hS
   have lz_w7 : w.heap.size < w7.heap.size := blk_lt HS.out.l2
   go_wp2_with (fail)
   obtain ⟨w9, hW⟩ : ∃ W, W = w7.alloc (Obj.cells #[.int .i64 t8.kind, .int .i64 t8.at_, .string ⟨t8.text.toArray⟩, .int .u64 t8.n] 35) := ⟨_, rfl⟩
   rw [← hW]
   have HSX := Lib.hid (HS.out.new (o := Obj.cells #[.int .i64 t8.kind, .int .i64 t8.at_, .string ⟨t8.text.toArray⟩, .int .u64 t8.n] 35))
   rw [← hW] at HSX
   have HS := HSX
   clear HSX
   have HWw9 := Lib.hid ((Only.refl p w7).alloc (Obj.cells #[.int .i64 t8.kind, .int .i64 t8.at_, .string ⟨t8.text.toArray⟩, .int .u64 t8.n] 35))
   rw [← hW] at HWw9
   clear hW
   have lz_w9 : w.heap.size < w9.heap.size := blk_lt HS.out.l3
   rcases Nat.decEq t8.kind 2 with hk | hk
   ·
    have hc : ((PX.peek s.tail).kind == 2) = false := by rw [Ht8.out.1]; simpa [tk] using hk
    have hR := HR.out
    simp only [hc, Bool.false_and, Bool.false_eq_true, if_false] at hR
    have HR := Lib.hid hR
    have HKt8 := Lib.hid hk
    have hk1 : ((t8.kind : Int) == 2) = false := by simp; omega
    have hk2 : ((t8.kind : Int) != 2) = true := by simp; omega
    have hk3 : ¬ ((t8.kind : Int) = 2) := by omega
    clear hk hc hR
    have q0 := HS.out.l0
    obtain ⟨q0_0, q0_1, q0_2, q0_3, q0_f⟩ := blk4 q0
    have q0_l := blk_lt q0
    clear q0
    have q1 := HS.out.l1
    obtain ⟨q1_0, q1_1, q1_2, q1_3, q1_f⟩ := blk4 q1
    have q1_l := blk_lt q1
    clear q1
    have q2 := HS.out.l2
    obtain ⟨q2_0, q2_1, q2_2, q2_3, q2_f⟩ := blk4 q2
    have q2_l := blk_lt q2
    clear q2
    have q3 := HS.out.l3
    obtain ⟨q3_0, q3_1, q3_2, q3_3, q3_4, q3_5, q3_f⟩ := blk6 q3
    have q3_l := blk_lt q3
    clear q3
    go_quiet (fail)
    go_wp2_with (fail)
    obtain ⟨w10, hW⟩ : ∃ W, W = w9.drewN nq := ⟨_, rfl⟩
    rw [← hW]
    have HSX := Lib.hid (HS.out.drewN (n := nq))
    rw [← hW] at HSX
    have HS := HSX
    clear HSX
    have HWw10 := Lib.hid ((Only.refl p w9).drewN nq)
    rw [← hW] at HWw10
    clear hW
    have lz_w10 : w.heap.size < w10.heap.size := blk_lt HS.out.l3
    have q0 := HS.out.l0
    obtain ⟨q0_0, q0_1, q0_2, q0_3, q0_f⟩ := blk4 q0
    have q0_l := blk_lt q0
    clear q0
    have q1 := HS.out.l1
    obtain ⟨q1_0, q1_1, q1_2, q1_3, q1_f⟩ := blk4 q1
    have q1_l := blk_lt q1
    clear q1
    have q2 := HS.out.l2
    obtain ⟨q2_0, q2_1, q2_2, q2_3, q2_f⟩ := blk4 q2
    have q2_l := blk_lt q2
    clear q2
    have q3 := HS.out.l3
    obtain ⟨q3_0, q3_1, q3_2, q3_3, q3_4, q3_5, q3_f⟩ := blk6 q3
    have q3_l := blk_lt q3
    clear q3
    have hS0 : (w10.drew).cell? ⟨w3.heap.size, 1, none⟩ = some (.int .i64 t4.at_) := (blk4 HS.out.drew.l1).2.1
    have HIN := Lib.hid (Res_in HR.out HO.out)
    have ne_0 : w7.heap.size ≠ w.heap.size := by omega
    have ne_1 : w3.heap.size ≠ w.heap.size := by omega
    have ne_2 : w1.heap.size ≠ w.heap.size := by omega
    go_region_held2 (fun w' => w'.cell? ⟨w3.heap.size, 1, none⟩ = some (.int .i64 t4.at_)) (first | with_reducible exact hS1 | with_reducible exact hS2 _ | with_reducible exact hS3 _ _ _ _ _ _ _ | with_reducible exact hS0) (first | (go_at_call 205; go_must (refine (ReadsEx.call IH.out.unary HS.out.drew HIN.out).mono ?_; rintro e w12 ⟨hO, hm⟩; refine Told.part hm ?_ ?_; (focus intro q er hr he hO2; subst he; have hF := HR.out; rw [hr] at hF; unfold Pan; (try simp only [Exit.inBlock, Exit.then]); rw [← HQ.out]; exact ⟨rfl, RdIs.bad hF hO2⟩); intro y s11 hr hS v he hV; have hR := HR.out; rw [hr, bind_ok] at hR; have HR2 := Lib.hid hR; obtain ⟨A_y, n_y, c_y, rfl, hM⟩ := hV.cells; subst he; have HM_y := Lib.hid (k54.M_lower (base' := w10.heap.size) (Nat.le_refl _) hM); have HS2 := Lib.hid hS; have HX3 := Lib.hid (St.init (l := [(w7.heap.size, Obj.cells #[.int .i64 t8.kind, .int .i64 t8.at_, .string ⟨t8.text.toArray⟩, .int .u64 t8.n] 35), (w3.heap.size, Obj.cells #[.int .i64 t4.kind, .int .i64 t4.at_, .string ⟨t4.text.toArray⟩, .int .u64 t4.n] 35), (w1.heap.size, Obj.cells #[.int .i64 t2.kind, .int .i64 t2.at_, .string ⟨t2.text.toArray⟩, .int .u64 t2.n] 35)]) hS); have hS1 : w12.cell? ⟨w3.heap.size, 1, none⟩ = some (.int .i64 t4.at_) := (blk4 HS2.out.l1).2.1; have hS2 : ∀ o, (w12.alloc o).cell? ⟨w3.heap.size, 1, none⟩ = some (.int .i64 t4.at_) := fun o => (blk4 (HS2.out.alloc (o := o)).l1).2.1; have hS3 : ∀ o v0 v1 v2 v3 v4 v5, (((((((w12.setCell ⟨w.heap.size, 0, none⟩ v0).setCell ⟨w.heap.size, 1, none⟩ v1).setCell ⟨w.heap.size, 2, none⟩ v2).setCell ⟨w.heap.size, 3, none⟩ v3).setCell ⟨w.heap.size, 4, none⟩ v4).setCell ⟨w.heap.size, 5, none⟩ v5).alloc o).cell? ⟨w3.heap.size, 1, none⟩ = some (.int .i64 t4.at_) := fun o v0 v1 v2 v3 v4 v5 => (blk4 (St.alloc (o := o) (St.store6 (v0 := v0) (v1 := v1) (v2 := v2) (v3 := v3) (v4 := v4) (v5 := v5) (Nat.le_refl _) (NB.cons ne_0 (NB.cons ne_1 (NB.cons ne_2 NB.nil))) HX3.out)).l1).2.1; obtain ⟨r0, r1, r2, r3, r4, r5, rf⟩ := blk6 HS2.out.l3; have r_l := blk_lt HS2.out.l3; have l_1 := blk_lt HS2.out.l1; have HW2 := Lib.hid hO; clear hO hS hM hV hr hR hm)))
    go_wp2_with (fail)
    (try simp only [Exit.inBlock, Exit.then])
    have hpl := H.out.plt
    have hbase := HS2.out.sub (l' := []) (fun x hx => by simp at hx)
    refine bodyPost_ret (results_cell_row rfl _ _ w.heap.size 54 _ (0, 0) _ rfl (blk_alloc' (blk_set6 HS2.out.l3 _ _ _ _ _ _)) Tryz.underlying54 rfl (by kernel_rfl)) rfl ?_
    rw [← HQ.out]
    refine RdIs.ok HR2.out (St.only (b := b) (toks := toks) (s := s11) (l := []) ?_) (St.pat (w := w) (l := []) ?_) ⟨_, rfl, ?_⟩
    ·repeat (first | with_reducible exact hbase | with_reducible apply St.alloc | with_reducible apply St.drewN | with_reducible apply St.drew | (with_reducible refine St.store ?_ ?_ ?_; omega; (intro x hx; simp at hx)))
    ·repeat (first | with_reducible exact hbase | with_reducible apply St.alloc | with_reducible apply St.drewN | with_reducible apply St.drew | (with_reducible refine St.store ?_ ?_ ?_; omega; (intro x hx; simp at hx)))
    ·rw [← Ht4.out.2]
     have hM_y : k54.M _ w.heap.size (fun _ => True) (real toks y) _ := ExM.kp (W' := w12.setCell ⟨w.heap.size, 0, none⟩ (.int .i64 4) |>.setCell ⟨w.heap.size, 1, none⟩ (.int .i64 (atOf toks s.length)) |>.setCell ⟨w.heap.size, 2, none⟩ (.int .i64 0) |>.setCell ⟨w.heap.size, 3, none⟩ (.string ⟨#[]⟩) |>.setCell ⟨w.heap.size, 4, none⟩ (.bool false) |>.setCell ⟨w.heap.size, 5, none⟩ (.slice (some ⟨w12.heap.size, 0, none⟩) 1 1)) HM_y.out (by omega) (by repeat (first | with_reducible exact Kp.refl | with_reducible apply Kp.alloc | with_reducible apply Kp.drew | (with_reducible refine Kp.store ?_ ?_; omega) | (with_reducible refine Kp.only ?_ HW2.out ?_; omega) | (with_reducible refine Kp.only ?_ HWw10.out ?_; omega) | (with_reducible refine Kp.only ?_ HWw9.out ?_; omega) | (with_reducible refine Kp.only ?_ HWw7.out ?_; omega) | (with_reducible refine Kp.only ?_ HWw3.out ?_; omega) | (with_reducible refine Kp.only ?_ HWw1.out ?_; omega)))
     exact build1 (by rw [size_set6]; omega) hM_y (size_set6 _ _ _ _ _ _ _ _) 4 _ 0 [] false
   ·
    have hc : ((PX.peek s.tail).kind == 2) = true := by rw [Ht8.out.1]; simpa [tk] using hk
    have hR := HR.out
    simp only [hc, Bool.true_and] at hR
    have HR := Lib.hid hR
    have HKt8 := Lib.hid hk
    have hk1 : ((t8.kind : Int) == 2) = true := by simp; omega
    have hk2 : ((t8.kind : Int) != 2) = false := by simp; omega
    have hk3 : ((t8.kind : Int) = 2) := by omega
    clear hk hc hR
    obtain ⟨tX, cX, kX, hbX, _, _, hlX, _, _, _, _⟩ := HS.out.pat.head
    have HBX := Lib.hid hbX
    obtain ⟨p0, p1, pf⟩ := blk2p hbX
    have p_l := HS.out.pat.plt
    have hsm := HS.out.pat.few
    have hk9 : (kX : Int) + 1 ≤ 9223372036854775807 := by omega
    have hne5 : (PX.peek s.tail).kind ≠ 5 := by rw [Ht8.out.1]; simp [tk, HKt8.out]
    have HNE := Lib.hid hne5
    have hpl := H.out.plt
    clear hbX hsm hlX hne5
    have np_0 : ¬ (w7.heap.size = p) := by omega
    have np_1 : ¬ (w3.heap.size = p) := by omega
    have np_2 : ¬ (w1.heap.size = p) := by omega
    have np_3 : ¬ (w.heap.size = p) := by omega
    obtain ⟨u, hu, hpu, hu0⟩ := HS.out.pat.second HBX.out HNE.out
    have hk0 : (0 : Int) ≤ (kX : Int) + 1 := by omega
    have hk1' : (kX : Int) + 1 < (toks.length : Int) := by omega
    have HU := Lib.hid hpu
    obtain ⟨u0, u1, u2, u3⟩ := HS.out.pat.row (kX + 1) u hu0
    clear hpu
    rcases decEq u.text [119, 104, 101, 110] with hw | hw
    ·
     have hc : ((PX.peek s.tail.tail).text != [119, 104, 101, 110]) = true := by rw [HU.out]; simp [tk, hw]
     have hR := HR.out
     simp only [hc, if_true] at hR
     have HR := Lib.hid hR
     have hw1 : (u.text == [119, 104, 101, 110]) = false := by simp [hw]
     have hw2 : (u.text != [119, 104, 101, 110]) = true := by simp [hw]
     clear hR hc
     have q0 := HS.out.l0
     obtain ⟨q0_0, q0_1, q0_2, q0_3, q0_f⟩ := blk4 q0
     have q0_l := blk_lt q0
     clear q0
     have q1 := HS.out.l1
     obtain ⟨q1_0, q1_1, q1_2, q1_3, q1_f⟩ := blk4 q1
     have q1_l := blk_lt q1
     clear q1
     have q2 := HS.out.l2
     obtain ⟨q2_0, q2_1, q2_2, q2_3, q2_f⟩ := blk4 q2
     have q2_l := blk_lt q2
     clear q2
     have q3 := HS.out.l3
     obtain ⟨q3_0, q3_1, q3_2, q3_3, q3_4, q3_5, q3_f⟩ := blk6 q3
     have q3_l := blk_lt q3
     clear q3
     go_quiet (fail)
     obtain ⟨w13, hW⟩ : ∃ W, W = w9.drewN nq := ⟨_, rfl⟩
     rw [← hW]
     have HSX := Lib.hid (HS.out.drewN (n := nq))
     rw [← hW] at HSX
     have HS := HSX
     clear HSX
     have HWw13 := Lib.hid ((Only.refl p w9).drewN nq)
     rw [← hW] at HWw13
     clear hW
     have lz_w13 : w.heap.size < w13.heap.size := blk_lt HS.out.l3
     obtain ⟨tX, cX, kX, hbX, _, _, hlX, _, _, _, _⟩ := HS.out.pat.head
     have HBX := Lib.hid hbX
     obtain ⟨p0, p1, pf⟩ := blk2p hbX
     have p_l := HS.out.pat.plt
     have hsm := HS.out.pat.few
     have hk9 : (kX : Int) + 1 ≤ 9223372036854775807 := by omega
     have hne5 : (PX.peek s.tail).kind ≠ 5 := by rw [Ht8.out.1]; simp [tk, HKt8.out]
     have HNE := Lib.hid hne5
     have hpl := H.out.plt
     clear hbX hsm hlX hne5
     have np_0 : ¬ (w7.heap.size = p) := by omega
     have np_1 : ¬ (w3.heap.size = p) := by omega
     have np_2 : ¬ (w1.heap.size = p) := by omega
     have np_3 : ¬ (w.heap.size = p) := by omega
     have q0 := HS.out.l0
     obtain ⟨q0_0, q0_1, q0_2, q0_3, q0_f⟩ := blk4 q0
     have q0_l := blk_lt q0
     clear q0
     have q1 := HS.out.l1
     obtain ⟨q1_0, q1_1, q1_2, q1_3, q1_f⟩ := blk4 q1
     have q1_l := blk_lt q1
     clear q1
     have q2 := HS.out.l2
     obtain ⟨q2_0, q2_1, q2_2, q2_3, q2_f⟩ := blk4 q2
     have q2_l := blk_lt q2
     clear q2
     have q3 := HS.out.l3
     obtain ⟨q3_0, q3_1, q3_2, q3_3, q3_4, q3_5, q3_f⟩ := blk6 q3
     have q3_l := blk_lt q3
     clear q3
     go_wp2_with (fail)
     have hS1 := (HS.out.drop.drop.drop).adv HBX.out HNE.out
     have hn := HS.out.pat.num Ht8.out.1
     have nr_0 : w.heap.size ≠ w7.heap.size := by omega
     have nq_0 : w.heap.size ≤ w7.heap.size := by omega
     have nr_1 : w.heap.size ≠ w3.heap.size := by omega
     have nq_1 : w.heap.size ≤ w3.heap.size := by omega
     have nr_2 : w.heap.size ≠ w1.heap.size := by omega
     have nq_2 : w.heap.size ≤ w1.heap.size := by omega
     refine (St.numbers (p := p) (b := b) (toks := toks) (w := w) (s := s.tail) (l := [(w.heap.size, Obj.cells #[.int .i64 0, .int .i64 0, .int .i64 0, .string ⟨#[]⟩, .bool false, .slice none 0 0] 54)]) ?_ Ht8.out.1 Ht8.out.2 hn s.length Ht4.out.2 true).mono ?_
     ·repeat (first | with_reducible exact hS1 | with_reducible apply St.alloc | (with_reducible refine St.store ?_ (NB.cons ?_ NB.nil) ?_; omega; omega))
     rintro e w14 ⟨hO, hm⟩
     have HWw14 := Lib.hid hO
     clear hO
     cases hr : PX.number s.tail s.length true with
     | out => rw [hr] at hm; exact hm.elim
     | bad q er =>
      rw [hr] at hm
      obtain ⟨rfl, hO2⟩ := hm
      have hF := HR.out
      rw [hr] at hF
      unfold Pan
      (try simp only [Exit.inBlock, Exit.then])
      rw [← HQ.out]
      exact ⟨rfl, RdIs.bad hF hO2⟩
     | ok x s15 =>
      rw [hr] at hm
      obtain ⟨hS, v, rfl, hV⟩ := hm
      have hR := HR.out
      rw [hr] at hR
      clear HR hr
      have HR := Lib.hid hR
      have HS := Lib.hid hS
      clear hR hS hS1
      have lz_w14 : w.heap.size < w14.heap.size := blk_lt HS.out.l0
      obtain ⟨A_x, n_x, c_x, rfl, hM⟩ := hV.cells
      have HM_x := Lib.hid (k54.M_lower (base' := w.heap.size + 1) (by simp [World.setCell]; omega) hM)
      clear hV hM
      have q0 := HS.out.l0
      obtain ⟨q0_0, q0_1, q0_2, q0_3, q0_4, q0_5, q0_f⟩ := blk6 q0
      have q0_l := blk_lt q0
      clear q0
      go_wp2_with (fail)
      have hpl := H.out.plt
      (try simp only [Exit.inBlock, Exit.then])
      refine bodyPost_ret (results_cell_row rfl _ _ w.heap.size 54 _ (0, 0) _ rfl (blk_set6 HS.out.l0 _ _ _ _ _ _) Tryz.underlying54 rfl (by kernel_rfl)) rfl ?_
      rw [← HQ.out]
      refine RdIs.ok HR.out (St.only (b := b) (toks := toks) (s := s15) (l := []) ?_) (St.pat (w := w) (l := []) ?_) ⟨_, rfl, ExM.kp HM_x.out (by omega) ?_⟩
      ·repeat (first | with_reducible exact HS.out.drop | with_reducible apply St.alloc | with_reducible apply St.drewN | with_reducible apply St.drew | (with_reducible refine St.store ?_ ?_ ?_; omega; (intro x hx; simp at hx)))
      ·repeat (first | with_reducible exact HS.out.drop | with_reducible apply St.alloc | with_reducible apply St.drewN | with_reducible apply St.drew | (with_reducible refine St.store ?_ ?_ ?_; omega; (intro x hx; simp at hx)))
      ·repeat (first | with_reducible exact Kp.refl | with_reducible apply Kp.alloc | with_reducible apply Kp.drew | (with_reducible refine Kp.store ?_ ?_; omega) | (with_reducible refine Kp.only ?_ HWw14.out ?_; omega) | (with_reducible refine Kp.only ?_ HWw13.out ?_; omega) | (with_reducible refine Kp.only ?_ HWw9.out ?_; omega) | (with_reducible refine Kp.only ?_ HWw7.out ?_; omega) | (with_reducible refine Kp.only ?_ HWw3.out ?_; omega) | (with_reducible refine Kp.only ?_ HWw1.out ?_; omega))
    ·
     have hc : ((PX.peek s.tail.tail).text != [119, 104, 101, 110]) = false := by rw [HU.out]; simp [tk, hw]
     have hR := HR.out
     simp only [hc, Bool.false_eq_true, if_false] at hR
     have HR := Lib.hid hR
     have hw1 : (u.text == [119, 104, 101, 110]) = true := by simp [hw]
     have hw2 : (u.text != [119, 104, 101, 110]) = false := by simp [hw]
     clear hR hc
     have q0 := HS.out.l0
     obtain ⟨q0_0, q0_1, q0_2, q0_3, q0_f⟩ := blk4 q0
     have q0_l := blk_lt q0
     clear q0
     have q1 := HS.out.l1
     obtain ⟨q1_0, q1_1, q1_2, q1_3, q1_f⟩ := blk4 q1
     have q1_l := blk_lt q1
     clear q1
     have q2 := HS.out.l2
     obtain ⟨q2_0, q2_1, q2_2, q2_3, q2_f⟩ := blk4 q2
     have q2_l := blk_lt q2
     clear q2
     have q3 := HS.out.l3
     obtain ⟨q3_0, q3_1, q3_2, q3_3, q3_4, q3_5, q3_f⟩ := blk6 q3
     have q3_l := blk_lt q3
     clear q3
     go_quiet (fail)
     go_wp2_with (fail)
     obtain ⟨w13, hW⟩ : ∃ W, W = w9.drewN nq := ⟨_, rfl⟩
     rw [← hW]
     have HSX := Lib.hid (HS.out.drewN (n := nq))
     rw [← hW] at HSX
     have HS := HSX
     clear HSX
     have HWw13 := Lib.hid ((Only.refl p w9).drewN nq)
     rw [← hW] at HWw13
     clear hW
     have lz_w13 : w.heap.size < w13.heap.size := blk_lt HS.out.l3
     have q0 := HS.out.l0
     obtain ⟨q0_0, q0_1, q0_2, q0_3, q0_f⟩ := blk4 q0
     have q0_l := blk_lt q0
     clear q0
     have q1 := HS.out.l1
     obtain ⟨q1_0, q1_1, q1_2, q1_3, q1_f⟩ := blk4 q1
     have q1_l := blk_lt q1
     clear q1
     have q2 := HS.out.l2
     obtain ⟨q2_0, q2_1, q2_2, q2_3, q2_f⟩ := blk4 q2
     have q2_l := blk_lt q2
     clear q2
     have q3 := HS.out.l3
     obtain ⟨q3_0, q3_1, q3_2, q3_3, q3_4, q3_5, q3_f⟩ := blk6 q3
     have q3_l := blk_lt q3
     clear q3
     have hS0 : (w13.drew).cell? ⟨w3.heap.size, 1, none⟩ = some (.int .i64 t4.at_) := (blk4 HS.out.drew.l1).2.1
     have HIN := Lib.hid (Res_in HR.out HO.out)
     have ne_0 : w7.heap.size ≠ w.heap.size := by omega
     have ne_1 : w3.heap.size ≠ w.heap.size := by omega
     have ne_2 : w1.heap.size ≠ w.heap.size := by omega
     go_region_held2 (fun w' => w'.cell? ⟨w3.heap.size, 1, none⟩ = some (.int .i64 t4.at_)) (first | with_reducible exact hS1 | with_reducible exact hS2 _ | with_reducible exact hS3 _ _ _ _ _ _ _ | with_reducible exact hS0) (first | (go_at_call 205; go_must (refine (ReadsEx.call IH.out.unary HS.out.drew HIN.out).mono ?_; rintro e w15 ⟨hO, hm⟩; refine Told.part hm ?_ ?_; (focus intro q er hr he hO2; subst he; have hF := HR.out; rw [hr] at hF; unfold Pan; (try simp only [Exit.inBlock, Exit.then]); rw [← HQ.out]; exact ⟨rfl, RdIs.bad hF hO2⟩); intro y s14 hr hS v he hV; have hR := HR.out; rw [hr, bind_ok] at hR; have HR2 := Lib.hid hR; obtain ⟨A_y, n_y, c_y, rfl, hM⟩ := hV.cells; subst he; have HM_y := Lib.hid (k54.M_lower (base' := w13.heap.size) (Nat.le_refl _) hM); have HS2 := Lib.hid hS; have HX3 := Lib.hid (St.init (l := [(w7.heap.size, Obj.cells #[.int .i64 t8.kind, .int .i64 t8.at_, .string ⟨t8.text.toArray⟩, .int .u64 t8.n] 35), (w3.heap.size, Obj.cells #[.int .i64 t4.kind, .int .i64 t4.at_, .string ⟨t4.text.toArray⟩, .int .u64 t4.n] 35), (w1.heap.size, Obj.cells #[.int .i64 t2.kind, .int .i64 t2.at_, .string ⟨t2.text.toArray⟩, .int .u64 t2.n] 35)]) hS); have hS1 : w15.cell? ⟨w3.heap.size, 1, none⟩ = some (.int .i64 t4.at_) := (blk4 HS2.out.l1).2.1; have hS2 : ∀ o, (w15.alloc o).cell? ⟨w3.heap.size, 1, none⟩ = some (.int .i64 t4.at_) := fun o => (blk4 (HS2.out.alloc (o := o)).l1).2.1; have hS3 : ∀ o v0 v1 v2 v3 v4 v5, (((((((w15.setCell ⟨w.heap.size, 0, none⟩ v0).setCell ⟨w.heap.size, 1, none⟩ v1).setCell ⟨w.heap.size, 2, none⟩ v2).setCell ⟨w.heap.size, 3, none⟩ v3).setCell ⟨w.heap.size, 4, none⟩ v4).setCell ⟨w.heap.size, 5, none⟩ v5).alloc o).cell? ⟨w3.heap.size, 1, none⟩ = some (.int .i64 t4.at_) := fun o v0 v1 v2 v3 v4 v5 => (blk4 (St.alloc (o := o) (St.store6 (v0 := v0) (v1 := v1) (v2 := v2) (v3 := v3) (v4 := v4) (v5 := v5) (Nat.le_refl _) (NB.cons ne_0 (NB.cons ne_1 (NB.cons ne_2 NB.nil))) HX3.out)).l1).2.1; obtain ⟨r0, r1, r2, r3, r4, r5, rf⟩ := blk6 HS2.out.l3; have r_l := blk_lt HS2.out.l3; have l_1 := blk_lt HS2.out.l1; have HW2 := Lib.hid hO; clear hO hS hM hV hr hR hm)))
     go_wp2_with (fail)
     (try simp only [Exit.inBlock, Exit.then])
     have hpl := H.out.plt
     have hbase := HS2.out.sub (l' := []) (fun x hx => by simp at hx)
     refine bodyPost_ret (results_cell_row rfl _ _ w.heap.size 54 _ (0, 0) _ rfl (blk_alloc' (blk_set6 HS2.out.l3 _ _ _ _ _ _)) Tryz.underlying54 rfl (by kernel_rfl)) rfl ?_
     rw [← HQ.out]
     refine RdIs.ok HR2.out (St.only (b := b) (toks := toks) (s := s14) (l := []) ?_) (St.pat (w := w) (l := []) ?_) ⟨_, rfl, ?_⟩
     ·repeat (first | with_reducible exact hbase | with_reducible apply St.alloc | with_reducible apply St.drewN | with_reducible apply St.drew | (with_reducible refine St.store ?_ ?_ ?_; omega; (intro x hx; simp at hx)))
     ·repeat (first | with_reducible exact hbase | with_reducible apply St.alloc | with_reducible apply St.drewN | with_reducible apply St.drew | (with_reducible refine St.store ?_ ?_ ?_; omega; (intro x hx; simp at hx)))
     ·rw [← Ht4.out.2]
      have hM_y : k54.M _ w.heap.size (fun _ => True) (real toks y) _ := ExM.kp (W' := w15.setCell ⟨w.heap.size, 0, none⟩ (.int .i64 4) |>.setCell ⟨w.heap.size, 1, none⟩ (.int .i64 (atOf toks s.length)) |>.setCell ⟨w.heap.size, 2, none⟩ (.int .i64 0) |>.setCell ⟨w.heap.size, 3, none⟩ (.string ⟨#[]⟩) |>.setCell ⟨w.heap.size, 4, none⟩ (.bool false) |>.setCell ⟨w.heap.size, 5, none⟩ (.slice (some ⟨w15.heap.size, 0, none⟩) 1 1)) HM_y.out (by omega) (by repeat (first | with_reducible exact Kp.refl | with_reducible apply Kp.alloc | with_reducible apply Kp.drew | (with_reducible refine Kp.store ?_ ?_; omega) | (with_reducible refine Kp.only ?_ HW2.out ?_; omega) | (with_reducible refine Kp.only ?_ HWw13.out ?_; omega) | (with_reducible refine Kp.only ?_ HWw9.out ?_; omega) | (with_reducible refine Kp.only ?_ HWw7.out ?_; omega) | (with_reducible refine Kp.only ?_ HWw3.out ?_; omega) | (with_reducible refine Kp.only ?_ HWw1.out ?_; omega)))
      exact build1 (by rw [size_set6]; omega) hM_y (size_set6 _ _ _ _ _ _ _ _) 4 _ 0 [] false
 | true =>
  simp only [if_true] at hR hS
  have HR := Lib.hid hR
  have HS := Lib.hid hS
  clear hR hS
  have lz_w1 : w.heap.size < w1.heap.size := blk_lt HS.out.l0
  go_wp2_with (fail)
  obtain ⟨w13, hW⟩ : ∃ W, W = w1.alloc (Obj.cells #[.int .i64 t2.kind, .int .i64 t2.at_, .string ⟨t2.text.toArray⟩, .int .u64 t2.n] 35) := ⟨_, rfl⟩
  rw [← hW]
  have HSX := Lib.hid (HS.out.new (o := Obj.cells #[.int .i64 t2.kind, .int .i64 t2.at_, .string ⟨t2.text.toArray⟩, .int .u64 t2.n] 35))
  rw [← hW] at HSX
  have HS := HSX
  clear HSX
  have HWw13 := Lib.hid ((Only.refl p w1).alloc (Obj.cells #[.int .i64 t2.kind, .int .i64 t2.at_, .string ⟨t2.text.toArray⟩, .int .u64 t2.n] 35))
  rw [← hW] at HWw13
  clear hW
  have lz_w13 : w.heap.size < w13.heap.size := blk_lt HS.out.l1
  have q0 := HS.out.l0
  obtain ⟨q0_0, q0_1, q0_2, q0_3, q0_f⟩ := blk4 q0
  have q0_l := blk_lt q0
  clear q0
  have q1 := HS.out.l1
  obtain ⟨q1_0, q1_1, q1_2, q1_3, q1_4, q1_5, q1_f⟩ := blk6 q1
  have q1_l := blk_lt q1
  clear q1
  have hS0 : (w13.drew).cell? ⟨w1.heap.size, 1, none⟩ = some (.int .i64 t2.at_) := (blk4 HS.out.drew.l0).2.1
  have HIN := Lib.hid (Res_in HR.out HO.out)
  have ne_0 : w1.heap.size ≠ w.heap.size := by omega
  go_region_held2 (fun w' => w'.cell? ⟨w1.heap.size, 1, none⟩ = some (.int .i64 t2.at_)) (first | with_reducible exact hS1 | with_reducible exact hS2 _ | with_reducible exact hS3 _ _ _ _ _ _ _ | with_reducible exact hS0) (first | (go_at_call 205; go_must (refine (ReadsEx.call IH.out.unary HS.out.drew HIN.out).mono ?_; rintro e w15 ⟨hO, hm⟩; refine Told.part hm ?_ ?_; (focus intro q er hr he hO2; subst he; have hF := HR.out; rw [hr] at hF; unfold Pan; (try simp only [Exit.inBlock, Exit.then]); rw [← HQ.out]; exact ⟨rfl, RdIs.bad hF hO2⟩); intro y s14 hr hS v he hV; have hR := HR.out; rw [hr, bind_ok] at hR; have HR2 := Lib.hid hR; obtain ⟨A_y, n_y, c_y, rfl, hM⟩ := hV.cells; subst he; have HM_y := Lib.hid (k54.M_lower (base' := w13.heap.size) (Nat.le_refl _) hM); have HS2 := Lib.hid hS; have HX3 := Lib.hid (St.init (l := [(w1.heap.size, Obj.cells #[.int .i64 t2.kind, .int .i64 t2.at_, .string ⟨t2.text.toArray⟩, .int .u64 t2.n] 35)]) hS); have hS1 : w15.cell? ⟨w1.heap.size, 1, none⟩ = some (.int .i64 t2.at_) := (blk4 HS2.out.l0).2.1; have hS2 : ∀ o, (w15.alloc o).cell? ⟨w1.heap.size, 1, none⟩ = some (.int .i64 t2.at_) := fun o => (blk4 (HS2.out.alloc (o := o)).l0).2.1; have hS3 : ∀ o v0 v1 v2 v3 v4 v5, (((((((w15.setCell ⟨w.heap.size, 0, none⟩ v0).setCell ⟨w.heap.size, 1, none⟩ v1).setCell ⟨w.heap.size, 2, none⟩ v2).setCell ⟨w.heap.size, 3, none⟩ v3).setCell ⟨w.heap.size, 4, none⟩ v4).setCell ⟨w.heap.size, 5, none⟩ v5).alloc o).cell? ⟨w1.heap.size, 1, none⟩ = some (.int .i64 t2.at_) := fun o v0 v1 v2 v3 v4 v5 => (blk4 (St.alloc (o := o) (St.store6 (v0 := v0) (v1 := v1) (v2 := v2) (v3 := v3) (v4 := v4) (v5 := v5) (Nat.le_refl _) (NB.cons ne_0 NB.nil) HX3.out)).l0).2.1; obtain ⟨r0, r1, r2, r3, r4, r5, rf⟩ := blk6 HS2.out.l1; have r_l := blk_lt HS2.out.l1; have l_0 := blk_lt HS2.out.l0; have HW2 := Lib.hid hO; clear hO hS hM hV hr hR hm)))
  go_wp2_with (fail)
  (try simp only [Exit.inBlock, Exit.then])
  have hpl := H.out.plt
  have hbase := HS2.out.sub (l' := []) (fun x hx => by simp at hx)
  refine bodyPost_ret (results_cell_row rfl _ _ w.heap.size 54 _ (0, 0) _ rfl (blk_alloc' (blk_set6 HS2.out.l1 _ _ _ _ _ _)) Tryz.underlying54 rfl (by kernel_rfl)) rfl ?_
  rw [← HQ.out]
  refine RdIs.ok HR2.out (St.only (b := b) (toks := toks) (s := s14) (l := []) ?_) (St.pat (w := w) (l := []) ?_) ⟨_, rfl, ?_⟩
  ·repeat (first | with_reducible exact hbase | with_reducible apply St.alloc | with_reducible apply St.drewN | with_reducible apply St.drew | (with_reducible refine St.store ?_ ?_ ?_; omega; (intro x hx; simp at hx)))
  ·repeat (first | with_reducible exact hbase | with_reducible apply St.alloc | with_reducible apply St.drewN | with_reducible apply St.drew | (with_reducible refine St.store ?_ ?_ ?_; omega; (intro x hx; simp at hx)))
  ·rw [← Ht2.out.2]
   have hM_y : k54.M _ w.heap.size (fun _ => True) (real toks y) _ := ExM.kp (W' := w15.setCell ⟨w.heap.size, 0, none⟩ (.int .i64 10) |>.setCell ⟨w.heap.size, 1, none⟩ (.int .i64 (atOf toks s.length)) |>.setCell ⟨w.heap.size, 2, none⟩ (.int .i64 0) |>.setCell ⟨w.heap.size, 3, none⟩ (.string ⟨#[]⟩) |>.setCell ⟨w.heap.size, 4, none⟩ (.bool false) |>.setCell ⟨w.heap.size, 5, none⟩ (.slice (some ⟨w15.heap.size, 0, none⟩) 1 1)) HM_y.out (by omega) (by repeat (first | with_reducible exact Kp.refl | with_reducible apply Kp.alloc | with_reducible apply Kp.drew | (with_reducible refine Kp.store ?_ ?_; omega) | (with_reducible refine Kp.only ?_ HW2.out ?_; omega) | (with_reducible refine Kp.only ?_ HWw13.out ?_; omega) | (with_reducible refine Kp.only ?_ HWw1.out ?_; omega)))
   exact build1 (by rw [size_set6]; omega) hM_y (size_set6 _ _ _ _ _ _ _ _) 10 _ 0 [] false
end Go.Proofs.YtjafllnbgfcchaaGreatDoor.Px
