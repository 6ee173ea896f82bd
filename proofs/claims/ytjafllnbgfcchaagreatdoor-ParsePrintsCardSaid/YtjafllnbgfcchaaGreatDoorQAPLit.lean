/- The reader of literals, walked. -/
import Derived.Test.YtjafllnbgfcchaaGreatDoorQAGPEx
import Derived.Deep.DeepMust
namespace Go.Proofs.YtjafllnbgfcchaaGreatDoor.Px
set_option linter.unusedVariables false
set_option linter.unusedSimpArgs false
open Go Go.RowKit Go.Proofs.YtjafllnbgfcchaaGreatDoorW.PrintWords Go.Proofs.YtjafllnbgfcchaaGreatDoorW.PrintLast Go.Proofs.YtjafllnbgfcchaaGreatDoorW.PrintMore Go.Proofs.YtjafllnbgfcchaaGreatDoor.Lx Go.Proofs.YtjafllnbgfcchaaGreatDoor.XK
attribute [local go_sem ↓] Go.wp_at_zero Go.wp_at_succ

set_option maxHeartbeats 4000000 in
set_option maxRecDepth 100000 in
theorem literal_walk {p b : Nat} {toks : List LX.Tok} : ReadsEx p b toks 211 PX.literal := by
 intro s w h hout
 obtain ⟨R, hR⟩ : ∃ R, PX.literal s = R := ⟨_, rfl⟩
 rw [hR] at hout ⊢
 rw [PX.literal] at hR
 have H := Lib.hid h
 have HR := Lib.hid hR
 have HO := Lib.hid hout
 clear h hR hout
 obtain ⟨Q, hQ⟩ : ∃ Q, RdIs p b toks w R (ExV toks w.heap.size) = Q := ⟨_, rfl⟩
 rw [show (fun e w' => RdIs p b toks w R (ExV toks w.heap.size) e w') = Q from hQ]
 have HQ := Lib.hid hQ
 clear hQ
 go_enter Tryz.func211, Tryz.ntmps211
 go_wp2_with (fail)
 have HS := Lib.hid (St.start (w := w) H.out)
 refine (St.takes [[116, 114, 117, 101], [102, 97, 108, 115, 101]] HS.out.new (by simp) (by decide)).mono ?_
 rintro e w1 ⟨hg, hO, hS, t2, hp, hat, rfl⟩
 have HWw1 := Lib.hid hO
 have Ht2 := Lib.hid (And.intro hp hat)
 clear hO hp hat hg
 obtain ⟨B, hB⟩ : ∃ B, PX.is [[116, 114, 117, 101], [102, 97, 108, 115, 101]] s = B := ⟨_, rfl⟩
 rw [hB] at hS ⊢
 have hR := HR.out
 rw [hB] at hR
 have HBw1 := Lib.hid hB
 clear HR hB
 unfold tokA tokV
 cases B with
 | false =>
  simp only [Bool.false_eq_true, if_false] at hR hS
  have HR := Lib.hid hR
  have HS := Lib.hid hS
  clear hR hS
  have lz_w1 : w.heap.size < w1.heap.size := blk_lt HS.out.l0
  go_wp2_with (fail)
  refine (St.takes [[45]] HS.out.new (by simp) (by decide)).mono ?_
  rintro e w3 ⟨hg, hO, hS, t4, hp, hat, rfl⟩
  have HWw3 := Lib.hid hO
  have Ht4 := Lib.hid (And.intro hp hat)
  clear hO hp hat hg
  obtain ⟨B, hB⟩ : ∃ B, PX.is [[45]] s = B := ⟨_, rfl⟩
  rw [hB] at hS ⊢
  have hR := HR.out
  rw [hB] at hR
  have HBw3 := Lib.hid hB
  clear HR hB
  unfold tokA tokV
  cases B with
  | false =>
   simp only [Bool.false_eq_true, if_false] at hR hS
   have HR := Lib.hid hR
   have HS := Lib.hid hS
   clear hR hS
   have lz_w3 : w.heap.size < w3.heap.size := blk_lt HS.out.l1
   go_wp2_with (fail)
   refine (St.peeks HS.out.new).mono ?_
   rintro e w5 ⟨hO, hS, t6, hp, hat, rfl⟩
   have HWw5 := Lib.hid hO
   have Ht6 := Lib.hid (And.intro hp hat)
   clear hO hp hat
   unfold tokA tokV
   have HS := Lib.hid hS
   clear hS
   have lz_w5 : w.heap.size < w5.heap.size := blk_lt HS.out.l2
   rcases Nat.decEq t6.kind 2 with hk | hk
   ·
    have hc : ((PX.peek s).kind == 2) = false := by rw [Ht6.out.1]; simpa [tk] using hk
    have hR := HR.out
    simp only [hc, Bool.false_eq_true, if_false] at hR
    have HR := Lib.hid hR
    have HKt6 := Lib.hid hk
    have hk1 : ((t6.kind : Int) == 2) = false := by simp; omega
    have hk2 : ((t6.kind : Int) != 2) = true := by simp; omega
    have hk3 : ¬ ((t6.kind : Int) = 2) := by omega
    clear hk hc hR
    go_wp2_with (fail)
    refine (St.fails (α := PX.Ex) HS.out.new).mono ?_
    rintro e w7 ⟨q, er, hq, rfl, hO2⟩
    have hF := HR.out
    rw [hq] at hF
    unfold Pan
    (try simp only [Exit.inBlock, Exit.then])
    rw [← HQ.out]
    exact ⟨rfl, RdIs.bad hF hO2⟩
   ·
    have hc : ((PX.peek s).kind == 2) = true := by rw [Ht6.out.1]; simpa [tk] using hk
    have hR := HR.out
    simp only [hc, if_true] at hR
    have HR := Lib.hid hR
    have HKt6 := Lib.hid hk
    have hk1 : ((t6.kind : Int) == 2) = true := by simp; omega
    have hk2 : ((t6.kind : Int) != 2) = false := by simp; omega
    have hk3 : ((t6.kind : Int) = 2) := by omega
    clear hk hc hR
    obtain ⟨tX, cX, kX, hbX, _, _, hlX, _, _, _, _⟩ := HS.out.pat.head
    have HBX := Lib.hid hbX
    obtain ⟨p0, p1, pf⟩ := blk2p hbX
    have p_l := HS.out.pat.plt
    have hsm := HS.out.pat.few
    have hk9 : (kX : Int) + 1 ≤ 9223372036854775807 := by omega
    have hne5 : (PX.peek s).kind ≠ 5 := by rw [Ht6.out.1]; simp [tk, HKt6.out]
    have HNE := Lib.hid hne5
    have hpl := H.out.plt
    clear hbX hsm hlX hne5
    have np_0 : ¬ (w3.heap.size = p) := by omega
    have np_1 : ¬ (w1.heap.size = p) := by omega
    have np_2 : ¬ (w.heap.size = p) := by omega
    have q0 := HS.out.l0
    obtain ⟨q0_0, q0_1, q0_2, q0_3, q0_f⟩ := blk4 q0
    have q0_l := blk_lt q0
    clear q0
    have q2 := HS.out.l2
    obtain ⟨q2_0, q2_1, q2_2, q2_3, q2_4, q2_5, q2_f⟩ := blk6 q2
    have q2_l := blk_lt q2
    clear q2
    go_wp2_with (fail)
    have hS1 := (HS.out.drop.drop).adv HBX.out HNE.out
    have hn := HS.out.pat.num Ht6.out.1
    have nr_0 : w.heap.size ≠ w3.heap.size := by omega
    have nq_0 : w.heap.size ≤ w3.heap.size := by omega
    have nr_1 : w.heap.size ≠ w1.heap.size := by omega
    have nq_1 : w.heap.size ≤ w1.heap.size := by omega
    refine (St.numbers (p := p) (b := b) (toks := toks) (w := w) (s := s) (l := [(w.heap.size, Obj.cells #[.int .i64 0, .int .i64 0, .int .i64 0, .string ⟨#[]⟩, .bool false, .slice none 0 0] 54)]) ?_ Ht6.out.1 Ht6.out.2 hn s.length Ht6.out.2 false).mono ?_
    ·repeat (first | with_reducible exact hS1 | with_reducible apply St.alloc | (with_reducible refine St.store ?_ (NB.cons ?_ NB.nil) ?_; omega; omega))
    rintro e w8 ⟨hO, hm⟩
    have HWw8 := Lib.hid hO
    clear hO
    cases hr : PX.number s s.length false with
    | out => rw [hr] at hm; exact hm.elim
    | bad q er =>
     rw [hr] at hm
     obtain ⟨rfl, hO2⟩ := hm
     have hF := HR.out
     rw [hr] at hF
     unfold Pan
     (try simp only [Exit.inBlock, Exit.then])
     rw [← HQ.out]
     exact ⟨rfl, RdIs.bad hF hO2⟩
    | ok x s9 =>
     rw [hr] at hm
     obtain ⟨hS, v, rfl, hV⟩ := hm
     have hR := HR.out
     rw [hr] at hR
     clear HR hr
     have HR := Lib.hid hR
     have HS := Lib.hid hS
     clear hR hS
     clear hS1
     have lz_w8 : w.heap.size < w8.heap.size := blk_lt HS.out.l0
     obtain ⟨A_x, n_x, c_x, rfl, hM⟩ := hV.cells
     have HM_x := Lib.hid (k54.M_lower (base' := w.heap.size + 1) (by simp [World.setCell]; omega) hM)
     clear hV hM
     have q0 := HS.out.l0
     obtain ⟨q0_0, q0_1, q0_2, q0_3, q0_4, q0_5, q0_f⟩ := blk6 q0
     have q0_l := blk_lt q0
     clear q0
     go_wp2_with (fail)
     have hpl := H.out.plt
     (try simp only [Exit.inBlock, Exit.then])
     refine bodyPost_ret (results_cell_row rfl _ _ w.heap.size 54 _ (0, 0) _ rfl (blk_set6 HS.out.l0 _ _ _ _ _ _) Tryz.underlying54 rfl (by kernel_rfl)) rfl ?_
     rw [← HQ.out]
     refine RdIs.ok HR.out (St.only (b := b) (toks := toks) (s := s9) (l := []) ?_) (St.pat (w := w) (l := []) ?_) ⟨_, rfl, ExM.kp HM_x.out (by omega) ?_⟩
     ·repeat (first | with_reducible exact HS.out.drop | with_reducible apply St.alloc | with_reducible apply St.drewN | with_reducible apply St.drew | (with_reducible refine St.store ?_ ?_ ?_; omega; (intro x hx; simp at hx)))
     ·repeat (first | with_reducible exact HS.out.drop | with_reducible apply St.alloc | with_reducible apply St.drewN | with_reducible apply St.drew | (with_reducible refine St.store ?_ ?_ ?_; omega; (intro x hx; simp at hx)))
     ·repeat (first | with_reducible exact Kp.refl | with_reducible apply Kp.alloc | with_reducible apply Kp.drew | (with_reducible refine Kp.store ?_ ?_; omega) | (with_reducible refine Kp.only ?_ HWw8.out ?_; omega) | (with_reducible refine Kp.only ?_ HWw5.out ?_; omega) | (with_reducible refine Kp.only ?_ HWw3.out ?_; omega) | (with_reducible refine Kp.only ?_ HWw1.out ?_; omega))
  | true =>
   simp only [if_true] at hR hS
   have HR := Lib.hid hR
   have HS := Lib.hid hS
   clear hR hS
   have lz_w3 : w.heap.size < w3.heap.size := blk_lt HS.out.l1
   go_wp2_with (fail)
   refine (St.peeks HS.out.new).mono ?_
   rintro e w10 ⟨hO, hS, t11, hp, hat, rfl⟩
   have HWw10 := Lib.hid hO
   have Ht11 := Lib.hid (And.intro hp hat)
   clear hO hp hat
   unfold tokA tokV
   have HS := Lib.hid hS
   clear hS
   have lz_w10 : w.heap.size < w10.heap.size := blk_lt HS.out.l2
   rcases Nat.decEq t11.kind 2 with hk | hk
   ·
    have hc : ((PX.peek s.tail).kind == 2) = false := by rw [Ht11.out.1]; simpa [tk] using hk
    have hR := HR.out
    simp only [hc, Bool.false_eq_true, if_false] at hR
    have HR := Lib.hid hR
    have HKt11 := Lib.hid hk
    have hk1 : ((t11.kind : Int) == 2) = false := by simp; omega
    have hk2 : ((t11.kind : Int) != 2) = true := by simp; omega
    have hk3 : ¬ ((t11.kind : Int) = 2) := by omega
    clear hk hc hR
    go_wp2_with (fail)
    refine (St.fails (α := PX.Ex) HS.out.new).mono ?_
    rintro e w12 ⟨q, er, hq, rfl, hO2⟩
    have hF := HR.out
    rw [hq] at hF
    unfold Pan
    (try simp only [Exit.inBlock, Exit.then])
    rw [← HQ.out]
    exact ⟨rfl, RdIs.bad hF hO2⟩
   ·
    have hc : ((PX.peek s.tail).kind == 2) = true := by rw [Ht11.out.1]; simpa [tk] using hk
    have hR := HR.out
    simp only [hc, if_true] at hR
    have HR := Lib.hid hR
    have HKt11 := Lib.hid hk
    have hk1 : ((t11.kind : Int) == 2) = true := by simp; omega
    have hk2 : ((t11.kind : Int) != 2) = false := by simp; omega
    have hk3 : ((t11.kind : Int) = 2) := by omega
    clear hk hc hR
    obtain ⟨tX, cX, kX, hbX, _, _, hlX, _, _, _, _⟩ := HS.out.pat.head
    have HBX := Lib.hid hbX
    obtain ⟨p0, p1, pf⟩ := blk2p hbX
    have p_l := HS.out.pat.plt
    have hsm := HS.out.pat.few
    have hk9 : (kX : Int) + 1 ≤ 9223372036854775807 := by omega
    have hne5 : (PX.peek s.tail).kind ≠ 5 := by rw [Ht11.out.1]; simp [tk, HKt11.out]
    have HNE := Lib.hid hne5
    have hpl := H.out.plt
    clear hbX hsm hlX hne5
    have np_0 : ¬ (w3.heap.size = p) := by omega
    have np_1 : ¬ (w1.heap.size = p) := by omega
    have np_2 : ¬ (w.heap.size = p) := by omega
    have q0 := HS.out.l0
    obtain ⟨q0_0, q0_1, q0_2, q0_3, q0_f⟩ := blk4 q0
    have q0_l := blk_lt q0
    clear q0
    have q2 := HS.out.l2
    obtain ⟨q2_0, q2_1, q2_2, q2_3, q2_4, q2_5, q2_f⟩ := blk6 q2
    have q2_l := blk_lt q2
    clear q2
    go_wp2_with (fail)
    have hS1 := (HS.out.drop.drop).adv HBX.out HNE.out
    have hn := HS.out.pat.num Ht11.out.1
    have nr_0 : w.heap.size ≠ w3.heap.size := by omega
    have nq_0 : w.heap.size ≤ w3.heap.size := by omega
    have nr_1 : w.heap.size ≠ w1.heap.size := by omega
    have nq_1 : w.heap.size ≤ w1.heap.size := by omega
    refine (St.numbers (p := p) (b := b) (toks := toks) (w := w) (s := s.tail) (l := [(w.heap.size, Obj.cells #[.int .i64 0, .int .i64 0, .int .i64 0, .string ⟨#[]⟩, .bool false, .slice none 0 0] 54)]) ?_ Ht11.out.1 Ht11.out.2 hn s.length Ht4.out.2 true).mono ?_
    ·repeat (first | with_reducible exact hS1 | with_reducible apply St.alloc | (with_reducible refine St.store ?_ (NB.cons ?_ NB.nil) ?_; omega; omega))
    rintro e w13 ⟨hO, hm⟩
    have HWw13 := Lib.hid hO
    clear hO
    cases hr : PX.number s.tail s.length true with
    | out => rw [hr] at hm; exact hm.elim
    | bad q er =>
     rw [hr] at hm
     obtain ⟨rfl, hO2⟩ := hm
     have hF := HR.out
     rw [hr] at hF
     unfold Pan
     (try simp only [Exit.inBlock, Exit.then])
     rw [← HQ.out]
     exact ⟨rfl, RdIs.bad hF hO2⟩
    | ok x s14 =>
     rw [hr] at hm
     obtain ⟨hS, v, rfl, hV⟩ := hm
     have hR := HR.out
     rw [hr] at hR
     clear HR hr
     have HR := Lib.hid hR
     have HS := Lib.hid hS
     clear hR hS
     clear hS1
     have lz_w13 : w.heap.size < w13.heap.size := blk_lt HS.out.l0
     obtain ⟨A_x, n_x, c_x, rfl, hM⟩ := hV.cells
     have HM_x := Lib.hid (k54.M_lower (base' := w.heap.size + 1) (by simp [World.setCell]; omega) hM)
     clear hV hM
     have q0 := HS.out.l0
     obtain ⟨q0_0, q0_1, q0_2, q0_3, q0_4, q0_5, q0_f⟩ := blk6 q0
     have q0_l := blk_lt q0
     clear q0
     go_wp2_with (fail)
     have hpl := H.out.plt
     (try simp only [Exit.inBlock, Exit.then])
     refine bodyPost_ret (results_cell_row rfl _ _ w.heap.size 54 _ (0, 0) _ rfl (blk_set6 HS.out.l0 _ _ _ _ _ _) Tryz.underlying54 rfl (by kernel_rfl)) rfl ?_
     rw [← HQ.out]
     refine RdIs.ok HR.out (St.only (b := b) (toks := toks) (s := s14) (l := []) ?_) (St.pat (w := w) (l := []) ?_) ⟨_, rfl, ExM.kp HM_x.out (by omega) ?_⟩
     ·repeat (first | with_reducible exact HS.out.drop | with_reducible apply St.alloc | with_reducible apply St.drewN | with_reducible apply St.drew | (with_reducible refine St.store ?_ ?_ ?_; omega; (intro x hx; simp at hx)))
     ·repeat (first | with_reducible exact HS.out.drop | with_reducible apply St.alloc | with_reducible apply St.drewN | with_reducible apply St.drew | (with_reducible refine St.store ?_ ?_ ?_; omega; (intro x hx; simp at hx)))
     ·repeat (first | with_reducible exact Kp.refl | with_reducible apply Kp.alloc | with_reducible apply Kp.drew | (with_reducible refine Kp.store ?_ ?_; omega) | (with_reducible refine Kp.only ?_ HWw13.out ?_; omega) | (with_reducible refine Kp.only ?_ HWw10.out ?_; omega) | (with_reducible refine Kp.only ?_ HWw3.out ?_; omega) | (with_reducible refine Kp.only ?_ HWw1.out ?_; omega))
 | true =>
  simp only [if_true] at hR hS
  have HR := Lib.hid hR
  have HS := Lib.hid hS
  clear hR hS
  have lz_w1 : w.heap.size < w1.heap.size := blk_lt HS.out.l0
  go_wp2_with (fail)
  have hz := HS.out.sz
  refine (St.truths HS.out.new Ht2.out.1 Ht2.out.2).mono ?_
  rintro e w15 ⟨hO, hm⟩
  have HWw15 := Lib.hid hO
  clear hO
  cases hr : PX.Res.ok (PX.truth s) s.tail with
  | out => rw [hr] at hm; exact hm.elim
  | bad q er =>
   rw [hr] at hm
   obtain ⟨rfl, hO2⟩ := hm
   have hF := HR.out
   rw [hr] at hF
   unfold Pan
   (try simp only [Exit.inBlock, Exit.then])
   rw [← HQ.out]
   exact ⟨rfl, RdIs.bad hF hO2⟩
  | ok x s16 =>
   rw [hr] at hm
   obtain ⟨hS, v, rfl, hV⟩ := hm
   have hR := HR.out
   rw [hr] at hR
   clear HR hr
   have HR := Lib.hid hR
   have HS := Lib.hid hS
   clear hR hS
   have lz_w15 : w.heap.size < w15.heap.size := blk_lt HS.out.l1
   obtain ⟨A_x, n_x, c_x, rfl, hM⟩ := hV.cells
   have HM_x := Lib.hid (k54.M_lower (base' := w.heap.size + 1) (by simp [World.setCell]; omega) hM)
   clear hV hM
   have q1 := HS.out.l1
   obtain ⟨q1_0, q1_1, q1_2, q1_3, q1_4, q1_5, q1_f⟩ := blk6 q1
   have q1_l := blk_lt q1
   clear q1
   go_wp2_with (fail)
   have hpl := H.out.plt
   (try simp only [Exit.inBlock, Exit.then])
   refine bodyPost_ret (results_cell_row rfl _ _ w.heap.size 54 _ (0, 0) _ rfl (blk_set6 HS.out.l1 _ _ _ _ _ _) Tryz.underlying54 rfl (by kernel_rfl)) rfl ?_
   rw [← HQ.out]
   refine RdIs.ok HR.out (St.only (b := b) (toks := toks) (s := s16) (l := []) ?_) (St.pat (w := w) (l := []) ?_) ⟨_, rfl, ExM.kp HM_x.out (by omega) ?_⟩
   ·repeat (first | with_reducible exact HS.out.drop.drop | with_reducible apply St.alloc | with_reducible apply St.drewN | with_reducible apply St.drew | (with_reducible refine St.store ?_ ?_ ?_; omega; (intro x hx; simp at hx)))
   ·repeat (first | with_reducible exact HS.out.drop.drop | with_reducible apply St.alloc | with_reducible apply St.drewN | with_reducible apply St.drew | (with_reducible refine St.store ?_ ?_ ?_; omega; (intro x hx; simp at hx)))
   ·repeat (first | with_reducible exact Kp.refl | with_reducible apply Kp.alloc | with_reducible apply Kp.drew | (with_reducible refine Kp.store ?_ ?_; omega) | (with_reducible refine Kp.only ?_ HWw15.out ?_; omega) | (with_reducible refine Kp.only ?_ HWw1.out ?_; omega))
end Go.Proofs.YtjafllnbgfcchaaGreatDoor.Px
