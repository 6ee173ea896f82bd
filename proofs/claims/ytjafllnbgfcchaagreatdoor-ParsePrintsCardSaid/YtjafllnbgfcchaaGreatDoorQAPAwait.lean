/- A future awaited, walked. -/
import Derived.Test.YtjafllnbgfcchaaGreatDoorQAPCall
import Derived.Test.YtjafllnbgfcchaaGreatDoorQAPLit
import Derived.Test.YtjafllnbgfcchaaGreatDoorQAGPEx
import Derived.Deep.DeepMust
namespace Go.Proofs.YtjafllnbgfcchaaGreatDoor.Px
set_option linter.unusedVariables false
set_option linter.unusedSimpArgs false
open Go Go.RowKit Go.Proofs.YtjafllnbgfcchaaGreatDoorW.PrintWords Go.Proofs.YtjafllnbgfcchaaGreatDoorW.PrintLast Go.Proofs.YtjafllnbgfcchaaGreatDoorW.PrintMore Go.Proofs.YtjafllnbgfcchaaGreatDoor.Lx Go.Proofs.YtjafllnbgfcchaaGreatDoor.XK
attribute [local go_sem ↓] Go.wp_at_zero Go.wp_at_succ
def awaitP (k a : Nat) (s : List PX.T) : PX.Res PX.Ex :=
 (PX.name s).bind fun m s1 =>
  if PX.is [[97, 102, 116, 101, 114]] s1 then (PX.want [40] s1.tail).bind fun _ s2 => (PX.lits k s2).bind fun l s3 => .ok (.mk 14 a 0 m false l) s3
  else .ok (.mk 14 a 0 m false []) s1

set_option maxHeartbeats 4000000 in
set_option maxRecDepth 100000 in
theorem await_walk {p b k : Nat} {toks : List LX.Tok} (hk2 : k ≤ 1000000) (a : Nat) (s : List PX.T) (w : World) (h : PAt w p b toks s) (hout : (awaitP k a s).isOut = false) :
  Calls Tryz.prog 209 #[.pointer (some ⟨p, 0, none⟩), .int .i64 (atOf toks a)] w fun e w' => RdIs p b toks w (awaitP k a s) (ExV toks w.heap.size) e w' := by
 obtain ⟨R, hR⟩ : ∃ R, awaitP k a s = R := ⟨_, rfl⟩
 rw [hR] at hout ⊢
 rw [awaitP] at hR
 have H := Lib.hid h
 have HR := Lib.hid hR
 have HO := Lib.hid hout
 have hf : ∀ args w, (callFunc 211 args).run Tryz.prog w = .ok (.enter 211 args) w := enters_of Tryz.func211 (by kernel_rfl) rfl
 have HF := Lib.hid hf
 clear h hR hout hf
 obtain ⟨Q, hQ⟩ : ∃ Q, RdIs p b toks w R (ExV toks w.heap.size) = Q := ⟨_, rfl⟩
 rw [show (fun e w' => RdIs p b toks w R (ExV toks w.heap.size) e w') = Q from hQ]
 have HQ := Lib.hid hQ
 clear hQ
 have hmf : ∀ (fn : Fn) (first cap : Array Value) (w : World), (Instr.makeFunc fn first cap).run Tryz.prog w = .ok (.func fn first cap) w := fun _ _ _ _ => rfl
 have hfd := fld2
 go_enter Tryz.func209, Tryz.ntmps209
 go_wp2_with (fail)
 have HS := Lib.hid (St.start (w := w) H.out)
 refine (St.names HS.out.new).mono ?_
 rintro e w1 ⟨hO, hm⟩
 have HWw1 := Lib.hid hO
 clear hO
 cases hr : PX.name s with
 | out => rw [hr] at hm; exact hm.elim
 | bad q er =>
  rw [hr] at hm
  obtain ⟨rfl, hO2⟩ := hm
  have hF := HR.out
  rw [hr] at hF
  unfold Pan
  (try simp only [Exit.inBlock, Exit.then])
  rw [← HQ.out]
  exact ⟨rfl, RdIs.bad hF hO2⟩
 | ok m s2 =>
  rw [hr] at hm
  obtain ⟨hS, v, rfl, hV⟩ := hm
  have hR := HR.out
  rw [hr] at hR
  rw [bind_ok] at hR
  clear HR hr
  have HR := Lib.hid hR
  have HS := Lib.hid hS
  clear hR hS
  have lz_w1 : w.heap.size < w1.heap.size := blk_lt HS.out.l0
  obtain ⟨k_m, n_m, rfl⟩ := hV
  go_wp2_with (fail)
  refine (St.takes [[97, 102, 116, 101, 114]] HS.out.new (by simp) (by decide)).mono ?_
  rintro e w3 ⟨hg, hO, hS, t4, hp, hat, rfl⟩
  have HWw3 := Lib.hid hO
  have Ht4 := Lib.hid (And.intro hp hat)
  clear hO hp hat hg
  obtain ⟨B, hB⟩ : ∃ B, PX.is [[97, 102, 116, 101, 114]] s2 = B := ⟨_, rfl⟩
  rw [hB] at hS ⊢
  have hR := HR.out
  rw [hB] at hR
  have HBw3 := Lib.hid hB
  clear HR hB
  unfold tokA tokV
  cases B with
  | false =>
   simp only [Bool.false_eq_true, if_false] at hR hS
   have HR := Lib.hid hR
   have HS := Lib.hid hS
   clear hR hS
   have lz_w3 : w.heap.size < w3.heap.size := blk_lt HS.out.l1
   have q0 := HS.out.l0
   obtain ⟨q0_0, q0_1, q0_2, q0_3, q0_4, q0_5, q0_f⟩ := blk6 q0
   have q0_l := blk_lt q0
   clear q0
   have q1 := HS.out.l1
   obtain ⟨q1_0, q1_1, q1_2, q1_3, q1_4, q1_5, q1_f⟩ := blk6 q1
   have q1_l := blk_lt q1
   clear q1
   go_wp2_with (fail)
   have hpl := H.out.plt
   (try simp only [Exit.inBlock, Exit.then])
   refine bodyPost_ret (results_cell_row rfl _ _ w.heap.size 54 _ (0, 0) _ rfl (blk_alloc' (blk_set6 HS.out.l1 _ _ _ _ _ _)) Tryz.underlying54 rfl (by kernel_rfl)) rfl ?_
   rw [← HQ.out]
   refine RdIs.ok HR.out (St.only (b := b) (toks := toks) (s := s2) (l := []) ?_) (St.pat (w := w) (l := []) ?_) ⟨_, rfl, leaf_M toks _ _ 14 a 0 m false⟩
   ·repeat (first | with_reducible exact HS.out.drop.drop | with_reducible apply St.alloc | with_reducible apply St.drewN | with_reducible apply St.drew | (with_reducible refine St.store ?_ ?_ ?_; omega; (intro x hx; simp at hx)))
   ·repeat (first | with_reducible exact HS.out.drop.drop | with_reducible apply St.alloc | with_reducible apply St.drewN | with_reducible apply St.drew | (with_reducible refine St.store ?_ ?_ ?_; omega; (intro x hx; simp at hx)))
  | true =>
   simp only [if_true] at hR hS
   have HR := Lib.hid hR
   have HS := Lib.hid hS
   clear hR hS
   have lz_w3 : w.heap.size < w3.heap.size := blk_lt HS.out.l1
   go_wp2_with (fail)
   refine (St.wants [40] HS.out.new (by simp)).mono ?_
   rintro e w5 ⟨hO, hm⟩
   have HWw5 := Lib.hid hO
   clear hO
   cases hr : PX.want [40] s2.tail with
   | out => rw [hr] at hm; exact hm.elim
   | bad q er =>
    rw [hr] at hm
    obtain ⟨rfl, hO2⟩ := hm
    have hF := HR.out
    rw [hr] at hF
    unfold Pan
    (try simp only [Exit.inBlock, Exit.then])
    rw [← HQ.out]
    exact ⟨rfl, RdIs.bad hF hO2⟩
   | ok _u s6 =>
    rw [hr] at hm
    obtain ⟨hS, v, rfl, hV⟩ := hm
    have hR := HR.out
    rw [hr] at hR
    rw [bind_ok] at hR
    clear HR hr
    have HR := Lib.hid hR
    have HS := Lib.hid hS
    clear hR hS
    have lz_w5 : w.heap.size < w5.heap.size := blk_lt HS.out.l2
    clear hV
    go_wp2_with (fail)
    have hb_0 := blk_lt HS.out.l0
    have hb_1 := blk_lt HS.out.l1
    have hb_2 := blk_lt HS.out.l2
    refine (St.rows 211 HF.out (fun _ => PX.literal) PX.lits lits_rows k (fun j hj => literal_walk) hk2 HS.out (Res_in HR.out HO.out)).mono ?_
    rintro e w7 ⟨hO, hm⟩
    have HWw7 := Lib.hid hO
    clear hO
    cases hr : PX.lits k s6 with
    | out => rw [hr] at hm; exact hm.elim
    | bad q er =>
     rw [hr] at hm
     obtain ⟨rfl, hO2⟩ := hm
     have hF := HR.out
     rw [hr] at hF
     unfold Pan
     (try simp only [Exit.inBlock, Exit.then])
     rw [← HQ.out]
     exact ⟨rfl, RdIs.bad hF hO2⟩
    | ok l s8 =>
     rw [hr] at hm
     obtain ⟨hS, v, rfl, hV⟩ := hm
     have hR := HR.out
     rw [hr] at hR
     rw [bind_ok] at hR
     clear HR hr
     have HR := Lib.hid hR
     have HS := Lib.hid hS
     clear hR hS
     have lz_w7 : w.heap.size < w7.heap.size := blk_lt HS.out.l2
     obtain ⟨A_l, c_l, hv⟩ := Kd.R_slice hV
     subst hv
     have HV := Lib.hid hV
     clear hV
     have q1 := HS.out.l1
     obtain ⟨q1_0, q1_1, q1_2, q1_3, q1_4, q1_5, q1_f⟩ := blk6 q1
     have q1_l := blk_lt q1
     clear q1
     have q2 := HS.out.l2
     obtain ⟨q2_0, q2_1, q2_2, q2_3, q2_4, q2_5, q2_f⟩ := blk6 q2
     have q2_l := blk_lt q2
     clear q2
     have ne_e : ¬ (w1.heap.size = w.heap.size) := by omega
     go_wp2_with (fail)
     have hpl := H.out.plt
     (try simp only [Exit.inBlock, Exit.then])
     refine bodyPost_ret (results_cell_row rfl _ _ w.heap.size 54 _ (0, 0) _ rfl (blk_set6 (blk_far HS.out.l2 (p := ⟨w1.heap.size, 5, none⟩) (fun e => ne_e e.symm) _) _ _ _ _ _ _) Tryz.underlying54 rfl (by kernel_rfl)) rfl ?_
     rw [← HQ.out]
     refine RdIs.ok HR.out (St.only (b := b) (toks := toks) (s := s8) (l := []) ?_) (St.pat (w := w) (l := []) ?_) ⟨_, rfl, with_kids toks HV.out (by omega) ?_ 14 a 0 m false⟩
     ·repeat (first | with_reducible exact HS.out.drop.drop.drop | with_reducible apply St.alloc | with_reducible apply St.drewN | with_reducible apply St.drew | (with_reducible refine St.store ?_ ?_ ?_; omega; (intro x hx; simp at hx)))
     ·repeat (first | with_reducible exact HS.out.drop.drop.drop | with_reducible apply St.alloc | with_reducible apply St.drewN | with_reducible apply St.drew | (with_reducible refine St.store ?_ ?_ ?_; omega; (intro x hx; simp at hx)))
     ·repeat (first | with_reducible exact Kp.refl | with_reducible apply Kp.alloc | with_reducible apply Kp.drew | (with_reducible refine Kp.store ?_ ?_; omega) | (with_reducible refine Kp.only ?_ HWw7.out ?_; omega) | (with_reducible refine Kp.only ?_ HWw5.out ?_; omega) | (with_reducible refine Kp.only ?_ HWw3.out ?_; omega) | (with_reducible refine Kp.only ?_ HWw1.out ?_; omega))
end Go.Proofs.YtjafllnbgfcchaaGreatDoor.Px
