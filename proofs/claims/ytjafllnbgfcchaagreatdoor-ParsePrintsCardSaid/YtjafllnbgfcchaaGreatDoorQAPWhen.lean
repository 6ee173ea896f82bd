/- Clocks behind, walked. -/
import Derived.Test.YtjafllnbgfcchaaGreatDoorQAPLeft
import Derived.Test.YtjafllnbgfcchaaGreatDoorQAGPEx
import Derived.Deep.DeepMust
namespace Go.Proofs.YtjafllnbgfcchaaGreatDoor.Px
set_option linter.unusedVariables false
set_option linter.unusedSimpArgs false
open Go Go.RowKit Go.Proofs.YtjafllnbgfcchaaGreatDoorW.PrintWords Go.Proofs.YtjafllnbgfcchaaGreatDoorW.PrintLast Go.Proofs.YtjafllnbgfcchaaGreatDoorW.PrintMore Go.Proofs.YtjafllnbgfcchaaGreatDoor.Lx Go.Proofs.YtjafllnbgfcchaaGreatDoor.XK
attribute [local go_sem ↓] Go.wp_at_zero Go.wp_at_succ

set_option maxHeartbeats 4000000 in
set_option maxRecDepth 100000 in
theorem when_walk {p b k : Nat} {toks : List LX.Tok} (hp : ReadsEx p b toks 208 (PX.primary k)) : ReadsEx p b toks 206 (fun s => (PX.primary k s).bind fun a s1 => PX.whens k a s1) := by
  intro s w h hout
  obtain ⟨R, hR⟩ : ∃ R, ((PX.primary k s).bind fun a s1 => PX.whens k a s1) = R := ⟨_, rfl⟩
  simp only at hout ⊢
  rw [hR] at hout ⊢
  have H := Lib.hid h
  have HK := Lib.hid hp
  have HR := Lib.hid hR
  have HO := Lib.hid hout
  clear h hp hR hout
  obtain ⟨Q, hQ⟩ : ∃ Q, RdIs p b toks w R (ExV toks w.heap.size) = Q := ⟨_, rfl⟩
  rw [show (fun e w' => RdIs p b toks w R (ExV toks w.heap.size) e w') = Q from hQ]
  have HQ := Lib.hid hQ
  clear hQ
  have hfd := fld2
  go_enter Tryz.func206, Tryz.ntmps206
  go_wp2_with (fail)
  have HS := Lib.hid (St.start (w := w) H.out)
  refine (ReadsEx.call HK.out HS.out.new (Res_in HR.out HO.out)).mono ?_
  rintro e w1 ⟨hO, hm⟩
  have HWw1 := Lib.hid hO
  clear hO
  cases hr : PX.primary k s with
  | out => rw [hr] at hm; exact hm.elim
  | bad q er =>
    rw [hr] at hm
    obtain ⟨rfl, hO2⟩ := hm
    have hF := HR.out
    rw [hr] at hF
    unfold Pan
    (try simp only [Exit.inBlock, Exit.then])
    rw [← HQ.out]
    exact ⟨rfl, RdIs.bad hF hO2⟩
  | ok x s2 =>
    rw [hr] at hm
    obtain ⟨hS, v, rfl, hV⟩ := hm
    have hR := HR.out
    rw [hr] at hR
    rw [bind_ok] at hR
    clear HR hr
    have HR := Lib.hid hR
    have HS := Lib.hid hS
    clear hR hS
    have lz_w1 : w.heap.size < w1.heap.size := blk_lt HS.out.l0
    obtain ⟨A_x, n_x, c_x, rfl, hM⟩ := hV.cells
    have HM_x := Lib.hid (k54.M_lower (base' := w.heap.size + 1) (by simp) hM)
    clear hV hM
    go_wp2_with (fail)
    have hst : LeftAt p b toks w w1.heap.size (w1.alloc (.cells #[.int .i64 x.kind, .int .i64 (atOf toks x.place), .int .i64 x.n, .string ⟨x.name.toArray⟩, .bool x.off, .slice A_x n_x c_x] 54)) s2 x A_x n_x c_x := by
      refine ⟨HS.out.new, ?_, lz_w1⟩
      exact k54.M_mono (fun k hk => Nat.ne_of_lt hk.2.2) (Kd.M_below (k54.M_mono (fun k hk => (⟨trivial, hk.2.1, hk.2.2.1⟩ : True ∧ _ ≤ k ∧ k < w1.heap.size)) (k54.M_bound HM_x.out)) (below_alloc (Below.refl _ _) _))
    obtain ⟨ga, hga⟩ : ∃ ga, ga = w1.heap.size := ⟨_, rfl⟩
    rw [← hga] at hst ⊢
    have HST := Lib.hid hst
    clear hst HM_x hga
    go_loopg [] (k + 1) (fun m wr => ∃ kk x s' A n c, m = kk + 1 ∧ kk ≤ k ∧ Hid (PX.whens kk x s' = R) ∧ Hid (LeftAt p b toks w ga wr s' x A n c))
    case atStart => exact ⟨k, x, s2, A_x, n_x, c_x, rfl, Nat.le_refl _, HR, HST⟩
    case round =>
      obtain ⟨kk, x', s', A, n, c, rfl, hkk, HR', HA⟩ := hrel
      clear HR HS HST
      have HR := HR'
      clear HR'
      cases kk with
      | zero =>
        have h0 := HR.out
        rw [PX.whens] at h0
        have h1 := HO.out
        rw [← h0] at h1
        cases h1
      | succ kk =>
        have hR := HR.out
        rw [PX.whens] at hR
        clear HR
        have HR := Lib.hid hR
        have HS := Lib.hid HA.out.st
        have HM := Lib.hid HA.out.m
        have hgw := HA.out.gw
        clear hR
        go_wp2_with (fail)
        refine (St.takes [[119, 104, 101, 110]] HS.out (by simp) (by decide)).mono ?_
        rintro e w3 ⟨hg, hO, hS, t4, hp, hat, rfl⟩
        have HWw3 := Lib.hid hO
        have Ht4 := Lib.hid (And.intro hp hat)
        clear hO hp hat hg
        obtain ⟨B, hB⟩ : ∃ B, PX.is [[119, 104, 101, 110]] s' = B := ⟨_, rfl⟩
        rw [hB] at hS ⊢
        have hR := HR.out
        rw [hB] at hR
        have HBw3 := Lib.hid hB
        clear HR hB
        unfold tokA tokV
        cases B with
        | false =>
          simp only [Bool.false_eq_true, if_false] at hR hS
          have HR := Lib.hid hR
          have HS := Lib.hid hS
          clear hR hS
          have lz_w3 : w.heap.size < w3.heap.size := blk_lt HS.out.l1
          have lg := blk_lt HS.out.l0
          have q0 := HS.out.l0
          obtain ⟨q0_0, q0_1, q0_2, q0_3, q0_4, q0_5, q0_f⟩ := blk6 q0
          have q0_l := blk_lt q0
          clear q0
          have q1 := HS.out.l1
          obtain ⟨q1_0, q1_1, q1_2, q1_3, q1_4, q1_5, q1_f⟩ := blk6 q1
          have q1_l := blk_lt q1
          clear q1
          have hpl := H.out.plt
          go_wp2_with (fail)
          (try simp only [Exit.inBlock, Exit.then])
          refine bodyPost_ret (results_cell_row rfl _ _ w.heap.size 54 _ (0, 0) _ rfl (blk_alloc' (blk_set6 HS.out.l1 _ _ _ _ _ _)) Tryz.underlying54 rfl (by kernel_rfl)) rfl ?_
          rw [← HQ.out]
          refine RdIs.ok HR.out (St.only (b := b) (toks := toks) (s := s') (l := []) ?_) (St.pat (w := w) (l := []) ?_) ⟨_, rfl, ?_⟩
          · repeat (first | with_reducible exact HS.out.drop.drop | with_reducible apply St.alloc | with_reducible apply St.drewN | with_reducible apply St.drew | (with_reducible refine St.store ?_ ?_ ?_; omega; (intro x hx; simp at hx)))
          · repeat (first | with_reducible exact HS.out.drop.drop | with_reducible apply St.alloc | with_reducible apply St.drewN | with_reducible apply St.drew | (with_reducible refine St.store ?_ ?_ ?_; omega; (intro x hx; simp at hx)))
          · refine ExM.kp (n1 := w.heap.size + 1) (k54.M_mono (fun _ _ => trivial) HM.out) (by omega) ?_
            repeat (first | with_reducible exact Kp.refl | with_reducible apply Kp.alloc | with_reducible apply Kp.drew | (with_reducible refine Kp.store ?_ ?_; omega) | (with_reducible refine Kp.only ?_ HWw3.out ?_; omega))
        | true =>
          simp only [if_true] at hR hS
          have HR := Lib.hid hR
          have HS := Lib.hid hS
          clear hR hS
          have lz_w3 : w.heap.size < w3.heap.size := blk_lt HS.out.l1
          go_wp2_with (fail)
          refine (St.takes [[110, 111, 116]] HS.out.new (by simp) (by decide)).mono ?_
          rintro e w5 ⟨hg, hO, hS, t6, hp, hat, rfl⟩
          have HWw5 := Lib.hid hO
          have Ht6 := Lib.hid (And.intro hp hat)
          clear hO hp hat hg
          obtain ⟨B, hB⟩ : ∃ B, PX.is [[110, 111, 116]] s'.tail = B := ⟨_, rfl⟩
          rw [hB] at hS ⊢
          have hR := HR.out
          rw [hB] at hR
          have HBw5 := Lib.hid hB
          clear HR hB
          unfold tokA tokV
          cases B with
          | false =>
            simp only [Bool.false_eq_true, if_false] at hR hS
            have HR := Lib.hid hR
            have HS := Lib.hid hS
            clear hR hS
            have lz_w5 : w.heap.size < w5.heap.size := blk_lt HS.out.l2
            go_wp2_with (fail)
            obtain ⟨w7, hW⟩ : ∃ W, W = w5.alloc (Obj.cells #[.int .i64 t6.kind, .int .i64 t6.at_, .string ⟨t6.text.toArray⟩, .int .u64 t6.n] 35) := ⟨_, rfl⟩
            rw [← hW]
            have HSX := Lib.hid (HS.out.new (o := Obj.cells #[.int .i64 t6.kind, .int .i64 t6.at_, .string ⟨t6.text.toArray⟩, .int .u64 t6.n] 35))
            rw [← hW] at HSX
            have HS := HSX
            clear HSX
            have HWw7 := Lib.hid ((Only.refl p w5).alloc (Obj.cells #[.int .i64 t6.kind, .int .i64 t6.at_, .string ⟨t6.text.toArray⟩, .int .u64 t6.n] 35))
            rw [← hW] at HWw7
            clear hW
            have lz_w7 : w.heap.size < w7.heap.size := blk_lt HS.out.l3
            have q0 := HS.out.l0
            obtain ⟨q0_0, q0_1, q0_2, q0_3, q0_f⟩ := blk4 q0
            have q0_l := blk_lt q0
            clear q0
            have q1 := HS.out.l1
            obtain ⟨q1_0, q1_1, q1_2, q1_3, q1_f⟩ := blk4 q1
            have q1_l := blk_lt q1
            clear q1
            have q2 := HS.out.l2
            obtain ⟨q2_0, q2_1, q2_2, q2_3, q2_4, q2_5, q2_f⟩ := blk6 q2
            have q2_l := blk_lt q2
            clear q2
            have q3 := HS.out.l3
            obtain ⟨q3_0, q3_1, q3_2, q3_3, q3_4, q3_5, q3_f⟩ := blk6 q3
            have q3_l := blk_lt q3
            clear q3
            have lg := HWw7.out.size
            have htg : w.heap.size ≤ ga := Nat.le_of_lt hgw
            have ne_ga : w.heap.size ≠ ga := by omega
            have hkk2 : kk ≤ k := by omega
            obtain ⟨y0, y1, y2, y3, y4, y5, y6⟩ : w7.cell? ⟨w3.heap.size, 1, none⟩ = some (.int .i64 t4.at_) ∧ w7.cell? ⟨ga, 0, none⟩ = some (.int .i64 x'.kind) ∧ w7.cell? ⟨ga, 1, none⟩ = some (.int .i64 (atOf toks x'.place)) ∧ w7.cell? ⟨ga, 2, none⟩ = some (.int .i64 x'.n) ∧ w7.cell? ⟨ga, 3, none⟩ = some (.string ⟨x'.name.toArray⟩) ∧ w7.cell? ⟨ga, 4, none⟩ = some (.bool x'.off) ∧ w7.cell? ⟨ga, 5, none⟩ = some (.slice A n c) := ⟨(blk4 HS.out.l1).2.1, (blk6 HS.out.l2).1, (blk6 HS.out.l2).2.1, (blk6 HS.out.l2).2.2.1, (blk6 HS.out.l2).2.2.2.1, (blk6 HS.out.l2).2.2.2.2.1, (blk6 HS.out.l2).2.2.2.2.2.1⟩
            go_region_with (first | (go_at_call 80; (first | ((with_reducible refine (St.names HS.out.drew).mono ?_); have mkA := Lib.hid trivial) | ((with_reducible refine (St.names HS.out.alloc.drew).mono ?_); have mkB := Lib.hid trivial)); go_must (rintro e w8 ⟨hO, hm⟩; refine Told.part hm ?_ ?_; (focus intro q er hr he hO2; subst he; have hF := HR.out; rw [hr] at hF; unfold Pan; (try simp only [Exit.inBlock, Exit.then]); rw [← HQ.out]; exact ⟨rfl, RdIs.bad hF hO2⟩); intro m s9 hr hS v he hV; have hR := HR.out; rw [hr, bind_ok] at hR; have HR2 := Lib.hid hR; obtain ⟨km, nm, rfl⟩ := hV; subst he; have HS2 := Lib.hid hS; obtain ⟨z0, z1, z2, z3, z4, z5, z6⟩ : w8.cell? ⟨w3.heap.size, 1, none⟩ = some (.int .i64 t4.at_) ∧ w8.cell? ⟨ga, 0, none⟩ = some (.int .i64 x'.kind) ∧ w8.cell? ⟨ga, 1, none⟩ = some (.int .i64 (atOf toks x'.place)) ∧ w8.cell? ⟨ga, 2, none⟩ = some (.int .i64 x'.n) ∧ w8.cell? ⟨ga, 3, none⟩ = some (.string ⟨x'.name.toArray⟩) ∧ w8.cell? ⟨ga, 4, none⟩ = some (.bool x'.off) ∧ w8.cell? ⟨ga, 5, none⟩ = some (.slice A n c) := ⟨(blk4 HS2.out.l1).2.1, (blk6 HS2.out.l2).1, (blk6 HS2.out.l2).2.1, (blk6 HS2.out.l2).2.2.1, (blk6 HS2.out.l2).2.2.2.1, (blk6 HS2.out.l2).2.2.2.2.1, (blk6 HS2.out.l2).2.2.2.2.2.1⟩; obtain ⟨r0, r1, r2, r3, r4, r5, rf⟩ := blk6 HS2.out.l2; have l_0 := blk_lt HS2.out.l0; have l_1 := blk_lt HS2.out.l1; have l_2 := blk_lt HS2.out.l2; have l_3 := blk_lt HS2.out.l3; have HW2 := Lib.hid hO; clear hO hS hr hR hm)))
            all_goals
              go_wp2_with (fail)
              go_roundg (kk + 1)
              case measure => omega
              case rel =>
                have hpl := H.out.plt
                have hX : St p b toks w w8 s9 [] := HS2.out.sub (fun x hx => by simp at hx)
                first
                | (have _tk := mkA
                   have hS5 := St.store6 (g := ga) (v0 := .int .i64 11) (v1 := .int .i64 t4.at_) (v2 := .int .i64 0) (v3 := .string ⟨m.toArray⟩) (v4 := .bool false) (v5 := .slice (some ⟨w8.heap.size, 0, none⟩) 1 1) htg (NB.cons ne_ga NB.nil) (hX.cons (Nat.le_refl _) HS2.out.l3)
                   refine ⟨kk, .mk 11 s'.length 0 m false [x'], s9, some ⟨w8.heap.size, 0, none⟩, 1, 1, rfl, hkk2, HR2, Lib.hid ⟨St.cons (hS5.alloc) htg ?_, ?_, hgw⟩⟩
                   · show _ = some (Obj.cells #[.int .i64 11, .int .i64 (atOf toks s'.length), .int .i64 0, .string ⟨m.toArray⟩, .bool false, .slice (some ⟨w8.heap.size, 0, none⟩) 1 1] 54)
                     rw [Ht4.out.2]
                     exact blk_alloc' (blk_set6 HS2.out.l2 _ _ _ _ _ _)
                   · have hM1 := ExM.kq (g := ga) (W' := (((((w8.setCell ⟨ga, 0, none⟩ (.int .i64 11)).setCell ⟨ga, 1, none⟩ (.int .i64 t4.at_)).setCell ⟨ga, 2, none⟩ (.int .i64 0)).setCell ⟨ga, 3, none⟩ (.string ⟨m.toArray⟩)).setCell ⟨ga, 4, none⟩ (.bool false)).setCell ⟨ga, 5, none⟩ (.slice (some ⟨w8.heap.size, 0, none⟩) 1 1)) HM.out (Nat.le_refl _) (fun _ h _ => h) (by repeat (first | with_reducible exact Kq.refl | with_reducible apply Kq.store | with_reducible apply Kq.alloc | with_reducible apply Kq.drew | (with_reducible refine Kq.only ?_ HW2.out ?_; omega) | (with_reducible refine Kq.only ?_ HWw7.out ?_; omega) | (with_reducible refine Kq.only ?_ HWw5.out ?_; omega) | (with_reducible refine Kq.only ?_ HWw3.out ?_; omega)))
                     have hb := build1q (by rw [size_set6]; omega) (by rw [size_set6]; omega) hM1 (size_set6 _ _ _ _ _ _ _ _) 11 s'.length 0 m false
                     rw [Ht4.out.2] at hb
                     show k54.M _ _ _ (real toks (.mk 11 s'.length 0 m false [x'])) [.int .i64 11, .int .i64 (atOf toks s'.length), .int .i64 0, .string ⟨m.toArray⟩, .bool false, .slice (some ⟨w8.heap.size, 0, none⟩) 1 1]
                     rw [Ht4.out.2]
                     exact hb)
                | (have _tk := mkB
                   have hS5 := St.store6 (g := ga) (v0 := .int .i64 11) (v1 := .int .i64 t4.at_) (v2 := .int .i64 0) (v3 := .string ⟨m.toArray⟩) (v4 := .bool false) (v5 := .slice (some ⟨w7.heap.size, 0, none⟩) 1 1) htg (NB.cons ne_ga NB.nil) (hX.cons (Nat.le_refl _) HS2.out.l3)
                   refine ⟨kk, .mk 11 s'.length 0 m false [x'], s9, some ⟨w7.heap.size, 0, none⟩, 1, 1, rfl, hkk2, HR2, Lib.hid ⟨St.cons hS5 htg ?_, ?_, hgw⟩⟩
                   · show _ = some (Obj.cells #[.int .i64 11, .int .i64 (atOf toks s'.length), .int .i64 0, .string ⟨m.toArray⟩, .bool false, .slice (some ⟨w7.heap.size, 0, none⟩) 1 1] 54)
                     rw [Ht4.out.2]
                     exact blk_set6 HS2.out.l2 _ _ _ _ _ _
                   · have hM1 := ExM.kq (g := ga) (W' := w7) HM.out (Nat.le_refl _) (fun _ h _ => h) (by repeat (first | with_reducible exact Kq.refl | with_reducible apply Kq.store | with_reducible apply Kq.alloc | with_reducible apply Kq.drew | (with_reducible refine Kq.only ?_ HW2.out ?_; omega) | (with_reducible refine Kq.only ?_ HWw7.out ?_; omega) | (with_reducible refine Kq.only ?_ HWw5.out ?_; omega) | (with_reducible refine Kq.only ?_ HWw3.out ?_; omega)))
                     have hb0 := build1q (by omega) (by omega) hM1 rfl 11 s'.length 0 m false
                     have hb := ExM.kq (g := ga) (W' := (((((w8.setCell ⟨ga, 0, none⟩ (.int .i64 11)).setCell ⟨ga, 1, none⟩ (.int .i64 t4.at_)).setCell ⟨ga, 2, none⟩ (.int .i64 0)).setCell ⟨ga, 3, none⟩ (.string ⟨m.toArray⟩)).setCell ⟨ga, 4, none⟩ (.bool false)).setCell ⟨ga, 5, none⟩ (.slice (some ⟨w7.heap.size, 0, none⟩) 1 1)) hb0 (Nat.le_refl _) (fun _ h _ => h) (by repeat (first | with_reducible exact Kq.refl | with_reducible apply Kq.store | with_reducible apply Kq.alloc | with_reducible apply Kq.drew | (with_reducible refine Kq.only ?_ HW2.out ?_; omega) | (with_reducible refine Kq.only ?_ HWw7.out ?_; omega) | (with_reducible refine Kq.only ?_ HWw5.out ?_; omega) | (with_reducible refine Kq.only ?_ HWw3.out ?_; omega)))
                     rw [Ht4.out.2] at hb
                     show k54.M _ _ _ (real toks (.mk 11 s'.length 0 m false [x'])) [.int .i64 11, .int .i64 (atOf toks s'.length), .int .i64 0, .string ⟨m.toArray⟩, .bool false, .slice (some ⟨w7.heap.size, 0, none⟩) 1 1]
                     rw [Ht4.out.2]
                     exact hb)
          | true =>
            simp only [if_true] at hR hS
            have HR := Lib.hid hR
            have HS := Lib.hid hS
            clear hR hS
            have lz_w5 : w.heap.size < w5.heap.size := blk_lt HS.out.l2
            go_wp2_with (fail)
            obtain ⟨w10, hW⟩ : ∃ W, W = w5.alloc (Obj.cells #[.int .i64 t6.kind, .int .i64 t6.at_, .string ⟨t6.text.toArray⟩, .int .u64 t6.n] 35) := ⟨_, rfl⟩
            rw [← hW]
            have HSX := Lib.hid (HS.out.new (o := Obj.cells #[.int .i64 t6.kind, .int .i64 t6.at_, .string ⟨t6.text.toArray⟩, .int .u64 t6.n] 35))
            rw [← hW] at HSX
            have HS := HSX
            clear HSX
            have HWw10 := Lib.hid ((Only.refl p w5).alloc (Obj.cells #[.int .i64 t6.kind, .int .i64 t6.at_, .string ⟨t6.text.toArray⟩, .int .u64 t6.n] 35))
            rw [← hW] at HWw10
            clear hW
            have lz_w10 : w.heap.size < w10.heap.size := blk_lt HS.out.l3
            have q0 := HS.out.l0
            obtain ⟨q0_0, q0_1, q0_2, q0_3, q0_f⟩ := blk4 q0
            have q0_l := blk_lt q0
            clear q0
            have q1 := HS.out.l1
            obtain ⟨q1_0, q1_1, q1_2, q1_3, q1_f⟩ := blk4 q1
            have q1_l := blk_lt q1
            clear q1
            have q2 := HS.out.l2
            obtain ⟨q2_0, q2_1, q2_2, q2_3, q2_4, q2_5, q2_f⟩ := blk6 q2
            have q2_l := blk_lt q2
            clear q2
            have q3 := HS.out.l3
            obtain ⟨q3_0, q3_1, q3_2, q3_3, q3_4, q3_5, q3_f⟩ := blk6 q3
            have q3_l := blk_lt q3
            clear q3
            have lg := HWw10.out.size
            have htg : w.heap.size ≤ ga := Nat.le_of_lt hgw
            have ne_ga : w.heap.size ≠ ga := by omega
            have hkk2 : kk ≤ k := by omega
            obtain ⟨y0, y1, y2, y3, y4, y5, y6⟩ : w10.cell? ⟨w3.heap.size, 1, none⟩ = some (.int .i64 t4.at_) ∧ w10.cell? ⟨ga, 0, none⟩ = some (.int .i64 x'.kind) ∧ w10.cell? ⟨ga, 1, none⟩ = some (.int .i64 (atOf toks x'.place)) ∧ w10.cell? ⟨ga, 2, none⟩ = some (.int .i64 x'.n) ∧ w10.cell? ⟨ga, 3, none⟩ = some (.string ⟨x'.name.toArray⟩) ∧ w10.cell? ⟨ga, 4, none⟩ = some (.bool x'.off) ∧ w10.cell? ⟨ga, 5, none⟩ = some (.slice A n c) := ⟨(blk4 HS.out.l1).2.1, (blk6 HS.out.l2).1, (blk6 HS.out.l2).2.1, (blk6 HS.out.l2).2.2.1, (blk6 HS.out.l2).2.2.2.1, (blk6 HS.out.l2).2.2.2.2.1, (blk6 HS.out.l2).2.2.2.2.2.1⟩
            go_region_with (first | (go_at_call 80; (first | ((with_reducible refine (St.names HS.out.drew).mono ?_); have mkA := Lib.hid trivial) | ((with_reducible refine (St.names HS.out.alloc.drew).mono ?_); have mkB := Lib.hid trivial)); go_must (rintro e w11 ⟨hO, hm⟩; refine Told.part hm ?_ ?_; (focus intro q er hr he hO2; subst he; have hF := HR.out; rw [hr] at hF; unfold Pan; (try simp only [Exit.inBlock, Exit.then]); rw [← HQ.out]; exact ⟨rfl, RdIs.bad hF hO2⟩); intro m s12 hr hS v he hV; have hR := HR.out; rw [hr, bind_ok] at hR; have HR2 := Lib.hid hR; obtain ⟨km, nm, rfl⟩ := hV; subst he; have HS2 := Lib.hid hS; obtain ⟨z0, z1, z2, z3, z4, z5, z6⟩ : w11.cell? ⟨w3.heap.size, 1, none⟩ = some (.int .i64 t4.at_) ∧ w11.cell? ⟨ga, 0, none⟩ = some (.int .i64 x'.kind) ∧ w11.cell? ⟨ga, 1, none⟩ = some (.int .i64 (atOf toks x'.place)) ∧ w11.cell? ⟨ga, 2, none⟩ = some (.int .i64 x'.n) ∧ w11.cell? ⟨ga, 3, none⟩ = some (.string ⟨x'.name.toArray⟩) ∧ w11.cell? ⟨ga, 4, none⟩ = some (.bool x'.off) ∧ w11.cell? ⟨ga, 5, none⟩ = some (.slice A n c) := ⟨(blk4 HS2.out.l1).2.1, (blk6 HS2.out.l2).1, (blk6 HS2.out.l2).2.1, (blk6 HS2.out.l2).2.2.1, (blk6 HS2.out.l2).2.2.2.1, (blk6 HS2.out.l2).2.2.2.2.1, (blk6 HS2.out.l2).2.2.2.2.2.1⟩; obtain ⟨r0, r1, r2, r3, r4, r5, rf⟩ := blk6 HS2.out.l2; have l_0 := blk_lt HS2.out.l0; have l_1 := blk_lt HS2.out.l1; have l_2 := blk_lt HS2.out.l2; have l_3 := blk_lt HS2.out.l3; have HW2 := Lib.hid hO; clear hO hS hr hR hm)))
            all_goals
              go_wp2_with (fail)
              go_roundg (kk + 1)
              case measure => omega
              case rel =>
                have hpl := H.out.plt
                have hX : St p b toks w w11 s12 [] := HS2.out.sub (fun x hx => by simp at hx)
                first
                | (have _tk := mkA
                   have hS5 := St.store6 (g := ga) (v0 := .int .i64 11) (v1 := .int .i64 t4.at_) (v2 := .int .i64 0) (v3 := .string ⟨m.toArray⟩) (v4 := .bool true) (v5 := .slice (some ⟨w11.heap.size, 0, none⟩) 1 1) htg (NB.cons ne_ga NB.nil) (hX.cons (Nat.le_refl _) HS2.out.l3)
                   refine ⟨kk, .mk 11 s'.length 0 m true [x'], s12, some ⟨w11.heap.size, 0, none⟩, 1, 1, rfl, hkk2, HR2, Lib.hid ⟨St.cons (hS5.alloc) htg ?_, ?_, hgw⟩⟩
                   · show _ = some (Obj.cells #[.int .i64 11, .int .i64 (atOf toks s'.length), .int .i64 0, .string ⟨m.toArray⟩, .bool true, .slice (some ⟨w11.heap.size, 0, none⟩) 1 1] 54)
                     rw [Ht4.out.2]
                     exact blk_alloc' (blk_set6 HS2.out.l2 _ _ _ _ _ _)
                   · have hM1 := ExM.kq (g := ga) (W' := (((((w11.setCell ⟨ga, 0, none⟩ (.int .i64 11)).setCell ⟨ga, 1, none⟩ (.int .i64 t4.at_)).setCell ⟨ga, 2, none⟩ (.int .i64 0)).setCell ⟨ga, 3, none⟩ (.string ⟨m.toArray⟩)).setCell ⟨ga, 4, none⟩ (.bool true)).setCell ⟨ga, 5, none⟩ (.slice (some ⟨w11.heap.size, 0, none⟩) 1 1)) HM.out (Nat.le_refl _) (fun _ h _ => h) (by repeat (first | with_reducible exact Kq.refl | with_reducible apply Kq.store | with_reducible apply Kq.alloc | with_reducible apply Kq.drew | (with_reducible refine Kq.only ?_ HW2.out ?_; omega) | (with_reducible refine Kq.only ?_ HWw10.out ?_; omega) | (with_reducible refine Kq.only ?_ HWw5.out ?_; omega) | (with_reducible refine Kq.only ?_ HWw3.out ?_; omega)))
                     have hb := build1q (by rw [size_set6]; omega) (by rw [size_set6]; omega) hM1 (size_set6 _ _ _ _ _ _ _ _) 11 s'.length 0 m true
                     rw [Ht4.out.2] at hb
                     show k54.M _ _ _ (real toks (.mk 11 s'.length 0 m true [x'])) [.int .i64 11, .int .i64 (atOf toks s'.length), .int .i64 0, .string ⟨m.toArray⟩, .bool true, .slice (some ⟨w11.heap.size, 0, none⟩) 1 1]
                     rw [Ht4.out.2]
                     exact hb)
                | (have _tk := mkB
                   have hS5 := St.store6 (g := ga) (v0 := .int .i64 11) (v1 := .int .i64 t4.at_) (v2 := .int .i64 0) (v3 := .string ⟨m.toArray⟩) (v4 := .bool true) (v5 := .slice (some ⟨w10.heap.size, 0, none⟩) 1 1) htg (NB.cons ne_ga NB.nil) (hX.cons (Nat.le_refl _) HS2.out.l3)
                   refine ⟨kk, .mk 11 s'.length 0 m true [x'], s12, some ⟨w10.heap.size, 0, none⟩, 1, 1, rfl, hkk2, HR2, Lib.hid ⟨St.cons hS5 htg ?_, ?_, hgw⟩⟩
                   · show _ = some (Obj.cells #[.int .i64 11, .int .i64 (atOf toks s'.length), .int .i64 0, .string ⟨m.toArray⟩, .bool true, .slice (some ⟨w10.heap.size, 0, none⟩) 1 1] 54)
                     rw [Ht4.out.2]
                     exact blk_set6 HS2.out.l2 _ _ _ _ _ _
                   · have hM1 := ExM.kq (g := ga) (W' := w10) HM.out (Nat.le_refl _) (fun _ h _ => h) (by repeat (first | with_reducible exact Kq.refl | with_reducible apply Kq.store | with_reducible apply Kq.alloc | with_reducible apply Kq.drew | (with_reducible refine Kq.only ?_ HW2.out ?_; omega) | (with_reducible refine Kq.only ?_ HWw10.out ?_; omega) | (with_reducible refine Kq.only ?_ HWw5.out ?_; omega) | (with_reducible refine Kq.only ?_ HWw3.out ?_; omega)))
                     have hb0 := build1q (by omega) (by omega) hM1 rfl 11 s'.length 0 m true
                     have hb := ExM.kq (g := ga) (W' := (((((w11.setCell ⟨ga, 0, none⟩ (.int .i64 11)).setCell ⟨ga, 1, none⟩ (.int .i64 t4.at_)).setCell ⟨ga, 2, none⟩ (.int .i64 0)).setCell ⟨ga, 3, none⟩ (.string ⟨m.toArray⟩)).setCell ⟨ga, 4, none⟩ (.bool true)).setCell ⟨ga, 5, none⟩ (.slice (some ⟨w10.heap.size, 0, none⟩) 1 1)) hb0 (Nat.le_refl _) (fun _ h _ => h) (by repeat (first | with_reducible exact Kq.refl | with_reducible apply Kq.store | with_reducible apply Kq.alloc | with_reducible apply Kq.drew | (with_reducible refine Kq.only ?_ HW2.out ?_; omega) | (with_reducible refine Kq.only ?_ HWw10.out ?_; omega) | (with_reducible refine Kq.only ?_ HWw5.out ?_; omega) | (with_reducible refine Kq.only ?_ HWw3.out ?_; omega)))
                     rw [Ht4.out.2] at hb
                     show k54.M _ _ _ (real toks (.mk 11 s'.length 0 m true [x'])) [.int .i64 11, .int .i64 (atOf toks s'.length), .int .i64 0, .string ⟨m.toArray⟩, .bool true, .slice (some ⟨w10.heap.size, 0, none⟩) 1 1]
                     rw [Ht4.out.2]
                     exact hb)
end Go.Proofs.YtjafllnbgfcchaaGreatDoor.Px
