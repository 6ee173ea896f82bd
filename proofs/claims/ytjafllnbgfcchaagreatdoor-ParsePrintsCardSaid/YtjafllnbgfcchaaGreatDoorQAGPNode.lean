/- Joined of: PNode, PProgF. -/
import Derived.Test.YtjafllnbgfcchaaGreatDoorQAPNdL
import Derived.Deep.DeepMust
import Derived.Deep.RegionLaw
import Derived.Deep.AppendLies
import Derived.Test.YtjafllnbgfcchaaGreatDoorQAPExprF
section
/- A node, walked. -/
namespace Go.Proofs.YtjafllnbgfcchaaGreatDoor.Px
set_option linter.unusedVariables false
set_option linter.unusedSimpArgs false
open Go Go.RowKit Go.Proofs.YtjafllnbgfcchaaGreatDoorW.PrintWords Go.Proofs.YtjafllnbgfcchaaGreatDoorW.PrintLast Go.Proofs.YtjafllnbgfcchaaGreatDoorW.PrintMore Go.Proofs.YtjafllnbgfcchaaGreatDoor.Lx Go.Proofs.YtjafllnbgfcchaaGreatDoor.XK
attribute [local go_sem ↓] Go.wp_at_zero Go.wp_at_succ
abbrev NO (m : PX.B) (a : Int) (v2 v3 v4 v5 : Value) : Obj := .cells #[.string ⟨m.toArray⟩, .int .i64 a, v2, v3, v4, v5] 50 (0, 0)
abbrev NZ : Obj := .cells #[.string ⟨#[]⟩, .int .i64 0, .slice none 0 0, .slice none 0 0, .slice none 0 0, .slice none 0 0] 50 (0, 0)
theorem far06 {w : World} {g g' : Nat} {t : TypeId} {cs : Array Value} (hn : g ≠ g') (h : w.heap[g]? = some (.cells cs t (0, 0))) (v0 v1 v2 v3 v4 v5 : Value) :
    ((((((w.setCell ⟨g', 0, none⟩ v0).setCell ⟨g', 1, none⟩ v1).setCell ⟨g', 2, none⟩ v2).setCell ⟨g', 3, none⟩ v3).setCell ⟨g', 4, none⟩ v4).setCell ⟨g', 5, none⟩ v5).heap[g]? = some (.cells cs t (0, 0)) :=
  blk_far (blk_far (blk_far (blk_far (blk_far (blk_far h hn v0) hn v1) hn v2) hn v3) hn v4) hn v5
theorem St.set06 {p b g : Nat} {toks : List LX.Tok} {w W : World} {s : List PX.T} {l : List (Nat × Obj)} {t : TypeId} {a0 a1 a2 a3 a4 a5 : Value} (h : St p b toks w W s ((g, .cells #[a0, a1, a2, a3, a4, a5] t (0, 0)) :: l)) (hn : ∀ x ∈ l, x.1 ≠ g) (v0 v1 v2 v3 v4 v5 : Value) :
    St p b toks w ((((((W.setCell ⟨g, 0, none⟩ v0).setCell ⟨g, 1, none⟩ v1).setCell ⟨g, 2, none⟩ v2).setCell ⟨g, 3, none⟩ v3).setCell ⟨g, 4, none⟩ v4).setCell ⟨g, 5, none⟩ v5) s ((g, .cells #[v0, v1, v2, v3, v4, v5] t (0, 0)) :: l) :=
  (((((h.setHead hn 0 v0).setHead hn 1 v1).setHead hn 2 v2).setHead hn 3 v3).setHead hn 4 v4).setHead hn 5 v5

set_option maxHeartbeats 8000000 in
set_option maxRecDepth 100000 in
theorem node_walk {p b : Nat} {toks : List LX.Tok} (K : Nat) (hK : K ≤ 900000) (s : List PX.T) (w : World) (h : PAt w p b toks s) (hout : (PX.node K s).isOut = false) :
    Calls Tryz.prog 43 #[.pointer (some ⟨p, 0, none⟩)] w fun e w' => RdIs p b toks w (PX.node K s) (NdV toks w.heap.size) e w' := by
  obtain ⟨R, hR⟩ : ∃ R, PX.node K s = R := ⟨_, rfl⟩
  rw [hR] at hout ⊢
  rw [PX.node] at hR
  have H := Lib.hid h
  have HR := Lib.hid hR
  have HO := Lib.hid hout
  clear h hR hout
  obtain ⟨Q, hQ⟩ : ∃ Q, RdIs p b toks w R (NdV toks w.heap.size) = Q := ⟨_, rfl⟩
  rw [show (fun e w' => RdIs p b toks w R (NdV toks w.heap.size) e w') = Q from hQ]
  have HQ := Lib.hid hQ
  clear hQ
  have hpl := H.out.plt
  go_enter Tryz.func43, Tryz.ntmps43
  go_wp2_with (fail)
  have HS := Lib.hid (St.newg (g := w.heap.size) (o := NZ) rfl (St.start (w := w) H.out))
  refine (St.wants [110, 111, 100, 101] HS.out (by first | (simp; done) | (simp; omega) | omega)).mono ?_
  rintro e w1 ⟨hO, hm⟩
  have HWw1 := Lib.hid hO
  clear hO
  cases hr : PX.want [110, 111, 100, 101] s with
  | out => rw [hr] at hm; exact hm.elim
  | bad q er =>
    rw [hr] at hm
    obtain ⟨rfl, hO2⟩ := hm
    have hF := HR.out
    rw [hr] at hF
    unfold Pan
    (try simp only [Exit.inBlock, Exit.then])
    rw [← HQ.out]
    exact ⟨rfl, RdIs.bad hF hO2⟩
  | ok _u s2 =>
    rw [hr] at hm
    obtain ⟨hS, v, rfl, hV⟩ := hm
    have hR := HR.out
    rw [hr] at hR
    rw [bind_ok] at hR
    clear HR hr
    have HR := Lib.hid hR
    have HS := Lib.hid hS
    clear hR hS
    have lz_w1 : w.heap.size < w1.heap.size := blk_lt HS.out.l0
    clear hV
    have lr_w1 := blk_lt HS.out.l0
    go_wp2_with (fail)
    refine (St.names HS.out).mono ?_
    rintro e w3 ⟨hO, hm⟩
    have HWw3 := Lib.hid hO
    clear hO
    cases hr : PX.name s2 with
    | out => rw [hr] at hm; exact hm.elim
    | bad q er =>
      rw [hr] at hm
      obtain ⟨rfl, hO2⟩ := hm
      have hF := HR.out
      rw [hr] at hF
      unfold Pan
      (try simp only [Exit.inBlock, Exit.then])
      rw [← HQ.out]
      exact ⟨rfl, RdIs.bad hF hO2⟩
    | ok m s4 =>
      rw [hr] at hm
      obtain ⟨hS, v, rfl, hV⟩ := hm
      have hR := HR.out
      rw [hr] at hR
      rw [bind_ok] at hR
      clear HR hr
      have HR := Lib.hid hR
      have HS := Lib.hid hS
      clear hR hS
      have lz_w3 : w.heap.size < w3.heap.size := blk_lt HS.out.l0
      obtain ⟨k_m, n_m, rfl⟩ := hV
      have lr_w3 := blk_lt HS.out.l0
      go_wp2_with (fail)
      obtain ⟨w5, hW⟩ : ∃ W, W = w3.alloc (Obj.cells #[.int .i64 k_m, .int .i64 (atOf toks s2.length), .string ⟨m.toArray⟩, .int .u64 n_m] 35) := ⟨_, rfl⟩
      rw [← hW]
      have HSX := Lib.hid (HS.out.new (o := Obj.cells #[.int .i64 k_m, .int .i64 (atOf toks s2.length), .string ⟨m.toArray⟩, .int .u64 n_m] 35))
      rw [← hW] at HSX
      have HS := HSX
      clear HSX
      have HWw5 := Lib.hid ((Only.refl p w3).alloc (Obj.cells #[.int .i64 k_m, .int .i64 (atOf toks s2.length), .string ⟨m.toArray⟩, .int .u64 n_m] 35))
      rw [← hW] at HWw5
      clear hW
      have lz_w5 : w.heap.size < w5.heap.size := blk_lt HS.out.l1
      have lt_t := blk_lt HS.out.l0
      obtain ⟨C, hC⟩ : ∃ C : List PX.Dc → List PX.T → PX.Res PX.Nd, C = fun ins s3 => (PX.want [114, 101, 116, 117, 114, 110, 115] s3).bind fun _ s4 => (PX.decls K s4).bind fun outs s5 => (PX.vars K s5).bind fun vs s6 => (PX.want [108, 101, 116] s6).bind fun _ s7 => (PX.eqs K K s7).bind fun qs s8 => (PX.want [116, 101, 108] s8).bind fun _ s9 => .ok ⟨m, s2.length, ins, outs, vs, qs⟩ s9 := ⟨_, rfl⟩
      have hR : (PX.decls K s4).bind C = R := by rw [hC]; exact HR.out
      clear HR
      have HR := Lib.hid hR
      have HC := Lib.hid hC
      clear hR hC
      have hS0 : (w5.drew).cell? ⟨w3.heap.size, 2, none⟩ = some (.string ⟨m.toArray⟩) ∧ (w5.drew).cell? ⟨w3.heap.size, 1, none⟩ = some (.int .i64 (atOf toks s2.length)) := ⟨(blk4 HS.out.drew.l0).2.2.1, (blk4 HS.out.drew.l0).2.1⟩
      have hS1 : ∀ o, ((w5.drew).alloc o).cell? ⟨w3.heap.size, 2, none⟩ = some (.string ⟨m.toArray⟩) ∧ ((w5.drew).alloc o).cell? ⟨w3.heap.size, 1, none⟩ = some (.int .i64 (atOf toks s2.length)) := fun o => ⟨(blk4 (HS.out.drew.alloc (o := o)).l0).2.2.1, (blk4 (HS.out.drew.alloc (o := o)).l0).2.1⟩
      have hS2 : ∀ o, ((w5.alloc o).drew).cell? ⟨w3.heap.size, 2, none⟩ = some (.string ⟨m.toArray⟩) ∧ ((w5.alloc o).drew).cell? ⟨w3.heap.size, 1, none⟩ = some (.int .i64 (atOf toks s2.length)) := fun o => ⟨(blk4 (HS.out.alloc (o := o)).drew.l0).2.2.1, (blk4 (HS.out.alloc (o := o)).drew.l0).2.1⟩
      go_cut [4] (fun u wc => ∃ gN ins s7 A c, u = .pointer (some ⟨gN, 0, none⟩) ∧ w.heap.size < gN ∧ Hid (C ins s7 = R) ∧ Hid (St p b toks w wc s7 [(gN, NO m (atOf toks s2.length) (.slice A ins.length c) (.slice none 0 0) (.slice none 0 0) (.slice none 0 0)), (w.heap.size, NZ)]) ∧ Hid (k147.R 147 wc (w.heap.size + 1) (fun q => q ≠ gN) (.slice A ins.length c) (ins.map (realD toks))))
      case first =>
        go_region_held2 (fun w' => w'.cell? ⟨w3.heap.size, 2, none⟩ = some (.string ⟨m.toArray⟩) ∧ w'.cell? ⟨w3.heap.size, 1, none⟩ = some (.int .i64 (atOf toks s2.length))) (first | with_reducible exact hS0 | with_reducible exact hS1 _ | with_reducible exact hS2 _ | with_reducible exact hS3 | with_reducible exact hS4 _ | with_reducible exact hS5 _ _ _ _ _ _ | with_reducible exact hS6 _ _ _ _ _ _ _) (first | (go_at_call 81; (first | ((with_reducible refine (St.decls_ HS.out.drew K (by omega) (Res_in HR.out HO.out)).mono ?_); go_must (rintro e w6 ⟨hO, hm⟩; refine Told.part hm ?_ ?_; (focus intro q er hr he hO2; subst he; have hF := HR.out; rw [hr] at hF; unfold Pan; (try simp only [Exit.inBlock, Exit.then]); rw [← HQ.out]; exact ⟨rfl, RdIs.bad hF hO2⟩); intro ins s7 hr hS v he hV; have hR := HR.out; rw [hr, bind_ok] at hR; subst he; have HS2 := Lib.hid hS; have HW2 := Lib.hid hO; have HR2 := Lib.hid hR; obtain ⟨A_i, c_i, hv⟩ := Kd.R_slice hV; rw [List.length_map] at hv; subst hv; have HV2 := Lib.hid hV; have mkX : True ∧ True := ⟨trivial, trivial⟩; have hS3 : w6.cell? ⟨w3.heap.size, 2, none⟩ = some (.string ⟨m.toArray⟩) ∧ w6.cell? ⟨w3.heap.size, 1, none⟩ = some (.int .i64 (atOf toks s2.length)) := ⟨(blk4 HS2.out.l0).2.2.1, (blk4 HS2.out.l0).2.1⟩; have hS4 : ∀ o, (w6.alloc o).cell? ⟨w3.heap.size, 2, none⟩ = some (.string ⟨m.toArray⟩) ∧ (w6.alloc o).cell? ⟨w3.heap.size, 1, none⟩ = some (.int .i64 (atOf toks s2.length)) := fun o => ⟨(blk4 (HS2.out.alloc (o := o)).l0).2.2.1, (blk4 (HS2.out.alloc (o := o)).l0).2.1⟩; have lt6 := blk_lt HS2.out.l0; have hS6 : ∀ (o : Obj) (v0 v1 v2 v3 v4 v5 : Value), (((((((w6.alloc o).setCell ⟨w6.heap.size, 0, none⟩ v0).setCell ⟨w6.heap.size, 1, none⟩ v1).setCell ⟨w6.heap.size, 2, none⟩ v2).setCell ⟨w6.heap.size, 3, none⟩ v3).setCell ⟨w6.heap.size, 4, none⟩ v4).setCell ⟨w6.heap.size, 5, none⟩ v5).cell? ⟨w3.heap.size, 2, none⟩ = some (.string ⟨m.toArray⟩) ∧ (((((((w6.alloc o).setCell ⟨w6.heap.size, 0, none⟩ v0).setCell ⟨w6.heap.size, 1, none⟩ v1).setCell ⟨w6.heap.size, 2, none⟩ v2).setCell ⟨w6.heap.size, 3, none⟩ v3).setCell ⟨w6.heap.size, 4, none⟩ v4).setCell ⟨w6.heap.size, 5, none⟩ v5).cell? ⟨w3.heap.size, 1, none⟩ = some (.int .i64 (atOf toks s2.length)) := fun o v0 v1 v2 v3 v4 v5 => ⟨(blk4 (far06 (by omega) (HS2.out.alloc (o := o)).l0 v0 v1 v2 v3 v4 v5)).2.2.1, (blk4 (far06 (by omega) (HS2.out.alloc (o := o)).l0 v0 v1 v2 v3 v4 v5)).2.1⟩; clear hO hS hR hr hm hV)) | ((with_reducible refine (St.decls_ HS.out.new.drew K (by omega) (Res_in HR.out HO.out)).mono ?_); go_must (rintro e w6 ⟨hO, hm⟩; refine Told.part hm ?_ ?_; (focus intro q er hr he hO2; subst he; have hF := HR.out; rw [hr] at hF; unfold Pan; (try simp only [Exit.inBlock, Exit.then]); rw [← HQ.out]; exact ⟨rfl, RdIs.bad hF hO2⟩); intro ins s7 hr hS v he hV; have hR := HR.out; rw [hr, bind_ok] at hR; subst he; have HS2 := Lib.hid hS; have HW2 := Lib.hid hO; have HR2 := Lib.hid hR; obtain ⟨A_i, c_i, hv⟩ := Kd.R_slice hV; rw [List.length_map] at hv; subst hv; have HV2 := Lib.hid hV; have mkX : True := trivial; have hS3 : w6.cell? ⟨w3.heap.size, 2, none⟩ = some (.string ⟨m.toArray⟩) ∧ w6.cell? ⟨w3.heap.size, 1, none⟩ = some (.int .i64 (atOf toks s2.length)) := ⟨(blk4 HS2.out.l1).2.2.1, (blk4 HS2.out.l1).2.1⟩; have hS4 : ∀ o, (w6.alloc o).cell? ⟨w3.heap.size, 2, none⟩ = some (.string ⟨m.toArray⟩) ∧ (w6.alloc o).cell? ⟨w3.heap.size, 1, none⟩ = some (.int .i64 (atOf toks s2.length)) := fun o => ⟨(blk4 (HS2.out.alloc (o := o)).l1).2.2.1, (blk4 (HS2.out.alloc (o := o)).l1).2.1⟩; have hS5 : ∀ v0 v1 v2 v3 v4 v5 : Value, ((((((w6.setCell ⟨w5.heap.size, 0, none⟩ v0).setCell ⟨w5.heap.size, 1, none⟩ v1).setCell ⟨w5.heap.size, 2, none⟩ v2).setCell ⟨w5.heap.size, 3, none⟩ v3).setCell ⟨w5.heap.size, 4, none⟩ v4).setCell ⟨w5.heap.size, 5, none⟩ v5).cell? ⟨w3.heap.size, 2, none⟩ = some (.string ⟨m.toArray⟩) ∧ ((((((w6.setCell ⟨w5.heap.size, 0, none⟩ v0).setCell ⟨w5.heap.size, 1, none⟩ v1).setCell ⟨w5.heap.size, 2, none⟩ v2).setCell ⟨w5.heap.size, 3, none⟩ v3).setCell ⟨w5.heap.size, 4, none⟩ v4).setCell ⟨w5.heap.size, 5, none⟩ v5).cell? ⟨w3.heap.size, 1, none⟩ = some (.int .i64 (atOf toks s2.length)) := fun v0 v1 v2 v3 v4 v5 => ⟨(blk4 (far06 (by omega) HS2.out.l1 v0 v1 v2 v3 v4 v5)).2.2.1, (blk4 (far06 (by omega) HS2.out.l1 v0 v1 v2 v3 v4 v5)).2.1⟩; obtain ⟨e0, e1, e2, e3, e4, e5, ef⟩ := blk6 HS2.out.l0; have el := blk_lt HS2.out.l0; clear hO hS hR hr hm hV)) | ((with_reducible refine (St.decls_ HS.out.drew.new K (by omega) (Res_in HR.out HO.out)).mono ?_); go_must (rintro e w6 ⟨hO, hm⟩; refine Told.part hm ?_ ?_; (focus intro q er hr he hO2; subst he; have hF := HR.out; rw [hr] at hF; unfold Pan; (try simp only [Exit.inBlock, Exit.then]); rw [← HQ.out]; exact ⟨rfl, RdIs.bad hF hO2⟩); intro ins s7 hr hS v he hV; have hR := HR.out; rw [hr, bind_ok] at hR; subst he; have HS2 := Lib.hid hS; have HW2 := Lib.hid hO; have HR2 := Lib.hid hR; obtain ⟨A_i, c_i, hv⟩ := Kd.R_slice hV; rw [List.length_map] at hv; subst hv; have HV2 := Lib.hid hV; have mkX : True := trivial; have hS3 : w6.cell? ⟨w3.heap.size, 2, none⟩ = some (.string ⟨m.toArray⟩) ∧ w6.cell? ⟨w3.heap.size, 1, none⟩ = some (.int .i64 (atOf toks s2.length)) := ⟨(blk4 HS2.out.l1).2.2.1, (blk4 HS2.out.l1).2.1⟩; have hS4 : ∀ o, (w6.alloc o).cell? ⟨w3.heap.size, 2, none⟩ = some (.string ⟨m.toArray⟩) ∧ (w6.alloc o).cell? ⟨w3.heap.size, 1, none⟩ = some (.int .i64 (atOf toks s2.length)) := fun o => ⟨(blk4 (HS2.out.alloc (o := o)).l1).2.2.1, (blk4 (HS2.out.alloc (o := o)).l1).2.1⟩; have hS5 : ∀ v0 v1 v2 v3 v4 v5 : Value, ((((((w6.setCell ⟨w5.heap.size, 0, none⟩ v0).setCell ⟨w5.heap.size, 1, none⟩ v1).setCell ⟨w5.heap.size, 2, none⟩ v2).setCell ⟨w5.heap.size, 3, none⟩ v3).setCell ⟨w5.heap.size, 4, none⟩ v4).setCell ⟨w5.heap.size, 5, none⟩ v5).cell? ⟨w3.heap.size, 2, none⟩ = some (.string ⟨m.toArray⟩) ∧ ((((((w6.setCell ⟨w5.heap.size, 0, none⟩ v0).setCell ⟨w5.heap.size, 1, none⟩ v1).setCell ⟨w5.heap.size, 2, none⟩ v2).setCell ⟨w5.heap.size, 3, none⟩ v3).setCell ⟨w5.heap.size, 4, none⟩ v4).setCell ⟨w5.heap.size, 5, none⟩ v5).cell? ⟨w3.heap.size, 1, none⟩ = some (.int .i64 (atOf toks s2.length)) := fun v0 v1 v2 v3 v4 v5 => ⟨(blk4 (far06 (by omega) HS2.out.l1 v0 v1 v2 v3 v4 v5)).2.2.1, (blk4 (far06 (by omega) HS2.out.l1 v0 v1 v2 v3 v4 v5)).2.1⟩; obtain ⟨e0, e1, e2, e3, e4, e5, ef⟩ := blk6 HS2.out.l0; have el := blk_lt HS2.out.l0; clear hO hS hR hr hm hV)))))
        all_goals
          go_wp2_with (fail)
          go_meet
          case rel =>
            first
            | (have _tk : True ∧ True := mkX
               refine ⟨w6.heap.size, ins, s7, A_i, c_i, rfl, by omega, HR2, Lib.hid ?_, Lib.hid ?_⟩
               · exact HS2.out.drop.new
               · exact Kd.R_alloc (Kd.R_lower (Kd.R_mono (Kd.R_bound HV2.out) (fun k hk => Nat.ne_of_lt hk.2.2.1)) (by show _ ≤ w5.heap.size; omega)) _)
            | (have _tk : True := mkX
               have hB9 : w5.heap.size < (w5.alloc (Obj.cells #[.string ⟨#[]⟩, .int .i64 0, .slice none 0 0, .slice none 0 0, .slice none 0 0, .slice none 0 0] 50)).drew.heap.size := by
                 show w5.heap.size < (w5.alloc _).heap.size
                 rw [World.size_alloc]
                 omega
               refine ⟨w5.heap.size, ins, s7, A_i, c_i, rfl, by omega, HR2, Lib.hid ?_, Lib.hid ?_⟩
               · exact St.set06 HS2.out.mid (by intro x hx; obtain rfl := List.mem_singleton.1 hx; show _ ≠ _; omega) _ _ _ _ _ _
               · exact Kd.R_lower (Kd.R_mono (Kd.R_bound (DcsR.kp HV2.out (Nat.le_refl _) (by repeat (first | with_reducible exact Kp.refl | (with_reducible refine Kp.store ?_ ?_; exact hB9))))) (fun k hk => Nat.ne_of_gt (Nat.lt_of_lt_of_le hB9 hk.2.1))) (Nat.le_trans lz_w5 (Nat.le_of_lt hB9)))
      case rest =>
        obtain ⟨gN, ins, s7, A_i, c_i, rfl, hgN, HR', HS', HI⟩ := hcut
        clear HR HS hS0 hS1 hS2
        have HS := HS'
        have hR := HR'.out
        rw [HC.out] at hR
        dsimp only at hR
        have HR := Lib.hid hR
        clear HR' HS' hR
        have lgN := blk_lt HS.out.l0
        have lz_wc := blk_lt HS.out.l1
        go_wp2_with (fail)
        refine (St.wants [114, 101, 116, 117, 114, 110, 115] HS.out (by first | (simp; done) | (simp; omega) | omega)).mono ?_
        rintro e w6 ⟨hO, hm⟩
        have HWw6 := Lib.hid hO
        clear hO
        cases hr : PX.want [114, 101, 116, 117, 114, 110, 115] s7 with
        | out => rw [hr] at hm; exact hm.elim
        | bad q er =>
          rw [hr] at hm
          obtain ⟨rfl, hO2⟩ := hm
          have hF := HR.out
          rw [hr] at hF
          unfold Pan
          (try simp only [Exit.inBlock, Exit.then])
          rw [← HQ.out]
          exact ⟨rfl, RdIs.bad hF hO2⟩
        | ok _u s7 =>
          rw [hr] at hm
          obtain ⟨hS, v, rfl, hV⟩ := hm
          have hR := HR.out
          rw [hr] at hR
          rw [bind_ok] at hR
          clear HR hr
          have HR := Lib.hid hR
          have HS := Lib.hid hS
          clear hR hS
          have lz_w6 : w.heap.size < w6.heap.size := blk_lt HS.out.l1
          clear hV
          have lgN_w6 := blk_lt HS.out.l0
          have q0 := HS.out.l0
          obtain ⟨q0_0, q0_1, q0_2, q0_3, q0_4, q0_5, q0_f⟩ := blk6 q0
          have q0_l := blk_lt q0
          clear q0
          go_wp2_with (fail)
          refine (St.decls_ HS.out K (by omega) (Res_in HR.out HO.out)).mono ?_
          rintro e w8 ⟨hO, hm⟩
          have HWw8 := Lib.hid hO
          clear hO
          cases hr : PX.decls K s7 with
          | out => rw [hr] at hm; exact hm.elim
          | bad q er =>
            rw [hr] at hm
            obtain ⟨rfl, hO2⟩ := hm
            have hF := HR.out
            rw [hr] at hF
            unfold Pan
            (try simp only [Exit.inBlock, Exit.then])
            rw [← HQ.out]
            exact ⟨rfl, RdIs.bad hF hO2⟩
          | ok outs s9 =>
            rw [hr] at hm
            obtain ⟨hS, v, rfl, hV⟩ := hm
            have hR := HR.out
            rw [hr] at hR
            rw [bind_ok] at hR
            clear HR hr
            have HR := Lib.hid hR
            have HS := Lib.hid hS
            clear hR hS
            have lz_w8 : w.heap.size < w8.heap.size := blk_lt HS.out.l1
            obtain ⟨A_o, c_o, hv⟩ := Kd.R_slice hV
            rw [List.length_map] at hv
            subst hv
            have HV3 := Lib.hid hV
            clear hV
            have lgN_w8 := blk_lt HS.out.l0
            have q0 := HS.out.l0
            obtain ⟨q0_0, q0_1, q0_2, q0_3, q0_4, q0_5, q0_f⟩ := blk6 q0
            have q0_l := blk_lt q0
            clear q0
            go_wp2_with (fail)
            obtain ⟨w10, hW⟩ : ∃ W, W = w8.setCell ⟨gN, 3, none⟩ (.slice A_o outs.length c_o) := ⟨_, rfl⟩
            rw [← hW]
            have hS5 : St p b toks w w10 s9 [(gN, NO m (atOf toks s2.length) (.slice A_i ins.length c_i) (.slice A_o outs.length c_o) (.slice none 0 0) (.slice none 0 0)), (w.heap.size, NZ)] := by
              rw [hW]
              exact St.setHead HS.out (by intro x hx; obtain rfl := List.mem_singleton.1 hx; show _ ≠ _; omega) 3 _
            have hz_w10 : w10.heap.size = w8.heap.size := by rw [hW]; simp [World.setCell]
            have HKw10 := Lib.hid (fun (n : Nat) (W0 : World) (hq : Kq n gN W0 w8) => (hW ▸ Kq.store (j := 3) (v := .slice A_o outs.length c_o) hq : Kq n gN W0 w10))
            clear hW HS q0_0 q0_1 q0_2 q0_3 q0_4 q0_5 q0_f q0_l
            have HS := Lib.hid hS5
            clear hS5
            have lgN_w10 := blk_lt HS.out.l0
            have lz_w10 := blk_lt HS.out.l1
            refine (St.vars_ HS.out K (by omega) (Res_in HR.out HO.out)).mono ?_
            rintro e w11 ⟨hO, hm⟩
            have HWw11 := Lib.hid hO
            clear hO
            cases hr : PX.vars K s9 with
            | out => rw [hr] at hm; exact hm.elim
            | bad q er =>
              rw [hr] at hm
              obtain ⟨rfl, hO2⟩ := hm
              have hF := HR.out
              rw [hr] at hF
              unfold Pan
              (try simp only [Exit.inBlock, Exit.then])
              rw [← HQ.out]
              exact ⟨rfl, RdIs.bad hF hO2⟩
            | ok vs s12 =>
              rw [hr] at hm
              obtain ⟨hS, v, rfl, hV⟩ := hm
              have hR := HR.out
              rw [hr] at hR
              rw [bind_ok] at hR
              clear HR hr
              have HR := Lib.hid hR
              have HS := Lib.hid hS
              clear hR hS
              have lz_w11 : w.heap.size < w11.heap.size := blk_lt HS.out.l1
              obtain ⟨A_v, c_v, hv⟩ := Kd.R_slice hV
              rw [List.length_map] at hv
              subst hv
              have HV4 := Lib.hid hV
              clear hV
              have lgN_w11 := blk_lt HS.out.l0
              have q0 := HS.out.l0
              obtain ⟨q0_0, q0_1, q0_2, q0_3, q0_4, q0_5, q0_f⟩ := blk6 q0
              have q0_l := blk_lt q0
              clear q0
              go_wp2_with (fail)
              obtain ⟨w13, hW⟩ : ∃ W, W = w11.setCell ⟨gN, 4, none⟩ (.slice A_v vs.length c_v) := ⟨_, rfl⟩
              rw [← hW]
              have hS5 : St p b toks w w13 s12 [(gN, NO m (atOf toks s2.length) (.slice A_i ins.length c_i) (.slice A_o outs.length c_o) (.slice A_v vs.length c_v) (.slice none 0 0)), (w.heap.size, NZ)] := by
                rw [hW]
                exact St.setHead HS.out (by intro x hx; obtain rfl := List.mem_singleton.1 hx; show _ ≠ _; omega) 4 _
              have hz_w13 : w13.heap.size = w11.heap.size := by rw [hW]; simp [World.setCell]
              have HKw13 := Lib.hid (fun (n : Nat) (W0 : World) (hq : Kq n gN W0 w11) => (hW ▸ Kq.store (j := 4) (v := .slice A_v vs.length c_v) hq : Kq n gN W0 w13))
              clear hW HS q0_0 q0_1 q0_2 q0_3 q0_4 q0_5 q0_f q0_l
              have HS := Lib.hid hS5
              clear hS5
              have lgN_w13 := blk_lt HS.out.l0
              have lz_w13 := blk_lt HS.out.l1
              refine (St.wants [108, 101, 116] HS.out (by first | (simp; done) | (simp; omega) | omega)).mono ?_
              rintro e w14 ⟨hO, hm⟩
              have HWw14 := Lib.hid hO
              clear hO
              cases hr : PX.want [108, 101, 116] s12 with
              | out => rw [hr] at hm; exact hm.elim
              | bad q er =>
                rw [hr] at hm
                obtain ⟨rfl, hO2⟩ := hm
                have hF := HR.out
                rw [hr] at hF
                unfold Pan
                (try simp only [Exit.inBlock, Exit.then])
                rw [← HQ.out]
                exact ⟨rfl, RdIs.bad hF hO2⟩
              | ok _u s15 =>
                rw [hr] at hm
                obtain ⟨hS, v, rfl, hV⟩ := hm
                have hR := HR.out
                rw [hr] at hR
                rw [bind_ok] at hR
                clear HR hr
                have HR := Lib.hid hR
                have HS := Lib.hid hS
                clear hR hS
                have lz_w14 : w.heap.size < w14.heap.size := blk_lt HS.out.l1
                clear hV
                have lgN_w14 := blk_lt HS.out.l0
                have hI2 : k147.R 147 w14 (w.heap.size + 1) (fun q => q ≠ gN) (.slice A_i ins.length c_i) (ins.map (realD toks)) := DcsR.kq HI.out (Nat.le_refl _) (by repeat (first | with_reducible exact Kq.refl | with_reducible apply Kq.alloc | with_reducible apply Kq.drew | (with_reducible refine Kq.only ?_ HWw14.out ?_; omega) | with_reducible refine HKw13.out _ _ ?_ | (with_reducible refine Kq.only ?_ HWw11.out ?_; omega) | with_reducible refine HKw10.out _ _ ?_ | (with_reducible refine Kq.only ?_ HWw8.out ?_; omega) | (with_reducible refine Kq.only ?_ HWw6.out ?_; omega)))
                have hO2 : k147.R 147 w14 (w.heap.size + 1) (fun q => q ≠ gN) (.slice A_o outs.length c_o) (outs.map (realD toks)) := DcsR.kq (n1 := w.heap.size + 1) (Kd.R_lower (Kd.R_mono (Kd.R_bound HV3.out) (fun k hk => Nat.ne_of_gt (Nat.lt_of_lt_of_le (by omega) hk.2.1))) (by omega)) (Nat.le_refl _) (by repeat (first | with_reducible exact Kq.refl | with_reducible apply Kq.alloc | with_reducible apply Kq.drew | (with_reducible refine Kq.only ?_ HWw14.out ?_; omega) | with_reducible refine HKw13.out _ _ ?_ | (with_reducible refine Kq.only ?_ HWw11.out ?_; omega) | with_reducible refine HKw10.out _ _ ?_ | (with_reducible refine Kq.only ?_ HWw8.out ?_; omega) | (with_reducible refine Kq.only ?_ HWw6.out ?_; omega)))
                have hV2 : k147.R 147 w14 (w.heap.size + 1) (fun q => q ≠ gN) (.slice A_v vs.length c_v) (vs.map (realD toks)) := DcsR.kq (n1 := w.heap.size + 1) (Kd.R_lower (Kd.R_mono (Kd.R_bound HV4.out) (fun k hk => Nat.ne_of_gt (Nat.lt_of_lt_of_le (by omega) hk.2.1))) (by omega)) (Nat.le_refl _) (by repeat (first | with_reducible exact Kq.refl | with_reducible apply Kq.alloc | with_reducible apply Kq.drew | (with_reducible refine Kq.only ?_ HWw14.out ?_; omega) | with_reducible refine HKw13.out _ _ ?_ | (with_reducible refine Kq.only ?_ HWw11.out ?_; omega) | with_reducible refine HKw10.out _ _ ?_ | (with_reducible refine Kq.only ?_ HWw8.out ?_; omega) | (with_reducible refine Kq.only ?_ HWw6.out ?_; omega)))
                have HRWS := Lib.hid (And.intro (DcsR.bd hI2) (And.intro (DcsR.bd hO2) (DcsR.bd hV2)))
                clear hI2 hO2 hV2 HI HV3 HV4
                obtain ⟨C3, hC3⟩ : ∃ C3 : List PX.Eq → List PX.T → PX.Res PX.Nd, C3 = fun qs s8 => (PX.want [116, 101, 108] s8).bind fun _ s9 => .ok ⟨m, s2.length, ins, outs, vs, qs⟩ s9 := ⟨_, rfl⟩
                have hR : eqsGo K C3 [] K s15 = R := by rw [← eqsGo_first, hC3]; exact HR.out
                clear HR
                have HR := Lib.hid hR
                have HC3 := Lib.hid hC3
                clear hR hC3
                go_wp2_with (fail)
                go_loopg [] (K + 1) (fun m9 wr => ∃ kk done s' A c, m9 = kk + 1 ∧ done.length + kk ≤ K ∧ w14.heap.size ≤ wr.heap.size ∧ Hid (eqsGo K C3 done kk s' = R) ∧ Hid (St p b toks w wr s' [(gN, NO m (atOf toks s2.length) (.slice A_i ins.length c_i) (.slice A_o outs.length c_o) (.slice A_v vs.length c_v) (.slice A done.length c)), (w.heap.size, NZ)]) ∧ Hid (k147.R 147 wr (w.heap.size + 1) (fun q => q ≠ gN ∧ q < w14.heap.size) (.slice A_i ins.length c_i) (ins.map (realD toks)) ∧ k147.R 147 wr (w.heap.size + 1) (fun q => q ≠ gN ∧ q < w14.heap.size) (.slice A_o outs.length c_o) (outs.map (realD toks)) ∧ k147.R 147 wr (w.heap.size + 1) (fun q => q ≠ gN ∧ q < w14.heap.size) (.slice A_v vs.length c_v) (vs.map (realD toks))) ∧ Hid (k56.R 56 wr w14.heap.size (fun q => q ≠ gN) (.slice A done.length c) (done.map (realQ toks))))
                case atStart => exact ⟨K, [], _, none, 0, rfl, by simp, Nat.le_refl _, HR, HS, HRWS, Lib.hid (Kd.R_nil _ _ _ _ _)⟩
                case round =>
                  obtain ⟨kk, done, s', A_r, c_r, rfl, hkk, hM9, HR', HS', HD, HE⟩ := hrel
                  clear HR HS HRWS
                  have HR := HR'
                  have HS := HS'
                  clear HR' HS'
                  cases kk with
                  | zero =>
                    have h0 := HR.out
                    rw [eqsGo_zero] at h0
                    have h1 := HO.out
                    rw [← h0] at h1
                    cases h1
                  | succ kk =>
                    have hR := HR.out
                    rw [eqsGo_next] at hR
                    clear HR
                    have HR := Lib.hid hR
                    clear hR
                    have lgN_r := blk_lt HS.out.l0
                    have lz_r := blk_lt HS.out.l1
                    go_wp2_with (fail)
                    refine (St.iss [[116, 101, 108]] HS.out (by first | (simp; done) | (simp; omega) | omega) (by decide)).mono ?_
                    rintro e w16 ⟨hO, hS, rfl⟩
                    have HWw16 := Lib.hid hO
                    clear hO
                    obtain ⟨B, hB⟩ : ∃ B, PX.is [[116, 101, 108]] s' = B := ⟨_, rfl⟩
                    rw [hB]
                    have hR := HR.out
                    rw [hB] at hR
                    have HBw16 := Lib.hid hB
                    clear HR hB
                    have HS := Lib.hid hS
                    clear hS
                    cases B with
                    | false =>
                      simp only [Bool.false_eq_true, if_false] at hR
                      have HR := Lib.hid hR
                      clear hR
                      have lz_w16 : w.heap.size < w16.heap.size := blk_lt HS.out.l1
                      go_wp2_with (fail)
                      have hS0 : (w16.drew).cell? ⟨gN, 5, none⟩ = some (.slice A_r done.length c_r) := (blk6 HS.out.drew.l0).2.2.2.2.2.1
                      have hSf : ∀ j, w16.frozen? ⟨gN, j, none⟩ = false := (blk6 HS.out.l0).2.2.2.2.2.2
                      have lgS : gN < w16.heap.size := blk_lt HS.out.l0
                      have hnb : ∀ q, (Value.slice A_r done.length c_r).ownBlock = some q → q < w16.heap.size := fun q hq => Nat.lt_of_lt_of_le ((Kd.R_bound HE.out).1 q hq).2.2.1 (by have := HWw16.out.size; exact this)
                      have hng : ∀ q, (Value.slice A_r done.length c_r).ownBlock = some q → q ≠ gN := fun q hq => ((Kd.R_bound HE.out).1 q hq).1
                      have hnw : ∀ q, (Value.slice A_r done.length c_r).ownBlock = some q → w14.heap.size ≤ q := fun q hq => ((Kd.R_bound HE.out).1 q hq).2.1
                      have HNB := Lib.hid (And.intro hnb (And.intro hng hnw))
                      have HIN := Lib.hid (Res_in HR.out HO.out)
                      have hsz14 : w14.heap.size ≤ w16.heap.size := Nat.le_trans hM9 HWw16.out.size
                      have hlen2 : ((done.map (realQ toks)).length + 1) * 104 ≤ 140737488355328 := by rw [List.length_map]; omega
                      have HL2 := Lib.hid hlen2
                      have hlM : (done.map (realQ toks)).length = done.length := List.length_map _
                      have HLM := Lib.hid hlM
                      clear hnb hng hnw hlen2 hlM
                      have hY5 := (blk6 HS.out.l0).2.2.2.2.2.1
                      go_region_law
                        (first
                        | (go_simp; go_at_call 84; go_must (refine (St.eq_ HS.out.drew K hK HIN.out).mono ?_; rintro e w17 ⟨hO, hm⟩; refine Told.part hm ?_ ?_; (focus intro q er hr he hO2; subst he; have hF := HR.out; rw [hr] at hF; unfold Pan; (try simp only [Exit.inBlock, Exit.then]); rw [← HQ.out]; exact ⟨rfl, RdIs.bad hF hO2⟩); intro y s18 hr hS v he hV; have hR := HR.out; rw [hr, bind_ok] at hR; have HR2 := Lib.hid hR; obtain ⟨A_l, n_l, c_l, A_y, n_y, c_y, rfl, hM⟩ := hV.cells; subst he; have HM_y := Lib.hid (k56.M_lower (base' := w16.heap.size) (Nat.le_refl _) hM); have HS2 := Lib.hid hS; have HW2 := Lib.hid hO; have hS1 : w17.cell? ⟨gN, 5, none⟩ = some (.slice A_r done.length c_r) := (blk6 HS2.out.l0).2.2.2.2.2.1; have hS2 : ∀ o, (w17.alloc o).cell? ⟨gN, 5, none⟩ = some (.slice A_r done.length c_r) := fun o => (blk6 HS2.out.alloc.l0).2.2.2.2.2.1; have HRW2 := Lib.hid (EqsR.kq (n0 := w14.heap.size) (W' := w17) HE.out (Nat.le_refl _) (by repeat (first | with_reducible exact Kq.refl | with_reducible apply Kq.alloc | with_reducible apply Kq.drew | with_reducible apply Kq.drewN | (with_reducible refine Kq.only ?_ HWw16.out ?_; omega) | (with_reducible refine Kq.only ?_ HW2.out ?_; omega)))); have l_2 : w16.heap.size ≤ w17.heap.size := HW2.out.size; clear hO hS hM hV hr hR hm))
                        | (refine Kd.R_append_rows_step k56 (w0 := w17) (Rr := fun x' cs' => x' = realQ toks y ∧ cs' = [.slice A_l n_l c_l, .bool y.async, .int .i64 y.e.kind, .int .i64 (atOf toks y.e.place), .int .i64 y.e.n, .string ⟨y.e.name.toArray⟩, .bool y.e.off, .slice A_y n_y c_y]) w14.heap.size (by rfl) (.tmp 44) (.tmp 47) 48 56 _ 104 (by rfl) Tryz.underlying48 info_eq rfl (by decide) (by decide) (.slice A_r done.length c_r) (done.map (realQ toks)) [realQ toks y] (some ⟨w17.heap.size, 0, none⟩) 1 1 (fun q => q ≠ gN) (fun q => w16.heap.size ≤ q) (by rfl) (by rfl) ?aO ?aR ?aK ?aH ?aF ?aB ?aS ?aL ?_; (case aO => exact Kd.R_alloc HRW2.out _); (case aR => exact reads_onek k56 (blk_new _ _) rfl); (case aK => exact (fun x' cs' hx => by obtain ⟨rfl, rfl⟩ := hx; exact Kd.M_below (k56.M_lower (by omega) (k56.M_mono (fun q hq => hq.2.1) (k56.M_bound HM_y.out))) (below_alloc (Below.refl _ _) _))); (case aH => exact (fun q hq => ⟨Nat.ne_of_gt (Nat.lt_of_lt_of_le lgS hq), fun e => Nat.lt_irrefl _ (Nat.lt_of_lt_of_le (HNB.out.1 q e.symm) hq)⟩)); (case aF => exact (fun q hq => Nat.ne_of_gt (Nat.lt_of_lt_of_le lgS (Nat.le_trans l_2 (Nat.le_trans (Nat.le_of_lt (by simp)) hq))))); (case aB => exact (below_alloc (Below.refl _ _) _).mono (by omega)); (case aS => (simp; omega)); (case aL => exact HL2.out); intro v1 w9 hR1 hb1 hg1 hat1; obtain ⟨A9, c9, hv⟩ := Kd.R_slice hR1; have hln : (done.map (realQ toks) ++ [realQ toks y]).length = done.length + 1 := (by rw [List.length_append, HLM.out]; rfl); rw [hln] at hv; subst hv; have hBK : w9.heap[gN]? = some (NO m (atOf toks s2.length) (.slice A_i ins.length c_i) (.slice A_o outs.length c_o) (.slice A_v vs.length c_v) (.slice A_r done.length c_r)) := (hg1.block gN (blk_lt HS2.out.alloc.l0) (fun e => HNB.out.2.1 gN e.symm rfl)).trans HS2.out.alloc.l0; have hS3 := (blk6 hBK).2.2.2.2.2.1; have hSf3 := (blk6 hBK).2.2.2.2.2.2; have HBK := Lib.hid hBK; have HR1 := Lib.hid hR1; have HG1 := Lib.hid hg1; clear hR1 hb1 hg1 hat1 hBK))
                      all_goals
                        have hS9 : St p b toks w w9 s18 [(gN, NO m (atOf toks s2.length) (.slice A_i ins.length c_i) (.slice A_o outs.length c_o) (.slice A_v vs.length c_v) (.slice A_r done.length c_r)), (w.heap.size, NZ)] := St.grown2 HS2.out.alloc HG1.out (fun q hq => ⟨by have := HNB.out.2.2 q hq; omega, fun x hx => by
                          have h1 := HNB.out.2.1 q hq
                          have h2 := HNB.out.2.2 q hq
                          rcases List.mem_cons.1 hx with rfl | hx
                          · exact fun e => h1 e.symm
                          · obtain rfl := List.mem_singleton.1 hx
                            show w.heap.size ≠ q
                            omega⟩)
                        have hS9' : St p b toks w (w9.setCell ⟨gN, 5, none⟩ (.slice A9 (done.length + 1) c9)) s18 [(gN, NO m (atOf toks s2.length) (.slice A_i ins.length c_i) (.slice A_o outs.length c_o) (.slice A_v vs.length c_v) (.slice A9 (done.length + 1) c9)), (w.heap.size, NZ)] := St.setHead hS9 (by intro x hx; obtain rfl := List.mem_singleton.1 hx; show _ ≠ _; omega) 5 _
                        have hR9 := EqsR.kq HR1.out (Nat.le_refl _) (Kq.store (j := 5) (v := .slice A9 (done.length + 1) c9) Kq.refl)
                        have hKf : ∀ q, w.heap.size + 1 ≤ q → q ≠ gN → q < w14.heap.size → q < wr.heap.size → (w9.setCell ⟨gN, 5, none⟩ (.slice A9 (done.length + 1) c9)).heap[q]? = wr.heap[q]? := fun q h1 h2 h3 h4 => by
                          have k1 : (w17.alloc (Obj.cells #[.slice A_l n_l c_l, .bool y.async, .int .i64 y.e.kind, .int .i64 (atOf toks y.e.place), .int .i64 y.e.n, .string ⟨y.e.name.toArray⟩, .bool y.e.off, .slice A_y n_y c_y] 56)).heap[q]? = wr.heap[q]? := (show Kq (w.heap.size + 1) gN wr _ by repeat (first | with_reducible exact Kq.refl | with_reducible apply Kq.alloc | with_reducible apply Kq.drew | with_reducible apply Kq.drewN | (with_reducible refine Kq.only ?_ HWw16.out ?_; omega) | (with_reducible refine Kq.only ?_ HW2.out ?_; omega))).keep q h1 h2 h4
                          have k2 := HWw16.out.size
                          have k3 := HG1.out.block q (by rw [World.size_alloc]; omega) (fun e => absurd (HNB.out.2.2 q e.symm) (by omega))
                          exact ((Below.heap_setCell w9 ⟨gN, 5, none⟩ _ q h2).trans k3).trans k1
                        have hD9 := And.intro (DcsR.kf HD.out.1 hKf) (And.intro (DcsR.kf HD.out.2.1 hKf) (DcsR.kf HD.out.2.2 hKf))
                        have hz9 : w14.heap.size ≤ (w9.setCell ⟨gN, 5, none⟩ (.slice A9 (done.length + 1) c9)).heap.size := by
                          have k1 := HG1.out.size
                          have k2 := HW2.out.size
                          rw [World.size_alloc] at k1
                          have k3 : (w9.setCell ⟨gN, 5, none⟩ (.slice A9 (done.length + 1) c9)).heap.size = w9.heap.size := by simp [World.setCell]
                          have k4 : (w16.drew).heap.size = w16.heap.size := rfl
                          omega
                        obtain ⟨w19, hW⟩ : ∃ W, W = w9.setCell ⟨gN, 5, none⟩ (.slice A9 (done.length + 1) c9) := ⟨_, rfl⟩
                        rw [← hW] at hS9' hR9 hD9 hz9 ⊢
                        clear hS9 hKf hW HS HR
                        have HS := Lib.hid hS9'
                        have HR9 := Lib.hid hR9
                        have HD9 := Lib.hid hD9
                        have HR := HR2
                        clear hS9' hR9 hD9 HR2 HS2 HBK HR1 HG1 hS1 hS2 hS3 hSf3 hY5 hS0 hSf
                        go_wp2_with (fail)
                        go_roundg (kk + 1)
                        case measure => omega
                        case rel =>
                          have hl : (done ++ [y]).length = done.length + 1 := by simp
                          refine ⟨kk, done ++ [y], s18, A9, c9, rfl, by omega, hz9, HR, ?_, ?_, ?_⟩
                          · rw [hl]
                            exact HS
                          · exact HD9
                          · rw [hl, List.map_append]
                            exact HR9
                    | true =>
                      simp only [if_true] at hR
                      have HR := Lib.hid hR
                      clear hR
                      have lz_w16 : w.heap.size < w16.heap.size := blk_lt HS.out.l1
                      have hR := HR.out
                      rw [HC3.out] at hR
                      dsimp only at hR
                      clear HR
                      have HR := Lib.hid hR
                      clear hR
                      have lgN_w16 := blk_lt HS.out.l0
                      go_wp2_with (fail)
                      refine (St.wants [116, 101, 108] HS.out (by first | (simp; done) | (simp; omega) | omega)).mono ?_
                      rintro e w20 ⟨hO, hm⟩
                      have HWw20 := Lib.hid hO
                      clear hO
                      cases hr : PX.want [116, 101, 108] s' with
                      | out => rw [hr] at hm; exact hm.elim
                      | bad q er =>
                        rw [hr] at hm
                        obtain ⟨rfl, hO2⟩ := hm
                        have hF := HR.out
                        rw [hr] at hF
                        unfold Pan
                        (try simp only [Exit.inBlock, Exit.then])
                        rw [← HQ.out]
                        exact ⟨rfl, RdIs.bad hF hO2⟩
                      | ok _u s21 =>
                        rw [hr] at hm
                        obtain ⟨hS, v, rfl, hV⟩ := hm
                        have hR := HR.out
                        rw [hr] at hR
                        rw [bind_ok] at hR
                        clear HR hr
                        have HR := Lib.hid hR
                        have HS := Lib.hid hS
                        clear hR hS
                        have lz_w20 : w.heap.size < w20.heap.size := blk_lt HS.out.l1
                        clear hV
                        have lgN_w20 := blk_lt HS.out.l0
                        have q0 := HS.out.l0
                        obtain ⟨q0_0, q0_1, q0_2, q0_3, q0_4, q0_5, q0_f⟩ := blk6 q0
                        have q0_l := blk_lt q0
                        clear q0
                        have q1 := HS.out.l1
                        obtain ⟨q1_0, q1_1, q1_2, q1_3, q1_4, q1_5, q1_f⟩ := blk6 q1
                        have q1_l := blk_lt q1
                        clear q1
                        go_wp2_with (fail)
                        (try simp only [Exit.inBlock, Exit.then])
                        refine bodyPost_ret (results_cell_row rfl _ _ w.heap.size 50 _ (0, 0) _ rfl (blk_set6 HS.out.l1 _ _ _ _ _ _) Tryz.underlying50 rfl (by kernel_rfl)) rfl ?_
                        rw [← HQ.out]
                        refine RdIs.ok HR.out (St.only (b := b) (toks := toks) (s := s21) (l := []) ?_) (St.pat (w := w) (l := []) ?_) ⟨_, rfl, ?_⟩
                        · repeat (first | with_reducible exact (HS.out.sub (fun x hx => by simp at hx)) | with_reducible apply St.alloc | with_reducible apply St.drewN | with_reducible apply St.drew | (with_reducible refine St.store ?_ ?_ ?_; omega; (intro x hx; simp at hx)))
                        · repeat (first | with_reducible exact (HS.out.sub (fun x hx => by simp at hx)) | with_reducible apply St.alloc | with_reducible apply St.drewN | with_reducible apply St.drew | (with_reducible refine St.store ?_ ?_ ?_; omega; (intro x hx; simp at hx)))
                        · exact k50_mkM _ _ _ (realN toks ⟨m, s2.length, ins, outs, vs, done⟩) (Kd.R_lower (Kd.R_mono (DcsR.kq (Kd.R_mono HD.out.1 (fun k hk => hk.1)) (Nat.le_refl _) (by repeat (first | with_reducible exact Kq.refl | with_reducible apply Kq.alloc | with_reducible apply Kq.drew | (with_reducible refine Kq.low ?_ ?_; omega) | (with_reducible refine Kq.only ?_ HWw20.out ?_; omega) | (with_reducible refine Kq.only ?_ HWw16.out ?_; omega)))) (fun _ _ => trivial)) (Nat.le_succ _)) (Kd.R_lower (Kd.R_mono (DcsR.kq (Kd.R_mono HD.out.2.1 (fun k hk => hk.1)) (Nat.le_refl _) (by repeat (first | with_reducible exact Kq.refl | with_reducible apply Kq.alloc | with_reducible apply Kq.drew | (with_reducible refine Kq.low ?_ ?_; omega) | (with_reducible refine Kq.only ?_ HWw20.out ?_; omega) | (with_reducible refine Kq.only ?_ HWw16.out ?_; omega)))) (fun _ _ => trivial)) (Nat.le_succ _)) (Kd.R_lower (Kd.R_mono (DcsR.kq (Kd.R_mono HD.out.2.2 (fun k hk => hk.1)) (Nat.le_refl _) (by repeat (first | with_reducible exact Kq.refl | with_reducible apply Kq.alloc | with_reducible apply Kq.drew | (with_reducible refine Kq.low ?_ ?_; omega) | (with_reducible refine Kq.only ?_ HWw20.out ?_; omega) | (with_reducible refine Kq.only ?_ HWw16.out ?_; omega)))) (fun _ _ => trivial)) (Nat.le_succ _)) (Kd.R_lower (Kd.R_mono (EqsR.kq HE.out (Nat.le_refl _) (by repeat (first | with_reducible exact Kq.refl | with_reducible apply Kq.alloc | with_reducible apply Kq.drew | (with_reducible refine Kq.low ?_ ?_; omega) | (with_reducible refine Kq.only ?_ HWw20.out ?_; omega) | (with_reducible refine Kq.only ?_ HWw16.out ?_; omega)))) (fun _ _ => trivial)) (by omega))
end Go.Proofs.YtjafllnbgfcchaaGreatDoor.Px
end
section
/- What parse.Program's closure does: nodes are read up to the end, and laid in a variable. -/
namespace Go.Proofs.YtjafllnbgfcchaaGreatDoor.Px
set_option linter.unusedVariables false
set_option linter.unusedSimpArgs false
open Go Go.RowKit Go.Proofs.YtjafllnbgfcchaaGreatDoorW.PrintWords Go.Proofs.YtjafllnbgfcchaaGreatDoorW.PrintLast Go.Proofs.YtjafllnbgfcchaaGreatDoorW.PrintMore Go.Proofs.YtjafllnbgfcchaaGreatDoor.Lx Go.Proofs.YtjafllnbgfcchaaGreatDoor.XK
attribute [local go_sem ↓] Go.wp_at_zero Go.wp_at_succ
def nodesGo (K : Nat) (done : List PX.Nd) (k : Nat) (s : List PX.T) : PX.Res (List PX.Nd) := (PX.nodesL K k s).bind fun l s1 => .ok (done ++ l) s1
theorem nodesGo_zero (K : Nat) (done : List PX.Nd) (s : List PX.T) : nodesGo K done 0 s = .out := rfl
theorem nodesGo_next (K : Nat) (done : List PX.Nd) (k : Nat) (s : List PX.T) : nodesGo K done (k + 1) s = if ((PX.peek s).kind == 5) = true then .ok done s else (PX.node K s).bind fun x s1 => nodesGo K (done ++ [x]) k s1 := by
 unfold nodesGo
 rw [PX.nodesL, bind_ite, bind_assoc_]
 congr 1
 ·simp [PX.Res.bind]
 ·congr 1
  funext q s1
  rw [bind_assoc_]
  congr 1
  funext l s2
  simp [PX.Res.bind]
theorem nodes_go (K : Nat) (s : List PX.T) : PX.nodes K s = (PX.node K s).bind fun x s1 => nodesGo K ([] ++ [x]) K s1 := by
 unfold PX.nodes nodesGo
 rfl
theorem RdIs.part {α : Type} {p b : Nat} {toks : List LX.Tok} {w w' : World} {r : PX.Res α} {V : World → α → Value → Prop} {e : Ending} {C : Prop} (h : RdIs p b toks w r V e w')
  (hbad : ∀ q er, r = .bad q er → e = Pan toks q er → Only p w w' → C) (hok : ∀ x s', r = .ok x s' → Only p w w' → PAt w' p b toks s' → ∀ v, e = .returned v → V w' x v → C) : C := by
 obtain ⟨hO, h⟩ := h
 cases r with
 | out => exact h.elim
 | bad q er => exact hbad q er rfl h hO
 | ok x s' => exact hok x s' rfl hO h.1 _ h.2.choose_spec.1 h.2.choose_spec.2
theorem DoneIs.bad {α : Type} {p b q er : Nat} {toks : List LX.Tok} {w' : World} {r : PX.Res α} {V : World → α → Prop} (h : PX.Res.bad q er = r) : DoneIs p b toks w' r V (Pan toks q er) := by
 subst h
 rfl
theorem NdV.cells {toks : List LX.Tok} {n0 : Nat} {w : World} {q : PX.Nd} {v : Value} (h : NdV toks n0 w q v) : ∃ c2 c3 c4 c5, v = .agg #[.string ⟨q.name.toArray⟩, .int .i64 (atOf toks q.place), c2, c3, c4, c5] ∧
  k50.M w n0 (fun _ => True) (realN toks q) [.string ⟨q.name.toArray⟩, .int .i64 (atOf toks q.place), c2, c3, c4, c5] := by
 obtain ⟨c, rfl, hM⟩ := h
 obtain ⟨v2, v3, v4, v5, rfl, _⟩ := k50_openM hM
 exact ⟨_, _, _, _, rfl, hM⟩
def ProgV (o : Nat) (toks : List LX.Tok) (n1 : Nat) (W : World) (l : List PX.Nd) : Prop := ∃ A c, W.heap[o]? = some (.cells #[.slice A l.length c] 24 (0, 0)) ∧ k50.R 50 W n1 (fun _ => True) (.slice A l.length c) (l.map (realN toks))
theorem ProgV.move {o : Nat} {toks : List LX.Tok} {n1 : Nat} {W W' : World} {l : List PX.Nd} (h : ProgV o toks n1 W l) (hk : ∀ i, n1 ≤ i → i < W.heap.size → W'.heap[i]? = W.heap[i]?) (ho : W'.heap[o]? = W.heap[o]?) : ProgV o toks n1 W' l := by
 obtain ⟨A, c, hb, hR⟩ := h
 exact ⟨A, c, ho.trans hb, Kd.R_mono (Kd.R_move (Kd.R_bound hR) (fun k hk' => hk k hk'.2.1 hk'.2.2.1)) (fun _ _ => trivial)⟩
theorem NdsR.kp {n0 n1 : Nat} {W W' : World} {v : Value} {xs : List S50} (h : k50.R 50 W n1 (fun _ => True) v xs) (hn : n0 ≤ n1) (hk : Kp n1 W W') : k50.R 50 W' n0 (fun _ => True) v xs :=
 Kd.R_lower (Kd.R_mono (Kd.R_move (Kd.R_bound h) (fun k hk' => hk.keep k hk'.2.1 hk'.2.2.1)) (fun _ _ => trivial)) hn
structure At2 (p b o : Nat) (toks : List LX.Tok) (w W : World) (s : List PX.T) (A : Option Addr) (c : Nat) (done : List PX.Nd) : Prop where
 sp : Spares [p, o] w W
 pat : PAt W p b toks s
 box : W.heap[o]? = some (.cells #[.slice A done.length c] 24 (0, 0))
 row : k50.R 50 W w.heap.size (fun _ => True) (.slice A done.length c) (done.map (realN toks))
theorem At2.low {p b o : Nat} {toks : List LX.Tok} {w W : World} {s s' : List PX.T} {A : Option Addr} {c : Nat} {done : List PX.Nd} (h : At2 p b o toks w W s A c done) {W' : World} (hop : o ≠ p) (hp : p < w.heap.size) (hO : Only p W W') (hP : PAt W' p b toks s') : At2 p b o toks w W' s' A c done :=
 ⟨h.sp.trans (Spares.of_only hO (by simp)), hP, hO.blk h.box hop, NdsR.kp h.row (Nat.le_refl _) ⟨hO.size, fun k h1 h2 => hO.keep k h2 (by omega)⟩⟩
theorem At2.below {p b o : Nat} {toks : List LX.Tok} {w W : World} {s : List PX.T} {A : Option Addr} {c : Nat} {done : List PX.Nd} (h : At2 p b o toks w W s A c done) {W' : World} (hb : Below W.heap.size W W') : At2 p b o toks w W' s A c done :=
 ⟨h.sp.trans (Spares.of_below hb), h.pat.below hb, blk_below h.box hb, Kd.R_below h.row hb⟩
theorem At2.grow {p b o : Nat} {toks : List LX.Tok} {w W W9 : World} {s : List PX.T} {A A9 : Option Addr} {c c9 : Nat} {done : List PX.Nd} {x : PX.Nd} {old : Value} (h : At2 p b o toks w W s A c done) (hop : o ≠ p) (hob : o ≠ b) (hpw : p < w.heap.size) (hbw : b < w.heap.size) (how : o < w.heap.size)
  (hg : W.grownBy W9 old.ownBlock) (hold : ∀ q, old.ownBlock = some q → w.heap.size ≤ q) (hR : k50.R 50 W9 w.heap.size (fun _ => True) (.slice A9 (done ++ [x]).length c9) ((done ++ [x]).map (realN toks))) :
  At2 p b o toks w (W9.setCell ⟨o, 0, none⟩ (.slice A9 (done ++ [x]).length c9)) s A9 c9 (done ++ [x]) := by
 have hk : ∀ q, q < w.heap.size → W9.heap[q]? = W.heap[q]? := fun q hq => hg.block q (Nat.lt_of_lt_of_le hq h.sp.size) (fun e => by have := hold q e.symm; omega)
 have hs : Spares [p, o] w W9 := ⟨hg.os.trans h.sp.os, hg.tape.trans h.sp.tape, hg.output.trans h.sp.output, Nat.le_trans h.sp.size hg.size, fun i hi hn => (hk i hi).trans (h.sp.keep i hi hn)⟩
 obtain ⟨c0, k0, hc0⟩ := h.pat.blk
 refine ⟨Spares.store (.inr (by simp)) hs, ?_, ?_, ?_⟩
 ·refine PAt.store' hop hob ⟨⟨c0, k0, (hk p hpw).trans hc0.1, hc0.2⟩, h.pat.row.heap (hk b hbw), h.pat.good, h.pat.ne, Nat.lt_of_lt_of_le h.pat.lt hg.size, h.pat.few, h.pat.nums⟩
 ·exact blk_put ((hk o how).trans h.box) 0 _ rfl
 ·exact NdsR.kp hR (Nat.le_refl _) (Kp.store how Kp.refl)
set_option maxHeartbeats 8000000 in
set_option maxRecDepth 100000 in
theorem prog1_walk {p b o K : Nat} {toks : List LX.Tok} {s : List PX.T} {w : World} (hK : K ≤ 900000) (h : PAt w p b toks s) (hout : (PX.nodes K s).isOut = false)
  (ho : w.heap[o]? = some (.cells #[.slice none 0 0] 24 (0, 0))) (hop : o ≠ p) (hob : o ≠ b) :
  Calls Tryz.prog 42 #[.pointer (some ⟨p, 0, none⟩), .pointer (some ⟨o, 0, none⟩)] w fun e w' => Spares [p, o] w w' ∧ DoneIs p b toks w' (PX.nodes K s) (ProgV o toks w.heap.size) e := by
 obtain ⟨R, hR⟩ : ∃ R, PX.nodes K s = R := ⟨_, rfl⟩
 rw [hR] at hout ⊢
 rw [nodes_go] at hR
 obtain ⟨Q, hQ⟩ : ∃ Q : Ending → World → Prop, Q = fun e w' => Spares [p, o] w w' ∧ DoneIs p b toks w' R (ProgV o toks w.heap.size) e := ⟨_, rfl⟩
 rw [← hQ]
 have HQ := Lib.hid hQ
 have HR := Lib.hid hR
 have HOT := Lib.hid hout
 have hol := blk_lt ho
 have hpl := h.plt
 have hbl := h.lt
 have HNE := Lib.hid (And.intro hop hob)
 have HT := Lib.hid (show At2 p b o toks w w s none 0 [] from ⟨Spares.refl, h, ho, Kd.R_nil _ _ _ _ _⟩)
 clear hQ hR h hout ho hop hob
 have hfd0 := fld0
 go_enter Tryz.func42, Tryz.ntmps42
 go_wp2_with (fail)
 have hS0 : (w.drew).cell? ⟨o, 0, none⟩ = some (.slice none ([] : List PX.Nd).length 0) := blk_cell (t := 24) (show (w.drew).heap[o]? = some (.cells #[.slice none ([] : List PX.Nd).length 0] 24 (0, 0)) from HT.out.box) 0
 have hSf : ∀ j, w.frozen? ⟨o, j, none⟩ = false := fun j => blk_frozen HT.out.box j
 have lgS : o < w.heap.size := blk_lt HT.out.box
 have hnb : ∀ q, (Value.slice none ([] : List PX.Nd).length 0).ownBlock = some q → q < w.heap.size := fun q hq => ((Kd.R_bound HT.out.row).1 q hq).2.2.1
 have hnw : ∀ q, (Value.slice none ([] : List PX.Nd).length 0).ownBlock = some q → w.heap.size ≤ q := fun q hq => ((Kd.R_bound HT.out.row).1 q hq).2.1
 have HNB := Lib.hid (And.intro hnb hnw)
 have HIN := Lib.hid (Res_in HR.out HOT.out)
 have hlM : (([] : List PX.Nd).map (realN toks)).length = ([] : List PX.Nd).length := List.length_map _
 have hlen2 : ((([] : List PX.Nd).map (realN toks)).length + 1) * 120 ≤ 140737488355328 := by rw [hlM]; (try simp only [List.length_nil]); omega
 have HL2 := Lib.hid hlen2
 have HLM := Lib.hid hlM
 clear hnb hnw hlen2 hlM
 have hY5 : w.cell? ⟨o, 0, none⟩ = some (.slice none ([] : List PX.Nd).length 0) := blk_cell HT.out.box 0
 go_region_law
  (first
  | (go_simp; go_at_call 43; go_must (refine (node_walk K hK s _ (PAt.below HT.out.pat (below_drew (Below.refl _ _))) HIN.out).mono ?_; rintro e w2 hm; refine RdIs.part hm ?_ ?_; (focus intro q er hr he hO2; subst he; have hF := HR.out; rw [hr] at hF; unfold Pan; (try simp only [Exit.inBlock, Exit.then]); rw [HQ.out]; exact ⟨rfl, (HT.out.below (below_drew (Below.refl _ _))).sp.trans (Spares.of_only hO2 (by simp)), DoneIs.bad hF⟩); intro y s2 hr hO hP v he hV; have hR := HR.out; rw [hr, bind_ok] at hR; have HR2 := Lib.hid hR; obtain ⟨c2, c3, c4, c5, rfl, hM⟩ := hV.cells; subst he; have HM_y := Lib.hid (k50.M_lower (base' := w.heap.size) (Nat.le_refl _) hM); have HT2 := Lib.hid (At2.low (HT.out.below (below_drew (Below.refl _ _))) HNE.out.1 hpl hO hP); have HW2 := Lib.hid hO; have hS1 : w2.cell? ⟨o, 0, none⟩ = some (.slice none ([] : List PX.Nd).length 0) := blk_cell HT2.out.box 0; have hS2 : ∀ o', (w2.alloc o').cell? ⟨o, 0, none⟩ = some (.slice none ([] : List PX.Nd).length 0) := fun o' => blk_cell (blk_alloc HT2.out.box o') 0; have l_2 : w.heap.size ≤ w2.heap.size := HW2.out.size; clear hO hP hM hV hr hR hm))
  | (refine Kd.R_append_rows_step k50 (w0 := w2) (Rr := fun x' cs' => x' = realN toks y ∧ cs' = [.string ⟨y.name.toArray⟩, .int .i64 (atOf toks y.place), c2, c3, c4, c5]) w.heap.size (by rfl) (.tmp 3) (.tmp 6) 24 50 _ 120 (by rfl) Tryz.underlying24 info_nd rfl (by decide) (by decide) (.slice none ([] : List PX.Nd).length 0) (([] : List PX.Nd).map (realN toks)) [realN toks y] (some ⟨w2.heap.size, 0, none⟩) 1 1 (fun _ => True) (fun q => w.heap.size ≤ q) (by rfl) (by rfl) ?aO ?aR ?aK ?aH ?aF ?aB ?aS ?aL ?_; (case aO => exact Kd.R_alloc HT2.out.row _); (case aR => exact reads_onek k50 (blk_new _ _) rfl); (case aK => exact (fun x' cs' hx => by obtain ⟨rfl, rfl⟩ := hx; exact Kd.M_below (k50.M_lower (by have := HT.out.sp.size; omega) (k50.M_mono (fun q hq => hq.2.1) (k50.M_bound HM_y.out))) (below_alloc (Below.refl _ _) _))); (case aH => exact (fun q hq => ⟨trivial, fun e => Nat.lt_irrefl _ (Nat.lt_of_lt_of_le (HNB.out.1 q e.symm) hq)⟩)); (case aF => exact (fun q hq => trivial)); (case aB => exact (below_alloc (Below.refl _ _) _).mono (by have h_ := HT2.out.sp.size; omega)); (case aS => (have h_ := HT2.out.sp.size; simp; omega)); (case aL => exact HL2.out); intro v1 w9 hR1 hb1 hg1 hat1; obtain ⟨A9, c9, hv⟩ := Kd.R_slice hR1; have hln : ((([] : List PX.Nd).map (realN toks)) ++ [realN toks y]).length = (([] : List PX.Nd) ++ [y]).length := (by rw [List.length_append, HLM.out, List.length_append]; rfl); rw [hln] at hv; subst hv; have hBK : w9.heap[o]? = some (.cells #[.slice none ([] : List PX.Nd).length 0] 24 (0, 0)) := (hg1.block o (blk_lt (blk_alloc HT2.out.box _)) (fun e => absurd (HNB.out.2 o e.symm) (by omega))).trans (blk_alloc HT2.out.box _); have hS3 := blk_cell hBK 0; have hSf3 := fun j => blk_frozen hBK j; have HBK := Lib.hid hBK; have HR1 := Lib.hid hR1; have HG1 := Lib.hid hg1; clear hR1 hb1 hg1 hat1 hBK))
 all_goals
  have hT9 : At2 p b o toks w (w9.setCell ⟨o, 0, none⟩ (.slice A9 (([] : List PX.Nd) ++ [y]).length c9)) s2 A9 c9 (([] : List PX.Nd) ++ [y]) := At2.grow (HT2.out.below (below_alloc (Below.refl _ _) _)) HNE.out.1 HNE.out.2 hpl hbl hol HG1.out HNB.out.2 (by have h_ := HR1.out; rw [List.map_append]; exact h_)
  have e9 : (([] : List PX.Nd) ++ [y]).length = 1 := by simp
  rw [e9] at hT9
  clear e9
  obtain ⟨w3, hW⟩ : ∃ W, W = w9.setCell ⟨o, 0, none⟩ (.slice A9 1 c9) := ⟨_, rfl⟩
  rw [← hW] at hT9 ⊢
  have HR := HR2
  clear hW HT HR2 HT2 HBK HR1 HG1 hS1 hS2 hS3 hSf3 hY5 hS0 hSf HNB HIN HL2 HLM HM_y HW2 l_2
  have HT := Lib.hid hT9
  clear hT9
  go_wp2_with (fail)
  go_loopg [] (K + 1) (fun m9 wr => ∃ kk done s' A c, m9 = kk + 1 ∧ done.length + kk ≤ K + 1 ∧ Hid (nodesGo K done kk s' = R) ∧ Hid (At2 p b o toks w wr s' A c done))
  case atStart => exact ⟨K, _, _, A9, c9, rfl, by simp; omega, HR, HT⟩
  case round =>
   obtain ⟨kk, done, s', A_r, c_r, rfl, hkk, HR', HT'⟩ := hrel
   clear HR HT
   have HR := HR'
   have HT := HT'
   clear HR' HT'
   cases kk with
   | zero =>
    have h0 := HR.out
    rw [nodesGo_zero] at h0
    have h1 := HOT.out
    rw [← h0] at h1
    cases h1
   | succ kk =>
    have hR := HR.out
    rw [nodesGo_next] at hR
    clear HR
    have HR := Lib.hid hR
    clear hR
    go_wp2_with (fail)
    refine (peek_walk p b toks s' _ HT.out.pat).mono ?_
    rintro e w4 ⟨hb, t5, hp, hat, rfl⟩
    have HT4 := Lib.hid (HT.out.below hb)
    have HP5 := Lib.hid hp
    clear hb hat hp HT
    have HT := HT4
    clear HT4
    unfold tokA tokV
    rcases Nat.decEq t5.kind 5 with hk | hk
    ·
     have hc : ((PX.peek s').kind == 5) = false := by rw [HP5.out]; simpa [tk] using hk
     have hR := HR.out
     simp only [hc, Bool.false_eq_true, if_false] at hR
     have HR := Lib.hid hR
     have hk1 : ((t5.kind : Int) == 5) = false := by simp; omega
     have hk2 : ((t5.kind : Int) != 5) = true := by simp; omega
     have hk3 : ¬ ((t5.kind : Int) = 5) := by omega
     clear hk hc hR
     go_wp2_with (fail)
     have hT7 := HT
     have hS0 : (w4.drew).cell? ⟨o, 0, none⟩ = some (.slice A_r done.length c_r) := blk_cell (t := 24) (show (w4.drew).heap[o]? = some (.cells #[.slice A_r done.length c_r] 24 (0, 0)) from HT.out.box) 0
     have hSf : ∀ j, w4.frozen? ⟨o, j, none⟩ = false := fun j => blk_frozen HT.out.box j
     have lgS : o < w4.heap.size := blk_lt HT.out.box
     have hnb : ∀ q, (Value.slice A_r done.length c_r).ownBlock = some q → q < w4.heap.size := fun q hq => ((Kd.R_bound HT.out.row).1 q hq).2.2.1
     have hnw : ∀ q, (Value.slice A_r done.length c_r).ownBlock = some q → w.heap.size ≤ q := fun q hq => ((Kd.R_bound HT.out.row).1 q hq).2.1
     have HNB := Lib.hid (And.intro hnb hnw)
     have HIN := Lib.hid (Res_in HR.out HOT.out)
     have hlM : (done.map (realN toks)).length = done.length := List.length_map _
     have hlen2 : ((done.map (realN toks)).length + 1) * 120 ≤ 140737488355328 := by rw [hlM]; (try simp only [List.length_nil]); omega
     have HL2 := Lib.hid hlen2
     have HLM := Lib.hid hlM
     clear hnb hnw hlen2 hlM
     have hY5 : w4.cell? ⟨o, 0, none⟩ = some (.slice A_r done.length c_r) := blk_cell HT.out.box 0
     go_region_law
      (first
      | (go_simp; go_at_call 43; go_must (refine (node_walk K hK s' _ (PAt.below HT.out.pat (below_drew (Below.refl _ _))) HIN.out).mono ?_; rintro e w7 hm; refine RdIs.part hm ?_ ?_; (focus intro q er hr he hO2; subst he; have hF := HR.out; rw [hr] at hF; unfold Pan; (try simp only [Exit.inBlock, Exit.then]); rw [HQ.out]; exact ⟨rfl, (HT.out.below (below_drew (Below.refl _ _))).sp.trans (Spares.of_only hO2 (by simp)), DoneIs.bad hF⟩); intro y s7 hr hO hP v he hV; have hR := HR.out; rw [hr, bind_ok] at hR; have HR2 := Lib.hid hR; obtain ⟨c2, c3, c4, c5, rfl, hM⟩ := hV.cells; subst he; have HM_y := Lib.hid (k50.M_lower (base' := w4.heap.size) (Nat.le_refl _) hM); have HT2 := Lib.hid (At2.low (HT.out.below (below_drew (Below.refl _ _))) HNE.out.1 hpl hO hP); have HW2 := Lib.hid hO; have hS1 : w7.cell? ⟨o, 0, none⟩ = some (.slice A_r done.length c_r) := blk_cell HT2.out.box 0; have hS2 : ∀ o', (w7.alloc o').cell? ⟨o, 0, none⟩ = some (.slice A_r done.length c_r) := fun o' => blk_cell (blk_alloc HT2.out.box o') 0; have l_2 : w4.heap.size ≤ w7.heap.size := HW2.out.size; clear hO hP hM hV hr hR hm))
      | (refine Kd.R_append_rows_step k50 (w0 := w7) (Rr := fun x' cs' => x' = realN toks y ∧ cs' = [.string ⟨y.name.toArray⟩, .int .i64 (atOf toks y.place), c2, c3, c4, c5]) w.heap.size (by rfl) (.tmp 14) (.tmp 17) 24 50 _ 120 (by rfl) Tryz.underlying24 info_nd rfl (by decide) (by decide) (.slice A_r done.length c_r) (done.map (realN toks)) [realN toks y] (some ⟨w7.heap.size, 0, none⟩) 1 1 (fun _ => True) (fun q => w4.heap.size ≤ q) (by rfl) (by rfl) ?aO ?aR ?aK ?aH ?aF ?aB ?aS ?aL ?_; (case aO => exact Kd.R_alloc HT2.out.row _); (case aR => exact reads_onek k50 (blk_new _ _) rfl); (case aK => exact (fun x' cs' hx => by obtain ⟨rfl, rfl⟩ := hx; exact Kd.M_below (k50.M_lower (by have := HT.out.sp.size; omega) (k50.M_mono (fun q hq => hq.2.1) (k50.M_bound HM_y.out))) (below_alloc (Below.refl _ _) _))); (case aH => exact (fun q hq => ⟨trivial, fun e => Nat.lt_irrefl _ (Nat.lt_of_lt_of_le (HNB.out.1 q e.symm) hq)⟩)); (case aF => exact (fun q hq => trivial)); (case aB => exact (below_alloc (Below.refl _ _) _).mono (by have h_ := HT2.out.sp.size; omega)); (case aS => (have h_ := HT2.out.sp.size; simp; omega)); (case aL => exact HL2.out); intro v1 w9 hR1 hb1 hg1 hat1; obtain ⟨A9, c9, hv⟩ := Kd.R_slice hR1; have hln : ((done.map (realN toks)) ++ [realN toks y]).length = (done ++ [y]).length := (by rw [List.length_append, HLM.out, List.length_append]; rfl); rw [hln] at hv; subst hv; have hBK : w9.heap[o]? = some (.cells #[.slice A_r done.length c_r] 24 (0, 0)) := (hg1.block o (blk_lt (blk_alloc HT2.out.box _)) (fun e => absurd (HNB.out.2 o e.symm) (by omega))).trans (blk_alloc HT2.out.box _); have hS3 := blk_cell hBK 0; have hSf3 := fun j => blk_frozen hBK j; have HBK := Lib.hid hBK; have HR1 := Lib.hid hR1; have HG1 := Lib.hid hg1; clear hR1 hb1 hg1 hat1 hBK))
     all_goals
      have hT9 : At2 p b o toks w (w9.setCell ⟨o, 0, none⟩ (.slice A9 (done ++ [y]).length c9)) s7 A9 c9 (done ++ [y]) := At2.grow (HT2.out.below (below_alloc (Below.refl _ _) _)) HNE.out.1 HNE.out.2 hpl hbl hol HG1.out HNB.out.2 (by have h_ := HR1.out; rw [List.map_append]; exact h_)
      have e9 : (done ++ [y]).length = (done.length + 1) := by simp
      rw [e9] at hT9
      clear e9
      obtain ⟨w8, hW⟩ : ∃ W, W = w9.setCell ⟨o, 0, none⟩ (.slice A9 (done.length + 1) c9) := ⟨_, rfl⟩
      rw [← hW] at hT9 ⊢
      have HR := HR2
      clear hW HT HR2 HT2 HBK HR1 HG1 hS1 hS2 hS3 hSf3 hY5 hS0 hSf HNB HIN HL2 HLM HM_y HW2 l_2
      have HT := Lib.hid hT9
      clear hT9
      go_wp2_with (fail)
      go_roundg (kk + 1)
      case measure => omega
      case rel => exact ⟨kk, done ++ [y], s7, A9, c9, rfl, by simp; omega, HR, HT⟩
    ·
     have hc : ((PX.peek s').kind == 5) = true := by rw [HP5.out]; simpa [tk] using hk
     have hR := HR.out
     simp only [hc, if_true] at hR
     have HR := Lib.hid hR
     have hk1 : ((t5.kind : Int) == 5) = true := by simp; omega
     have hk2 : ((t5.kind : Int) != 5) = false := by simp; omega
     have hk3 : ((t5.kind : Int) = 5) := by omega
     clear hk hc hR
     go_wp2_with (fail)
     (try simp only [Exit.inBlock, Exit.then])
     (first | go_end0 | refine bodyPost_ret (results_none rfl _ _ _) rfl ?_)
     rw [HQ.out]
     have hF := HR.out
     subst hF
     have hT7 := HT.out
     exact ⟨hT7.sp, hT7.pat, rfl, A_r, c_r, hT7.box, hT7.row⟩
end Go.Proofs.YtjafllnbgfcchaaGreatDoor.Px
end
