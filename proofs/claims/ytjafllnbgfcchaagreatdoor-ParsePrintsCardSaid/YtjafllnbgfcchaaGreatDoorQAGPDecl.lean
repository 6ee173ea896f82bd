/- Joined of: PDecl, PDecls, PVars. -/
import Derived.Test.YtjafllnbgfcchaaGreatDoorQAGPEx
import Derived.Deep.DeepMust
import Derived.Test.YtjafllnbgfcchaaGreatDoorQAPRow
import Derived.Test.YtjafllnbgfcchaaGreatDoorQAGPFine
import Derived.Maps.AppendAt
import Derived.OwnWalk
import Derived.Deep.AppendLies
section
/- A declaration, walked. -/
namespace Go.Proofs.YtjafllnbgfcchaaGreatDoor.Px
set_option linter.unusedVariables false
set_option linter.unusedSimpArgs false
open Go Go.RowKit Go.Proofs.YtjafllnbgfcchaaGreatDoorW.PrintWords Go.Proofs.YtjafllnbgfcchaaGreatDoorW.PrintLast Go.Proofs.YtjafllnbgfcchaaGreatDoorW.PrintMore Go.Proofs.YtjafllnbgfcchaaGreatDoor.Lx Go.Proofs.YtjafllnbgfcchaaGreatDoor.XK
attribute [local go_sem ↓] Go.wp_at_zero Go.wp_at_succ
def dcA (toks : List LX.Tok) (d : PX.Dc) : Array Value := #[.string ⟨d.name.toArray⟩, .int .i64 (atOf toks d.place), .bool d.bool, .bool d.future, .string ⟨d.clock.toArray⟩, .bool d.off]
def DcV (toks : List LX.Tok) (d : PX.Dc) (v : Value) : Prop := v = .agg (dcA toks d)
theorem St.perm {p b : Nat} {toks : List LX.Tok} {w W : World} {s : List PX.T} {l l' : List (Nat × Obj)} (h : St p b toks w W s l) (hs : ∀ x ∈ l', x ∈ l) : St p b toks w W s l' := h.sub hs
theorem St.consD {p b g : Nat} {o : Obj} {toks : List LX.Tok} {w W : World} {s : List PX.T} {l : List (Nat × Obj)} (h : St p b toks w W s l) (hg : w.heap.size ≤ g) (hb : W.heap[g]? = some o) : St p b toks w W s ((g, o) :: l) :=
 ⟨h.only, h.pat, h.pl, h.bl, fun x hx => by
  rcases List.mem_cons.1 hx with rfl | hx
  ·exact ⟨hg, hb⟩
  ·exact h.loc x hx⟩
theorem Kp.fresh {n g j : Nat} {v : Value} {W W' : World} (hg : W.heap.size ≤ g) (h : Kp n W W') : Kp n W (W'.setCell ⟨g, j, none⟩ v) := ⟨by simpa [World.setCell] using h.size, fun k hk hl => (Below.heap_setCell W' ⟨g, j, none⟩ v k (by show k ≠ g; omega)).trans (h.keep k hk hl)⟩
theorem St.setHead {p b g : Nat} {toks : List LX.Tok} {w W : World} {s : List PX.T} {l : List (Nat × Obj)} {cs : Array Value} {t : TypeId} (h : St p b toks w W s ((g, .cells cs t (0, 0)) :: l)) (hn : ∀ x ∈ l, x.1 ≠ g) (j : Nat) (v : Value) : St p b toks w (W.setCell ⟨g, j, none⟩ v) s ((g, .cells (cs.setIfInBounds j v) t (0, 0)) :: l) :=
 St.consD (St.store h.g0 hn h.drop) h.g0 (blk_set h.l0 j v)

set_option maxHeartbeats 4000000 in
set_option maxRecDepth 100000 in
theorem decl_walk {p b : Nat} {toks : List LX.Tok} (s : List PX.T) (w : World) (h : PAt w p b toks s) :
  Calls Tryz.prog 130 #[.pointer (some ⟨p, 0, none⟩)] w fun e w' => RdIs p b toks w (PX.decl s) (fun _ d v => DcV toks d v) e w' := by
 obtain ⟨R, hR⟩ : ∃ R, PX.decl s = R := ⟨_, rfl⟩
 rw [hR]
 rw [PX.decl] at hR
 have H := Lib.hid h
 have HR := Lib.hid hR
 clear h hR
 obtain ⟨Q, hQ⟩ : ∃ Q, RdIs p b toks w R (fun _ d v => DcV toks d v) = Q := ⟨_, rfl⟩
 rw [show (fun e w' => RdIs p b toks w R (fun _ d v => DcV toks d v) e w') = Q from hQ]
 have HQ := Lib.hid hQ
 clear hQ
 have hfd := fld2
 go_enter Tryz.func130, Tryz.ntmps130
 go_wp2_with (fail)
 have HS := Lib.hid (St.start (w := w) H.out)
 refine (St.names HS.out.new).mono ?_
 rintro e w1 ⟨hO, hm⟩
 have HWw1 := Lib.hid hO
 clear hO
 cases hr : PX.name s with
 | out => rw [hr] at hm; exact hm.elim
 | bad q er =>
  rw [hr] at hm
  obtain ⟨rfl, hO2⟩ := hm
  have hF := HR.out
  rw [hr] at hF
  unfold Pan
  (try simp only [Exit.inBlock, Exit.then])
  rw [← HQ.out]
  exact ⟨rfl, RdIs.bad hF hO2⟩
 | ok m s2 =>
  rw [hr] at hm
  obtain ⟨hS, v, rfl, hV⟩ := hm
  have hR := HR.out
  rw [hr] at hR
  rw [bind_ok] at hR
  clear HR hr
  have HR := Lib.hid hR
  have HS := Lib.hid hS
  clear hR hS
  have lz_w1 : w.heap.size < w1.heap.size := blk_lt HS.out.l0
  obtain ⟨k_m, n_m, rfl⟩ := hV
  go_wp2_with (fail)
  refine (St.wants [58] HS.out.new (by first | (simp; done) | (simp; omega) | omega)).mono ?_
  rintro e w3 ⟨hO, hm⟩
  have HWw3 := Lib.hid hO
  clear hO
  cases hr : PX.want [58] s2 with
  | out => rw [hr] at hm; exact hm.elim
  | bad q er =>
   rw [hr] at hm
   obtain ⟨rfl, hO2⟩ := hm
   have hF := HR.out
   rw [hr] at hF
   unfold Pan
   (try simp only [Exit.inBlock, Exit.then])
   rw [← HQ.out]
   exact ⟨rfl, RdIs.bad hF hO2⟩
  | ok _u s4 =>
   rw [hr] at hm
   obtain ⟨hS, v, rfl, hV⟩ := hm
   have hR := HR.out
   rw [hr] at hR
   rw [bind_ok] at hR
   clear HR hr
   have HR := Lib.hid hR
   have HS := Lib.hid hS
   clear hR hS
   have lz_w3 : w.heap.size < w3.heap.size := blk_lt HS.out.l1
   clear hV
   have q0 := HS.out.l0
   obtain ⟨q0_0, q0_1, q0_2, q0_3, q0_f⟩ := blk4 q0
   have q0_l := blk_lt q0
   clear q0
   have hlt13 := q0_l
   have hlt03 := lz_w3
   go_wp2_with (fail)
   refine (St.takes [[102, 117, 116, 117, 114, 101]] HS.out.new (by first | (simp; done) | (simp; omega) | omega) (by decide)).mono ?_
   rintro e w5 ⟨hg, hO, hS, t6, hp, hat, rfl⟩
   have HWw5 := Lib.hid hO
   have Ht6 := Lib.hid (And.intro hp hat)
   clear hO hp hat hg
   obtain ⟨B, hB⟩ : ∃ B, PX.is [[102, 117, 116, 117, 114, 101]] s4 = B := ⟨_, rfl⟩
   rw [hB] at hS ⊢
   have hR := HR.out
   rw [hB] at hR
   have HBw5 := Lib.hid hB
   clear HR hB
   unfold tokA tokV
   cases B with
   | false =>
    simp only [Bool.false_eq_true, if_false] at hR hS
    have HR := Lib.hid hR
    have HS := Lib.hid hS
    clear hR hS
    have lz_w5 : w.heap.size < w5.heap.size := blk_lt HS.out.l2
    have lt_t := blk_lt HS.out.l1
    have lt_d := blk_lt HS.out.l0
    have hpl := H.out.plt
    have q0 := HS.out.l0
    obtain ⟨q0_0, q0_1, q0_2, q0_3, q0_4, q0_5, q0_f⟩ := blk6 q0
    have q0_l := blk_lt q0
    clear q0
    go_wp2_with (fail)
    obtain ⟨w7, hW⟩ : ∃ W, W = w5.setCell ⟨w3.heap.size, 3, none⟩ (.bool false) := ⟨_, rfl⟩
    rw [← hW]
    have hSX : St p b toks w (w5.setCell ⟨w3.heap.size, 3, none⟩ (.bool false)) s4 ((w3.heap.size, Obj.cells #[.string ⟨m.toArray⟩, .int .i64 (atOf toks s.length), .bool false, .bool false, .string ⟨#[]⟩, .bool false] 147) :: [(w1.heap.size, Obj.cells #[.int .i64 k_m, .int .i64 (atOf toks s.length), .string ⟨m.toArray⟩, .int .u64 n_m] 35), (w.heap.size, Obj.cells #[.string ⟨#[]⟩, .int .i64 0, .bool false, .bool false, .string ⟨#[]⟩, .bool false] 147)]) := St.setHead (HS.out.perm (l' := (w3.heap.size, Obj.cells #[.string ⟨m.toArray⟩, .int .i64 (atOf toks s.length), .bool false, .bool false, .string ⟨#[]⟩, .bool false] 147) :: [(w1.heap.size, Obj.cells #[.int .i64 k_m, .int .i64 (atOf toks s.length), .string ⟨m.toArray⟩, .int .u64 n_m] 35), (w.heap.size, Obj.cells #[.string ⟨#[]⟩, .int .i64 0, .bool false, .bool false, .string ⟨#[]⟩, .bool false] 147)]) (by intro x hx; simp only [List.mem_cons, List.not_mem_nil, or_false] at hx; rcases hx with rfl | rfl | rfl <;> simp)) (by intro x hx; simp only [List.mem_cons, List.not_mem_nil, or_false] at hx; rcases hx with rfl | rfl <;> (show _ ≠ _; omega)) 3 (.bool false)
    have hs_w7 : w7.heap.size = w5.heap.size := by rw [hW]; simp [World.setCell]
    have HKw7 := Lib.hid (fun (n : Nat) (W0 : World) (hk : W0.heap.size ≤ w3.heap.size) (hp : Kp n W0 w5) => (hW ▸ Kp.fresh (j := 3) (v := .bool false) hk hp : Kp n W0 w7))
    rw [← hW] at hSX
    have HS := Lib.hid hSX
    clear hSX hW
    go_wp2_with (fail)
    refine (St.takes [[105, 110, 116], [98, 111, 111, 108]] HS.out (by first | (simp; done) | (simp; omega) | omega) (by decide)).mono ?_
    rintro e w8 ⟨hg, hO, hS, t9, hp, hat, rfl⟩
    have HWw8 := Lib.hid hO
    have Ht9 := Lib.hid (And.intro hp hat)
    clear hO hp hat hg
    obtain ⟨B, hB⟩ : ∃ B, PX.is [[105, 110, 116], [98, 111, 111, 108]] s4 = B := ⟨_, rfl⟩
    rw [hB] at hS ⊢
    have hR := HR.out
    rw [hB] at hR
    have HBw8 := Lib.hid hB
    clear HR hB
    unfold tokA tokV
    cases B with
    | false =>
     simp only [Bool.false_eq_true, if_false] at hR hS
     have HR := Lib.hid hR
     have HS := Lib.hid hS
     clear hR hS
     have lz_w8 : w.heap.size < w8.heap.size := blk_lt HS.out.l2
     go_wp2_with (fail)
     refine (St.fails (α := PX.Dc) HS.out.new).mono ?_
     rintro e w10 ⟨q, er, hq, rfl, hO2⟩
     have hF := HR.out
     rw [hq] at hF
     unfold Pan
     (try simp only [Exit.inBlock, Exit.then])
     rw [← HQ.out]
     exact ⟨rfl, RdIs.bad hF hO2⟩
    | true =>
     simp only [if_true] at hR hS
     have HR := Lib.hid hR
     have HS := Lib.hid hS
     clear hR hS
     have lz_w8 : w.heap.size < w8.heap.size := blk_lt HS.out.l2
     have q0 := HS.out.l0
     obtain ⟨q0_0, q0_1, q0_2, q0_3, q0_4, q0_5, q0_f⟩ := blk6 q0
     have q0_l := blk_lt q0
     clear q0
     have q2 := HS.out.l2
     obtain ⟨q2_0, q2_1, q2_2, q2_3, q2_4, q2_5, q2_f⟩ := blk6 q2
     have q2_l := blk_lt q2
     clear q2
     have hxx := HS
     go_wp2_with (fail)
     (try simp only [Exit.inBlock, Exit.then])
     have hn0 : w.heap.size ≠ w3.heap.size := by omega
     have hnd : w.heap.size ≠ (⟨w3.heap.size, 2, none⟩ : Addr).block := hn0
     refine bodyPost_ret (results_cell_row rfl _ _ w.heap.size 147 _ (0, 0) _ rfl (blk_alloc' (blk_set6 (blk_far HS.out.l2 hnd _) _ _ _ _ _ _)) Tryz.underlying147 rfl (by kernel_rfl)) rfl ?_
     rw [← HQ.out]
     have hbl := H.out.lt
     refine RdIs.ok HR.out (St.only (b := b) (toks := toks) (s := s4.tail) (l := []) ?_) (St.pat (w := w) (l := []) ?_) ?_
     ·repeat (first | with_reducible exact HS.out.drop.drop.drop | with_reducible apply St.alloc | with_reducible apply St.drewN | with_reducible apply St.drew | (with_reducible refine St.store ?_ ?_ ?_; omega; (intro x hx; simp at hx)))
     ·repeat (first | with_reducible exact HS.out.drop.drop.drop | with_reducible apply St.alloc | with_reducible apply St.drewN | with_reducible apply St.drew | (with_reducible refine St.store ?_ ?_ ?_; omega; (intro x hx; simp at hx)))
     ·rw [Ht9.out.1]
      rfl
   | true =>
    simp only [if_true] at hR hS
    have HR := Lib.hid hR
    have HS := Lib.hid hS
    clear hR hS
    have lz_w5 : w.heap.size < w5.heap.size := blk_lt HS.out.l2
    have lt_t := blk_lt HS.out.l1
    have lt_d := blk_lt HS.out.l0
    have hpl := H.out.plt
    have q0 := HS.out.l0
    obtain ⟨q0_0, q0_1, q0_2, q0_3, q0_4, q0_5, q0_f⟩ := blk6 q0
    have q0_l := blk_lt q0
    clear q0
    go_wp2_with (fail)
    obtain ⟨w11, hW⟩ : ∃ W, W = w5.setCell ⟨w3.heap.size, 3, none⟩ (.bool true) := ⟨_, rfl⟩
    rw [← hW]
    have hSX : St p b toks w (w5.setCell ⟨w3.heap.size, 3, none⟩ (.bool true)) s4.tail ((w3.heap.size, Obj.cells #[.string ⟨m.toArray⟩, .int .i64 (atOf toks s.length), .bool false, .bool true, .string ⟨#[]⟩, .bool false] 147) :: [(w1.heap.size, Obj.cells #[.int .i64 k_m, .int .i64 (atOf toks s.length), .string ⟨m.toArray⟩, .int .u64 n_m] 35), (w.heap.size, Obj.cells #[.string ⟨#[]⟩, .int .i64 0, .bool false, .bool false, .string ⟨#[]⟩, .bool false] 147)]) := St.setHead (HS.out.perm (l' := (w3.heap.size, Obj.cells #[.string ⟨m.toArray⟩, .int .i64 (atOf toks s.length), .bool false, .bool false, .string ⟨#[]⟩, .bool false] 147) :: [(w1.heap.size, Obj.cells #[.int .i64 k_m, .int .i64 (atOf toks s.length), .string ⟨m.toArray⟩, .int .u64 n_m] 35), (w.heap.size, Obj.cells #[.string ⟨#[]⟩, .int .i64 0, .bool false, .bool false, .string ⟨#[]⟩, .bool false] 147)]) (by intro x hx; simp only [List.mem_cons, List.not_mem_nil, or_false] at hx; rcases hx with rfl | rfl | rfl <;> simp)) (by intro x hx; simp only [List.mem_cons, List.not_mem_nil, or_false] at hx; rcases hx with rfl | rfl <;> (show _ ≠ _; omega)) 3 (.bool true)
    have hs_w11 : w11.heap.size = w5.heap.size := by rw [hW]; simp [World.setCell]
    have HKw11 := Lib.hid (fun (n : Nat) (W0 : World) (hk : W0.heap.size ≤ w3.heap.size) (hp : Kp n W0 w5) => (hW ▸ Kp.fresh (j := 3) (v := .bool true) hk hp : Kp n W0 w11))
    rw [← hW] at hSX
    have HS := Lib.hid hSX
    clear hSX hW
    go_wp2_with (fail)
    refine (St.takes [[105, 110, 116], [98, 111, 111, 108]] HS.out (by first | (simp; done) | (simp; omega) | omega) (by decide)).mono ?_
    rintro e w12 ⟨hg, hO, hS, t13, hp, hat, rfl⟩
    have HWw12 := Lib.hid hO
    have Ht13 := Lib.hid (And.intro hp hat)
    clear hO hp hat hg
    obtain ⟨B, hB⟩ : ∃ B, PX.is [[105, 110, 116], [98, 111, 111, 108]] s4.tail = B := ⟨_, rfl⟩
    rw [hB] at hS ⊢
    have hR := HR.out
    rw [hB] at hR
    have HBw12 := Lib.hid hB
    clear HR hB
    unfold tokA tokV
    cases B with
    | false =>
     simp only [Bool.false_eq_true, if_false] at hR hS
     have HR := Lib.hid hR
     have HS := Lib.hid hS
     clear hR hS
     have lz_w12 : w.heap.size < w12.heap.size := blk_lt HS.out.l2
     go_wp2_with (fail)
     refine (St.fails (α := PX.Dc) HS.out.new).mono ?_
     rintro e w14 ⟨q, er, hq, rfl, hO2⟩
     have hF := HR.out
     rw [hq] at hF
     unfold Pan
     (try simp only [Exit.inBlock, Exit.then])
     rw [← HQ.out]
     exact ⟨rfl, RdIs.bad hF hO2⟩
    | true =>
     simp only [if_true] at hR hS
     have HR := Lib.hid hR
     have HS := Lib.hid hS
     clear hR hS
     have lz_w12 : w.heap.size < w12.heap.size := blk_lt HS.out.l2
     have q0 := HS.out.l0
     obtain ⟨q0_0, q0_1, q0_2, q0_3, q0_4, q0_5, q0_f⟩ := blk6 q0
     have q0_l := blk_lt q0
     clear q0
     have q2 := HS.out.l2
     obtain ⟨q2_0, q2_1, q2_2, q2_3, q2_4, q2_5, q2_f⟩ := blk6 q2
     have q2_l := blk_lt q2
     clear q2
     have hxx := HS
     go_wp2_with (fail)
     (try simp only [Exit.inBlock, Exit.then])
     have hn0 : w.heap.size ≠ w3.heap.size := by omega
     have hnd : w.heap.size ≠ (⟨w3.heap.size, 2, none⟩ : Addr).block := hn0
     refine bodyPost_ret (results_cell_row rfl _ _ w.heap.size 147 _ (0, 0) _ rfl (blk_alloc' (blk_set6 (blk_far HS.out.l2 hnd _) _ _ _ _ _ _)) Tryz.underlying147 rfl (by kernel_rfl)) rfl ?_
     rw [← HQ.out]
     have hbl := H.out.lt
     refine RdIs.ok HR.out (St.only (b := b) (toks := toks) (s := s4.tail.tail) (l := []) ?_) (St.pat (w := w) (l := []) ?_) ?_
     ·repeat (first | with_reducible exact HS.out.drop.drop.drop | with_reducible apply St.alloc | with_reducible apply St.drewN | with_reducible apply St.drew | (with_reducible refine St.store ?_ ?_ ?_; omega; (intro x hx; simp at hx)))
     ·repeat (first | with_reducible exact HS.out.drop.drop.drop | with_reducible apply St.alloc | with_reducible apply St.drewN | with_reducible apply St.drew | (with_reducible refine St.store ?_ ?_ ?_; omega; (intro x hx; simp at hx)))
     ·rw [Ht13.out.1]
      rfl
end Go.Proofs.YtjafllnbgfcchaaGreatDoor.Px
end
section
/- Declarations in brackets, walked. -/
namespace Go.Proofs.YtjafllnbgfcchaaGreatDoor.Px
set_option linter.unusedVariables false
set_option linter.unusedSimpArgs false
open Go Go.RowKit Go.Proofs.YtjafllnbgfcchaaGreatDoorW.PrintWords Go.Proofs.YtjafllnbgfcchaaGreatDoorW.PrintLast Go.Proofs.YtjafllnbgfcchaaGreatDoorW.PrintMore Go.Proofs.YtjafllnbgfcchaaGreatDoor.Lx Go.Proofs.YtjafllnbgfcchaaGreatDoor.XK
attribute [local go_sem ↓] Go.wp_at_zero Go.wp_at_succ
def realD (toks : List LX.Tok) (d : PX.Dc) : S147 := ⟨⟨d.name.toArray⟩, atOf toks d.place, ⟨d.bool, d.future⟩, ⟨d.clock.toArray⟩, d.off⟩
def DcsV (toks : List LX.Tok) (n0 : Nat) (w : World) (l : List PX.Dc) (v : Value) : Prop := k147.R 147 w n0 (fun _ => True) v (l.map (realD toks))
def declsGo (done : List PX.Dc) (k : Nat) (s : List PX.T) : PX.Res (List PX.Dc) := (PX.declsL k s).bind fun l s' => .ok (done ++ l) s'
theorem declsGo_first (k : Nat) (s : List PX.T) : PX.declsL k s = declsGo [] k s := by
 unfold declsGo
 cases PX.declsL k s <;> rfl
theorem declsGo_next (done : List PX.Dc) (k : Nat) (s : List PX.T) : declsGo done (k + 1) s = (PX.decl s).bind fun d s1 => if PX.is [[44]] s1 then declsGo (done ++ [d]) k s1.tail else (PX.want [41] s1).bind fun _ s2 => .ok (done ++ [d]) s2 := by
 unfold declsGo
 rw [PX.declsL, bind_assoc_]
 congr 1
 funext d s1
 rw [bind_ite, bind_assoc_, bind_assoc_]
 simp [PX.Res.bind]
theorem DcsR.kp {n0 n1 : Nat} {W W' : World} {v : Value} {xs : List S147} (h : k147.R 147 W n1 (fun _ => True) v xs) (hn : n0 ≤ n1) (hk : Kp n1 W W') : k147.R 147 W' n0 (fun _ => True) v xs :=
 Kd.R_lower (Kd.R_mono (Kd.R_move (Kd.R_bound h) (fun k hk' => hk.keep k hk'.2.1 hk'.2.2.1)) (fun _ _ => trivial)) hn
theorem St.decl_ {p b : Nat} {toks : List LX.Tok} {w W : World} {s : List PX.T} {l : List (Nat × Obj)} (h : St p b toks w W s l) :
  Calls Tryz.prog 130 #[.pointer (some ⟨p, 0, none⟩)] W fun e w' => Only p W w' ∧ Told p b toks w l (PX.decl s) (fun _ d v => DcV toks d v) e w' := by
 refine (decl_walk s W h.pat).mono ?_
 intro e w' hm
 exact ⟨hm.1, hm.told h⟩
theorem declsL_out (s : List PX.T) (done : List PX.Dc) : declsGo done 0 s = .out := by
 unfold declsGo
 rw [PX.declsL]
 rfl

set_option maxHeartbeats 4000000 in
set_option maxRecDepth 100000 in
theorem decls_walk {p b : Nat} {toks : List LX.Tok} (k : Nat) (hk2 : k ≤ 1000000) (s : List PX.T) (w : World) (h : PAt w p b toks s) (hout : (PX.decls k s).isOut = false) :
  Calls Tryz.prog 81 #[.pointer (some ⟨p, 0, none⟩)] w fun e w' => RdIs p b toks w (PX.decls k s) (DcsV toks w.heap.size) e w' := by
 obtain ⟨R, hR⟩ : ∃ R, PX.decls k s = R := ⟨_, rfl⟩
 rw [hR] at hout ⊢
 rw [PX.decls] at hR
 have H := Lib.hid h
 have HR := Lib.hid hR
 have HO := Lib.hid hout
 clear h hR hout
 obtain ⟨Q, hQ⟩ : ∃ Q, RdIs p b toks w R (DcsV toks w.heap.size) = Q := ⟨_, rfl⟩
 rw [show (fun e w' => RdIs p b toks w R (DcsV toks w.heap.size) e w') = Q from hQ]
 have HQ := Lib.hid hQ
 clear hQ
 go_enter Tryz.func81, Tryz.ntmps81
 go_wp2_with (fail)
 have HS := Lib.hid (St.start (w := w) H.out)
 refine (St.wants [40] (St.start (w := w) H.out) (by first | (simp; done) | (simp; omega) | omega)).mono ?_
 rintro e w1 ⟨hO, hm⟩
 have HWw1 := Lib.hid hO
 clear hO
 cases hr : PX.want [40] s with
 | out => rw [hr] at hm; exact hm.elim
 | bad q er =>
  rw [hr] at hm
  obtain ⟨rfl, hO2⟩ := hm
  have hF := HR.out
  rw [hr] at hF
  unfold Pan
  (try simp only [Exit.inBlock, Exit.then])
  rw [← HQ.out]
  exact ⟨rfl, RdIs.bad hF hO2⟩
 | ok _u s2 =>
  rw [hr] at hm
  obtain ⟨hS, v, rfl, hV⟩ := hm
  have hR := HR.out
  rw [hr] at hR
  rw [bind_ok] at hR
  clear HR hr
  have HR := Lib.hid hR
  have HS := Lib.hid hS
  clear hR hS
  clear hV
  go_wp2_with (fail)
  refine (St.takes [[41]] HS.out (by first | (simp; done) | (simp; omega) | omega) (by decide)).mono ?_
  rintro e w3 ⟨hg, hO, hS, t4, hp, hat, rfl⟩
  have HWw3 := Lib.hid hO
  have Ht4 := Lib.hid (And.intro hp hat)
  clear hO hp hat hg
  obtain ⟨B, hB⟩ : ∃ B, PX.is [[41]] s2 = B := ⟨_, rfl⟩
  rw [hB] at hS ⊢
  have hR := HR.out
  rw [hB] at hR
  have HBw3 := Lib.hid hB
  clear HR hB
  unfold tokA tokV
  cases B with
  | false =>
   simp only [Bool.false_eq_true, if_false] at hR hS
   have HR := Lib.hid hR
   have HS := Lib.hid hS
   clear hR hS
   go_wp2_with (fail)
   have HS := Lib.hid (HS.out.alloc (o := .cells (tokA t4) 35))
   go_loopg [3] (k + 1) (fun m u wr => ∃ kk done s', m = kk + 1 ∧ done.length + kk ≤ k ∧ Hid (declsGo done kk s' = R) ∧ Hid (St p b toks w wr s' []) ∧ Hid (k147.R 147 wr w.heap.size (fun _ => True) u (done.map (realD toks))))
   case atStart => exact ⟨k, [], s2, rfl, by simp, Lib.hid ((declsGo_first k s2).symm.trans HR.out), HS, Lib.hid (Kd.R_nil _ _ _ _ _)⟩
   case round =>
    obtain ⟨kk, done, s', rfl, hkk, HR', HS', HRW⟩ := hrel
    clear HR HS
    have HR := HR'
    have HS := HS'
    clear HR' HS'
    obtain ⟨Au, cu, hu⟩ := Kd.R_slice HRW.out
    rw [List.length_map] at hu
    subst hu
    cases kk with
    | zero =>
     have h0 := HR.out
     rw [declsL_out] at h0
     have h1 := HO.out
     rw [← h0] at h1
     cases h1
    | succ kk =>
     have hR := HR.out
     rw [declsGo_next] at hR
     clear HR
     have HR := Lib.hid hR
     clear hR
     go_wp2_with (fail)
     have hsz3 := HS.out.sz
     refine (St.decl_ HS.out).mono ?_
     rintro e w5 ⟨hO, hm⟩
     have HWw5 := Lib.hid hO
     clear hO
     cases hr : PX.decl s' with
     | out => rw [hr] at hm; exact hm.elim
     | bad q er =>
      rw [hr] at hm
      obtain ⟨rfl, hO2⟩ := hm
      have hF := HR.out
      rw [hr] at hF
      unfold Pan
      (try simp only [Exit.inBlock, Exit.then])
      rw [← HQ.out]
      exact ⟨rfl, RdIs.bad hF hO2⟩
     | ok d s6 =>
      rw [hr] at hm
      obtain ⟨hS, v, rfl, hV⟩ := hm
      have hR := HR.out
      rw [hr] at hR
      rw [bind_ok] at hR
      clear HR hr
      have HR := Lib.hid hR
      have HS := Lib.hid hS
      clear hR hS
      obtain rfl := hV
      unfold dcA
      have hpl := H.out.plt
      have hs3 := HWw5.out.size
      have hrw : k147.R 147 w5 w.heap.size (fun _ => True) (.slice Au done.length cu) (done.map (realD toks)) := DcsR.kp HRW.out (Nat.le_refl _) (by repeat (first | with_reducible exact Kp.refl | with_reducible apply Kp.alloc | with_reducible apply Kp.drew | (with_reducible refine Kp.store ?_ ?_; omega) | (with_reducible refine Kp.only ?_ HWw5.out ?_; omega)))
      have hnb : ∀ q, (Value.slice Au done.length cu).ownBlock = some q → w.heap.size ≤ q ∧ q < wr.heap.size := fun q hq => ⟨((Kd.R_bound HRW.out).1 q hq).2.1, ((Kd.R_bound HRW.out).1 q hq).2.2.1⟩
      have HX := Lib.hid (And.intro hrw hnb)
      have hlen2 : ((done.map (realD toks)).length + 1) * 56 ≤ 140737488355328 := by rw [List.length_map]; omega
      have hsz := HS.out.sz
      have hwb := Below.refl w.heap.size w5
      have HL2 := Lib.hid (And.intro hlen2 hwb)
      clear hrw hnb hlen2 hwb
      go_wp2_with (first | (at_builtin; go_must (refine Kd.R_append k147 (w0 := w5) w.heap.size rfl (.tmp 23) (.tmp 26) 47 147 _ 56 rfl Tryz.underlying47 info147 rfl (by decide) (by decide) (.slice Au done.length cu) (done.map (realD toks)) (realD toks d) [.string ⟨d.name.toArray⟩, .int .i64 (atOf toks d.place), .bool d.bool, .bool d.future, .string ⟨d.clock.toArray⟩, .bool d.off] (fun _ => True) (fun _ => False) rfl rfl ?_ ?_ (fun _ _ => trivial) HX.out.1 HL2.out.2 hsz HL2.out.1 ?_)))
      ·exact k147_mkM _ _ _ (realD toks d)
      ·exact fun q hq => hq.elim
      intro v1 w9 hR1 hb1 hg1 hat1
      have HR1 := Lib.hid (And.intro hR1 (And.intro hg1 hat1))
      have hS9 := St.grown HS.out hg1 (fun q hq => (HX.out.2 q hq).1)
      have HS := Lib.hid hS9
      clear hR1 hb1 hg1 hat1 hS9
      go_wp2_with (fail)
      refine (St.takes [[44]] HS.out (by first | (simp; done) | (simp; omega) | omega) (by decide)).mono ?_
      rintro e w7 ⟨hg, hO, hS, t8, hp, hat, rfl⟩
      have HWw7 := Lib.hid hO
      have Ht8 := Lib.hid (And.intro hp hat)
      clear hO hp hat hg
      obtain ⟨B, hB⟩ : ∃ B, PX.is [[44]] s6 = B := ⟨_, rfl⟩
      rw [hB] at hS ⊢
      have hR := HR.out
      rw [hB] at hR
      have HBw7 := Lib.hid hB
      clear HR hB
      unfold tokA tokV
      cases B with
      | false =>
       simp only [Bool.false_eq_true, if_false] at hR hS
       have HR := Lib.hid hR
       have HS := Lib.hid hS
       clear hR hS
       go_wp2_with (fail)
       refine (St.wants [41] HS.out.new (by first | (simp; done) | (simp; omega) | omega)).mono ?_
       rintro e w9 ⟨hO, hm⟩
       have HWw9 := Lib.hid hO
       clear hO
       cases hr : PX.want [41] s6 with
       | out => rw [hr] at hm; exact hm.elim
       | bad q er =>
        rw [hr] at hm
        obtain ⟨rfl, hO2⟩ := hm
        have hF := HR.out
        rw [hr] at hF
        unfold Pan
        (try simp only [Exit.inBlock, Exit.then])
        rw [← HQ.out]
        exact ⟨rfl, RdIs.bad hF hO2⟩
       | ok _u s10 =>
        rw [hr] at hm
        obtain ⟨hS, v, rfl, hV⟩ := hm
        have hR := HR.out
        rw [hr] at hR
        rw [bind_ok] at hR
        clear HR hr
        have HR := Lib.hid hR
        have HS := Lib.hid hS
        clear hR hS
        clear hV
        go_wp2_with (fail)
        obtain ⟨A9, c9, hv9⟩ := Kd.R_slice HR1.out.1
        show Q (Ending.returned v1) _
        rw [← HQ.out]
        refine RdIs.ok HR.out HS.out.only HS.out.pat ?_
        unfold DcsV
        rw [List.map_append]
        exact DcsR.kp HR1.out.1 (Nat.le_refl _) (by repeat (first | with_reducible exact Kp.refl | with_reducible apply Kp.alloc | with_reducible apply Kp.drew | (with_reducible refine Kp.store ?_ ?_; omega) | (with_reducible refine Kp.only ?_ HWw9.out ?_; omega) | (with_reducible refine Kp.only ?_ HWw7.out ?_; omega)))
      | true =>
       simp only [if_true] at hR hS
       have HR := Lib.hid hR
       have HS := Lib.hid hS
       clear hR hS
       go_wp2_with (fail)
       go_roundg (kk + 1)
       case measure => omega
       case rel =>
        refine ⟨kk, done ++ [d], s6.tail, rfl, by simp; omega, HR, Lib.hid HS.out.alloc, ?_⟩
        rw [List.map_append]
        exact Lib.hid (DcsR.kp HR1.out.1 (Nat.le_refl _) (by repeat (first | with_reducible exact Kp.refl | with_reducible apply Kp.alloc | with_reducible apply Kp.drew | (with_reducible refine Kp.store ?_ ?_; omega) | (with_reducible refine Kp.only ?_ HWw7.out ?_; omega))))
  | true =>
   simp only [if_true] at hR hS
   have HR := Lib.hid hR
   have HS := Lib.hid hS
   clear hR hS
   go_wp2_with (fail)
   show Q (Ending.returned (Value.slice none 0 0)) _
   rw [← HQ.out]
   have hpl := H.out.plt
   refine RdIs.ok HR.out (St.only (b := b) (toks := toks) (s := s2.tail) (l := []) ?_) (St.pat (w := w) (l := []) ?_) (Kd.R_nil _ _ _ _ _)
   ·repeat (first | with_reducible exact HS.out | with_reducible apply St.alloc | with_reducible apply St.drewN | with_reducible apply St.drew | (with_reducible refine St.store ?_ ?_ ?_; omega; (intro x hx; simp at hx)))
   ·repeat (first | with_reducible exact HS.out | with_reducible apply St.alloc | with_reducible apply St.drewN | with_reducible apply St.drew | (with_reducible refine St.store ?_ ?_ ?_; omega; (intro x hx; simp at hx)))
end Go.Proofs.YtjafllnbgfcchaaGreatDoor.Px
end
section
/- A node's own names, walked. -/
namespace Go.Proofs.YtjafllnbgfcchaaGreatDoor.Px
set_option linter.unusedVariables false
set_option linter.unusedSimpArgs false
open Go Go.RowKit Go.Proofs.YtjafllnbgfcchaaGreatDoorW.PrintWords Go.Proofs.YtjafllnbgfcchaaGreatDoorW.PrintLast Go.Proofs.YtjafllnbgfcchaaGreatDoorW.PrintMore Go.Proofs.YtjafllnbgfcchaaGreatDoor.Lx Go.Proofs.YtjafllnbgfcchaaGreatDoor.XK
attribute [local go_sem ↓] Go.wp_at_zero Go.wp_at_succ
def varsGo (done : List PX.Dc) (k : Nat) (s : List PX.T) : PX.Res (List PX.Dc) := (PX.varsL k s).bind fun l s' => .ok (done ++ l) s'
theorem varsGo_first (k : Nat) (s : List PX.T) : PX.varsL k s = varsGo [] k s := by
 unfold varsGo
 cases PX.varsL k s <;> rfl
theorem varsGo_next (done : List PX.Dc) (k : Nat) (s : List PX.T) : varsGo done (k + 1) s = (PX.decl s).bind fun d0 s1 => (PX.clockOf d0 s1).bind fun d s2 => (PX.want [59] s2).bind fun _ s3 => if PX.is [[108, 101, 116]] s3 then .ok (done ++ [d]) s3 else varsGo (done ++ [d]) k s3 := by
 unfold varsGo
 rw [PX.varsL, bind_assoc_]
 congr 1
 funext d0 s1
 rw [bind_assoc_]
 congr 1
 funext d s2
 rw [bind_assoc_]
 congr 1
 funext _ s3
 rw [bind_ite, bind_assoc_]
 simp [PX.Res.bind]
theorem varsL_out (s : List PX.T) (done : List PX.Dc) : varsGo done 0 s = .out := by
 unfold varsGo
 rw [PX.varsL]
 rfl

set_option maxHeartbeats 8000000 in
set_option maxRecDepth 100000 in
theorem vars_walk {p b : Nat} {toks : List LX.Tok} (k : Nat) (hk2 : k ≤ 1000000) (s : List PX.T) (w : World) (h : PAt w p b toks s) (hout : (PX.vars k s).isOut = false) :
  Calls Tryz.prog 82 #[.pointer (some ⟨p, 0, none⟩)] w fun e w' => RdIs p b toks w (PX.vars k s) (DcsV toks w.heap.size) e w' := by
 obtain ⟨R, hR⟩ : ∃ R, PX.vars k s = R := ⟨_, rfl⟩
 rw [hR] at hout ⊢
 rw [PX.vars] at hR
 have H := Lib.hid h
 have HR := Lib.hid hR
 have HO := Lib.hid hout
 clear h hR hout
 have hfd := fld2
 obtain ⟨Q, hQ⟩ : ∃ Q, RdIs p b toks w R (DcsV toks w.heap.size) = Q := ⟨_, rfl⟩
 rw [show (fun e w' => RdIs p b toks w R (DcsV toks w.heap.size) e w') = Q from hQ]
 have HQ := Lib.hid hQ
 clear hQ
 go_enter Tryz.func82, Tryz.ntmps82
 go_wp2_with (fail)
 have HS := Lib.hid (St.start (w := w) H.out)
 refine (St.takes [[118, 97, 114]] (St.start (w := w) H.out) (by first | (simp; done) | (simp; omega) | omega) (by decide)).mono ?_
 rintro e w1 ⟨hg, hO, hS, t2, hp, hat, rfl⟩
 have HWw1 := Lib.hid hO
 have Ht2 := Lib.hid (And.intro hp hat)
 clear hO hp hat hg
 obtain ⟨B, hB⟩ : ∃ B, PX.is [[118, 97, 114]] s = B := ⟨_, rfl⟩
 rw [hB] at hS ⊢
 have hR := HR.out
 rw [hB] at hR
 have HBw1 := Lib.hid hB
 clear HR hB
 unfold tokA tokV
 cases B with
 | false =>
  simp only [Bool.false_eq_true, if_false] at hR hS
  have HR := Lib.hid hR
  have HS := Lib.hid hS
  clear hR hS
  go_wp2_with (fail)
  show Q (Ending.returned (Value.slice none 0 0)) _
  rw [← HQ.out]
  have hpl := H.out.plt
  refine RdIs.ok HR.out (St.only (b := b) (toks := toks) (s := s) (l := []) ?_) (St.pat (w := w) (l := []) ?_) (Kd.R_nil _ _ _ _ _)
  ·repeat (first | with_reducible exact HS.out | with_reducible apply St.alloc | with_reducible apply St.drewN | with_reducible apply St.drew | (with_reducible refine St.store ?_ ?_ ?_; omega; (intro x hx; simp at hx)))
  ·repeat (first | with_reducible exact HS.out | with_reducible apply St.alloc | with_reducible apply St.drewN | with_reducible apply St.drew | (with_reducible refine St.store ?_ ?_ ?_; omega; (intro x hx; simp at hx)))
 | true =>
  simp only [if_true] at hR hS
  have HR := Lib.hid hR
  have HS := Lib.hid hS
  clear hR hS
  go_wp2_with (fail)
  have HS := Lib.hid (HS.out.alloc (o := .cells (tokA t2) 35))
  go_loopg [3] (k + 1) (fun m u wr => ∃ kk done s', m = kk + 1 ∧ done.length + kk ≤ k ∧ Hid (varsGo done kk s' = R) ∧ Hid (St p b toks w wr s' []) ∧ Hid (k147.R 147 wr w.heap.size (fun _ => True) u (done.map (realD toks))))
  case atStart => exact ⟨k, [], s.tail, rfl, by simp, Lib.hid ((varsGo_first k s.tail).symm.trans HR.out), HS, Lib.hid (Kd.R_nil _ _ _ _ _)⟩
  case round =>
   obtain ⟨kk, done, s', rfl, hkk, HR', HS', HRW⟩ := hrel
   clear HR HS
   have HR := HR'
   have HS := HS'
   clear HR' HS'
   obtain ⟨Au, cu, hu⟩ := Kd.R_slice HRW.out
   rw [List.length_map] at hu
   subst hu
   cases kk with
   | zero =>
    have h0 := HR.out
    rw [varsL_out] at h0
    have h1 := HO.out
    rw [← h0] at h1
    cases h1
   | succ kk =>
    have hR := HR.out
    rw [varsGo_next] at hR
    clear HR
    have HR := Lib.hid hR
    clear hR
    have hpl := H.out.plt
    go_wp2_with (fail)
    refine (St.decl_ HS.out).mono ?_
    rintro e w3 ⟨hO, hm⟩
    have HWw3 := Lib.hid hO
    clear hO
    cases hr : PX.decl s' with
    | out => rw [hr] at hm; exact hm.elim
    | bad q er =>
     rw [hr] at hm
     obtain ⟨rfl, hO2⟩ := hm
     have hF := HR.out
     rw [hr] at hF
     unfold Pan
     (try simp only [Exit.inBlock, Exit.then])
     rw [← HQ.out]
     exact ⟨rfl, RdIs.bad hF hO2⟩
    | ok d0 s4 =>
     rw [hr] at hm
     obtain ⟨hS, v, rfl, hV⟩ := hm
     have hR := HR.out
     rw [hr] at hR
     rw [bind_ok] at hR
     clear HR hr
     have HR := Lib.hid hR
     have HS := Lib.hid hS
     clear hR hS
     have hs_wr := HWw3.out.size
     obtain rfl := hV
     unfold dcA
     have hR := HR.out
     unfold PX.clockOf at hR
     have HR := Lib.hid hR
     clear hR
     go_wp2_with (fail)
     refine (St.takes [[119, 104, 101, 110]] HS.out.new (by first | (simp; done) | (simp; omega) | omega) (by decide)).mono ?_
     rintro e w5 ⟨hg, hO, hS, t6, hp, hat, rfl⟩
     have HWw5 := Lib.hid hO
     have Ht6 := Lib.hid (And.intro hp hat)
     clear hO hp hat hg
     obtain ⟨B, hB⟩ : ∃ B, PX.is [[119, 104, 101, 110]] s4 = B := ⟨_, rfl⟩
     rw [hB] at hS ⊢
     have hR := HR.out
     rw [hB] at hR
     have HBw5 := Lib.hid hB
     clear HR hB
     unfold tokA tokV
     cases B with
     | false =>
      simp only [Bool.false_eq_true, if_false] at hR hS
      have HR := Lib.hid hR
      have HS := Lib.hid hS
      clear hR hS
      go_wp2_with (fail)
      have hR := HR.out
      rw [bind_ok] at hR
      have HR := Lib.hid hR
      clear hR
      refine (St.wants [59] HS.out.new (by first | (simp; done) | (simp; omega) | omega)).mono ?_
      rintro e w7 ⟨hO, hm⟩
      have HWw7 := Lib.hid hO
      clear hO
      cases hr : PX.want [59] s4 with
      | out => rw [hr] at hm; exact hm.elim
      | bad q er =>
       rw [hr] at hm
       obtain ⟨rfl, hO2⟩ := hm
       have hF := HR.out
       rw [hr] at hF
       unfold Pan
       (try simp only [Exit.inBlock, Exit.then])
       rw [← HQ.out]
       exact ⟨rfl, RdIs.bad hF hO2⟩
      | ok _u s8 =>
       rw [hr] at hm
       obtain ⟨hS, v, rfl, hV⟩ := hm
       have hR := HR.out
       rw [hr] at hR
       rw [bind_ok] at hR
       clear HR hr
       have HR := Lib.hid hR
       have HS := Lib.hid hS
       clear hR hS
       clear hV
       have q1 := HS.out.l1
       obtain ⟨q1_0, q1_1, q1_2, q1_3, q1_4, q1_5, q1_f⟩ := blk6 q1
       have q1_l := blk_lt q1
       clear q1
       have hsz := HS.out.sz
       have hrw : k147.R 147 w7 w.heap.size (fun _ => True) (.slice Au done.length cu) (done.map (realD toks)) := DcsR.kp HRW.out (Nat.le_refl _) (by repeat (first | with_reducible exact Kp.refl | with_reducible apply Kp.alloc | with_reducible apply Kp.drew | (with_reducible refine Kp.store ?_ ?_; omega) | (with_reducible refine Kp.only ?_ HWw7.out ?_; omega) | (with_reducible refine Kp.only ?_ HWw5.out ?_; omega) | (with_reducible refine Kp.only ?_ HWw3.out ?_; omega)))
       have hnb : ∀ q, (Value.slice Au done.length cu).ownBlock = some q → w.heap.size ≤ q ∧ q < wr.heap.size := fun q hq => ⟨((Kd.R_bound HRW.out).1 q hq).2.1, ((Kd.R_bound HRW.out).1 q hq).2.2.1⟩
       have HX := Lib.hid (And.intro hrw hnb)
       have hlen2 : ((done.map (realD toks)).length + 1) * 56 ≤ 140737488355328 := by rw [List.length_map]; omega
       have hwb := Below.refl w.heap.size w7
       have HL2 := Lib.hid (And.intro hlen2 hwb)
       have HSD := Lib.hid (HS.out.perm (l' := []) (fun x hx => by simp at hx))
       clear hrw hnb hlen2 hwb HS
       go_wp2_with (first | (at_builtin; go_must (refine Kd.R_append k147 (w0 := w7) w.heap.size rfl (.tmp 51) (.tmp 53) 47 147 _ 56 rfl Tryz.underlying47 info147 rfl (by decide) (by decide) (.slice Au done.length cu) (done.map (realD toks)) (realD toks d0) [.string ⟨d0.name.toArray⟩, .int .i64 (atOf toks d0.place), .bool d0.bool, .bool d0.future, .string ⟨d0.clock.toArray⟩, .bool d0.off] (fun _ => True) (fun _ => False) rfl rfl ?_ ?_ (fun _ _ => trivial) HX.out.1 HL2.out.2 hsz HL2.out.1 ?_)))
       ·exact k147_mkM _ _ _ (realD toks d0)
       ·exact fun q hq => hq.elim
       intro v1 w20 hR1 hb1 hg1 hat1
       have HR1 := Lib.hid (And.intro hR1 (And.intro hg1 hat1))
       have hS9 := St.grown HSD.out hg1 (fun q hq => (HX.out.2 q hq).1)
       have HS := Lib.hid hS9
       clear hR1 hb1 hg1 hat1 hS9
       go_wp2_with (fail)
       refine (St.iss [[108, 101, 116]] HS.out (by first | (simp; done) | (simp; omega) | omega) (by decide)).mono ?_
       rintro e w9 ⟨hO, hS, rfl⟩
       have HWw9 := Lib.hid hO
       clear hO
       obtain ⟨B, hB⟩ : ∃ B, PX.is [[108, 101, 116]] s8 = B := ⟨_, rfl⟩
       rw [hB]
       have hR := HR.out
       rw [hB] at hR
       have HBw9 := Lib.hid hB
       clear HR hB
       have HS := Lib.hid hS
       clear hS
       cases B with
       | false =>
        simp only [Bool.false_eq_true, if_false] at hR
        have HR := Lib.hid hR
        clear hR
        go_wp2_with (fail)
        go_roundg (kk + 1)
        case measure => omega
        case rel =>
         refine ⟨kk, done ++ [d0], s8, rfl, by simp; omega, HR, HS, ?_⟩
         rw [List.map_append]
         exact Lib.hid (DcsR.kp HR1.out.1 (Nat.le_refl _) (by repeat (first | with_reducible exact Kp.refl | with_reducible apply Kp.alloc | with_reducible apply Kp.drew | (with_reducible refine Kp.store ?_ ?_; omega) | (with_reducible refine Kp.only ?_ HWw9.out ?_; omega))))
       | true =>
        simp only [if_true] at hR
        have HR := Lib.hid hR
        clear hR
        go_wp2_with (fail)
        show Q (Ending.returned v1) _
        rw [← HQ.out]
        refine RdIs.ok HR.out (St.only (b := b) (toks := toks) (s := s8) (l := []) ?_) (St.pat (w := w) (l := []) ?_) ?_
        ·repeat (first | with_reducible exact HS.out | with_reducible apply St.alloc | with_reducible apply St.drewN | with_reducible apply St.drew | (with_reducible refine St.store ?_ ?_ ?_; omega; (intro x hx; simp at hx)))
        ·repeat (first | with_reducible exact HS.out | with_reducible apply St.alloc | with_reducible apply St.drewN | with_reducible apply St.drew | (with_reducible refine St.store ?_ ?_ ?_; omega; (intro x hx; simp at hx)))
        ·unfold DcsV
         rw [List.map_append]
         exact DcsR.kp HR1.out.1 (Nat.le_refl _) (by repeat (first | with_reducible exact Kp.refl | with_reducible apply Kp.alloc | with_reducible apply Kp.drew | (with_reducible refine Kp.store ?_ ?_; omega) | (with_reducible refine Kp.only ?_ HWw9.out ?_; omega)))
     | true =>
      simp only [if_true] at hR hS
      have HR := Lib.hid hR
      have HS := Lib.hid hS
      clear hR hS
      have hR := HR.out
      rw [bind_assoc_] at hR
      have HR := Lib.hid hR
      clear hR
      have q0 := HS.out.l0
      obtain ⟨q0_0, q0_1, q0_2, q0_3, q0_4, q0_5, q0_f⟩ := blk6 q0
      have q0_l := blk_lt q0
      clear q0
      go_wp2_with (fail)
      refine (St.takes [[110, 111, 116]] HS.out.new (by first | (simp; done) | (simp; omega) | omega) (by decide)).mono ?_
      rintro e w10 ⟨hg, hO, hS, t11, hp, hat, rfl⟩
      have HWw10 := Lib.hid hO
      have Ht11 := Lib.hid (And.intro hp hat)
      clear hO hp hat hg
      obtain ⟨B, hB⟩ : ∃ B, PX.is [[110, 111, 116]] s4.tail = B := ⟨_, rfl⟩
      rw [hB] at hS ⊢
      have hR := HR.out
      rw [hB] at hR
      have HBw10 := Lib.hid hB
      clear HR hB
      unfold tokA tokV
      cases B with
      | false =>
       simp only [Bool.false_eq_true, if_false] at hR hS
       have HR := Lib.hid hR
       have HS := Lib.hid hS
       clear hR hS
       have lt_d := blk_lt HS.out.l1
       have lt_tk := blk_lt HS.out.l0
       have q1 := HS.out.l1
       obtain ⟨q1_0, q1_1, q1_2, q1_3, q1_4, q1_5, q1_f⟩ := blk6 q1
       have q1_l := blk_lt q1
       clear q1
       go_wp2_with (fail)
       obtain ⟨w12, hW⟩ : ∃ W, W = w10.setCell ⟨w3.heap.size, 5, none⟩ (.bool false) := ⟨_, rfl⟩
       rw [← hW]
       have hSX : St p b toks w (w10.setCell ⟨w3.heap.size, 5, none⟩ (.bool false)) s4.tail ((w3.heap.size, Obj.cells #[.string ⟨d0.name.toArray⟩, .int .i64 (atOf toks d0.place), .bool d0.bool, .bool d0.future, .string ⟨d0.clock.toArray⟩, .bool false] 147) :: [(w5.heap.size, Obj.cells #[.int .i64 t6.kind, .int .i64 t6.at_, .string ⟨t6.text.toArray⟩, .int .u64 t6.n] 35)]) := St.setHead (HS.out.perm (l' := (w3.heap.size, Obj.cells #[.string ⟨d0.name.toArray⟩, .int .i64 (atOf toks d0.place), .bool d0.bool, .bool d0.future, .string ⟨d0.clock.toArray⟩, .bool d0.off] 147) :: [(w5.heap.size, Obj.cells #[.int .i64 t6.kind, .int .i64 t6.at_, .string ⟨t6.text.toArray⟩, .int .u64 t6.n] 35)]) (by intro x hx; simp only [List.mem_cons, List.not_mem_nil, or_false] at hx; rcases hx with rfl | rfl <;> simp)) (by intro x hx; simp only [List.mem_cons, List.not_mem_nil, or_false] at hx; rcases hx with rfl <;> (show _ ≠ _; omega)) 5 (.bool false)
       have hs_w12 : w12.heap.size = w10.heap.size := by rw [hW]; simp [World.setCell]
       have HKw12 := Lib.hid (fun (n : Nat) (W0 : World) (hk : W0.heap.size ≤ w3.heap.size) (hp : Kp n W0 w10) => (hW ▸ Kp.fresh (j := 5) (v := .bool false) hk hp : Kp n W0 w12))
       rw [← hW] at hSX
       have HS := Lib.hid hSX
       clear hSX hW
       refine (St.names HS.out).mono ?_
       rintro e w13 ⟨hO, hm⟩
       have HWw13 := Lib.hid hO
       clear hO
       cases hr : PX.name s4.tail with
       | out => rw [hr] at hm; exact hm.elim
       | bad q er =>
        rw [hr] at hm
        obtain ⟨rfl, hO2⟩ := hm
        have hF := HR.out
        rw [hr] at hF
        unfold Pan
        (try simp only [Exit.inBlock, Exit.then])
        rw [← HQ.out]
        exact ⟨rfl, RdIs.bad hF hO2⟩
       | ok m s14 =>
        rw [hr] at hm
        obtain ⟨hS, v, rfl, hV⟩ := hm
        have hR := HR.out
        rw [hr] at hR
        rw [bind_ok] at hR
        clear HR hr
        have HR := Lib.hid hR
        have HS := Lib.hid hS
        clear hR hS
        obtain ⟨k_m, n_m, rfl⟩ := hV
        have lt_d2 := blk_lt HS.out.l0
        have lt_tk2 := blk_lt HS.out.l1
        have q0 := HS.out.l0
        obtain ⟨q0_0, q0_1, q0_2, q0_3, q0_4, q0_5, q0_f⟩ := blk6 q0
        have q0_l := blk_lt q0
        clear q0
        go_wp2_with (fail)
        obtain ⟨w15, hW⟩ : ∃ W, W = w13.setCell ⟨w3.heap.size, 4, none⟩ (.string ⟨m.toArray⟩) := ⟨_, rfl⟩
        rw [← hW]
        have hSX : St p b toks w (w13.setCell ⟨w3.heap.size, 4, none⟩ (.string ⟨m.toArray⟩)) s14 ((w3.heap.size, Obj.cells #[.string ⟨d0.name.toArray⟩, .int .i64 (atOf toks d0.place), .bool d0.bool, .bool d0.future, .string ⟨m.toArray⟩, .bool false] 147) :: [(w5.heap.size, Obj.cells #[.int .i64 t6.kind, .int .i64 t6.at_, .string ⟨t6.text.toArray⟩, .int .u64 t6.n] 35)]) := St.setHead (HS.out.perm (l' := (w3.heap.size, Obj.cells #[.string ⟨d0.name.toArray⟩, .int .i64 (atOf toks d0.place), .bool d0.bool, .bool d0.future, .string ⟨d0.clock.toArray⟩, .bool false] 147) :: [(w5.heap.size, Obj.cells #[.int .i64 t6.kind, .int .i64 t6.at_, .string ⟨t6.text.toArray⟩, .int .u64 t6.n] 35)]) (by intro x hx; simp only [List.mem_cons, List.not_mem_nil, or_false] at hx; rcases hx with rfl | rfl <;> simp)) (by intro x hx; simp only [List.mem_cons, List.not_mem_nil, or_false] at hx; rcases hx with rfl <;> (show _ ≠ _; omega)) 4 (.string ⟨m.toArray⟩)
        have hs_w15 : w15.heap.size = w13.heap.size := by rw [hW]; simp [World.setCell]
        have HKw15 := Lib.hid (fun (n : Nat) (W0 : World) (hk : W0.heap.size ≤ w3.heap.size) (hp : Kp n W0 w13) => (hW ▸ Kp.fresh (j := 4) (v := .string ⟨m.toArray⟩) hk hp : Kp n W0 w15))
        rw [← hW] at hSX
        have HS := Lib.hid hSX
        clear hSX hW
        have hR := HR.out
        rw [bind_ok] at hR
        have HR := Lib.hid hR
        clear hR
        refine (St.wants [59] HS.out (by first | (simp; done) | (simp; omega) | omega)).mono ?_
        rintro e w16 ⟨hO, hm⟩
        have HWw16 := Lib.hid hO
        clear hO
        cases hr : PX.want [59] s14 with
        | out => rw [hr] at hm; exact hm.elim
        | bad q er =>
         rw [hr] at hm
         obtain ⟨rfl, hO2⟩ := hm
         have hF := HR.out
         rw [hr] at hF
         unfold Pan
         (try simp only [Exit.inBlock, Exit.then])
         rw [← HQ.out]
         exact ⟨rfl, RdIs.bad hF hO2⟩
        | ok _u s17 =>
         rw [hr] at hm
         obtain ⟨hS, v, rfl, hV⟩ := hm
         have hR := HR.out
         rw [hr] at hR
         rw [bind_ok] at hR
         clear HR hr
         have HR := Lib.hid hR
         have HS := Lib.hid hS
         clear hR hS
         clear hV
         have q0 := HS.out.l0
         obtain ⟨q0_0, q0_1, q0_2, q0_3, q0_4, q0_5, q0_f⟩ := blk6 q0
         have q0_l := blk_lt q0
         clear q0
         have hsz := HS.out.sz
         have hrw : k147.R 147 w16 w.heap.size (fun _ => True) (.slice Au done.length cu) (done.map (realD toks)) := DcsR.kp HRW.out (Nat.le_refl _) (by repeat (first | with_reducible exact Kp.refl | with_reducible apply Kp.alloc | with_reducible apply Kp.drew | (with_reducible refine Kp.store ?_ ?_; omega) | (with_reducible refine Kp.only ?_ HWw16.out ?_; omega) | (with_reducible refine HKw15.out _ _ ?_ ?_; omega) | (with_reducible refine Kp.only ?_ HWw13.out ?_; omega) | (with_reducible refine HKw12.out _ _ ?_ ?_; omega) | (with_reducible refine Kp.only ?_ HWw10.out ?_; omega) | (with_reducible refine Kp.only ?_ HWw5.out ?_; omega) | (with_reducible refine Kp.only ?_ HWw3.out ?_; omega)))
         have hnb : ∀ q, (Value.slice Au done.length cu).ownBlock = some q → w.heap.size ≤ q ∧ q < wr.heap.size := fun q hq => ⟨((Kd.R_bound HRW.out).1 q hq).2.1, ((Kd.R_bound HRW.out).1 q hq).2.2.1⟩
         have HX := Lib.hid (And.intro hrw hnb)
         have hlen2 : ((done.map (realD toks)).length + 1) * 56 ≤ 140737488355328 := by rw [List.length_map]; omega
         have hwb := Below.refl w.heap.size w16
         have HL2 := Lib.hid (And.intro hlen2 hwb)
         have HSD := Lib.hid (HS.out.perm (l' := []) (fun x hx => by simp at hx))
         clear hrw hnb hlen2 hwb HS
         go_wp2_with (first | (at_builtin; go_must (refine Kd.R_append k147 (w0 := w16) w.heap.size rfl (.tmp 51) (.tmp 53) 47 147 _ 56 rfl Tryz.underlying47 info147 rfl (by decide) (by decide) (.slice Au done.length cu) (done.map (realD toks)) (realD toks ⟨d0.name, d0.place, d0.bool, d0.future, m, false⟩) [.string ⟨d0.name.toArray⟩, .int .i64 (atOf toks d0.place), .bool d0.bool, .bool d0.future, .string ⟨m.toArray⟩, .bool false] (fun _ => True) (fun _ => False) rfl rfl ?_ ?_ (fun _ _ => trivial) HX.out.1 HL2.out.2 hsz HL2.out.1 ?_)))
         ·exact k147_mkM _ _ _ (realD toks ⟨d0.name, d0.place, d0.bool, d0.future, m, false⟩)
         ·exact fun q hq => hq.elim
         intro v1 w20 hR1 hb1 hg1 hat1
         have HR1 := Lib.hid (And.intro hR1 (And.intro hg1 hat1))
         have hS9 := St.grown HSD.out hg1 (fun q hq => (HX.out.2 q hq).1)
         have HS := Lib.hid hS9
         clear hR1 hb1 hg1 hat1 hS9
         go_wp2_with (fail)
         refine (St.iss [[108, 101, 116]] HS.out (by first | (simp; done) | (simp; omega) | omega) (by decide)).mono ?_
         rintro e w18 ⟨hO, hS, rfl⟩
         have HWw18 := Lib.hid hO
         clear hO
         obtain ⟨B, hB⟩ : ∃ B, PX.is [[108, 101, 116]] s17 = B := ⟨_, rfl⟩
         rw [hB]
         have hR := HR.out
         rw [hB] at hR
         have HBw18 := Lib.hid hB
         clear HR hB
         have HS := Lib.hid hS
         clear hS
         cases B with
         | false =>
          simp only [Bool.false_eq_true, if_false] at hR
          have HR := Lib.hid hR
          clear hR
          go_wp2_with (fail)
          go_roundg (kk + 1)
          case measure => omega
          case rel =>
           refine ⟨kk, done ++ [⟨d0.name, d0.place, d0.bool, d0.future, m, false⟩], s17, rfl, by simp; omega, HR, HS, ?_⟩
           rw [List.map_append]
           exact Lib.hid (DcsR.kp HR1.out.1 (Nat.le_refl _) (by repeat (first | with_reducible exact Kp.refl | with_reducible apply Kp.alloc | with_reducible apply Kp.drew | (with_reducible refine Kp.store ?_ ?_; omega) | (with_reducible refine Kp.only ?_ HWw18.out ?_; omega))))
         | true =>
          simp only [if_true] at hR
          have HR := Lib.hid hR
          clear hR
          go_wp2_with (fail)
          show Q (Ending.returned v1) _
          rw [← HQ.out]
          refine RdIs.ok HR.out (St.only (b := b) (toks := toks) (s := s17) (l := []) ?_) (St.pat (w := w) (l := []) ?_) ?_
          ·repeat (first | with_reducible exact HS.out | with_reducible apply St.alloc | with_reducible apply St.drewN | with_reducible apply St.drew | (with_reducible refine St.store ?_ ?_ ?_; omega; (intro x hx; simp at hx)))
          ·repeat (first | with_reducible exact HS.out | with_reducible apply St.alloc | with_reducible apply St.drewN | with_reducible apply St.drew | (with_reducible refine St.store ?_ ?_ ?_; omega; (intro x hx; simp at hx)))
          ·unfold DcsV
           rw [List.map_append]
           exact DcsR.kp HR1.out.1 (Nat.le_refl _) (by repeat (first | with_reducible exact Kp.refl | with_reducible apply Kp.alloc | with_reducible apply Kp.drew | (with_reducible refine Kp.store ?_ ?_; omega) | (with_reducible refine Kp.only ?_ HWw18.out ?_; omega)))
      | true =>
       simp only [if_true] at hR hS
       have HR := Lib.hid hR
       have HS := Lib.hid hS
       clear hR hS
       have lt_d := blk_lt HS.out.l1
       have lt_tk := blk_lt HS.out.l0
       have q1 := HS.out.l1
       obtain ⟨q1_0, q1_1, q1_2, q1_3, q1_4, q1_5, q1_f⟩ := blk6 q1
       have q1_l := blk_lt q1
       clear q1
       go_wp2_with (fail)
       obtain ⟨w19, hW⟩ : ∃ W, W = w10.setCell ⟨w3.heap.size, 5, none⟩ (.bool true) := ⟨_, rfl⟩
       rw [← hW]
       have hSX : St p b toks w (w10.setCell ⟨w3.heap.size, 5, none⟩ (.bool true)) s4.tail.tail ((w3.heap.size, Obj.cells #[.string ⟨d0.name.toArray⟩, .int .i64 (atOf toks d0.place), .bool d0.bool, .bool d0.future, .string ⟨d0.clock.toArray⟩, .bool true] 147) :: [(w5.heap.size, Obj.cells #[.int .i64 t6.kind, .int .i64 t6.at_, .string ⟨t6.text.toArray⟩, .int .u64 t6.n] 35)]) := St.setHead (HS.out.perm (l' := (w3.heap.size, Obj.cells #[.string ⟨d0.name.toArray⟩, .int .i64 (atOf toks d0.place), .bool d0.bool, .bool d0.future, .string ⟨d0.clock.toArray⟩, .bool d0.off] 147) :: [(w5.heap.size, Obj.cells #[.int .i64 t6.kind, .int .i64 t6.at_, .string ⟨t6.text.toArray⟩, .int .u64 t6.n] 35)]) (by intro x hx; simp only [List.mem_cons, List.not_mem_nil, or_false] at hx; rcases hx with rfl | rfl <;> simp)) (by intro x hx; simp only [List.mem_cons, List.not_mem_nil, or_false] at hx; rcases hx with rfl <;> (show _ ≠ _; omega)) 5 (.bool true)
       have hs_w19 : w19.heap.size = w10.heap.size := by rw [hW]; simp [World.setCell]
       have HKw19 := Lib.hid (fun (n : Nat) (W0 : World) (hk : W0.heap.size ≤ w3.heap.size) (hp : Kp n W0 w10) => (hW ▸ Kp.fresh (j := 5) (v := .bool true) hk hp : Kp n W0 w19))
       rw [← hW] at hSX
       have HS := Lib.hid hSX
       clear hSX hW
       refine (St.names HS.out).mono ?_
       rintro e w20 ⟨hO, hm⟩
       have HWw20 := Lib.hid hO
       clear hO
       cases hr : PX.name s4.tail.tail with
       | out => rw [hr] at hm; exact hm.elim
       | bad q er =>
        rw [hr] at hm
        obtain ⟨rfl, hO2⟩ := hm
        have hF := HR.out
        rw [hr] at hF
        unfold Pan
        (try simp only [Exit.inBlock, Exit.then])
        rw [← HQ.out]
        exact ⟨rfl, RdIs.bad hF hO2⟩
       | ok m s21 =>
        rw [hr] at hm
        obtain ⟨hS, v, rfl, hV⟩ := hm
        have hR := HR.out
        rw [hr] at hR
        rw [bind_ok] at hR
        clear HR hr
        have HR := Lib.hid hR
        have HS := Lib.hid hS
        clear hR hS
        obtain ⟨k_m, n_m, rfl⟩ := hV
        have lt_d2 := blk_lt HS.out.l0
        have lt_tk2 := blk_lt HS.out.l1
        have q0 := HS.out.l0
        obtain ⟨q0_0, q0_1, q0_2, q0_3, q0_4, q0_5, q0_f⟩ := blk6 q0
        have q0_l := blk_lt q0
        clear q0
        go_wp2_with (fail)
        obtain ⟨w22, hW⟩ : ∃ W, W = w20.setCell ⟨w3.heap.size, 4, none⟩ (.string ⟨m.toArray⟩) := ⟨_, rfl⟩
        rw [← hW]
        have hSX : St p b toks w (w20.setCell ⟨w3.heap.size, 4, none⟩ (.string ⟨m.toArray⟩)) s21 ((w3.heap.size, Obj.cells #[.string ⟨d0.name.toArray⟩, .int .i64 (atOf toks d0.place), .bool d0.bool, .bool d0.future, .string ⟨m.toArray⟩, .bool true] 147) :: [(w5.heap.size, Obj.cells #[.int .i64 t6.kind, .int .i64 t6.at_, .string ⟨t6.text.toArray⟩, .int .u64 t6.n] 35)]) := St.setHead (HS.out.perm (l' := (w3.heap.size, Obj.cells #[.string ⟨d0.name.toArray⟩, .int .i64 (atOf toks d0.place), .bool d0.bool, .bool d0.future, .string ⟨d0.clock.toArray⟩, .bool true] 147) :: [(w5.heap.size, Obj.cells #[.int .i64 t6.kind, .int .i64 t6.at_, .string ⟨t6.text.toArray⟩, .int .u64 t6.n] 35)]) (by intro x hx; simp only [List.mem_cons, List.not_mem_nil, or_false] at hx; rcases hx with rfl | rfl <;> simp)) (by intro x hx; simp only [List.mem_cons, List.not_mem_nil, or_false] at hx; rcases hx with rfl <;> (show _ ≠ _; omega)) 4 (.string ⟨m.toArray⟩)
        have hs_w22 : w22.heap.size = w20.heap.size := by rw [hW]; simp [World.setCell]
        have HKw22 := Lib.hid (fun (n : Nat) (W0 : World) (hk : W0.heap.size ≤ w3.heap.size) (hp : Kp n W0 w20) => (hW ▸ Kp.fresh (j := 4) (v := .string ⟨m.toArray⟩) hk hp : Kp n W0 w22))
        rw [← hW] at hSX
        have HS := Lib.hid hSX
        clear hSX hW
        have hR := HR.out
        rw [bind_ok] at hR
        have HR := Lib.hid hR
        clear hR
        refine (St.wants [59] HS.out (by first | (simp; done) | (simp; omega) | omega)).mono ?_
        rintro e w23 ⟨hO, hm⟩
        have HWw23 := Lib.hid hO
        clear hO
        cases hr : PX.want [59] s21 with
        | out => rw [hr] at hm; exact hm.elim
        | bad q er =>
         rw [hr] at hm
         obtain ⟨rfl, hO2⟩ := hm
         have hF := HR.out
         rw [hr] at hF
         unfold Pan
         (try simp only [Exit.inBlock, Exit.then])
         rw [← HQ.out]
         exact ⟨rfl, RdIs.bad hF hO2⟩
        | ok _u s24 =>
         rw [hr] at hm
         obtain ⟨hS, v, rfl, hV⟩ := hm
         have hR := HR.out
         rw [hr] at hR
         rw [bind_ok] at hR
         clear HR hr
         have HR := Lib.hid hR
         have HS := Lib.hid hS
         clear hR hS
         clear hV
         have q0 := HS.out.l0
         obtain ⟨q0_0, q0_1, q0_2, q0_3, q0_4, q0_5, q0_f⟩ := blk6 q0
         have q0_l := blk_lt q0
         clear q0
         have hsz := HS.out.sz
         have hrw : k147.R 147 w23 w.heap.size (fun _ => True) (.slice Au done.length cu) (done.map (realD toks)) := DcsR.kp HRW.out (Nat.le_refl _) (by repeat (first | with_reducible exact Kp.refl | with_reducible apply Kp.alloc | with_reducible apply Kp.drew | (with_reducible refine Kp.store ?_ ?_; omega) | (with_reducible refine Kp.only ?_ HWw23.out ?_; omega) | (with_reducible refine HKw22.out _ _ ?_ ?_; omega) | (with_reducible refine Kp.only ?_ HWw20.out ?_; omega) | (with_reducible refine HKw19.out _ _ ?_ ?_; omega) | (with_reducible refine Kp.only ?_ HWw10.out ?_; omega) | (with_reducible refine Kp.only ?_ HWw5.out ?_; omega) | (with_reducible refine Kp.only ?_ HWw3.out ?_; omega)))
         have hnb : ∀ q, (Value.slice Au done.length cu).ownBlock = some q → w.heap.size ≤ q ∧ q < wr.heap.size := fun q hq => ⟨((Kd.R_bound HRW.out).1 q hq).2.1, ((Kd.R_bound HRW.out).1 q hq).2.2.1⟩
         have HX := Lib.hid (And.intro hrw hnb)
         have hlen2 : ((done.map (realD toks)).length + 1) * 56 ≤ 140737488355328 := by rw [List.length_map]; omega
         have hwb := Below.refl w.heap.size w23
         have HL2 := Lib.hid (And.intro hlen2 hwb)
         have HSD := Lib.hid (HS.out.perm (l' := []) (fun x hx => by simp at hx))
         clear hrw hnb hlen2 hwb HS
         go_wp2_with (first | (at_builtin; go_must (refine Kd.R_append k147 (w0 := w23) w.heap.size rfl (.tmp 51) (.tmp 53) 47 147 _ 56 rfl Tryz.underlying47 info147 rfl (by decide) (by decide) (.slice Au done.length cu) (done.map (realD toks)) (realD toks ⟨d0.name, d0.place, d0.bool, d0.future, m, true⟩) [.string ⟨d0.name.toArray⟩, .int .i64 (atOf toks d0.place), .bool d0.bool, .bool d0.future, .string ⟨m.toArray⟩, .bool true] (fun _ => True) (fun _ => False) rfl rfl ?_ ?_ (fun _ _ => trivial) HX.out.1 HL2.out.2 hsz HL2.out.1 ?_)))
         ·exact k147_mkM _ _ _ (realD toks ⟨d0.name, d0.place, d0.bool, d0.future, m, true⟩)
         ·exact fun q hq => hq.elim
         intro v1 w20 hR1 hb1 hg1 hat1
         have HR1 := Lib.hid (And.intro hR1 (And.intro hg1 hat1))
         have hS9 := St.grown HSD.out hg1 (fun q hq => (HX.out.2 q hq).1)
         have HS := Lib.hid hS9
         clear hR1 hb1 hg1 hat1 hS9
         go_wp2_with (fail)
         refine (St.iss [[108, 101, 116]] HS.out (by first | (simp; done) | (simp; omega) | omega) (by decide)).mono ?_
         rintro e w25 ⟨hO, hS, rfl⟩
         have HWw25 := Lib.hid hO
         clear hO
         obtain ⟨B, hB⟩ : ∃ B, PX.is [[108, 101, 116]] s24 = B := ⟨_, rfl⟩
         rw [hB]
         have hR := HR.out
         rw [hB] at hR
         have HBw25 := Lib.hid hB
         clear HR hB
         have HS := Lib.hid hS
         clear hS
         cases B with
         | false =>
          simp only [Bool.false_eq_true, if_false] at hR
          have HR := Lib.hid hR
          clear hR
          go_wp2_with (fail)
          go_roundg (kk + 1)
          case measure => omega
          case rel =>
           refine ⟨kk, done ++ [⟨d0.name, d0.place, d0.bool, d0.future, m, true⟩], s24, rfl, by simp; omega, HR, HS, ?_⟩
           rw [List.map_append]
           exact Lib.hid (DcsR.kp HR1.out.1 (Nat.le_refl _) (by repeat (first | with_reducible exact Kp.refl | with_reducible apply Kp.alloc | with_reducible apply Kp.drew | (with_reducible refine Kp.store ?_ ?_; omega) | (with_reducible refine Kp.only ?_ HWw25.out ?_; omega))))
         | true =>
          simp only [if_true] at hR
          have HR := Lib.hid hR
          clear hR
          go_wp2_with (fail)
          show Q (Ending.returned v1) _
          rw [← HQ.out]
          refine RdIs.ok HR.out (St.only (b := b) (toks := toks) (s := s24) (l := []) ?_) (St.pat (w := w) (l := []) ?_) ?_
          ·repeat (first | with_reducible exact HS.out | with_reducible apply St.alloc | with_reducible apply St.drewN | with_reducible apply St.drew | (with_reducible refine St.store ?_ ?_ ?_; omega; (intro x hx; simp at hx)))
          ·repeat (first | with_reducible exact HS.out | with_reducible apply St.alloc | with_reducible apply St.drewN | with_reducible apply St.drew | (with_reducible refine St.store ?_ ?_ ?_; omega; (intro x hx; simp at hx)))
          ·unfold DcsV
           rw [List.map_append]
           exact DcsR.kp HR1.out.1 (Nat.le_refl _) (by repeat (first | with_reducible exact Kp.refl | with_reducible apply Kp.alloc | with_reducible apply Kp.drew | (with_reducible refine Kp.store ?_ ?_; omega) | (with_reducible refine Kp.only ?_ HWw25.out ?_; omega)))
end Go.Proofs.YtjafllnbgfcchaaGreatDoor.Px
end
