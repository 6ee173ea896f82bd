/- Joined of: PAdd, PEqL, PEq. -/
import Derived.Test.YtjafllnbgfcchaaGreatDoorQAGPDecl
import Derived.Test.YtjafllnbgfcchaaGreatDoorQAGPCaught
import Derived.Test.YtjafllnbgfcchaaGreatDoorQAPExprF
import Derived.Deep.DeepMust
import Derived.Deep.RegionHeld2
section
/- A name to which an equation gives, walked. -/
namespace Go.Proofs.YtjafllnbgfcchaaGreatDoor.Px
set_option linter.unusedVariables false
set_option linter.unusedSimpArgs false
open Go Go.RowKit Go.Proofs.YtjafllnbgfcchaaGreatDoorW.PrintWords Go.Proofs.YtjafllnbgfcchaaGreatDoorW.PrintLast Go.Proofs.YtjafllnbgfcchaaGreatDoorW.PrintMore Go.Proofs.YtjafllnbgfcchaaGreatDoor.Lx Go.Proofs.YtjafllnbgfcchaaGreatDoor.XK
attribute [local go_sem ↓] Go.wp_at_zero Go.wp_at_succ
def realL (toks : List LX.Tok) (x : PX.Lf) : S166 := ⟨⟨x.name.toArray⟩, atOf toks x.place⟩
theorem info_left : (Tryz.prog.info? 166).map (fun i => (i.zero, i.size, i.bytes)) = some (some (.agg #[.string ⟨#[]⟩, .int .i64 0]), 2, 24) := by kernel_rfl
theorem blk8 {w : World} {g : Nat} {t : TypeId} {a0 a1 a2 a3 a4 a5 a6 a7 : Value} (h : w.heap[g]? = some (.cells #[a0, a1, a2, a3, a4, a5, a6, a7] t (0, 0))) :
  w.cell? ⟨g, 0, none⟩ = some a0 ∧ w.cell? ⟨g, 1, none⟩ = some a1 ∧ w.cell? ⟨g, 2, none⟩ = some a2 ∧ w.cell? ⟨g, 3, none⟩ = some a3 ∧ w.cell? ⟨g, 4, none⟩ = some a4 ∧ w.cell? ⟨g, 5, none⟩ = some a5 ∧ w.cell? ⟨g, 6, none⟩ = some a6 ∧ w.cell? ⟨g, 7, none⟩ = some a7 ∧ ∀ j, w.frozen? ⟨g, j, none⟩ = false :=
 ⟨blk_cell h 0, blk_cell h 1, blk_cell h 2, blk_cell h 3, blk_cell h 4, blk_cell h 5, blk_cell h 6, blk_cell h 7, fun j => blk_frozen h j⟩
structure LeftsAt (p b pb qb n : Nat) (toks : List LX.Tok) (W : World) (s : List PX.T) (done : List PX.Lf) : Prop where
 pat : PAt W p b toks s
 pbox : W.heap[pb]? = some (.cells #[.pointer (some ⟨p, 0, none⟩)] 88 (0, 0))
 row : ∃ A c, W.heap[qb]? = some (.cells #[.slice A done.length c, .bool false, .int .i64 0, .int .i64 0, .int .i64 0, .string ⟨#[]⟩, .bool false, .slice none 0 0] 56 (0, 0)) ∧ k166.R 166 W n (fun _ => True) (.slice A done.length c) (done.map (realL toks))
 few : done.length ≤ 1000000
structure Low (n p qb : Nat) (W W' : World) : Prop where
 os : W'.os = W.os
 tape : W'.tape = W.tape
 output : W'.output = W.output
 size : W.heap.size ≤ W'.heap.size
 keep : ∀ i, i < n → i ≠ p → i ≠ qb → W'.heap[i]? = W.heap[i]?
theorem Low.refl {n p qb : Nat} {W : World} : Low n p qb W W := ⟨rfl, rfl, rfl, Nat.le_refl _, fun _ _ _ _ => rfl⟩
theorem Low.trans {n p qb : Nat} {W W1 W2 : World} (h : Low n p qb W W1) (k : Low n p qb W1 W2) : Low n p qb W W2 :=
 ⟨k.os.trans h.os, k.tape.trans h.tape, k.output.trans h.output, Nat.le_trans h.size k.size, fun i h1 h2 h3 => (k.keep i h1 h2 h3).trans (h.keep i h1 h2 h3)⟩
theorem Low.of_only {n p qb : Nat} {W W1 : World} (h : Only p W W1) (hn : n ≤ W.heap.size) : Low n p qb W W1 := ⟨h.os, h.tape, h.output, h.size, fun i h1 h2 _ => h.keep i (by omega) h2⟩
theorem PAt.low {w w' : World} {p b n : Nat} {toks : List LX.Tok} {s : List PX.T} (h : PAt w p b toks s) (hp : p < n) (hb : b < n) (hB : Below n w w') : PAt w' p b toks s := by
 obtain ⟨c, k, hk⟩ := h.blk
 exact ⟨⟨c, k, (hB.block p hp).trans hk.1, hk.2⟩, h.row.heap (hB.block b hb), h.good, h.ne, Nat.lt_of_lt_of_le h.lt hB.size, h.few, h.nums⟩
set_option maxHeartbeats 4000000 in
set_option maxRecDepth 100000 in
theorem add_walk (p b pb qb n : Nat) (toks : List LX.Tok) (s : List PX.T) (done : List PX.Lf) (w : World) (h : LeftsAt p b pb qb n toks w s done) (hn : n ≤ w.heap.size) (hq : qb < n) (hd : pb < n ∧ p < n ∧ b < n ∧ pb ≠ p ∧ pb ≠ qb ∧ qb ≠ p ∧ qb ≠ b) (hfew : done.length + 1 ≤ 1000000) :
  Calls Tryz.prog 131 #[.pointer (some ⟨pb, 0, none⟩), .pointer (some ⟨qb, 0, none⟩)] w fun e w' => Low n p qb w w' ∧
   match PX.name s with
   | .ok m s' => e = .returned (.tuple #[]) ∧ LeftsAt p b pb qb n toks w' s' (done ++ [⟨m, s.length⟩])
   | .bad q er => e = Pan toks q er
   | .out => False := by
 obtain ⟨Q, hQ⟩ : ∃ Q : Ending → World → Prop, Q = fun e w' => Low n p qb w w' ∧
   match PX.name s with
   | .ok m s' => e = .returned (.tuple #[]) ∧ LeftsAt p b pb qb n toks w' s' (done ++ [⟨m, s.length⟩])
   | .bad q er => e = Pan toks q er
   | .out => False := ⟨_, rfl⟩
 rw [← hQ]
 have HQ := Lib.hid hQ
 have H := Lib.hid h
 have HD := Lib.hid hd
 have hp0 : w.cell? ⟨pb, 0, none⟩ = some (.pointer (some ⟨p, 0, none⟩)) := blk_cell h.pbox 0
 clear hQ h hd
 go_enter Tryz.func131, Tryz.ntmps131
 go_wp2_with (fail)
 refine (name_walk p b toks s w H.out.pat).mono ?_
 rintro e w1 ⟨hO, hm⟩
 have HO := Lib.hid hO
 clear hO
 cases hr : PX.name s with
 | out => rw [hr] at hm; exact hm.elim
 | bad q er =>
  rw [hr] at hm
  have hm2 : e = Pan toks q er := hm
  subst hm2
  unfold Pan
  (try simp only [Exit.inBlock, Exit.then])
  rw [HQ.out, hr]
  exact ⟨rfl, Low.of_only HO.out hn, rfl⟩
 | ok m s' =>
  rw [hr] at hm
  obtain ⟨hP, v, rfl, k_m, n_m, rfl⟩ := hm
  have HP := Lib.hid hP
  obtain ⟨A, c, hqb, hR⟩ := H.out.row
  have hqb1 := HO.out.blk hqb HD.out.2.2.2.2.2.1
  have hs1 := HO.out.size
  have hR1 : k166.R 166 w1 n (fun _ => True) (.slice A done.length c) (done.map (realL toks)) :=
   Kd.R_mono (Kd.R_move (Kd.R_bound hR) (fun k hk => HO.out.keep k hk.2.2.1 (by have := hk.2.1; have := HD.out.2.1; omega))) (fun _ _ => trivial)
  obtain ⟨q0, q1, q2, q3, q4, q5, q6, q7, qf⟩ := blk8 hqb1
  have hnb : ∀ q, (Value.slice A done.length c).ownBlock = some q → n ≤ q ∧ q < w.heap.size := fun q hq => ⟨((Kd.R_bound hR).1 q hq).2.1, ((Kd.R_bound hR).1 q hq).2.2.1⟩
  have hlen2 : ((done.map (realL toks)).length + 1) * 24 ≤ 140737488355328 := by rw [List.length_map]; omega
  have HX := Lib.hid (And.intro hR1 (And.intro hnb (And.intro hlen2 hqb1)))
  have hlq := blk_lt hqb1
  clear hP hR hR1 hnb hlen2 hqb hqb1
  go_wp2_with (first | (at_builtin; go_must (refine Kd.R_append k166 (w0 := w1) n rfl (.tmp 8) (.tmp 14) 51 166 _ 24 rfl Tryz.underlying51 info_left rfl (by decide) (by decide) (.slice A done.length c) (done.map (realL toks)) (realL toks ⟨m, s.length⟩) [.string ⟨m.toArray⟩, .int .i64 (atOf toks s.length)] (fun _ => True) (fun _ => False) rfl (congrArg (fun k => Value.slice (some ⟨k, 0, none⟩) 1 1) (World.size_alloc _ _).symm) ?_ ?_ (fun _ _ => trivial) ?_ ?_ ?_ HX.out.2.2.1 ?_)))
  ·exact k166_mkM _ _ _ (realL toks ⟨m, s.length⟩)
  ·exact fun q hq => hq.elim
  ·exact Kd.R_alloc HX.out.1 _
  ·exact (below_alloc (Below.refl w1.heap.size w1) _).mono (Nat.le_trans hn hs1)
  ·rw [World.size_alloc]; omega
  intro v1 w2 hR2 hb2 hg2 hat2
  have hqb2 := (hb2.block qb hq).trans HX.out.2.2.2
  obtain ⟨A1, c1, hv1⟩ : ∃ A1 c1, v1 = .slice A1 (done.length + 1) c1 := by
   obtain ⟨A1, c1, h1⟩ := Kd.R_slice hR2
   refine ⟨A1, c1, h1.trans ?_⟩
   rw [List.length_append, List.length_map]
   rfl
  subst hv1
  have hPat := (HP.out.low HD.out.2.1 HD.out.2.2.1 hb2).store' (g := qb) (j := 0) (v := .slice A1 (done.length + 1) c1) HD.out.2.2.2.2.2.1 HD.out.2.2.2.2.2.2
  have hend : Low n p qb w (w2.setCell ⟨qb, 0, none⟩ (.slice A1 (done.length + 1) c1)) ∧ LeftsAt p b pb qb n toks (w2.setCell ⟨qb, 0, none⟩ (.slice A1 (done.length + 1) c1)) s' (done ++ [PX.Lf.mk m s.length]) := by
   refine ⟨?_, ?_⟩
   ·refine (Low.of_only HO.out hn).trans ⟨?_, ?_, ?_, ?_, ?_⟩
    ·exact hb2.os
    ·exact hb2.tape
    ·exact hb2.output
    ·have := hb2.size; simpa [World.setCell] using this
    ·intro i h1 h2 h3
     exact (Below.heap_setCell w2 ⟨qb, 0, none⟩ _ i h3).trans (hb2.block i h1)
   ·refine ⟨hPat, ?_, ?_, by simp; omega⟩
    ·exact blk_store' HD.out.2.2.2.2.1 ((hb2.block pb HD.out.1).trans (HO.out.blk H.out.pbox HD.out.2.2.2.1))
    ·have e9 : (done ++ [PX.Lf.mk m s.length]).length = done.length + 1 := by simp
     rw [e9, List.map_append]
     refine ⟨A1, c1, blk_set hqb2 0 _, ?_⟩
     exact Kd.R_mono (Kd.R_move (Kd.R_bound hR2) (fun k hk => Below.heap_setCell w2 ⟨qb, 0, none⟩ _ k (by have h7 := hk.2.1; show k ≠ qb; omega))) (fun _ _ => trivial)
  have hcell : w2.cell? ⟨qb, 0, none⟩ = some (.slice A done.length c) := blk_cell hqb2 0
  have hfr : w2.frozen? ⟨qb, 0, none⟩ = false := blk_frozen hqb2 0
  have HE := Lib.hid hend
  clear hend hR2 hb2 hg2 hat2 hPat hqb2
  go_wp2_with (fail)
  go_end0
  rw [HQ.out, hr]
  exact ⟨HE.out.1, rfl, HE.out.2⟩
end Go.Proofs.YtjafllnbgfcchaaGreatDoor.Px
end
section
/- What an equation's walk takes: the names to which it gives, in Lean; the call that reads one. -/
namespace Go.Proofs.YtjafllnbgfcchaaGreatDoor.Px
set_option linter.unusedVariables false
set_option linter.unusedSimpArgs false
open Go Go.RowKit Go.Proofs.YtjafllnbgfcchaaGreatDoorW.PrintWords Go.Proofs.YtjafllnbgfcchaaGreatDoorW.PrintLast Go.Proofs.YtjafllnbgfcchaaGreatDoorW.PrintMore Go.Proofs.YtjafllnbgfcchaaGreatDoor.Lx Go.Proofs.YtjafllnbgfcchaaGreatDoor.XK
def leftsGo {β : Type} (C : List PX.Lf → List PX.T → PX.Res β) (done : List PX.Lf) (k : Nat) (s : List PX.T) : PX.Res β :=
 (PX.leftsL k s).bind fun l s4 => (PX.want [41] s4).bind fun _ s5 => C (done ++ l) s5
theorem leftsGo_zero {β : Type} (C : List PX.Lf → List PX.T → PX.Res β) (done : List PX.Lf) (s : List PX.T) : leftsGo C done 0 s = .out := rfl
theorem leftsGo_next {β : Type} (C : List PX.Lf → List PX.T → PX.Res β) (done : List PX.Lf) (k : Nat) (s : List PX.T) :
  leftsGo C done (k + 1) s = if PX.is [[44]] s = true then (PX.name s.tail).bind fun m s1 => leftsGo C (done ++ [⟨m, s.tail.length⟩]) k s1 else (PX.want [41] s).bind fun _ s5 => C done s5 := by
 unfold leftsGo
 rw [PX.leftsL, bind_ite, bind_assoc_]
 congr 1
 ·congr 1
  funext m s1
  rw [bind_assoc_]
  congr 1
  funext l s4
  simp [PX.Res.bind]
 ·simp [PX.Res.bind]
theorem lefts_bind {β : Type} (C : List PX.Lf → List PX.T → PX.Res β) (k : Nat) (s : List PX.T) :
  (PX.lefts k s).bind C = if PX.is [[40]] s = true then (PX.name s.tail).bind fun m s1 => (PX.want [44] s1).bind fun _ s2 => (PX.name s2).bind fun m2 s3 => leftsGo C [⟨m, s.tail.length⟩, ⟨m2, s2.length⟩] k s3
   else (PX.name s).bind fun m s1 => C [⟨m, s.length⟩] s1 := by
 unfold PX.lefts
 rw [bind_ite]
 congr 1
 ·rw [bind_assoc_]
  congr 1
  funext m s1
  rw [bind_assoc_]
  congr 1
  funext _ s2
  rw [bind_assoc_]
  congr 1
  funext m2 s3
  rw [bind_assoc_]
  unfold leftsGo
  congr 1
  funext l s4
  rw [bind_assoc_]
  rfl
 ·rw [bind_assoc_]
  rfl
theorem LfsR.kp {n0 n1 : Nat} {W W' : World} {v : Value} {xs : List S166} (h : k166.R 166 W n1 (fun _ => True) v xs) (hn : n0 ≤ n1) (hk : Kp n1 W W') : k166.R 166 W' n0 (fun _ => True) v xs :=
 Kd.R_lower (Kd.R_mono (Kd.R_move (Kd.R_bound h) (fun k hk' => hk.keep k hk'.2.1 hk'.2.2.1)) (fun _ _ => trivial)) hn
abbrev QO (A : Option Addr) (n c : Nat) : Obj := .cells #[.slice A n c, .bool false, .int .i64 0, .int .i64 0, .int .i64 0, .string ⟨#[]⟩, .bool false, .slice none 0 0] 56 (0, 0)
abbrev PB (p : Nat) : Obj := .cells #[.pointer (some ⟨p, 0, none⟩)] 88 (0, 0)
theorem St.adds {p b pb qb rb n c : Nat} {A : Option Addr} {toks : List LX.Tok} {w W : World} {s : List PX.T} {done : List PX.Lf} (h : St p b toks w W s [(qb, QO A done.length c), (rb, QO none 0 0), (pb, PB p)])
  (hr : k166.R 166 W n (fun _ => True) (.slice A done.length c) (done.map (realL toks))) (hn : n ≤ W.heap.size) (hd : qb < n ∧ rb < n ∧ pb < n ∧ pb ≠ qb ∧ rb ≠ qb) (hf : done.length + 1 ≤ 1000000) :
  Calls Tryz.prog 131 #[.pointer (some ⟨pb, 0, none⟩), .pointer (some ⟨qb, 0, none⟩)] W fun e w' =>
   match PX.name s with
   | .ok m s' => e = .returned (.tuple #[]) ∧ W.heap.size ≤ w'.heap.size ∧ ∃ A' c', St p b toks w w' s' [(qb, QO A' (done ++ [PX.Lf.mk m s.length]).length c'), (rb, QO none 0 0), (pb, PB p)] ∧
     k166.R 166 w' n (fun _ => True) (.slice A' (done ++ [PX.Lf.mk m s.length]).length c') ((done ++ [PX.Lf.mk m s.length]).map (realL toks))
   | .bad q er => e = Pan toks q er ∧ Only p w w'
   | .out => False := by
 have hq := h.loc (qb, QO A done.length c) (by simp)
 have hrb := h.loc (rb, QO none 0 0) (by simp)
 have hpb := h.loc (pb, PB p) (by simp)
 have hpl := h.pl
 have hbl := h.bl
 have q1 : w.heap.size ≤ qb := hq.1
 have q2 : w.heap.size ≤ pb := hpb.1
 have hE : LeftsAt p b pb qb n toks W s done := ⟨h.pat, hpb.2, ⟨A, c, hq.2, hr⟩, by omega⟩
 refine (add_walk p b pb qb n toks s done W hE hn hd.1 ⟨hd.2.2.1, by omega, by omega, by omega, hd.2.2.2.1, by omega, by omega⟩ hf).mono ?_
 rintro e w' ⟨hL, hm⟩
 have hO : Only p w w' := ⟨hL.os.trans h.only.os, hL.tape.trans h.only.tape, hL.output.trans h.only.output, Nat.le_trans h.only.size hL.size, fun i h1 h2 => (hL.keep i (by omega) h2 (by omega)).trans (h.only.keep i h1 h2)⟩
 cases hr2 : PX.name s with
 | out => rw [hr2] at hm; exact hm.elim
 | bad q er => rw [hr2] at hm; exact ⟨hm, hO⟩
 | ok m s' =>
  rw [hr2] at hm
  obtain ⟨he, hA⟩ := hm
  obtain ⟨A', c', hb, hR⟩ := hA.row
  refine ⟨he, hL.size, A', c', ⟨hO, hA.pat, hpl, hbl, ?_⟩, hR⟩
  intro x hx
  simp only [List.mem_cons, List.not_mem_nil, or_false] at hx
  rcases hx with rfl | rfl | rfl
  ·exact ⟨q1, hb⟩
  ·exact ⟨hrb.1, (hL.keep rb hd.2.1 (by have := hrb.1; intro e9; omega) hd.2.2.2.2).trans hrb.2⟩
  ·exact ⟨q2, hA.pbox⟩
end Go.Proofs.YtjafllnbgfcchaaGreatDoor.Px
end
section
/- An equation, walked. -/
namespace Go.Proofs.YtjafllnbgfcchaaGreatDoor.Px
set_option linter.unusedVariables false
set_option linter.unusedSimpArgs false
open Go Go.RowKit Go.Proofs.YtjafllnbgfcchaaGreatDoorW.PrintWords Go.Proofs.YtjafllnbgfcchaaGreatDoorW.PrintLast Go.Proofs.YtjafllnbgfcchaaGreatDoorW.PrintMore Go.Proofs.YtjafllnbgfcchaaGreatDoor.Lx Go.Proofs.YtjafllnbgfcchaaGreatDoor.XK
attribute [local go_sem ↓] Go.wp_at_zero Go.wp_at_succ
theorem blk1 {w : World} {g : Nat} {t : TypeId} {a0 : Value} (h : w.heap[g]? = some (.cells #[a0] t (0, 0))) : w.cell? ⟨g, 0, none⟩ = some a0 ∧ ∀ j, w.frozen? ⟨g, j, none⟩ = false := ⟨blk_cell h 0, fun j => blk_frozen h j⟩
theorem right_bind {β : Type} (C : Bool × PX.Ex → List PX.T → PX.Res β) (K : Nat) (s : List PX.T) :
  (PX.right K s).bind C = if PX.is [[97, 115, 121, 110, 99]] s = true then (PX.name s.tail).bind fun m s1 => (PX.call K m s.tail.length s1).bind fun e s2 => C (true, e) s2 else (PX.expr K s).bind fun e s1 => C (false, e) s1 := by
 unfold PX.right
 rw [bind_ite, bind_assoc_, bind_assoc_]
 simp only [bind_assoc_]
 rfl
abbrev QX (A : Option Addr) (n c : Nat) (o : Bool) : Obj := .cells #[.slice A n c, .bool o, .int .i64 0, .int .i64 0, .int .i64 0, .string ⟨#[]⟩, .bool false, .slice none 0 0] 56 (0, 0)
abbrev QF (A : Option Addr) (n c : Nat) (o : Bool) (toks : List LX.Tok) (x : PX.Ex) (A2 : Option Addr) (c2 : Nat) : Obj := .cells #[.slice A n c, .bool o, .int .i64 x.kind, .int .i64 (atOf toks x.place), .int .i64 x.n, .string ⟨x.name.toArray⟩, .bool x.off, .slice A2 (reals toks x.kids).length c2] 56 (0, 0)
theorem St.set6 {p b g : Nat} {toks : List LX.Tok} {w W : World} {s : List PX.T} {l : List (Nat × Obj)} {t : TypeId} {a0 a1 a2 a3 a4 a5 a6 a7 : Value} (h : St p b toks w W s ((g, .cells #[a0, a1, a2, a3, a4, a5, a6, a7] t (0, 0)) :: l)) (hg : w.heap.size ≤ g) (hn : ∀ x ∈ l, x.1 ≠ g) (v2 v3 v4 v5 v6 v7 : Value) :
  St p b toks w ((((((W.setCell ⟨g, 2, none⟩ v2).setCell ⟨g, 3, none⟩ v3).setCell ⟨g, 4, none⟩ v4).setCell ⟨g, 5, none⟩ v5).setCell ⟨g, 6, none⟩ v6).setCell ⟨g, 7, none⟩ v7) s ((g, .cells #[a0, a1, v2, v3, v4, v5, v6, v7] t (0, 0)) :: l) :=
 (((((h.setHead hn 2 v2).setHead hn 3 v3).setHead hn 4 v4).setHead hn 5 v5).setHead hn 6 v6).setHead hn 7 v7
theorem far6 {w : World} {g g' : Nat} {t : TypeId} {cs : Array Value} (hn : g ≠ g') (h : w.heap[g]? = some (.cells cs t (0, 0))) (v2 v3 v4 v5 v6 v7 : Value) :
  ((((((w.setCell ⟨g', 2, none⟩ v2).setCell ⟨g', 3, none⟩ v3).setCell ⟨g', 4, none⟩ v4).setCell ⟨g', 5, none⟩ v5).setCell ⟨g', 6, none⟩ v6).setCell ⟨g', 7, none⟩ v7).heap[g]? = some (.cells cs t (0, 0)) :=
 blk_far (blk_far (blk_far (blk_far (blk_far (blk_far h hn v2) hn v3) hn v4) hn v5) hn v6) hn v7
theorem blk_set8 {w : World} {g : Nat} {t : TypeId} {a0 a1 a2 a3 a4 a5 a6 a7 : Value} (h : w.heap[g]? = some (.cells #[a0, a1, a2, a3, a4, a5, a6, a7] t (0, 0))) (v0 v1 v2 v3 v4 v5 v6 v7 : Value) :
  ((((((((w.setCell ⟨g, 0, none⟩ v0).setCell ⟨g, 1, none⟩ v1).setCell ⟨g, 2, none⟩ v2).setCell ⟨g, 3, none⟩ v3).setCell ⟨g, 4, none⟩ v4).setCell ⟨g, 5, none⟩ v5).setCell ⟨g, 6, none⟩ v6).setCell ⟨g, 7, none⟩ v7).heap[g]? = some (.cells #[v0, v1, v2, v3, v4, v5, v6, v7] t (0, 0)) := by
 have h4 : ((((w.setCell ⟨g, 0, none⟩ v0).setCell ⟨g, 1, none⟩ v1).setCell ⟨g, 2, none⟩ v2).setCell ⟨g, 3, none⟩ v3).heap[g]? = some (.cells #[v0, v1, v2, v3, a4, a5, a6, a7] t (0, 0)) := blk_put (blk_put (blk_put (blk_put h 0 v0 rfl) 1 v1 rfl) 2 v2 rfl) 3 v3 rfl
 exact blk_put (blk_put (blk_put (blk_put h4 4 v4 rfl) 5 v5 rfl) 6 v6 rfl) 7 v7 rfl
def realQ (toks : List LX.Tok) (q : PX.Eq) : S56 := ⟨q.left.map (realL toks), q.async, real toks q.e⟩
theorem ExM.kids {toks : List LX.Tok} {n0 : Nat} {w : World} {x : PX.Ex} {A : Option Addr} {c : Nat} (hM : k54.M w n0 (fun _ => True) (real toks x) [.int .i64 x.kind, .int .i64 (atOf toks x.place), .int .i64 x.n, .string ⟨x.name.toArray⟩, .bool x.off, .slice A (reals toks x.kids).length c]) : k54.R 54 w n0 (fun _ => True) (.slice A (reals toks x.kids).length c) (reals toks x.kids) := by
 obtain ⟨v5, he, hR⟩ := k54_openM hM
 rw [real_kids] at hR
 simp only [List.cons.injEq, and_true] at he
 obtain ⟨_, _, _, _, _, rfl⟩ := he
 exact hR
theorem QM.mk {toks : List LX.Tok} {n0 : Nat} {w : World} {x : PX.Ex} {o : Bool} {l : List PX.Lf} {A A2 : Option Addr} {c c2 : Nat} (hR : k166.R 166 w n0 (fun _ => True) (.slice A l.length c) (l.map (realL toks))) (hM : k54.M w n0 (fun _ => True) (real toks x) [.int .i64 x.kind, .int .i64 (atOf toks x.place), .int .i64 x.n, .string ⟨x.name.toArray⟩, .bool x.off, .slice A2 (reals toks x.kids).length c2]) :
  k56.M w n0 (fun _ => True) (realQ toks ⟨l, o, x⟩) [.slice A l.length c, .bool o, .int .i64 x.kind, .int .i64 (atOf toks x.place), .int .i64 x.n, .string ⟨x.name.toArray⟩, .bool x.off, .slice A2 (reals toks x.kids).length c2] := by
 have h7 := ExM.kids hM
 cases x
 exact k56_mkM w n0 (fun _ => True) (realQ toks ⟨l, o, _⟩) hR h7
def EqV (toks : List LX.Tok) (n0 : Nat) (w : World) (q : PX.Eq) (v : Value) : Prop := ∃ c : List Value, v = .agg c.toArray ∧ k56.M w n0 (fun _ => True) (realQ toks q) c

set_option maxHeartbeats 8000000 in
set_option maxRecDepth 100000 in
theorem eq_walk {p b : Nat} {toks : List LX.Tok} (K : Nat) (hK : K ≤ 900000) (s : List PX.T) (w : World) (h : PAt w p b toks s) (hout : (PX.eq K s).isOut = false) :
  Calls Tryz.prog 84 #[.pointer (some ⟨p, 0, none⟩)] w fun e w' => RdIs p b toks w (PX.eq K s) (EqV toks w.heap.size) e w' := by
 obtain ⟨R, hR⟩ : ∃ R, PX.eq K s = R := ⟨_, rfl⟩
 rw [hR] at hout ⊢
 rw [PX.eq] at hR
 obtain ⟨C2, hC2⟩ : ∃ C : List PX.Lf → Bool × PX.Ex → List PX.T → PX.Res PX.Eq, C = fun l q s3 => (PX.shallow q.2 s3).bind fun _ s4 => (PX.want [59] s4).bind fun _ s5 => .ok ⟨l, q.1, q.2⟩ s5 := ⟨_, rfl⟩
 obtain ⟨C, hC⟩ : ∃ C : List PX.Lf → List PX.T → PX.Res PX.Eq, C = fun l s1 => (PX.want [61] s1).bind fun _ s2 => (PX.right K s2).bind (C2 l) := ⟨_, rfl⟩
 have hR : (PX.lefts K s).bind C = R := by rw [hC, hC2]; exact hR
 rw [lefts_bind] at hR
 have H := Lib.hid h
 have HR := Lib.hid hR
 have HO := Lib.hid hout
 have HC := Lib.hid hC
 have HC2 := Lib.hid hC2
 clear h hR hout hC hC2
 obtain ⟨Q, hQ⟩ : ∃ Q, RdIs p b toks w R (EqV toks w.heap.size) = Q := ⟨_, rfl⟩
 rw [show (fun e w' => RdIs p b toks w R (EqV toks w.heap.size) e w') = Q from hQ]
 have HQ := Lib.hid hQ
 clear hQ
 have hpl := H.out.plt
 go_enter Tryz.func84, Tryz.ntmps84
 go_wp2_with (fail)
 have HS := Lib.hid (St.newg (g := w.heap.size + 1 + 1) (o := QO none 0 0) (by simp) (St.newg (g := w.heap.size + 1) (o := QO none 0 0) (by simp) (St.newg (g := w.heap.size) (o := PB p) rfl (St.start (w := w) H.out))))
 refine (St.takes [[40]] HS.out (by first | (simp; done) | (simp; omega) | omega) (by decide)).mono ?_
 rintro e w1 ⟨hg, hO, hS, t1, hp, hat, rfl⟩
 have HW1 := Lib.hid hO
 clear hO hp hat hg HS
 obtain ⟨B, hB⟩ : ∃ B, PX.is [[40]] s = B := ⟨_, rfl⟩
 rw [hB] at hS ⊢
 have hR := HR.out
 rw [hB] at hR
 have HR := Lib.hid hR
 have HS := Lib.hid hS
 clear hR hB hS
 unfold tokA tokV
 have lw1 := blk_lt HS.out.l0
 go_upto_if 18 with (fail)
 go_cut [] (fun wc => ∃ A c l s7, Hid (C l s7 = R) ∧ Hid (St p b toks w wc s7 [(w.heap.size + 1 + 1, QO A l.length c), (w.heap.size + 1, QO none 0 0), (w.heap.size, PB p)]) ∧ Hid (k166.R 166 wc (w.heap.size + 1 + 1 + 1) (fun _ => True) (.slice A l.length c) (l.map (realL toks))))
 case first =>
  cases B with
  | false =>
   simp only [Bool.false_eq_true, if_false] at HR HS
   go_wp2_with (fail)
   refine (St.adds (n := (w.heap.size + 1 + 1 + 1)) (done := []) (A := none) (c := 0) (HS.out.alloc) (Kd.R_nil _ _ _ _ _) (by first | (simp; done) | (simp; omega) | omega) ⟨by omega, by omega, by omega, by omega, by omega⟩ (by simp)).mono ?_
   intro e w2 hm
   cases hr : PX.name s with
   | out => rw [hr] at hm; exact hm.elim
   | bad q er =>
    rw [hr] at hm
    obtain ⟨rfl, hO2⟩ := hm
    have hF := HR.out
    rw [hr] at hF
    unfold Pan
    (try simp only [Exit.inBlock, Exit.then])
    rw [← HQ.out]
    exact ⟨rfl, RdIs.bad hF hO2⟩
   | ok m s3 =>
    rw [hr] at hm
    obtain ⟨rfl, hsz_w2, A_w2, c_w2, hS, hRow⟩ := hm
    have hR := HR.out
    rw [hr, bind_ok] at hR
    clear HR hr HS
    have HR := Lib.hid hR
    have HS := Lib.hid hS
    have HRow := Lib.hid hRow
    clear hR hS hRow
    have l_w2 := blk_lt HS.out.l0
    go_wp2_with (fail)
    go_meet
    case rel => exact ⟨_, _, [PX.Lf.mk m s.length], _, HR, HS, HRow⟩
  | true =>
   simp only [if_true] at HR HS
   go_wp2_with (fail)
   refine (St.adds (n := (w.heap.size + 1 + 1 + 1)) (done := []) (A := none) (c := 0) (HS.out.alloc) (Kd.R_nil _ _ _ _ _) (by first | (simp; done) | (simp; omega) | omega) ⟨by omega, by omega, by omega, by omega, by omega⟩ (by simp)).mono ?_
   intro e w4 hm
   cases hr : PX.name s.tail with
   | out => rw [hr] at hm; exact hm.elim
   | bad q er =>
    rw [hr] at hm
    obtain ⟨rfl, hO2⟩ := hm
    have hF := HR.out
    rw [hr] at hF
    unfold Pan
    (try simp only [Exit.inBlock, Exit.then])
    rw [← HQ.out]
    exact ⟨rfl, RdIs.bad hF hO2⟩
   | ok m s5 =>
    rw [hr] at hm
    obtain ⟨rfl, hsz_w4, A_w4, c_w4, hS, hRow⟩ := hm
    have hR := HR.out
    rw [hr, bind_ok] at hR
    clear HR hr HS
    have HR := Lib.hid hR
    have HS := Lib.hid hS
    have HRow := Lib.hid hRow
    clear hR hS hRow
    have l_w4 := blk_lt HS.out.l0
    obtain ⟨q2_0, q2_f⟩ := blk1 HS.out.l2
    have q2_l := blk_lt HS.out.l2
    go_wp2_with (fail)
    refine (St.wants [44] HS.out (by first | (simp; done) | (simp; omega) | omega)).mono ?_
    rintro e w6 ⟨hO, hm⟩
    have HWw6 := Lib.hid hO
    clear hO
    cases hr : PX.want [44] s5 with
    | out => rw [hr] at hm; exact hm.elim
    | bad q er =>
     rw [hr] at hm
     obtain ⟨rfl, hO2⟩ := hm
     have hF := HR.out
     rw [hr] at hF
     unfold Pan
     (try simp only [Exit.inBlock, Exit.then])
     rw [← HQ.out]
     exact ⟨rfl, RdIs.bad hF hO2⟩
    | ok _u s7 =>
     rw [hr] at hm
     obtain ⟨hS, v, rfl, hV⟩ := hm
     have hR := HR.out
     rw [hr] at hR
     rw [bind_ok] at hR
     clear HR hr
     have HR := Lib.hid hR
     have HS := Lib.hid hS
     clear hR hS
     clear hV
     have l2_w6 := blk_lt HS.out.l0
     go_wp2_with (fail)
     refine (St.adds (n := (w.heap.size + 1 + 1 + 1))  (HS.out) (LfsR.kp HRow.out (Nat.le_refl _) (by repeat (first | with_reducible exact Kp.refl | with_reducible apply Kp.alloc | with_reducible apply Kp.drew | (with_reducible refine Kp.store ?_ ?_; omega) | (with_reducible refine Kp.only ?_ HWw6.out ?_; omega)))) (by first | (simp; done) | (simp; omega) | omega) ⟨by omega, by omega, by omega, by omega, by omega⟩ (by simp)).mono ?_
     intro e w8 hm
     cases hr : PX.name s7 with
     | out => rw [hr] at hm; exact hm.elim
     | bad q er =>
      rw [hr] at hm
      obtain ⟨rfl, hO2⟩ := hm
      have hF := HR.out
      rw [hr] at hF
      unfold Pan
      (try simp only [Exit.inBlock, Exit.then])
      rw [← HQ.out]
      exact ⟨rfl, RdIs.bad hF hO2⟩
     | ok m2 s9 =>
      rw [hr] at hm
      obtain ⟨rfl, hsz_w8, A_w8, c_w8, hS, hRow⟩ := hm
      have hR := HR.out
      rw [hr, bind_ok] at hR
      clear HR hr HS
      have HR := Lib.hid hR
      have HS := Lib.hid hS
      have HRow := Lib.hid hRow
      clear hR hS hRow
      have l_w8 := blk_lt HS.out.l0
      go_wp2_with (fail)
      go_loopg [] (K + 1) (fun m wr => ∃ kk done s' A c, m = kk + 1 ∧ done.length + kk ≤ K + 2 ∧ Hid (leftsGo C done kk s' = R) ∧ Hid (St p b toks w wr s' [(w.heap.size + 1 + 1, QO A done.length c), (w.heap.size + 1, QO none 0 0), (w.heap.size, PB p)]) ∧ Hid (k166.R 166 wr (w.heap.size + 1 + 1 + 1) (fun _ => True) (.slice A done.length c) (done.map (realL toks))))
      case atStart => exact ⟨K, [PX.Lf.mk m s.tail.length, PX.Lf.mk m2 _], _, _, _, rfl, by simp; omega, HR, HS, HRow⟩
      case round =>
       obtain ⟨kk, done, s', A_r, c_r, rfl, hkk, HR', HS', HRow'⟩ := hrel
       clear HR HS HRow
       have HR := HR'
       have HS := HS'
       have HRow := HRow'
       clear HR' HS' HRow'
       cases kk with
       | zero =>
        have h0 := HR.out
        rw [leftsGo_zero] at h0
        have h1 := HO.out
        rw [← h0] at h1
        cases h1
       | succ kk =>
        have hR := HR.out
        rw [leftsGo_next] at hR
        clear HR
        have HR := Lib.hid hR
        clear hR
        have l_r := blk_lt HS.out.l0
        obtain ⟨q2_0, q2_f⟩ := blk1 HS.out.l2
        have q2_l := blk_lt HS.out.l2
        go_wp2_with (fail)
        refine (St.takes [[44]] HS.out (by first | (simp; done) | (simp; omega) | omega) (by decide)).mono ?_
        rintro e w10 ⟨hg, hO, hS, t11, hp, hat, rfl⟩
        have HWw10 := Lib.hid hO
        have Ht11 := Lib.hid (And.intro hp hat)
        clear hO hp hat hg
        obtain ⟨B, hB⟩ : ∃ B, PX.is [[44]] s' = B := ⟨_, rfl⟩
        rw [hB] at hS ⊢
        have hR := HR.out
        rw [hB] at hR
        have HBw10 := Lib.hid hB
        clear HR hB
        unfold tokA tokV
        cases B with
        | false =>
         simp only [Bool.false_eq_true, if_false] at hR hS
         have HR := Lib.hid hR
         have HS := Lib.hid hS
         clear hR hS
         have l_w10 := blk_lt HS.out.l0
         obtain ⟨q2_0, q2_f⟩ := blk1 HS.out.l2
         have q2_l := blk_lt HS.out.l2
         go_wp2_with (fail)
         refine (St.wants [41] HS.out.new (by first | (simp; done) | (simp; omega) | omega)).mono ?_
         rintro e w12 ⟨hO, hm⟩
         have HWw12 := Lib.hid hO
         clear hO
         cases hr : PX.want [41] s' with
         | out => rw [hr] at hm; exact hm.elim
         | bad q er =>
          rw [hr] at hm
          obtain ⟨rfl, hO2⟩ := hm
          have hF := HR.out
          rw [hr] at hF
          unfold Pan
          (try simp only [Exit.inBlock, Exit.then])
          rw [← HQ.out]
          exact ⟨rfl, RdIs.bad hF hO2⟩
         | ok _u s13 =>
          rw [hr] at hm
          obtain ⟨hS, v, rfl, hV⟩ := hm
          have hR := HR.out
          rw [hr] at hR
          rw [bind_ok] at hR
          clear HR hr
          have HR := Lib.hid hR
          have HS := Lib.hid hS
          clear hR hS
          clear hV
          have HRow := Lib.hid (show k166.R 166 w12 (w.heap.size + 1 + 1 + 1) (fun _ => True) _ _ from LfsR.kp HRow.out (Nat.le_refl _) (by repeat (first | with_reducible exact Kp.refl | with_reducible apply Kp.alloc | with_reducible apply Kp.drew | (with_reducible refine Kp.store ?_ ?_; omega) | (with_reducible refine Kp.only ?_ HWw12.out ?_; omega) | (with_reducible refine Kp.only ?_ HWw10.out ?_; omega))))
          have HS := Lib.hid HS.out.drop
          go_wp2_with (fail)
          go_meet
          case rel => exact ⟨_, _, done, _, HR, HS, HRow⟩
        | true =>
         simp only [if_true] at hR hS
         have HR := Lib.hid hR
         have HS := Lib.hid hS
         clear hR hS
         have l_w10 := blk_lt HS.out.l0
         obtain ⟨q2_0, q2_f⟩ := blk1 HS.out.l2
         have q2_l := blk_lt HS.out.l2
         go_wp2_with (fail)
         refine (St.adds (n := (w.heap.size + 1 + 1 + 1))  (HS.out.alloc) (LfsR.kp HRow.out (Nat.le_refl _) (by repeat (first | with_reducible exact Kp.refl | with_reducible apply Kp.alloc | with_reducible apply Kp.drew | (with_reducible refine Kp.store ?_ ?_; omega) | (with_reducible refine Kp.only ?_ HWw10.out ?_; omega)))) (by first | (simp; done) | (simp; omega) | omega) ⟨by omega, by omega, by omega, by omega, by omega⟩ (by omega)).mono ?_
         intro e w14 hm
         cases hr : PX.name s'.tail with
         | out => rw [hr] at hm; exact hm.elim
         | bad q er =>
          rw [hr] at hm
          obtain ⟨rfl, hO2⟩ := hm
          have hF := HR.out
          rw [hr] at hF
          unfold Pan
          (try simp only [Exit.inBlock, Exit.then])
          rw [← HQ.out]
          exact ⟨rfl, RdIs.bad hF hO2⟩
         | ok m3 s15 =>
          rw [hr] at hm
          obtain ⟨rfl, hsz_w14, A_w14, c_w14, hS, hRow⟩ := hm
          have hR := HR.out
          rw [hr, bind_ok] at hR
          clear HR hr HS
          have HR := Lib.hid hR
          have HS := Lib.hid hS
          have HRow := Lib.hid hRow
          clear hR hS hRow
          have l_w14 := blk_lt HS.out.l0
          go_wp2_with (fail)
          go_roundg (kk + 1)
          case measure => omega
          case rel =>
           exact ⟨kk, done ++ [PX.Lf.mk m3 s'.tail.length], _, _, _, rfl, by simp; omega, HR, HS, HRow⟩
 case rest =>
  obtain ⟨A_l, c_l, l, s7, HR', HS', HRow'⟩ := hcut
  clear HR HS
  have HR := HR'
  have HS := HS'
  have HRow := HRow'
  clear HR' HS' HRow'
  have hR := HR.out
  rw [HC.out] at hR
  dsimp only at hR
  clear HR
  have HR := Lib.hid hR
  clear hR
  have l_c := blk_lt HS.out.l0
  obtain ⟨q2_0, q2_f⟩ := blk1 HS.out.l2
  have q2_l := blk_lt HS.out.l2
  go_wp2_with (fail)
  refine (St.wants [61] HS.out (by first | (simp; done) | (simp; omega) | omega)).mono ?_
  rintro e w16 ⟨hO, hm⟩
  have HWw16 := Lib.hid hO
  clear hO
  cases hr : PX.want [61] s7 with
  | out => rw [hr] at hm; exact hm.elim
  | bad q er =>
   rw [hr] at hm
   obtain ⟨rfl, hO2⟩ := hm
   have hF := HR.out
   rw [hr] at hF
   unfold Pan
   (try simp only [Exit.inBlock, Exit.then])
   rw [← HQ.out]
   exact ⟨rfl, RdIs.bad hF hO2⟩
  | ok _u s17 =>
   rw [hr] at hm
   obtain ⟨hS, v, rfl, hV⟩ := hm
   have hR := HR.out
   rw [hr] at hR
   rw [bind_ok] at hR
   clear HR hr
   have HR := Lib.hid hR
   have HS := Lib.hid hS
   clear hR hS
   clear hV
   have hR := HR.out
   rw [right_bind] at hR
   clear HR
   have HR := Lib.hid hR
   clear hR
   have HRow := Lib.hid (show k166.R 166 w16 (w.heap.size + 1 + 1 + 1) (fun _ => True) _ _ from LfsR.kp HRow.out (Nat.le_refl _) (by repeat (first | with_reducible exact Kp.refl | with_reducible apply Kp.alloc | with_reducible apply Kp.drew | (with_reducible refine Kp.store ?_ ?_; omega) | (with_reducible refine Kp.only ?_ HWw16.out ?_; omega))))
   obtain ⟨q0_0, q0_1, q0_2, q0_3, q0_4, q0_5, q0_6, q0_7, q0_f⟩ := blk8 HS.out.l0
   have q0_l := blk_lt HS.out.l0
   obtain ⟨q2_0, q2_f⟩ := blk1 HS.out.l2
   have q2_l := blk_lt HS.out.l2
   go_wp2_with (fail)
   refine (St.takes [[97, 115, 121, 110, 99]] HS.out (by first | (simp; done) | (simp; omega) | omega) (by decide)).mono ?_
   rintro e w18 ⟨hg, hO, hS, t19, hp, hat, rfl⟩
   have HWw18 := Lib.hid hO
   have Ht19 := Lib.hid (And.intro hp hat)
   clear hO hp hat hg
   obtain ⟨B, hB⟩ : ∃ B, PX.is [[97, 115, 121, 110, 99]] s17 = B := ⟨_, rfl⟩
   rw [hB] at hS ⊢
   have hR := HR.out
   rw [hB] at hR
   have HBw18 := Lib.hid hB
   clear HR hB
   unfold tokA tokV
   cases B with
   | false =>
    simp only [Bool.false_eq_true, if_false] at hR hS
    have HR := Lib.hid hR
    have HS := Lib.hid hS
    clear hR hS
    obtain ⟨q0_0, q0_1, q0_2, q0_3, q0_4, q0_5, q0_6, q0_7, q0_f⟩ := blk8 HS.out.l0
    have q0_l := blk_lt HS.out.l0
    obtain ⟨q2_0, q2_f⟩ := blk1 HS.out.l2
    have q2_l := blk_lt HS.out.l2
    go_wp2_with (fail)
    obtain ⟨W5, hW⟩ : ∃ W, W = w18.setCell ⟨w.heap.size + 1 + 1, 1, none⟩ (.bool false) := ⟨_, rfl⟩
    rw [← hW]
    have hS5 : St p b toks w W5 s17 [(w.heap.size + 1 + 1, QX A_l l.length c_l false), (w.heap.size + 1, QO none 0 0), (w.heap.size, PB p)] := by
     rw [hW]
     exact St.setHead HS.out (by intro x hx; simp only [List.mem_cons, List.not_mem_nil, or_false] at hx; rcases hx with rfl | rfl <;> (show _ ≠ _; omega)) 1 (.bool false)
    have hz5 : W5.heap.size = w18.heap.size := by rw [hW]; simp [World.setCell]
    have hRow5 : k166.R 166 W5 (w.heap.size + 1 + 1 + 1) (fun _ => True) _ _ := LfsR.kp HRow.out (Nat.le_refl _) (by rw [hW]; repeat (first | with_reducible exact Kp.refl | (with_reducible refine Kp.store ?_ ?_; omega) | (with_reducible refine Kp.only ?_ HWw18.out ?_; omega)))
    clear hW HS HRow q0_0 q0_1 q0_2 q0_3 q0_4 q0_5 q0_6 q0_7 q0_f q0_l q2_0 q2_f q2_l
    have HS := Lib.hid hS5
    have HRow := Lib.hid hRow5
    clear hS5 hRow5
    have l_W5 := blk_lt HS.out.l0
    refine (ReadsEx.call (expr_walk p b toks K (by omega)) HS.out (Res_in HR.out HO.out)).mono ?_
    rintro e w20 ⟨hO, hm⟩
    have HWw20 := Lib.hid hO
    clear hO
    cases hr : PX.expr K s17 with
    | out => rw [hr] at hm; exact hm.elim
    | bad q er =>
     rw [hr] at hm
     obtain ⟨rfl, hO2⟩ := hm
     have hF := HR.out
     rw [hr] at hF
     unfold Pan
     (try simp only [Exit.inBlock, Exit.then])
     rw [← HQ.out]
     exact ⟨rfl, RdIs.bad hF hO2⟩
    | ok x s21 =>
     rw [hr] at hm
     obtain ⟨hS, v, rfl, hV⟩ := hm
     have hR := HR.out
     rw [hr] at hR
     rw [bind_ok] at hR
     have hnz : PX.nsz x ≤ 1000000 := by
      have h1 := (PX.szs K).expr _ _ _ hr
      have h2 := HS.out.pat.few
      obtain ⟨_, _, _, _, hks, _⟩ := HS.out.pat.blk
      omega
     clear HR hr
     have HR := Lib.hid hR
     have HS := Lib.hid hS
     clear hR hS
     obtain ⟨A_x, c_x, rfl, hM⟩ := hV.cells'
     have HM_x := Lib.hid hM
     clear hV hM
     have l_w20 := blk_lt HS.out.l0
     have lz_w20 := HWw20.out.size
     obtain ⟨q0_0, q0_1, q0_2, q0_3, q0_4, q0_5, q0_6, q0_7, q0_f⟩ := blk8 HS.out.l0
     have q0_l := blk_lt HS.out.l0
     obtain ⟨q2_0, q2_f⟩ := blk1 HS.out.l2
     have q2_l := blk_lt HS.out.l2
     go_wp2_with (fail)
     obtain ⟨W6, hW⟩ : ∃ W, W = (((((w20.setCell ⟨w.heap.size + 1 + 1, 2, none⟩ (.int .i64 x.kind)).setCell ⟨w.heap.size + 1 + 1, 3, none⟩ (.int .i64 (atOf toks x.place))).setCell ⟨w.heap.size + 1 + 1, 4, none⟩ (.int .i64 x.n)).setCell ⟨w.heap.size + 1 + 1, 5, none⟩ (.string ⟨x.name.toArray⟩)).setCell ⟨w.heap.size + 1 + 1, 6, none⟩ (.bool x.off)).setCell ⟨w.heap.size + 1 + 1, 7, none⟩ (.slice A_x (reals toks x.kids).length c_x) := ⟨_, rfl⟩
     rw [← hW]
     have hS6 : St p b toks w W6 s21 [(w.heap.size + 1 + 1, QF A_l l.length c_l false toks x A_x c_x), (w.heap.size + 1, QO none 0 0), (w.heap.size, PB p)] := by
      rw [hW]
      exact St.set6 HS.out (by omega) (by intro x hx; simp only [List.mem_cons, List.not_mem_nil, or_false] at hx; rcases hx with rfl | rfl <;> (show _ ≠ _; omega)) _ _ _ _ _ _
     have hz6 : W6.heap.size = w20.heap.size := by rw [hW]; simp [World.setCell]
     have hRow6 : k166.R 166 W6 (w.heap.size + 1 + 1 + 1) (fun _ => True) _ _ := LfsR.kp HRow.out (Nat.le_refl _) (by rw [hW]; repeat (first | with_reducible exact Kp.refl | (with_reducible refine Kp.store ?_ ?_; omega) | (with_reducible refine Kp.only ?_ HWw20.out ?_; omega)))
     have hM6 := ExM.kp (n0 := w.heap.size + 1 + 1 + 1) (W' := W6) HM_x.out (by omega) (by rw [hW]; repeat (first | with_reducible exact Kp.refl | (with_reducible refine Kp.store ?_ ?_; omega)))
     clear hW HS HRow HM_x q0_0 q0_1 q0_2 q0_3 q0_4 q0_5 q0_6 q0_7 q0_f q0_l q2_0 q2_f q2_l
     have HS := Lib.hid hS6
     have HRow := Lib.hid hRow6
     have HM := Lib.hid hM6
     clear hS6 hRow6 hM6
     obtain ⟨q0_0, q0_1, q0_2, q0_3, q0_4, q0_5, q0_6, q0_7, q0_f⟩ := blk8 HS.out.l0
     have q0_l := blk_lt HS.out.l0
     obtain ⟨q2_0, q2_f⟩ := blk1 HS.out.l2
     have q2_l := blk_lt HS.out.l2
     go_wp2_with (fail)
     obtain ⟨hC9, hcl⟩ := ExM.C HM.out
     refine (deep_walk toks x hnz A_x c_x W6 hC9 hcl).mono ?_
     rintro e' w7 ⟨rfl, hb2⟩
     have hS7 := St.below HS.out hb2
     have hRow7 := Kd.R_below HRow.out hb2
     have hM7 := Kd.M_below HM.out hb2
     clear HS HRow HM hC9 hcl hb2 q0_0 q0_1 q0_2 q0_3 q0_4 q0_5 q0_6 q0_7 q0_f q0_l q2_0 q2_f q2_l
     have HS := Lib.hid hS7
     have HRow := Lib.hid hRow7
     have HM := Lib.hid hM7
     clear hS7 hRow7 hM7
     have hR := HR.out
     rw [HC2.out] at hR
     dsimp only at hR
     unfold PX.shallow at hR
     clear HR
     have HR := Lib.hid hR
     clear hR
     have l_w7 := blk_lt HS.out.l0
     obtain ⟨q0_0, q0_1, q0_2, q0_3, q0_4, q0_5, q0_6, q0_7, q0_f⟩ := blk8 HS.out.l0
     have q0_l := blk_lt HS.out.l0
     obtain ⟨q2_0, q2_f⟩ := blk1 HS.out.l2
     have q2_l := blk_lt HS.out.l2
     rcases Nat.lt_or_ge 40 (PX.deep x) with hd | hd
     ·have hd1 : decide ((PX.deep x : Int) > 40) = true := by simp; omega
      have hd2 : (40 : Int) < (PX.deep x : Int) := by omega
      go_wp2_with (fail)
      (try simp only [Exit.inBlock, Exit.then])
      rw [← HQ.out]
      have hF := HR.out
      rw [if_pos hd] at hF
      exact ⟨rfl, RdIs.bad (show PX.Res.bad x.place 3 = R from hF) (St.only (b := b) (toks := toks) (s := s21) (l := []) (by repeat (first | with_reducible exact (HS.out.sub (fun x hx => by simp at hx)) | with_reducible apply St.alloc | with_reducible apply St.drewN | with_reducible apply St.drew | (with_reducible refine St.store ?_ ?_ ?_; omega; (intro x hx; simp at hx)))))⟩
     ·
      have hd1 : decide ((PX.deep x : Int) > 40) = false := by simp; omega
      have hd2 : ¬ (40 : Int) < (PX.deep x : Int) := by omega
      have hR := HR.out
      rw [if_neg (by omega), bind_ok] at hR
      clear HR
      have HR := Lib.hid hR
      clear hR
      go_wp2_with (fail)
      refine (St.wants [59] HS.out (by first | (simp; done) | (simp; omega) | omega)).mono ?_
      rintro e w22 ⟨hO, hm⟩
      have HWw22 := Lib.hid hO
      clear hO
      cases hr : PX.want [59] s21 with
      | out => rw [hr] at hm; exact hm.elim
      | bad q er =>
       rw [hr] at hm
       obtain ⟨rfl, hO2⟩ := hm
       have hF := HR.out
       rw [hr] at hF
       unfold Pan
       (try simp only [Exit.inBlock, Exit.then])
       rw [← HQ.out]
       exact ⟨rfl, RdIs.bad hF hO2⟩
      | ok _u s23 =>
       rw [hr] at hm
       obtain ⟨hS, v, rfl, hV⟩ := hm
       have hR := HR.out
       rw [hr] at hR
       rw [bind_ok] at hR
       clear HR hr
       have HR := Lib.hid hR
       have HS := Lib.hid hS
       clear hR hS
       clear hV
       have lz_w22 := HWw22.out.size
       have l_w22 := blk_lt HS.out.l0
       obtain ⟨r1_0, r1_1, r1_2, r1_3, r1_4, r1_5, r1_6, r1_7, r1_f⟩ := blk8 HS.out.l1
       have r1_l := blk_lt HS.out.l1
       obtain ⟨q0_0, q0_1, q0_2, q0_3, q0_4, q0_5, q0_6, q0_7, q0_f⟩ := blk8 HS.out.l0
       have q0_l := blk_lt HS.out.l0
       obtain ⟨q2_0, q2_f⟩ := blk1 HS.out.l2
       have q2_l := blk_lt HS.out.l2
       go_wp2_with (fail)
       (try simp only [Exit.inBlock, Exit.then])
       refine bodyPost_ret (results_cell_row rfl _ _ (w.heap.size + 1) 56 _ (0, 0) _ rfl (blk_set8 HS.out.l1 _ _ _ _ _ _ _ _) Tryz.underlying56 rfl (by kernel_rfl)) rfl ?_
       rw [← HQ.out]
       refine RdIs.ok HR.out (St.only (b := b) (toks := toks) (s := s23) (l := []) ?_) (St.pat (w := w) (l := []) ?_) ⟨_, rfl, ?_⟩
       ·repeat (first | with_reducible exact (HS.out.sub (fun x hx => by simp at hx)) | with_reducible apply St.alloc | with_reducible apply St.drewN | with_reducible apply St.drew | (with_reducible refine St.store ?_ ?_ ?_; omega; (intro x hx; simp at hx)))
       ·repeat (first | with_reducible exact (HS.out.sub (fun x hx => by simp at hx)) | with_reducible apply St.alloc | with_reducible apply St.drewN | with_reducible apply St.drew | (with_reducible refine St.store ?_ ?_ ?_; omega; (intro x hx; simp at hx)))
       ·exact QM.mk (LfsR.kp HRow.out (by omega) (by repeat (first | with_reducible exact Kp.refl | with_reducible apply Kp.alloc | with_reducible apply Kp.drew | (with_reducible refine Kp.store ?_ ?_; omega) | (with_reducible refine Kp.only ?_ HWw22.out ?_; omega)))) (ExM.kp HM.out (by omega) (by repeat (first | with_reducible exact Kp.refl | with_reducible apply Kp.alloc | with_reducible apply Kp.drew | (with_reducible refine Kp.store ?_ ?_; omega) | (with_reducible refine Kp.only ?_ HWw22.out ?_; omega))))
   | true =>
    simp only [if_true] at hR hS
    have HR := Lib.hid hR
    have HS := Lib.hid hS
    clear hR hS
    obtain ⟨q0_0, q0_1, q0_2, q0_3, q0_4, q0_5, q0_6, q0_7, q0_f⟩ := blk8 HS.out.l0
    have q0_l := blk_lt HS.out.l0
    obtain ⟨q2_0, q2_f⟩ := blk1 HS.out.l2
    have q2_l := blk_lt HS.out.l2
    go_wp2_with (fail)
    obtain ⟨W5, hW⟩ : ∃ W, W = w18.setCell ⟨w.heap.size + 1 + 1, 1, none⟩ (.bool true) := ⟨_, rfl⟩
    rw [← hW]
    have hS5 : St p b toks w W5 s17.tail [(w.heap.size + 1 + 1, QX A_l l.length c_l true), (w.heap.size + 1, QO none 0 0), (w.heap.size, PB p)] := by
     rw [hW]
     exact St.setHead HS.out (by intro x hx; simp only [List.mem_cons, List.not_mem_nil, or_false] at hx; rcases hx with rfl | rfl <;> (show _ ≠ _; omega)) 1 (.bool true)
    have hz5 : W5.heap.size = w18.heap.size := by rw [hW]; simp [World.setCell]
    have hRow5 : k166.R 166 W5 (w.heap.size + 1 + 1 + 1) (fun _ => True) _ _ := LfsR.kp HRow.out (Nat.le_refl _) (by rw [hW]; repeat (first | with_reducible exact Kp.refl | (with_reducible refine Kp.store ?_ ?_; omega) | (with_reducible refine Kp.only ?_ HWw18.out ?_; omega)))
    clear hW HS HRow q0_0 q0_1 q0_2 q0_3 q0_4 q0_5 q0_6 q0_7 q0_f q0_l q2_0 q2_f q2_l
    have HS := Lib.hid hS5
    have HRow := Lib.hid hRow5
    clear hS5 hRow5
    have l_W5 := blk_lt HS.out.l0
    obtain ⟨q0_0, q0_1, q0_2, q0_3, q0_4, q0_5, q0_6, q0_7, q0_f⟩ := blk8 HS.out.l0
    have q0_l := blk_lt HS.out.l0
    obtain ⟨q2_0, q2_f⟩ := blk1 HS.out.l2
    have q2_l := blk_lt HS.out.l2
    have hne9 : w.heap.size ≠ w.heap.size + 1 + 1 := by omega
    have hS0 : (W5.drew).cell? ⟨w.heap.size, 0, none⟩ = some (.pointer (some ⟨p, 0, none⟩)) := (blk1 HS.out.drew.l2).1
    go_region_held2 (fun w' => w'.cell? ⟨w.heap.size, 0, none⟩ = some (.pointer (some ⟨p, 0, none⟩))) (first | with_reducible exact hS1 | with_reducible exact hS2 | with_reducible exact hS0 | with_reducible exact hS3 _ _ _ _ _ _) (first | (go_at_call 80; go_must (refine (St.names HS.out.drew).mono ?_; rintro e w19 ⟨hO, hm⟩; refine Told.part hm ?_ ?_; (focus intro q er hr he hO2; subst he; have hF := HR.out; rw [hr] at hF; unfold Pan; (try simp only [Exit.inBlock, Exit.then]); rw [← HQ.out]; exact ⟨rfl, RdIs.bad hF hO2⟩); intro m s20 hr hS v he hV; have hR := HR.out; rw [hr, bind_ok] at hR; have HR2 := Lib.hid hR; obtain ⟨km, nm, rfl⟩ := hV; subst he; have HS2 := Lib.hid hS; have HW2 := Lib.hid hO; have hS1 : w19.cell? ⟨w.heap.size, 0, none⟩ = some (.pointer (some ⟨p, 0, none⟩)) := (blk1 HS2.out.l2).1; clear hO hS hr hR hm)) | (go_at_call 132; go_must (refine (St.calls (call_walk p b toks K (by omega)) HS2.out m s17.tail.length (congrArg (atOf toks) List.length_tail) (Res_in HR2.out HO.out)).mono ?_; rintro e w21 ⟨hO, hm⟩; refine Told.part hm ?_ ?_; (focus intro q er hr he hO2; subst he; have hF := HR2.out; rw [hr] at hF; unfold Pan; (try simp only [Exit.inBlock, Exit.then]); rw [← HQ.out]; exact ⟨rfl, RdIs.bad hF hO2⟩); intro x s22 hr hS v he hV; have hnz : PX.nsz x ≤ 1000000 := (by have h1 := (PX.szs K).call _ _ _ _ _ hr; have h2 := HS2.out.pat.few; obtain ⟨_, _, _, _, hks, _⟩ := HS2.out.pat.blk; omega); have hR := HR2.out; rw [hr, bind_ok] at hR; have HR3 := Lib.hid hR; obtain ⟨A_x, c_x, rfl, hM⟩ := hV.cells'; subst he; have HM_x := Lib.hid hM; have HS3 := Lib.hid hS; have HW3 := Lib.hid hO; have hS2 : w21.cell? ⟨w.heap.size, 0, none⟩ = some (.pointer (some ⟨p, 0, none⟩)) := (blk1 HS3.out.l2).1; have hS3 : ∀ v2 v3 v4 v5 v6 v7 : Value, ((((((w21.setCell ⟨w.heap.size + 1 + 1, 2, none⟩ v2).setCell ⟨w.heap.size + 1 + 1, 3, none⟩ v3).setCell ⟨w.heap.size + 1 + 1, 4, none⟩ v4).setCell ⟨w.heap.size + 1 + 1, 5, none⟩ v5).setCell ⟨w.heap.size + 1 + 1, 6, none⟩ v6).setCell ⟨w.heap.size + 1 + 1, 7, none⟩ v7).cell? ⟨w.heap.size, 0, none⟩ = some (.pointer (some ⟨p, 0, none⟩)) := (fun v2 v3 v4 v5 v6 v7 => (blk1 (far6 hne9 HS3.out.l2 v2 v3 v4 v5 v6 v7)).1); obtain ⟨y0, y1, y2, y3, y4, y5, y6, y7, yf⟩ := blk8 HS3.out.l0; have yl := blk_lt HS3.out.l0; clear hO hS hr hR hm hM)))
    all_goals
     have l19 : W5.heap.size ≤ w19.heap.size := by have h9 := HW2.out.size; simpa using h9
     have l21 := HW3.out.size
     have HRowB := Lib.hid (show k166.R 166 w21 (w.heap.size + 1 + 1 + 1) (fun _ => True) _ _ from LfsR.kp HRow.out (Nat.le_refl _) (by repeat (first | with_reducible exact Kp.refl | with_reducible apply Kp.drew | (with_reducible refine Kp.only ?_ HW3.out ?_; omega) | (with_reducible refine Kp.only ?_ HW2.out ?_; omega))))
     clear HRow HR HS
     have HRow := HRowB
     have HR := HR3
     have HS := HS3
     clear HRowB HR3 HS3
     obtain ⟨W6, hW⟩ : ∃ W, W = (((((w21.setCell ⟨w.heap.size + 1 + 1, 2, none⟩ (.int .i64 x.kind)).setCell ⟨w.heap.size + 1 + 1, 3, none⟩ (.int .i64 (atOf toks x.place))).setCell ⟨w.heap.size + 1 + 1, 4, none⟩ (.int .i64 x.n)).setCell ⟨w.heap.size + 1 + 1, 5, none⟩ (.string ⟨x.name.toArray⟩)).setCell ⟨w.heap.size + 1 + 1, 6, none⟩ (.bool x.off)).setCell ⟨w.heap.size + 1 + 1, 7, none⟩ (.slice A_x (reals toks x.kids).length c_x) := ⟨_, rfl⟩
     rw [← hW]
     have hS6 : St p b toks w W6 s22 [(w.heap.size + 1 + 1, QF A_l l.length c_l true toks x A_x c_x), (w.heap.size + 1, QO none 0 0), (w.heap.size, PB p)] := by
      rw [hW]
      exact St.set6 HS.out (by omega) (by intro x hx; simp only [List.mem_cons, List.not_mem_nil, or_false] at hx; rcases hx with rfl | rfl <;> (show _ ≠ _; omega)) _ _ _ _ _ _
     have hz6 : W6.heap.size = w21.heap.size := by rw [hW]; simp [World.setCell]
     have hRow6 : k166.R 166 W6 (w.heap.size + 1 + 1 + 1) (fun _ => True) _ _ := LfsR.kp HRow.out (Nat.le_refl _) (by rw [hW]; repeat (first | with_reducible exact Kp.refl | (with_reducible refine Kp.store ?_ ?_; omega) | (with_reducible refine Kp.only ?_ HWw21.out ?_; omega)))
     have hM6 := ExM.kp (n0 := w.heap.size + 1 + 1 + 1) (W' := W6) HM_x.out (by omega) (by rw [hW]; repeat (first | with_reducible exact Kp.refl | (with_reducible refine Kp.store ?_ ?_; omega)))
     clear hW HS HRow HM_x q0_0 q0_1 q0_2 q0_3 q0_4 q0_5 q0_6 q0_7 q0_f q0_l q2_0 q2_f q2_l
     have HS := Lib.hid hS6
     have HRow := Lib.hid hRow6
     have HM := Lib.hid hM6
     clear hS6 hRow6 hM6
     obtain ⟨q0_0, q0_1, q0_2, q0_3, q0_4, q0_5, q0_6, q0_7, q0_f⟩ := blk8 HS.out.l0
     have q0_l := blk_lt HS.out.l0
     obtain ⟨q2_0, q2_f⟩ := blk1 HS.out.l2
     have q2_l := blk_lt HS.out.l2
     go_wp2_with (fail)
     obtain ⟨hC9, hcl⟩ := ExM.C HM.out
     refine (deep_walk toks x hnz A_x c_x W6 hC9 hcl).mono ?_
     rintro e' w7 ⟨rfl, hb2⟩
     have hS7 := St.below HS.out hb2
     have hRow7 := Kd.R_below HRow.out hb2
     have hM7 := Kd.M_below HM.out hb2
     clear HS HRow HM hC9 hcl hb2 q0_0 q0_1 q0_2 q0_3 q0_4 q0_5 q0_6 q0_7 q0_f q0_l q2_0 q2_f q2_l
     have HS := Lib.hid hS7
     have HRow := Lib.hid hRow7
     have HM := Lib.hid hM7
     clear hS7 hRow7 hM7
     have hR := HR.out
     rw [HC2.out] at hR
     dsimp only at hR
     unfold PX.shallow at hR
     clear HR
     have HR := Lib.hid hR
     clear hR
     have l_w7 := blk_lt HS.out.l0
     obtain ⟨q0_0, q0_1, q0_2, q0_3, q0_4, q0_5, q0_6, q0_7, q0_f⟩ := blk8 HS.out.l0
     have q0_l := blk_lt HS.out.l0
     obtain ⟨q2_0, q2_f⟩ := blk1 HS.out.l2
     have q2_l := blk_lt HS.out.l2
     rcases Nat.lt_or_ge 40 (PX.deep x) with hd | hd
     ·have hd1 : decide ((PX.deep x : Int) > 40) = true := by simp; omega
      have hd2 : (40 : Int) < (PX.deep x : Int) := by omega
      go_wp2_with (fail)
      (try simp only [Exit.inBlock, Exit.then])
      rw [← HQ.out]
      have hF := HR.out
      rw [if_pos hd] at hF
      exact ⟨rfl, RdIs.bad (show PX.Res.bad x.place 3 = R from hF) (St.only (b := b) (toks := toks) (s := s22) (l := []) (by repeat (first | with_reducible exact (HS.out.sub (fun x hx => by simp at hx)) | with_reducible apply St.alloc | with_reducible apply St.drewN | with_reducible apply St.drew | (with_reducible refine St.store ?_ ?_ ?_; omega; (intro x hx; simp at hx)))))⟩
     ·
      have hd1 : decide ((PX.deep x : Int) > 40) = false := by simp; omega
      have hd2 : ¬ (40 : Int) < (PX.deep x : Int) := by omega
      have hR := HR.out
      rw [if_neg (by omega), bind_ok] at hR
      clear HR
      have HR := Lib.hid hR
      clear hR
      go_wp2_with (fail)
      refine (St.wants [59] HS.out (by first | (simp; done) | (simp; omega) | omega)).mono ?_
      rintro e w24 ⟨hO, hm⟩
      have HWw24 := Lib.hid hO
      clear hO
      cases hr : PX.want [59] s22 with
      | out => rw [hr] at hm; exact hm.elim
      | bad q er =>
       rw [hr] at hm
       obtain ⟨rfl, hO2⟩ := hm
       have hF := HR.out
       rw [hr] at hF
       unfold Pan
       (try simp only [Exit.inBlock, Exit.then])
       rw [← HQ.out]
       exact ⟨rfl, RdIs.bad hF hO2⟩
      | ok _u s25 =>
       rw [hr] at hm
       obtain ⟨hS, v, rfl, hV⟩ := hm
       have hR := HR.out
       rw [hr] at hR
       rw [bind_ok] at hR
       clear HR hr
       have HR := Lib.hid hR
       have HS := Lib.hid hS
       clear hR hS
       clear hV
       have lz_w24 := HWw24.out.size
       have l_w24 := blk_lt HS.out.l0
       obtain ⟨r1_0, r1_1, r1_2, r1_3, r1_4, r1_5, r1_6, r1_7, r1_f⟩ := blk8 HS.out.l1
       have r1_l := blk_lt HS.out.l1
       obtain ⟨q0_0, q0_1, q0_2, q0_3, q0_4, q0_5, q0_6, q0_7, q0_f⟩ := blk8 HS.out.l0
       have q0_l := blk_lt HS.out.l0
       obtain ⟨q2_0, q2_f⟩ := blk1 HS.out.l2
       have q2_l := blk_lt HS.out.l2
       go_wp2_with (fail)
       (try simp only [Exit.inBlock, Exit.then])
       refine bodyPost_ret (results_cell_row rfl _ _ (w.heap.size + 1) 56 _ (0, 0) _ rfl (blk_set8 HS.out.l1 _ _ _ _ _ _ _ _) Tryz.underlying56 rfl (by kernel_rfl)) rfl ?_
       rw [← HQ.out]
       refine RdIs.ok HR.out (St.only (b := b) (toks := toks) (s := s25) (l := []) ?_) (St.pat (w := w) (l := []) ?_) ⟨_, rfl, ?_⟩
       ·repeat (first | with_reducible exact (HS.out.sub (fun x hx => by simp at hx)) | with_reducible apply St.alloc | with_reducible apply St.drewN | with_reducible apply St.drew | (with_reducible refine St.store ?_ ?_ ?_; omega; (intro x hx; simp at hx)))
       ·repeat (first | with_reducible exact (HS.out.sub (fun x hx => by simp at hx)) | with_reducible apply St.alloc | with_reducible apply St.drewN | with_reducible apply St.drew | (with_reducible refine St.store ?_ ?_ ?_; omega; (intro x hx; simp at hx)))
       ·exact QM.mk (LfsR.kp HRow.out (by omega) (by repeat (first | with_reducible exact Kp.refl | with_reducible apply Kp.alloc | with_reducible apply Kp.drew | (with_reducible refine Kp.store ?_ ?_; omega) | (with_reducible refine Kp.only ?_ HWw24.out ?_; omega)))) (ExM.kp HM.out (by omega) (by repeat (first | with_reducible exact Kp.refl | with_reducible apply Kp.alloc | with_reducible apply Kp.drew | (with_reducible refine Kp.store ?_ ?_; omega) | (with_reducible refine Kp.only ?_ HWw24.out ?_; omega))))
end Go.Proofs.YtjafllnbgfcchaaGreatDoor.Px
end
