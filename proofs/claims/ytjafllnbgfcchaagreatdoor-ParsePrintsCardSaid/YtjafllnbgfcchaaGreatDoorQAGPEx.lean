/- Joined of: PEx, PConst, PNum, PFld. -/
import Derived.Test.YtjafllnbgfcchaaGreatDoorQAPWant
import Derived.Deep.RegionHeld3
import Derived.Deep.RegionHeld2
section
/- Expressions in memory. -/
namespace Go.Proofs.YtjafllnbgfcchaaGreatDoor.Px
set_option linter.unusedVariables false
open Go Go.RowKit Go.Proofs.YtjafllnbgfcchaaGreatDoorW.PrintWords Go.Proofs.YtjafllnbgfcchaaGreatDoorW.PrintLast Go.Proofs.YtjafllnbgfcchaaGreatDoorW.PrintMore Go.Proofs.YtjafllnbgfcchaaGreatDoor.Lx Go.Proofs.YtjafllnbgfcchaaGreatDoor.XK

mutual
def real (toks : List LX.Tok) : PX.Ex → S54
 | .mk k a n m o l => ⟨k, atOf toks a, n, ⟨m.toArray⟩, o, reals toks l⟩
def reals (toks : List LX.Tok) : List PX.Ex → List S54
 | [] => []
 | e :: r => real toks e :: reals toks r
end
theorem reals_map (toks : List LX.Tok) : ∀ l, reals toks l = l.map (real toks)
 | [] => rfl
 | e :: r => by rw [reals, reals_map toks r]; rfl
theorem lit_R {α : Type} (d : Kd α) (e : Nat) {w : World} {base : Nat} (xs : List α) (inner : List Value) (hrep : Reps (d.M w base (fun _ => True)) d.sz xs inner) (hb : base ≤ w.heap.size) (hm : xs.length ≤ 1000) :
  d.R e (w.alloc (.cells inner.toArray e)) base (fun _ => True) (.slice (some ⟨w.heap.size, 0, none⟩) xs.length xs.length) xs := by
 refine ⟨fun _ _ => trivial, inner, ⟨hrep.1, .inr ⟨w.heap.size, xs.length, inner.toArray, rfl, hb, heap_alloc_new w _, Nat.le_refl _, by unfold maxLen; omega, by simp [hrep.1], ?_⟩⟩, hrep.imp_ fun x c hM => ?_⟩
 ·rw [List.take_of_length_le (by simp [hrep.1])]
 ·refine d.M_mono (fun k hk => ⟨trivial, fun e => ?_⟩) (d.M_move (w1 := w.alloc (.cells inner.toArray _)) (fun k hk => Below.heap_alloc w _ k hk.2.2.1) (d.M_bound hM))
  have h1 : k = w.heap.size := by simpa [Value.ownBlock] using e
  have := hk.2.2.1
  omega
def ExV (toks : List LX.Tok) (n0 : Nat) (w : World) (x : PX.Ex) (v : Value) : Prop := ∃ c : List Value, v = .agg c.toArray ∧ k54.M w n0 (fun _ => True) (real toks x) c
theorem ExV.cells {toks : List LX.Tok} {n0 : Nat} {w : World} {x : PX.Ex} {v : Value} (h : ExV toks n0 w x v) : ∃ A n c, v = .agg #[.int .i64 x.kind, .int .i64 (atOf toks x.place), .int .i64 x.n, .string ⟨x.name.toArray⟩, .bool x.off, .slice A n c] ∧ k54.M w n0 (fun _ => True) (real toks x) [.int .i64 x.kind, .int .i64 (atOf toks x.place), .int .i64 x.n, .string ⟨x.name.toArray⟩, .bool x.off, .slice A n c] := by
 obtain ⟨c, rfl, hM⟩ := h
 obtain ⟨v5, rfl, hR⟩ := k54_openM hM
 obtain ⟨A, cp, rfl⟩ := Kd.R_slice hR
 cases x
 exact ⟨A, _, cp, rfl, hM⟩
theorem ExM.move {toks : List LX.Tok} {n0 : Nat} {w w' : World} {x : PX.Ex} {c : List Value} (h : k54.M w n0 (fun _ => True) (real toks x) c) {p : Nat} (hp : p < n0) (hO : Only p w w') : k54.M w' n0 (fun _ => True) (real toks x) c :=
 k54.M_mono (fun _ _ => trivial) (k54.M_move (fun k hk => hO.keep k hk.2.2.1 (by have := hk.2.1; omega)) (k54.M_bound h))
theorem ExM.below {toks : List LX.Tok} {n0 : Nat} {w w' : World} {x : PX.Ex} {c : List Value} (h : k54.M w n0 (fun _ => True) (real toks x) c) (hb : Below w.heap.size w w') : k54.M w' n0 (fun _ => True) (real toks x) c := Kd.M_below h hb
theorem ExM.store {toks : List LX.Tok} {n0 : Nat} {w : World} {x : PX.Ex} {c : List Value} {g j : Nat} {u : Value} (h : k54.M w n0 (fun _ => True) (real toks x) c) {n1 : Nat} (hg : g < n1) (h1 : k54.M w n1 (fun _ => True) (real toks x) c) : k54.M (w.setCell ⟨g, j, none⟩ u) n1 (fun _ => True) (real toks x) c :=
 k54.M_mono (fun _ _ => trivial) (k54.M_move (fun k hk => Below.heap_setCell _ _ _ k (by have := hk.2.1; show k ≠ g; omega)) (k54.M_bound h1))
theorem build1 {toks : List LX.Tok} {n0 g : Nat} {w : World} {x : PX.Ex} {c : List Value} (hn : n0 ≤ w.heap.size) (h : k54.M w n0 (fun _ => True) (real toks x) c) (hg : w.heap.size = g) (k a : Nat) (n : Int) (m : PX.B) (o : Bool) :
  k54.M (w.alloc (.cells c.toArray 54)) n0 (fun _ => True) (real toks (.mk k a n m o [x])) [.int .i64 k, .int .i64 (atOf toks a), .int .i64 n, .string ⟨m.toArray⟩, .bool o, .slice (some ⟨g, 0, none⟩) 1 1] := by
 subst hg
 have hs := k54.K_len (k54.K_of_M h)
 have hr := Reps.snoc (Reps.none (k54.M w n0 (fun _ => True)) k54.sz) h hs
 exact k54_mkM _ _ _ (real toks (.mk k a n m o [x])) (lit_R k54 54 [real toks x] c hr hn (by simp))
theorem build2 {toks : List LX.Tok} {n0 g : Nat} {w : World} {x y : PX.Ex} {c d : List Value} (hn : n0 ≤ w.heap.size) (h : k54.M w n0 (fun _ => True) (real toks x) c) (h2 : k54.M w n0 (fun _ => True) (real toks y) d) (hg : w.heap.size = g) (k a : Nat) (n : Int) (m : PX.B) (o : Bool) :
  k54.M (w.alloc (.cells (c ++ d).toArray 54)) n0 (fun _ => True) (real toks (.mk k a n m o [x, y])) [.int .i64 k, .int .i64 (atOf toks a), .int .i64 n, .string ⟨m.toArray⟩, .bool o, .slice (some ⟨g, 0, none⟩) 2 2] := by
 subst hg
 have hr := Reps.snoc (Reps.snoc (Reps.none (k54.M w n0 (fun _ => True)) k54.sz) h (k54.K_len (k54.K_of_M h))) h2 (k54.K_len (k54.K_of_M h2))
 exact k54_mkM _ _ _ (real toks (.mk k a n m o [x, y])) (lit_R k54 54 [real toks x, real toks y] (c ++ d) hr hn (by simp))
theorem build3 {toks : List LX.Tok} {n0 g : Nat} {w : World} {x y z : PX.Ex} {c d e : List Value} (hn : n0 ≤ w.heap.size) (h : k54.M w n0 (fun _ => True) (real toks x) c) (h2 : k54.M w n0 (fun _ => True) (real toks y) d) (h3 : k54.M w n0 (fun _ => True) (real toks z) e) (hg : w.heap.size = g) (k a : Nat) (n : Int) (m : PX.B) (o : Bool) :
  k54.M (w.alloc (.cells (c ++ d ++ e).toArray 54)) n0 (fun _ => True) (real toks (.mk k a n m o [x, y, z])) [.int .i64 k, .int .i64 (atOf toks a), .int .i64 n, .string ⟨m.toArray⟩, .bool o, .slice (some ⟨g, 0, none⟩) 3 3] := by
 subst hg
 have hr := Reps.snoc (Reps.snoc (Reps.snoc (Reps.none (k54.M w n0 (fun _ => True)) k54.sz) h (k54.K_len (k54.K_of_M h))) h2 (k54.K_len (k54.K_of_M h2))) h3 (k54.K_len (k54.K_of_M h3))
 exact k54_mkM _ _ _ (real toks (.mk k a n m o [x, y, z])) (lit_R k54 54 [real toks x, real toks y, real toks z] (c ++ d ++ e) hr hn (by simp))
structure St (p b : Nat) (toks : List LX.Tok) (w W : World) (s : List PX.T) (l : List (Nat × Obj)) : Prop where
 only : Only p w W
 pat : PAt W p b toks s
 pl : p < w.heap.size
 bl : b < w.heap.size
 loc : ∀ x ∈ l, w.heap.size ≤ x.1 ∧ W.heap[x.1]? = some x.2
section
variable {p b : Nat} {toks : List LX.Tok} {w W W' : World} {s s' : List PX.T} {l : List (Nat × Obj)}
theorem St.start (h : PAt w p b toks s) : St p b toks w w s [] := ⟨Only.refl _ _, h, h.plt, h.lt, fun x hx => by simp at hx⟩
theorem St.sz (h : St p b toks w W s l) : w.heap.size ≤ W.heap.size := h.only.size
theorem St.below (h : St p b toks w W s l) (hb : Below W.heap.size W W') : St p b toks w W' s l :=
 ⟨h.only.trans (Only.of_below hb), h.pat.below hb, h.pl, h.bl, fun x hx => ⟨(h.loc x hx).1, blk_below (h.loc x hx).2 hb⟩⟩
theorem St.alloc {o : Obj} (h : St p b toks w W s l) : St p b toks w (W.alloc o) s l := h.below (below_alloc (Below.refl _ _) o)
theorem St.drewN {n : Nat} (h : St p b toks w W s l) : St p b toks w (W.drewN n) s l := h.below (pw_below_drewN (Below.refl _ _) n)
theorem St.drew (h : St p b toks w W s l) : St p b toks w W.drew s l := h.below (below_drew (Below.refl _ _))
theorem St.new {o : Obj} (h : St p b toks w W s l) : St p b toks w (W.alloc o) s ((W.heap.size, o) :: l) :=
 ⟨h.alloc.only, h.alloc.pat, h.pl, h.bl, fun x hx => by
  rcases List.mem_cons.1 hx with rfl | hx
  ·exact ⟨h.sz, blk_new W o⟩
  ·exact h.alloc.loc x hx⟩
theorem St.store {g j : Nat} {v : Value} (hg : w.heap.size ≤ g) (hn : ∀ x ∈ l, x.1 ≠ g) (h : St p b toks w W s l) : St p b toks w (W.setCell ⟨g, j, none⟩ v) s l :=
 ⟨h.only.store hg j v, h.pat.store' (by have := h.pl; omega) (by have := h.bl; omega), h.pl, h.bl, fun x hx => ⟨(h.loc x hx).1, (Below.heap_setCell W ⟨g, j, none⟩ v x.1 (hn x hx)).trans (h.loc x hx).2⟩⟩
theorem St.call (h : St p b toks w W s l) (hO : Only p W W') (hP : PAt W' p b toks s') : St p b toks w W' s' l :=
 ⟨h.only.trans hO, hP, h.pl, h.bl, fun x hx => ⟨(h.loc x hx).1, hO.blk (h.loc x hx).2 (by have := (h.loc x hx).1; have := h.pl; omega)⟩⟩
theorem St.sub {l' : List (Nat × Obj)} (hs : ∀ x ∈ l', x ∈ l) (h : St p b toks w W s l) : St p b toks w W s l' := ⟨h.only, h.pat, h.pl, h.bl, fun x hx => h.loc x (hs x hx)⟩
theorem St.drop {x : Nat × Obj} (h : St p b toks w W s (x :: l)) : St p b toks w W s l := ⟨h.only, h.pat, h.pl, h.bl, fun y hy => h.loc y (List.mem_cons_of_mem _ hy)⟩
theorem St.mid {x y : Nat × Obj} (h : St p b toks w W s (y :: x :: l)) : St p b toks w W s (y :: l) := h.sub (fun z hz => by
 rcases List.mem_cons.1 hz with rfl | hz
 ·exact List.mem_cons_self
 ·exact List.mem_cons_of_mem _ (List.mem_cons_of_mem _ hz))
theorem St.init {x : Nat × Obj} (h : St p b toks w W s (l ++ [x])) : St p b toks w W s l := h.sub (fun y hy => List.mem_append_left _ hy)
theorem NB.nil {n : Nat} : ∀ x ∈ ([] : List (Nat × Obj)), x.1 ≠ n := fun x hx => by simp at hx
theorem NB.cons {n g : Nat} {o : Obj} {l : List (Nat × Obj)} (h : g ≠ n) (hl : ∀ x ∈ l, x.1 ≠ n) : ∀ x ∈ (g, o) :: l, x.1 ≠ n := fun x hx => by
 rcases List.mem_cons.1 hx with rfl | hx
 ·exact h
 ·exact hl x hx
theorem St.store6 {g : Nat} {v0 v1 v2 v3 v4 v5 : Value} (hg : w.heap.size ≤ g) (hn : ∀ x ∈ l, x.1 ≠ g) (h : St p b toks w W s l) : St p b toks w ((((((W.setCell ⟨g, 0, none⟩ v0).setCell ⟨g, 1, none⟩ v1).setCell ⟨g, 2, none⟩ v2).setCell ⟨g, 3, none⟩ v3).setCell ⟨g, 4, none⟩ v4).setCell ⟨g, 5, none⟩ v5) s l :=
 St.store hg hn (St.store hg hn (St.store hg hn (St.store hg hn (St.store hg hn (St.store hg hn h)))))
theorem St.l0 {g : Nat} {o : Obj} (h : St p b toks w W s ((g, o) :: l)) : W.heap[g]? = some o := (h.loc (g, o) (by simp)).2
theorem St.l1 {g : Nat} {o : Obj} {y : Nat × Obj} (h : St p b toks w W s (y :: (g, o) :: l)) : W.heap[g]? = some o := (h.loc (g, o) (by simp)).2
theorem St.l2 {g : Nat} {o : Obj} {y z : Nat × Obj} (h : St p b toks w W s (z :: y :: (g, o) :: l)) : W.heap[g]? = some o := (h.loc (g, o) (by simp)).2
theorem St.l3 {g : Nat} {o : Obj} {y z u : Nat × Obj} (h : St p b toks w W s (u :: z :: y :: (g, o) :: l)) : W.heap[g]? = some o := (h.loc (g, o) (by simp)).2
theorem St.l4 {g : Nat} {o : Obj} {y z u v : Nat × Obj} (h : St p b toks w W s (v :: u :: z :: y :: (g, o) :: l)) : W.heap[g]? = some o := (h.loc (g, o) (by simp)).2
theorem St.g0 {g : Nat} {o : Obj} (h : St p b toks w W s ((g, o) :: l)) : w.heap.size ≤ g := (h.loc (g, o) (by simp)).1
end
theorem blk_alloc' {w : World} {g : Nat} {o o' : Obj} (h : w.heap[g]? = some o) : (w.alloc o').heap[g]? = some o := blk_alloc h o'
theorem texts_new {w : World} {g : Nat} (l : List PX.B) (hg : w.heap.size = g) : TextsAt (w.alloc (.cells (l.map fun x => Value.string ⟨x.toArray⟩).toArray 9)) g l := by
 subst hg
 intro j x hx
 have h := blk_cell (blk_new w (.cells (l.map fun x => Value.string ⟨x.toArray⟩).toArray 9)) j
 rw [h]
 simp [hx]
def Told {α : Type} (p b : Nat) (toks : List LX.Tok) (w : World) (l : List (Nat × Obj)) (r : PX.Res α) (V : World → α → Value → Prop) (e : Ending) (w' : World) : Prop :=
 match r with
 | .ok x s' => St p b toks w w' s' l ∧ ∃ v, e = .returned v ∧ V w' x v
 | .bad q err => e = Pan toks q err ∧ Only p w w'
 | .out => False
theorem RdIs.told {α : Type} {p b : Nat} {toks : List LX.Tok} {w W w' : World} {s : List PX.T} {l : List (Nat × Obj)} {r : PX.Res α} {V : World → α → Value → Prop} {e : Ending} (hS : St p b toks w W s l) (h : RdIs p b toks W r V e w') : Told p b toks w l r V e w' := by
 unfold Told
 obtain ⟨hO, hm⟩ := h
 cases r with
 | ok x s' => exact ⟨hS.call hO hm.1, hm.2⟩
 | bad q err => exact ⟨hm, hS.only.trans hO⟩
 | out => exact hm
theorem Told.part {α : Type} {p b : Nat} {toks : List LX.Tok} {w w' : World} {l : List (Nat × Obj)} {r : PX.Res α} {V : World → α → Value → Prop} {e : Ending} {C : Prop} (h : Told p b toks w l r V e w')
  (hbad : ∀ q er, r = .bad q er → e = Pan toks q er → Only p w w' → C) (hok : ∀ x s', r = .ok x s' → St p b toks w w' s' l → ∀ v, e = .returned v → V w' x v → C) : C := by
 unfold Told at h
 cases r with
 | out => exact h.elim
 | bad q er => exact hbad q er rfl h.1 h.2
 | ok x s' => exact hok x s' rfl h.1 _ h.2.choose_spec.1 h.2.choose_spec.2
theorem St.takes {p b g : Nat} {toks : List LX.Tok} {w W : World} {s : List PX.T} {l : List (Nat × Obj)} (x : List PX.B) (h : St p b toks w W s l) (hg : W.heap.size = g) (hn : x.length ≤ 100) :
  Calls Tryz.prog 128 #[.pointer (some ⟨p, 0, none⟩), .slice (some ⟨g, 0, none⟩) x.length x.length] (W.alloc (.cells (x.map fun x => Value.string ⟨x.toArray⟩).toArray 9)) fun e w' =>
   g < w'.heap.size ∧ Only p W w' ∧ St p b toks w w' (if PX.is x s then s.tail else s) l ∧ ∃ t, PX.peek s = tk t ∧ atOf toks s.length = t.at_ ∧ e = .returned (.tuple #[.agg (tokA t), .bool (PX.is x s)]) := by
 have hp := h.pat.plt
 refine (take_walk p b g x.length toks s x _ (h.pat.alloc _) (texts_new x hg) (by subst hg; simp) hn (by omega)).mono ?_
 rintro e w' ⟨hO, hP, hr⟩
 exact ⟨Nat.lt_of_lt_of_le (by subst hg; simp) hO.size, ((Only.refl p W).alloc _).trans hO, h.call (((Only.refl p W).alloc _).trans hO) hP, hr⟩
theorem St.wants {p b g : Nat} {toks : List LX.Tok} {w W : World} {s : List PX.T} {l : List (Nat × Obj)} (x : PX.B) (h : St p b toks w W s l) (hg : W.heap.size = g) :
  Calls Tryz.prog 79 #[.pointer (some ⟨p, 0, none⟩), .slice (some ⟨g, 0, none⟩) 1 1] (W.alloc (.cells #[.string ⟨x.toArray⟩] 9)) fun e w' => Only p W w' ∧ Told p b toks w l (PX.want x s) (fun _ _ _ => True) e w' := by
 have hp := h.pat.plt
 refine (want_walk p b g 1 toks s x _ (h.pat.alloc _) (texts_new [x] hg) (by subst hg; simp) (by omega)).mono ?_
 rintro e w' hm
 exact ⟨((Only.refl p W).alloc _).trans hm.1, hm.told h.alloc⟩
theorem St.iss {p b g : Nat} {toks : List LX.Tok} {w W : World} {s : List PX.T} {l : List (Nat × Obj)} (x : List PX.B) (h : St p b toks w W s l) (hg : W.heap.size = g) (hn : x.length ≤ 100) :
  Calls Tryz.prog 83 #[.pointer (some ⟨p, 0, none⟩), .slice (some ⟨g, 0, none⟩) x.length x.length] (W.alloc (.cells (x.map fun x => Value.string ⟨x.toArray⟩).toArray 9)) fun e w' =>
   Only p W w' ∧ St p b toks w w' s l ∧ e = .returned (.bool (PX.is x s)) := by
 refine (is_walk p b g x.length toks s x _ (h.pat.alloc _) (texts_new x hg) (by subst hg; simp) hn).mono ?_
 rintro e w' ⟨rfl, hb⟩
 exact ⟨((Only.refl p W).alloc _).trans (Only.of_below hb), h.alloc.below hb, rfl⟩
theorem St.names {p b : Nat} {toks : List LX.Tok} {w W : World} {s : List PX.T} {l : List (Nat × Obj)} (h : St p b toks w W s l) :
  Calls Tryz.prog 80 #[.pointer (some ⟨p, 0, none⟩)] W fun e w' => Only p W w' ∧ Told p b toks w l (PX.name s) (fun _ m v => NameV toks s.length m v) e w' := by
 refine (name_walk p b toks s W h.pat).mono ?_
 rintro e w' hm
 exact ⟨hm.1, hm.told h⟩
theorem St.fails {α : Type} {p b : Nat} {toks : List LX.Tok} {w W : World} {s : List PX.T} {l : List (Nat × Obj)} (h : St p b toks w W s l) :
  Calls Tryz.prog 78 #[.pointer (some ⟨p, 0, none⟩)] W fun e w' => ∃ q er, PX.fail (α := α) s = .bad q er ∧ e = Pan toks q er ∧ Only p w w' := by
 refine (fail_walk (α := α) p b toks s W (fun _ _ _ => True) h.pat).mono ?_
 rintro e w' hm
 exact ⟨_, _, rfl, hm.2, h.only.trans hm.1⟩
theorem St.peeks {p b : Nat} {toks : List LX.Tok} {w W : World} {s : List PX.T} {l : List (Nat × Obj)} (h : St p b toks w W s l) :
  Calls Tryz.prog 44 #[.pointer (some ⟨p, 0, none⟩)] W fun e w' => Only p W w' ∧ St p b toks w w' s l ∧ ∃ t, PX.peek s = tk t ∧ atOf toks s.length = t.at_ ∧ e = .returned (.agg (tokA t)) := by
 refine (peek_walk p b toks s W h.pat).mono ?_
 rintro e w' ⟨hb, hr⟩
 exact ⟨Only.of_below hb, h.below hb, hr⟩
structure Kp (n : Nat) (W W' : World) : Prop where
 size : W.heap.size ≤ W'.heap.size
 keep : ∀ k, n ≤ k → k < W.heap.size → W'.heap[k]? = W.heap[k]?
section
variable {n : Nat} {W W' : World}
theorem Kp.refl : Kp n W W := ⟨Nat.le_refl _, fun _ _ _ => rfl⟩
theorem Kp.alloc {o : Obj} (h : Kp n W W') : Kp n W (W'.alloc o) := ⟨by have := h.size; simp; omega, fun k hk hl => (Below.heap_alloc W' o k (Nat.lt_of_lt_of_le hl h.size)).trans (h.keep k hk hl)⟩
theorem Kp.drewN {m : Nat} (h : Kp n W W') : Kp n W (W'.drewN m) := ⟨h.size, h.keep⟩
theorem Kp.drew (h : Kp n W W') : Kp n W W'.drew := ⟨h.size, h.keep⟩
theorem Kp.store {g j : Nat} {v : Value} (hg : g < n) (h : Kp n W W') : Kp n W (W'.setCell ⟨g, j, none⟩ v) := ⟨by simpa [World.setCell] using h.size, fun k hk hl => (Below.heap_setCell W' ⟨g, j, none⟩ v k (by show k ≠ g; omega)).trans (h.keep k hk hl)⟩
theorem Kp.only {p : Nat} {W1 : World} (hp : p < n) (hO : Only p W' W1) (h : Kp n W W') : Kp n W W1 := ⟨Nat.le_trans h.size hO.size, fun k hk hl => (hO.keep k (Nat.lt_of_lt_of_le hl h.size) (by omega)).trans (h.keep k hk hl)⟩
end
theorem ExM.kp {n0 n1 : Nat} {W W' : World} {x : S54} {c : List Value} (h : k54.M W n1 (fun _ => True) x c) (hn : n0 ≤ n1) (hk : Kp n1 W W') : k54.M W' n0 (fun _ => True) x c :=
 k54.M_lower hn (k54.M_mono (fun _ _ => trivial) (k54.M_move (fun k hk' => hk.keep k hk'.2.1 hk'.2.2.1) (k54.M_bound h)))
theorem bind_ok {α β : Type} {a : α} {s : List PX.T} {f : α → List PX.T → PX.Res β} : (PX.Res.ok a s).bind f = f a s := rfl

theorem size_set6 (W : World) (g : Nat) (v0 v1 v2 v3 v4 v5 : Value) : ((((((W.setCell ⟨g, 0, none⟩ v0).setCell ⟨g, 1, none⟩ v1).setCell ⟨g, 2, none⟩ v2).setCell ⟨g, 3, none⟩ v3).setCell ⟨g, 4, none⟩ v4).setCell ⟨g, 5, none⟩ v5).heap.size = W.heap.size := by simp [World.setCell]
abbrev ReadsEx (p b : Nat) (toks : List LX.Tok) (f : FuncId) (r : List PX.T → PX.Res PX.Ex) : Prop :=
 ∀ (s : List PX.T) (w : World), PAt w p b toks s → (r s).isOut = false → Calls Tryz.prog f #[.pointer (some ⟨p, 0, none⟩)] w fun e w' => RdIs p b toks w (r s) (ExV toks w.heap.size) e w'
theorem ReadsEx.call {p b : Nat} {toks : List LX.Tok} {f : FuncId} {r : List PX.T → PX.Res PX.Ex} (hf : ReadsEx p b toks f r) {w W : World} {s : List PX.T} {l : List (Nat × Obj)} (h : St p b toks w W s l) (ho : (r s).isOut = false) :
  Calls Tryz.prog f #[.pointer (some ⟨p, 0, none⟩)] W fun e w' => Only p W w' ∧ Told p b toks w l (r s) (ExV toks W.heap.size) e w' := by
 refine (hf s W h.pat ho).mono ?_
 rintro e w' hm
 exact ⟨hm.1, hm.told h⟩
structure Walks (p b : Nat) (toks : List LX.Tok) (k : Nat) : Prop where
 expr : ReadsEx p b toks 74 (PX.expr k)
 arrow : ReadsEx p b toks 129 (PX.arrow k)
 or_ : ReadsEx p b toks 160 (PX.bin k 0)
 and_ : ReadsEx p b toks 176 (PX.bin k 1)
 not_ : ReadsEx p b toks 187 (PX.bin k 2)
 sum : ReadsEx p b toks 198 (PX.bin k 3)
 term : ReadsEx p b toks 204 (PX.bin k 4)
 unary : ReadsEx p b toks 205 (PX.unary k)
 primary : ReadsEx p b toks 208 (PX.primary k)
end Go.Proofs.YtjafllnbgfcchaaGreatDoor.Px
end
section
/- tree.Const, walked. -/
namespace Go.Proofs.YtjafllnbgfcchaaGreatDoor.Px
set_option linter.unusedVariables false
open Go Go.RowKit Go.Proofs.YtjafllnbgfcchaaGreatDoorW.PrintWords Go.Proofs.YtjafllnbgfcchaaGreatDoorW.PrintLast Go.Proofs.YtjafllnbgfcchaaGreatDoorW.PrintMore Go.Proofs.YtjafllnbgfcchaaGreatDoor.Lx Go.Proofs.YtjafllnbgfcchaaGreatDoor.XK
set_option maxHeartbeats 4000000 in
set_option maxRecDepth 100000 in
theorem const_walk (k : Nat) (a n : Int) (m : ByteArray) (o : Bool) (A : Option Addr) (l c : Nat) (w : World) :
  Calls Tryz.prog 161 #[.agg #[.int .i64 k, .int .i64 a, .int .i64 n, .string m, .bool o, .slice A l c]] w fun e w' => e = .returned (.bool (k == 1 || k == 2)) ∧ Below w.heap.size w w' := by

 go_enter Tryz.func161, Tryz.ntmps161
 go_wp2_with (fail)
 all_goals
  go_ret
  refine ⟨Eq.trans (b := Ending.returned (Value.bool _)) rfl (congrArg (fun b => Ending.returned (Value.bool b)) ?_), below_alloc (Below.refl _ _) _⟩
  rw [Bool.eq_iff_iff]
  simp
  try omega
end Go.Proofs.YtjafllnbgfcchaaGreatDoor.Px
end
section
/- A number and a truth of a token, walked. -/
namespace Go.Proofs.YtjafllnbgfcchaaGreatDoor.Px
set_option linter.unusedVariables false
set_option linter.unusedSimpArgs false
open Go Go.RowKit Go.Proofs.YtjafllnbgfcchaaGreatDoorW.PrintWords Go.Proofs.YtjafllnbgfcchaaGreatDoorW.PrintLast Go.Proofs.YtjafllnbgfcchaaGreatDoorW.PrintMore Go.Proofs.YtjafllnbgfcchaaGreatDoor.Lx Go.Proofs.YtjafllnbgfcchaaGreatDoor.XK
attribute [local go_sem ↓] Go.wp_at_zero Go.wp_at_succ
theorem neg_top : wrap64 (-wrap64 9223372036854775808) = -9223372036854775808 := by decide +kernel
set_option maxHeartbeats 4000000 in
set_option maxRecDepth 100000 in
theorem number_walk (t : LX.Tok) (kk a : Int) (below : Bool) (w : World) (hn : t.n ≤ 9223372036854775808) :
  Calls Tryz.prog 207 #[.agg #[.int .i64 kk, .int .i64 t.at_, .string ⟨t.text.toArray⟩, .int .u64 t.n], .int .i64 a, .bool below] w fun e w' => Below w.heap.size w w' ∧
   e = (if (!below && decide (t.n > 9223372036854775807)) = true then .panicked [{ v := .iface 27 (.agg #[.int .i64 t.at_, .int .i64 3]), recovered := false }]
    else .returned (.agg #[.int .i64 1, .int .i64 a, .int .i64 (if below then -(t.n : Int) else t.n), .string ⟨#[]⟩, .bool false, .slice none 0 0])) := by
 obtain ⟨k, at_, text, n⟩ := t
 simp only at hn
 simp only
 rcases Nat.lt_or_ge 9223372036854775807 n with h1 | h1
 ·obtain rfl : n = 9223372036854775808 := by omega
  cases below with
  | false =>
   go_enter Tryz.func207, Tryz.ntmps207
   go_wp2_with (fail)
   exact ⟨rfl, below_alloc (below_alloc (Below.refl _ _) _) _, rfl⟩
  | true =>
   go_enter Tryz.func207, Tryz.ntmps207
   go_wp2_with (fail)
   refine bodyPost_ret (results_cell_row rfl _ _ (w.heap.size + 1) 54 _ (0, 0) _ rfl (heap_alloc2_new w _ _) Tryz.underlying54 rfl (by kernel_rfl)) rfl ?_
   exact ⟨below_alloc (below_alloc (Below.refl _ _) _) _, by rw [neg_top]⟩
 ·have h2 : (n : Int) ≤ 9223372036854775807 := by omega
  have h3 : ¬ (9223372036854775807 < (n : Int)) := by omega
  have h4 : ¬ (9223372036854775807 < n) := by omega
  cases below with
  | false =>
   go_enter Tryz.func207, Tryz.ntmps207
   go_wp2_with (fail)
   refine bodyPost_ret (results_cell_row rfl _ _ (w.heap.size + 1) 54 _ (0, 0) _ rfl (heap_alloc2_new w _ _) Tryz.underlying54 rfl (by kernel_rfl)) rfl ?_
   exact ⟨below_alloc (below_alloc (Below.refl _ _) _) _, rfl⟩
  | true =>
   go_enter Tryz.func207, Tryz.ntmps207
   go_wp2_with (fail)
   refine bodyPost_ret (results_cell_row rfl _ _ (w.heap.size + 1) 54 _ (0, 0) _ rfl (heap_alloc2_new w _ _) Tryz.underlying54 rfl (by kernel_rfl)) rfl ?_
   exact ⟨below_alloc (below_alloc (Below.refl _ _) _) _, rfl⟩

set_option maxHeartbeats 4000000 in
set_option maxRecDepth 100000 in
theorem truth_walk (t : LX.Tok) (w : World) :
  Calls Tryz.prog 210 #[.agg (tokA t)] w fun e w' => Below w.heap.size w w' ∧
   e = .returned (.agg #[.int .i64 2, .int .i64 t.at_, .int .i64 (if t.text == [116, 114, 117, 101] then 1 else 0), .string ⟨#[]⟩, .bool false, .slice none 0 0]) := by
 obtain ⟨k, at_, text, n⟩ := t
 unfold tokA tokV
 simp only
 obtain ⟨B, hB⟩ : ∃ B, (text == [116, 114, 117, 101]) = B := ⟨_, rfl⟩
 rw [hB]
 cases B with
 | false =>
  go_enter Tryz.func210, Tryz.ntmps210
  go_wp2_with (fail)
  refine bodyPost_ret (results_cell_row rfl _ _ (w.heap.size + 1) 54 _ (0, 0) _ rfl (blk_alloc' (heap_alloc2_new w _ _)) Tryz.underlying54 rfl (by kernel_rfl)) rfl ?_
  exact ⟨below_alloc (below_alloc (below_alloc (Below.refl _ _) _) _) _, rfl⟩
 | true =>
  go_enter Tryz.func210, Tryz.ntmps210
  go_wp2_with (fail)
  refine bodyPost_ret (results_cell_row rfl _ _ (w.heap.size + 1) 54 _ (0, 0) _ rfl (blk_alloc' (heap_alloc2_new w _ _)) Tryz.underlying54 rfl (by kernel_rfl)) rfl ?_
  exact ⟨below_alloc (below_alloc (below_alloc (Below.refl _ _) _) _) _, rfl⟩

theorem leaf_M (toks : List LX.Tok) (W : World) (n0 k a : Nat) (n : Int) (m : PX.B) (o : Bool) : k54.M W n0 (fun _ => True) (real toks (.mk k a n m o [])) [.int .i64 k, .int .i64 (atOf toks a), .int .i64 n, .string ⟨m.toArray⟩, .bool o, .slice none 0 0] :=
 k54_mkM W n0 _ (real toks (.mk k a n m o [])) (Kd.R_nil _ _ _ _ _)
theorem St.numbers {p b : Nat} {toks : List LX.Tok} {w W : World} {s : List PX.T} {l : List (Nat × Obj)} {t : LX.Tok} (h : St p b toks w W s.tail l) (ht : PX.peek s = tk t) (hat : atOf toks s.length = t.at_) (hn : t.n ≤ 9223372036854775808) (a : Nat) {v : Int} (hv : atOf toks a = v) (below : Bool) {kk : Int} :
  Calls Tryz.prog 207 #[.agg #[.int .i64 kk, .int .i64 t.at_, .string ⟨t.text.toArray⟩, .int .u64 t.n], .int .i64 v, .bool below] W fun e w' => Only p W w' ∧ Told p b toks w l (PX.number s a below) (ExV toks W.heap.size) e w' := by
 refine (number_walk t kk v below W hn).mono ?_
 rintro e w' ⟨hb, rfl⟩
 refine ⟨Only.of_below hb, ?_⟩
 unfold PX.number Told
 simp only [ht]
 by_cases hc : (!below && decide ((tk t).n > 9223372036854775807)) = true
 ·rw [if_pos hc, if_pos (show (!below && decide (t.n > 9223372036854775807)) = true from hc)]
  refine ⟨?_, h.only.trans (Only.of_below hb)⟩
  unfold Pan
  rw [hat]
  rfl
 ·rw [if_neg hc, if_neg (show ¬ (!below && decide (t.n > 9223372036854775807)) = true from hc)]
  refine ⟨h.below hb, _, rfl, _, rfl, ?_⟩
  rw [← hv]
  exact leaf_M toks w' W.heap.size 1 a (if below then -(t.n : Int) else t.n) [] false
theorem St.truths {p b : Nat} {toks : List LX.Tok} {w W : World} {s : List PX.T} {l : List (Nat × Obj)} {t : LX.Tok} (h : St p b toks w W s.tail l) (ht : PX.peek s = tk t) (hat : atOf toks s.length = t.at_) :
  Calls Tryz.prog 210 #[.agg (tokA t)] W fun e w' => Only p W w' ∧ Told p b toks w l (PX.Res.ok (PX.truth s) s.tail) (ExV toks W.heap.size) e w' := by
 refine (truth_walk t W).mono ?_
 rintro e w' ⟨hb, rfl⟩
 refine ⟨Only.of_below hb, h.below hb, _, rfl, _, rfl, ?_⟩
 rw [← hat]
 unfold PX.truth
 rw [ht]
 have e : ((if (tk t).text == [116, 114, 117, 101] then (1 : Int) else 0)) = (if t.text == [116, 114, 117, 101] then (1 : Int) else 0) := rfl
 exact leaf_M toks w' W.heap.size 2 s.length _ [] false
theorem St.adv {p b k c : Nat} {toks : List LX.Tok} {w W : World} {s : List PX.T} {l : List (Nat × Obj)} (h : St p b toks w W s l) (hb : W.heap[p]? = some (.cells #[.slice (some ⟨b, 0, none⟩) toks.length c, .int .i64 k] 94 (0, 0))) (hk : (PX.peek s).kind ≠ 5) :
  St p b toks w (W.setCell ⟨p, 1, none⟩ (.int .i64 (k + 1))) s.tail l :=
 ⟨h.only.put 1 _, h.pat.step hb hk rfl, h.pl, h.bl, fun x hx => ⟨(h.loc x hx).1, (Below.heap_setCell W ⟨p, 1, none⟩ _ x.1 (by have := (h.loc x hx).1; have := h.pl; show x.1 ≠ p; omega)).trans (h.loc x hx).2⟩⟩
theorem PAt.second {p b k c : Nat} {toks : List LX.Tok} {W : World} {s : List PX.T} (h : PAt W p b toks s) (hb : W.heap[p]? = some (.cells #[.slice (some ⟨b, 0, none⟩) toks.length c, .int .i64 k] 94 (0, 0))) (hk : (PX.peek s).kind ≠ 5) :
  ∃ u : LX.Tok, k + 1 < toks.length ∧ PX.peek s.tail = tk u ∧ toks[k + 1]? = some u := by
 obtain ⟨t, c', k', hb', hc, hlt, hkl, ht, hp, hat, htl⟩ := h.head
 rw [hb] at hb'
 simp only [Option.some.injEq, Obj.cells.injEq, Array.mk.injEq, List.cons.injEq, Value.slice.injEq, Value.int.injEq, true_and, and_true] at hb'
 obtain ⟨rfl, he⟩ := hb'
 have he : k = k' := by omega
 subst he
 have hg := (h.good.tail hk).2
 have hpos := (h.good.tail hk).1.pos
 have hlt2 : k + 1 < toks.length := by omega
 refine ⟨toks[k + 1], hlt2, ?_, List.getElem?_eq_getElem hlt2⟩
 rw [htl, List.drop_eq_getElem_cons hlt2]
 rfl
end Go.Proofs.YtjafllnbgfcchaaGreatDoor.Px
end
section
/- A token's field. -/
namespace Go.Proofs.YtjafllnbgfcchaaGreatDoor.Px
open Go Go.RowKit
theorem fld2 (k a n : Int) (m : ByteArray) (w : World) : Sem.run Tryz.prog (Instr.field 35 (.agg #[.int .i64 k, .int .i64 a, .string m, .int .u64 n]) 2) w = .ok (.string m) w := by kernel_rfl
theorem fld0 (k a n : Int) (m : ByteArray) (w : World) : Sem.run Tryz.prog (Instr.field 35 (.agg #[.int .i64 k, .int .i64 a, .string m, .int .u64 n]) 0) w = .ok (.int .i64 k) w := by kernel_rfl
end Go.Proofs.YtjafllnbgfcchaaGreatDoor.Px
end
