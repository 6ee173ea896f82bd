/- Joined of: Ow, Fnd, Ck. -/
import Derived.Test.YtjafllnbgfcchaaGreatDoorQAGPEx
import Derived.Test.YtjafllnbgfcchaaGreatDoorQAXKx1
import Derived.Deep.DeepMust
import Derived.Lib.Hide
section
/- What a function has made for itself: its own blocks, told with what lies in them; all older blocks as they were. -/
namespace Go.Proofs.YtjafllnbgfcchaaGreatDoor.Ow
set_option linter.unusedVariables false
open Go Go.RowKit Go.Proofs.YtjafllnbgfcchaaGreatDoorW.PrintWords Go.Proofs.YtjafllnbgfcchaaGreatDoorW.PrintLast Go.Proofs.YtjafllnbgfcchaaGreatDoorW.PrintMore Go.Proofs.YtjafllnbgfcchaaGreatDoor.Lx Go.Proofs.YtjafllnbgfcchaaGreatDoor.XK Go.Proofs.YtjafllnbgfcchaaGreatDoor.Px
structure Ow (w W : World) (l : List (Nat × Obj)) : Prop where
 bel : Below w.heap.size w W
 loc : ∀ x ∈ l, w.heap.size ≤ x.1 ∧ W.heap[x.1]? = some x.2
section
variable {w W W' : World} {l : List (Nat × Obj)}
theorem Ow.start (w : World) : Ow w w [] := ⟨Below.refl _ _, fun x hx => by simp at hx⟩
theorem Ow.sz (h : Ow w W l) : w.heap.size ≤ W.heap.size := h.bel.size
theorem Ow.below (h : Ow w W l) (hb : Below W.heap.size W W') : Ow w W' l := ⟨h.bel.trans (hb.mono h.sz), fun x hx => ⟨(h.loc x hx).1, blk_below (h.loc x hx).2 hb⟩⟩
theorem Ow.drewN {n : Nat} (h : Ow w W l) : Ow w (W.drewN n) l := h.below (pw_below_drewN (Below.refl _ _) n)
theorem Ow.drew (h : Ow w W l) : Ow w W.drew l := h.below (below_drew (Below.refl _ _))
theorem Ow.newg {q : Obj} {g : Nat} (hg : W.heap.size = g) (h : Ow w W l) : Ow w (W.alloc q) ((g, q) :: l) := by
 subst hg
 exact ⟨(h.below (below_alloc (Below.refl _ _) q)).bel, fun x hx => by
  rcases List.mem_cons.1 hx with rfl | hx
  ·exact ⟨h.sz, blk_new W q⟩
  ·exact (h.below (below_alloc (Below.refl _ _) q)).loc x hx⟩
theorem Ow.new {q : Obj} (h : Ow w W l) : Ow w (W.alloc q) ((W.heap.size, q) :: l) := h.newg rfl
theorem Ow.sub {l' : List (Nat × Obj)} (hs : ∀ x ∈ l', x ∈ l) (h : Ow w W l) : Ow w W l' := ⟨h.bel, fun x hx => h.loc x (hs x hx)⟩
theorem Ow.drop1 {y : Nat × Obj} (h : Ow w W (y :: l)) : Ow w W l := h.sub fun z hz => List.mem_cons_of_mem _ hz
theorem Ow.cons {g : Nat} {q : Obj} (hg : w.heap.size ≤ g) (hb : W.heap[g]? = some q) (h : Ow w W l) : Ow w W ((g, q) :: l) := ⟨h.bel, fun x hx => by
 rcases List.mem_cons.1 hx with rfl | hx
 ·exact ⟨hg, hb⟩
 ·exact h.loc x hx⟩
theorem Ow.put {g j : Nat} {v : Value} {cs : Array Value} {t : TypeId} (h : Ow w W ((g, .cells cs t (0, 0)) :: l)) (hn : ∀ y ∈ l, y.1 ≠ g) : Ow w (W.setCell ⟨g, j, none⟩ v) ((g, .cells (cs.setIfInBounds j v) t (0, 0)) :: l) :=
 ⟨h.bel.setCell (h.loc (g, .cells cs t (0, 0)) List.mem_cons_self).1 v, fun x hx => by
  rcases List.mem_cons.1 hx with rfl | hx
  ·exact ⟨(h.loc (g, .cells cs t (0, 0)) List.mem_cons_self).1, blk_set (h.loc (g, .cells cs t (0, 0)) List.mem_cons_self).2 j v⟩
  ·exact ⟨(h.loc x (List.mem_cons_of_mem _ hx)).1, (Below.heap_setCell W ⟨g, j, none⟩ v x.1 (hn x hx)).trans (h.loc x (List.mem_cons_of_mem _ hx)).2⟩⟩
theorem Ow.l0 {g : Nat} {q : Obj} (h : Ow w W ((g, q) :: l)) : W.heap[g]? = some q := (h.loc (g, q) (by simp)).2
theorem Ow.l1 {g : Nat} {q : Obj} {y : Nat × Obj} (h : Ow w W (y :: (g, q) :: l)) : W.heap[g]? = some q := (h.loc (g, q) (by simp)).2
theorem Ow.l2 {g : Nat} {q : Obj} {y z : Nat × Obj} (h : Ow w W (z :: y :: (g, q) :: l)) : W.heap[g]? = some q := (h.loc (g, q) (by simp)).2
theorem Ow.l3 {g : Nat} {q : Obj} {y z u : Nat × Obj} (h : Ow w W (u :: z :: y :: (g, q) :: l)) : W.heap[g]? = some q := (h.loc (g, q) (by simp)).2
theorem Ow.g0 {g : Nat} {q : Obj} (h : Ow w W ((g, q) :: l)) : w.heap.size ≤ g := (h.loc (g, q) (by simp)).1
end
end Go.Proofs.YtjafllnbgfcchaaGreatDoor.Ow
end
section
/- The first node of a name, walked. -/
namespace Go.Proofs.YtjafllnbgfcchaaGreatDoor.Fnd
set_option linter.unusedVariables false
set_option linter.unusedSimpArgs false
open Go Go.RowKit Go.Proofs.YtjafllnbgfcchaaGreatDoorW.PrintWords Go.Proofs.YtjafllnbgfcchaaGreatDoorW.PrintLast Go.Proofs.YtjafllnbgfcchaaGreatDoorW.PrintMore Go.Proofs.YtjafllnbgfcchaaGreatDoor.XK
theorem toList_data (s : ByteArray) : s.toList = s.data.toList := by
 obtain ⟨⟨l⟩⟩ := s
 exact ByteArray.toList_mk l
end Go.Proofs.YtjafllnbgfcchaaGreatDoor.Fnd
end
section
/- A checker in memory: one block that its methods change; what it reads is older than it. -/
namespace Go.Proofs.YtjafllnbgfcchaaGreatDoor.Ck
set_option linter.unusedVariables false
open Go Go.RowKit Go.Proofs.YtjafllnbgfcchaaGreatDoorW.PrintWords Go.Proofs.YtjafllnbgfcchaaGreatDoorW.PrintLast Go.Proofs.YtjafllnbgfcchaaGreatDoorW.PrintMore Go.Proofs.YtjafllnbgfcchaaGreatDoor.Lx Go.Proofs.YtjafllnbgfcchaaGreatDoor.XK Go.Proofs.YtjafllnbgfcchaaGreatDoor.Px
structure Ck (c : Nat) (w W : World) (o : Obj) (l : List (Nat × Obj)) : Prop where
 only : Only c w W
 blk : W.heap[c]? = some o
 lc : c < w.heap.size
 loc : ∀ x ∈ l, w.heap.size ≤ x.1 ∧ W.heap[x.1]? = some x.2
section
variable {c : Nat} {w W W' : World} {o o' : Obj} {l : List (Nat × Obj)}
theorem Ck.start (h : w.heap[c]? = some o) : Ck c w w o [] := ⟨Only.refl _ _, h, blk_lt h, fun x hx => by simp at hx⟩
theorem Ck.sz (h : Ck c w W o l) : w.heap.size ≤ W.heap.size := h.only.size
theorem Ck.below (h : Ck c w W o l) (hb : Below W.heap.size W W') : Ck c w W' o l :=
 ⟨h.only.trans (Only.of_below hb), blk_below h.blk hb, h.lc, fun x hx => ⟨(h.loc x hx).1, blk_below (h.loc x hx).2 hb⟩⟩
theorem Ck.alloc {q : Obj} (h : Ck c w W o l) : Ck c w (W.alloc q) o l := h.below (below_alloc (Below.refl _ _) q)
theorem Ck.drewN {n : Nat} (h : Ck c w W o l) : Ck c w (W.drewN n) o l := h.below (pw_below_drewN (Below.refl _ _) n)
theorem Ck.drew (h : Ck c w W o l) : Ck c w W.drew o l := h.below (below_drew (Below.refl _ _))
theorem Ck.new {q : Obj} (h : Ck c w W o l) : Ck c w (W.alloc q) o ((W.heap.size, q) :: l) :=
 ⟨h.alloc.only, h.alloc.blk, h.lc, fun x hx => by
  rcases List.mem_cons.1 hx with rfl | hx
  ·exact ⟨h.sz, blk_new W q⟩
  ·exact h.alloc.loc x hx⟩
theorem Ck.newg {q : Obj} {g : Nat} (hg : W.heap.size = g) (h : Ck c w W o l) : Ck c w (W.alloc q) o ((g, q) :: l) := by
 subst hg
 exact h.new
theorem Ck.store {g j : Nat} {v : Value} (hg : w.heap.size ≤ g) (hn : ∀ x ∈ l, x.1 ≠ g) (h : Ck c w W o l) : Ck c w (W.setCell ⟨g, j, none⟩ v) o l :=
 ⟨h.only.store hg j v, (Below.heap_setCell W ⟨g, j, none⟩ v c (by have := h.lc; show c ≠ g; omega)).trans h.blk, h.lc, fun x hx => ⟨(h.loc x hx).1, (Below.heap_setCell W ⟨g, j, none⟩ v x.1 (hn x hx)).trans (h.loc x hx).2⟩⟩
theorem Ck.call (h : Ck c w W o l) (hO : Only c W W') (hb : W'.heap[c]? = some o') : Ck c w W' o' l :=
 ⟨h.only.trans hO, hb, h.lc, fun x hx => ⟨(h.loc x hx).1, hO.blk (h.loc x hx).2 (by have := (h.loc x hx).1; have := h.lc; omega)⟩⟩
theorem Ck.put {cs : Array Value} {t : TypeId} (h : Ck c w W (.cells cs t (0, 0)) l) (j : Nat) (v : Value) : Ck c w (W.setCell ⟨c, j, none⟩ v) (.cells (cs.setIfInBounds j v) t (0, 0)) l :=
 ⟨⟨h.only.os, h.only.tape, h.only.output, by simpa [World.setCell] using h.only.size, fun i hi hn => (Below.heap_setCell W ⟨c, j, none⟩ v i hn).trans (h.only.keep i hi hn)⟩, blk_set h.blk j v, h.lc, fun x hx => ⟨(h.loc x hx).1, (Below.heap_setCell W ⟨c, j, none⟩ v x.1 (by have := (h.loc x hx).1; have := h.lc; show x.1 ≠ c; omega)).trans (h.loc x hx).2⟩⟩
theorem Ck.sub {l' : List (Nat × Obj)} (hs : ∀ x ∈ l', x ∈ l) (h : Ck c w W o l) : Ck c w W o l' := ⟨h.only, h.blk, h.lc, fun x hx => h.loc x (hs x hx)⟩
theorem Ck.nil (h : Ck c w W o l) : Ck c w W o [] := h.sub (fun x hx => by simp at hx)
theorem Ck.cons {g : Nat} {q : Obj} (hg : w.heap.size ≤ g) (hb : W.heap[g]? = some q) (h : Ck c w W o l) : Ck c w W o ((g, q) :: l) :=
 ⟨h.only, h.blk, h.lc, fun x hx => by
  rcases List.mem_cons.1 hx with rfl | hx
  ·exact ⟨hg, hb⟩
  ·exact h.loc x hx⟩
theorem Ck.l0 {g : Nat} {q : Obj} (h : Ck c w W o ((g, q) :: l)) : W.heap[g]? = some q := (h.loc (g, q) (by simp)).2
theorem Ck.l1 {g : Nat} {q : Obj} {y : Nat × Obj} (h : Ck c w W o (y :: (g, q) :: l)) : W.heap[g]? = some q := (h.loc (g, q) (by simp)).2
theorem Ck.l2 {g : Nat} {q : Obj} {y z : Nat × Obj} (h : Ck c w W o (z :: y :: (g, q) :: l)) : W.heap[g]? = some q := (h.loc (g, q) (by simp)).2
theorem Ck.l3 {g : Nat} {q : Obj} {y z u : Nat × Obj} (h : Ck c w W o (u :: z :: y :: (g, q) :: l)) : W.heap[g]? = some q := (h.loc (g, q) (by simp)).2
theorem Ck.g0 {g : Nat} {q : Obj} (h : Ck c w W o ((g, q) :: l)) : w.heap.size ≤ g := (h.loc (g, q) (by simp)).1
theorem Ck.g1 {g : Nat} {q : Obj} {y : Nat × Obj} (h : Ck c w W o (y :: (g, q) :: l)) : w.heap.size ≤ g := (h.loc (g, q) (by simp)).1
theorem Only.below {n : Nat} (h : Only c w W) (hn : n ≤ c) (hs : n ≤ w.heap.size) : Below n w W := ⟨h.os, h.tape, h.output, h.size, fun i hi => h.keep i (by omega) (by omega)⟩
end
theorem Ck.old {c : Nat} {w0 w W : World} {o : Obj} {l : List (Nat × Obj)} (h : Ck c w W o l) (hb : Below w0.heap.size w0 w) (hc : w0.heap.size ≤ c) : Below w0.heap.size w0 W := hb.trans (Only.below h.only hc hb.size)
end Go.Proofs.YtjafllnbgfcchaaGreatDoor.Ck
end
