/- The parser in memory: its tokens, and where it reads. -/
import Derived.Test.YtjafllnbgfcchaaGreatDoorQALexWords
import Derived.Test.YtjafllnbgfcchaaGreatDoorQAPurP
import Derived.Test.YtjafllnbgfcchaaGreatDoorQAXKx0
namespace Go.Proofs.YtjafllnbgfcchaaGreatDoor.Px
set_option linter.unusedVariables false
open Go Go.RowKit Go.Proofs.YtjafllnbgfcchaaGreatDoorW.PrintWords Go.Proofs.YtjafllnbgfcchaaGreatDoorW.PrintLast Go.Proofs.YtjafllnbgfcchaaGreatDoorW.PrintMore Go.Proofs.YtjafllnbgfcchaaGreatDoor.Lx
def tk (t : LX.Tok) : PX.T := ⟨t.kind, t.text, t.n⟩
def atOf (toks : List LX.Tok) (q : Nat) : Int := ((toks[toks.length - q]?).getD default).at_
def RowAt (w : World) (b : Nat) (toks : List LX.Tok) : Prop := ∀ j t, toks[j]? = some t →
 w.cell? ⟨b, j * 4, none⟩ = some (.int .i64 t.kind) ∧ w.cell? ⟨b, j * 4 + 1, none⟩ = some (.int .i64 t.at_) ∧ w.cell? ⟨b, j * 4 + 2, none⟩ = some (.string ⟨t.text.toArray⟩) ∧ w.cell? ⟨b, j * 4 + 3, none⟩ = some (.int .u64 t.n)
theorem RowAt.imp {w w' : World} {b : Nat} {toks : List LX.Tok} (h : RowAt w b toks) (hk : ∀ a v, a.block = b → w.cell? a = some v → w'.cell? a = some v) : RowAt w' b toks := fun j t ht =>
 let ⟨h0, h1, h2, h3⟩ := h j t ht
 ⟨hk _ _ rfl h0, hk _ _ rfl h1, hk _ _ rfl h2, hk _ _ rfl h3⟩
theorem RowAt.heap {w w' : World} {b : Nat} {toks : List LX.Tok} (h : RowAt w b toks) (hk : w'.heap[b]? = w.heap[b]?) : RowAt w' b toks := h.imp fun a v ha hv => by
 subst ha
 unfold World.cell? at hv ⊢
 rw [hk]
 exact hv
structure PAt (w : World) (p b : Nat) (toks : List LX.Tok) (s : List PX.T) : Prop where
 blk : ∃ c k : Nat, w.heap[p]? = some (.cells #[.slice (some ⟨b, 0, none⟩) toks.length c, .int .i64 k] 94 (0, 0)) ∧ toks.length ≤ c ∧ k + s.length = toks.length ∧ s = (toks.drop k).map tk
 row : RowAt w b toks
 good : PX.Good s
 ne : b ≠ p
 lt : b < w.heap.size
 few : toks.length ≤ 4001
 nums : ∀ t ∈ toks, t.n ≤ 9223372036854775808

theorem blk2p {w : World} {g : Nat} {t : TypeId} {a b : Value} (h : w.heap[g]? = some (.cells #[a, b] t (0, 0))) : w.cell? ⟨g, 0, none⟩ = some a ∧ w.cell? ⟨g, 1, none⟩ = some b ∧ ∀ j, w.frozen? ⟨g, j, none⟩ = false :=
 ⟨blk_cell h 0, blk_cell h 1, fun j => blk_frozen h j⟩
theorem atOf_at {toks : List LX.Tok} {k q : Nat} {t : LX.Tok} (h : toks[k]? = some t) (hk : k + q = toks.length) : atOf toks q = t.at_ := by
 unfold atOf
 rw [show toks.length - q = k from by omega, h]
 rfl
theorem PAt.head {w : World} {p b : Nat} {toks : List LX.Tok} {s : List PX.T} (h : PAt w p b toks s) : ∃ (t : LX.Tok) (c k : Nat),
  w.heap[p]? = some (.cells #[.slice (some ⟨b, 0, none⟩) toks.length c, .int .i64 k] 94 (0, 0)) ∧ toks.length ≤ c ∧ k < toks.length ∧ k + s.length = toks.length ∧ toks[k]? = some t ∧ PX.peek s = tk t ∧ atOf toks s.length = t.at_ ∧ s.tail = (toks.drop (k + 1)).map tk := by
 obtain ⟨c, k, hb, hc, hk, hs⟩ := h.blk
 have hp := h.good.pos
 have hlt : k < toks.length := by omega
 have ht : toks[k]? = some toks[k] := List.getElem?_eq_getElem hlt
 have hd : toks.drop k = toks[k] :: toks.drop (k + 1) := List.drop_eq_getElem_cons hlt
 refine ⟨toks[k], c, k, hb, hc, hlt, hk, ht, ?_, atOf_at ht hk, ?_⟩
 ·rw [hs, hd]; rfl
 ·rw [hs, hd]; rfl
theorem PAt.num {w : World} {p b : Nat} {toks : List LX.Tok} {s : List PX.T} (h : PAt w p b toks s) {t : LX.Tok} (ht : PX.peek s = tk t) : t.n ≤ 9223372036854775808 := by
 obtain ⟨u, c, k, _, _, _, _, hu, hp, _, _⟩ := h.head
 rw [hp] at ht
 have h1 : u.n = t.n := congrArg PX.T.n ht
 rw [← h1]
 exact h.nums u (List.mem_of_getElem? hu)
theorem PAt.below {w w' : World} {p b : Nat} {toks : List LX.Tok} {s : List PX.T} (h : PAt w p b toks s) (hb : Below w.heap.size w w') : PAt w' p b toks s := by
 obtain ⟨c, k, hk⟩ := h.blk
 exact ⟨⟨c, k, (hb.block p (blk_lt hk.1)).trans hk.1, hk.2⟩, h.row.heap (hb.block b h.lt), h.good, h.ne, Nat.lt_of_lt_of_le h.lt hb.size, h.few, h.nums⟩
theorem PAt.plt {w : World} {p b : Nat} {toks : List LX.Tok} {s : List PX.T} (h : PAt w p b toks s) : p < w.heap.size := by
 obtain ⟨c, k, hk⟩ := h.blk
 exact blk_lt hk.1
theorem PAt.far {w : World} {p b : Nat} {toks : List LX.Tok} {s : List PX.T} (h : PAt w p b toks s) (a : Addr) (v : Value) (h1 : a.block ≠ p) (h2 : a.block ≠ b) : PAt (w.setCell a v) p b toks s := by
 obtain ⟨c, k, hk⟩ := h.blk
 exact ⟨⟨c, k, (Below.heap_setCell _ _ _ p (Ne.symm h1)).trans hk.1, hk.2⟩, h.row.heap (Below.heap_setCell _ _ _ b (Ne.symm h2)), h.good, h.ne, by simpa [World.setCell] using h.lt, h.few, h.nums⟩
theorem PAt.alloc {w : World} {p b : Nat} {toks : List LX.Tok} {s : List PX.T} (h : PAt w p b toks s) (o : Obj) : PAt (w.alloc o) p b toks s := h.below (below_alloc (Below.refl _ _) o)
theorem PAt.drewN {w : World} {p b : Nat} {toks : List LX.Tok} {s : List PX.T} (h : PAt w p b toks s) (m : Nat) : PAt (w.drewN m) p b toks s := h.below (pw_below_drewN (Below.refl _ _) m)
theorem PAt.step {w : World} {p b k c : Nat} {toks : List LX.Tok} {s : List PX.T} (h : PAt w p b toks s) (hb : w.heap[p]? = some (.cells #[.slice (some ⟨b, 0, none⟩) toks.length c, .int .i64 k] 94 (0, 0))) (hk : (PX.peek s).kind ≠ 5) {i : Int} (hi : i = k + 1) :
  PAt (w.setCell ⟨p, 1, none⟩ (.int .i64 i)) p b toks s.tail := by
 subst hi
 obtain ⟨t, c', k', hb', hc, hlt, hkl, ht, hp, hat, htl⟩ := h.head
 rw [hb] at hb'
 simp only [Option.some.injEq, Obj.cells.injEq, Array.mk.injEq, List.cons.injEq, Value.slice.injEq, Value.int.injEq, true_and, and_true] at hb'
 obtain ⟨rfl, he⟩ := hb'
 have he : k = k' := by omega
 subst he
 have hg := h.good.tail hk
 exact ⟨⟨c, k + 1, blk_set hb 1 _, hc, by omega, htl⟩, h.row.heap (Below.heap_setCell _ _ _ b h.ne), hg.1, h.ne, by simpa [World.setCell] using h.lt, h.few, h.nums⟩

theorem blk_set4 {w : World} {g : Nat} {t : TypeId} {a0 a1 a2 a3 : Value} (h : w.heap[g]? = some (.cells #[a0, a1, a2, a3] t (0, 0))) (v0 v1 v2 v3 : Value) :
  ((((w.setCell ⟨g, 0, none⟩ v0).setCell ⟨g, 1, none⟩ v1).setCell ⟨g, 2, none⟩ v2).setCell ⟨g, 3, none⟩ v3).heap[g]? = some (.cells #[v0, v1, v2, v3] t (0, 0)) :=
 blk_put (blk_put (blk_put (blk_put h 0 v0 rfl) 1 v1 rfl) 2 v2 rfl) 3 v3 rfl
theorem blk_set6 {w : World} {g : Nat} {t : TypeId} {a0 a1 a2 a3 a4 a5 : Value} (h : w.heap[g]? = some (.cells #[a0, a1, a2, a3, a4, a5] t (0, 0))) (v0 v1 v2 v3 v4 v5 : Value) :
  ((((((w.setCell ⟨g, 0, none⟩ v0).setCell ⟨g, 1, none⟩ v1).setCell ⟨g, 2, none⟩ v2).setCell ⟨g, 3, none⟩ v3).setCell ⟨g, 4, none⟩ v4).setCell ⟨g, 5, none⟩ v5).heap[g]? = some (.cells #[v0, v1, v2, v3, v4, v5] t (0, 0)) :=
 blk_put (blk_put (blk_put (blk_put (blk_put (blk_put h 0 v0 rfl) 1 v1 rfl) 2 v2 rfl) 3 v3 rfl) 4 v4 rfl) 5 v5 rfl
theorem blk6 {w : World} {g : Nat} {t : TypeId} {a0 a1 a2 a3 a4 a5 : Value} (h : w.heap[g]? = some (.cells #[a0, a1, a2, a3, a4, a5] t (0, 0))) :
  w.cell? ⟨g, 0, none⟩ = some a0 ∧ w.cell? ⟨g, 1, none⟩ = some a1 ∧ w.cell? ⟨g, 2, none⟩ = some a2 ∧ w.cell? ⟨g, 3, none⟩ = some a3 ∧ w.cell? ⟨g, 4, none⟩ = some a4 ∧ w.cell? ⟨g, 5, none⟩ = some a5 ∧ ∀ j, w.frozen? ⟨g, j, none⟩ = false :=
 ⟨blk_cell h 0, blk_cell h 1, blk_cell h 2, blk_cell h 3, blk_cell h 4, blk_cell h 5, fun j => blk_frozen h j⟩
theorem blk4 {w : World} {g : Nat} {t : TypeId} {a0 a1 a2 a3 : Value} (h : w.heap[g]? = some (.cells #[a0, a1, a2, a3] t (0, 0))) :
  w.cell? ⟨g, 0, none⟩ = some a0 ∧ w.cell? ⟨g, 1, none⟩ = some a1 ∧ w.cell? ⟨g, 2, none⟩ = some a2 ∧ w.cell? ⟨g, 3, none⟩ = some a3 ∧ ∀ j, w.frozen? ⟨g, j, none⟩ = false :=
 ⟨blk_cell h 0, blk_cell h 1, blk_cell h 2, blk_cell h 3, fun j => blk_frozen h j⟩
def TextsAt (w : World) (g : Nat) (l : List PX.B) : Prop := ∀ j x, l[j]? = some x → w.cell? ⟨g, j, none⟩ = some (.string ⟨x.toArray⟩)
theorem TextsAt.below {w w' : World} {g : Nat} {l : List PX.B} (h : TextsAt w g l) (hb : Below w.heap.size w w') (hg : g < w.heap.size) : TextsAt w' g l := fun j x hx => by
 rw [← h j x hx]
 unfold World.cell?
 rw [hb.block g hg]
def Pan (toks : List LX.Tok) (q err : Nat) : Ending := .panicked [{ v := .iface 27 (.agg #[.int .i64 (atOf toks q), .int .i64 err]), recovered := false }]
def RdIs {α : Type} (p b : Nat) (toks : List LX.Tok) (w : World) (r : PX.Res α) (V : World → α → Value → Prop) (e : Ending) (w' : World) : Prop :=
 Only p w w' ∧ match r with
 | .ok x s' => PAt w' p b toks s' ∧ ∃ v, e = .returned v ∧ V w' x v
 | .bad q err => e = Pan toks q err
 | .out => False
theorem RdIs.bad {α : Type} {p b q err : Nat} {toks : List LX.Tok} {w w' : World} {r : PX.Res α} {V : World → α → Value → Prop} (h : PX.Res.bad q err = r) (hO : Only p w w') : RdIs p b toks w r V (Pan toks q err) w' := by
 subst h
 exact ⟨hO, rfl⟩
theorem RdIs.ok {α : Type} {p b : Nat} {toks : List LX.Tok} {w w' : World} {r : PX.Res α} {V : World → α → Value → Prop} {x : α} {s' : List PX.T} {v : Value} (h : PX.Res.ok x s' = r) (hO : Only p w w') (hP : PAt w' p b toks s') (hV : V w' x v) : RdIs p b toks w r V (.returned v) w' := by
 subst h
 exact ⟨hO, hP, v, rfl, hV⟩
theorem Res_in {α β : Type} {r : PX.Res α} {f : α → List PX.T → PX.Res β} {R : PX.Res β} (h : r.bind f = R) (hR : R.isOut = false) : r.isOut = false := PX.Res.isOut_bind (h ▸ hR)

theorem PAt.store' {w : World} {p b g j : Nat} {v : Value} {toks : List LX.Tok} {s : List PX.T} (h1 : g ≠ p) (h2 : g ≠ b) (h : PAt w p b toks s) : PAt (w.setCell ⟨g, j, none⟩ v) p b toks s := h.far ⟨g, j, none⟩ v h1 h2
theorem blk_store' {w : World} {g g' j : Nat} {v : Value} {t : TypeId} {cs : Array Value} (hn : g ≠ g') (h : w.heap[g]? = some (.cells cs t (0, 0))) : (w.setCell ⟨g', j, none⟩ v).heap[g]? = some (.cells cs t (0, 0)) := blk_far h hn v
theorem below_store' {w w' : World} {n g j : Nat} {v : Value} (hg : n ≤ g) (h : Below n w w') : Below n w (w'.setCell ⟨g, j, none⟩ v) := Below.setCell h hg v
end Go.Proofs.YtjafllnbgfcchaaGreatDoor.Px
