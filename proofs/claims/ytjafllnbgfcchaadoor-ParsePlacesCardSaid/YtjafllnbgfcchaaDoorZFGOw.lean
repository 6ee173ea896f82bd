/- Joined of: Ow, XCKx0, ClOn, ClP, Ck, ClL, XCKx1, ClW, ClX, ClN. -/
import Derived.Test.YtjafllnbgfcchaaDoorZFGPEx
import Derived.Test.YtjafllnbgfcchaaDoorZFXKx1
import Derived.Deep.DeepMust
import Derived.Test.YtjafllnbgfcchaaDoorProg
import Derived.Below
import Derived.Deep.Draws
import Derived.Deep.AppendLies
import Derived.Maps.AppendAt
import Derived.OwnWalk
import Derived.Laws.BytesArg
import Derived.Laws.MakeOwn
import Derived.Laws.OwnMore
import Derived.Deep.OwnRows
import Derived.Tactics
import Derived.Lib.ConvBytes
import Derived.Laws.Slices
import Derived.WalkKit
import Derived.KernelRfl
import Derived.RowKit3
import Derived.Deep.LoopGhost
import Derived.Deep.QuietTactic
import Derived.BigQuiet
import Derived.WideLaws
import Derived.Deep.DeepCutAuto
import Derived.Deep.CutBlock
import Derived.Deep.RegionHeld3
import Derived.Laws.Rows
import Derived.Lib.AppendStr
import Derived.ArgAppend
import Derived.Laws.IdiomCopy
import Derived.OrdersHeld
import Derived.Laws.BitsLemmas
import Derived.RowKit
import Derived.Test.YtjafllnbgfcchaaDoorZFWWords
import Derived.Test.YtjafllnbgfcchaaDoorZFWLast
import Derived.Test.YtjafllnbgfcchaaDoorZFGWTab
import Derived.Test.YtjafllnbgfcchaaDoorZFWNEv
import Derived.Test.YtjafllnbgfcchaaDoorZFWMore
import Derived.Test.YtjafllnbgfcchaaDoorZFFnd
import Derived.Deep.RegionHeld2
import Derived.StillTailTactics
section
/- What a function has made for itself: its own blocks, told with what lies in them; all older blocks as they were. -/
namespace Go.Proofs.YtjafllnbgfcchaaDoor.Ow
set_option linter.unusedVariables false
open Go Go.RowKit Go.Proofs.YtjafllnbgfcchaaDoorW.PrintWords Go.Proofs.YtjafllnbgfcchaaDoorW.PrintLast Go.Proofs.YtjafllnbgfcchaaDoorW.PrintMore Go.Proofs.YtjafllnbgfcchaaDoor.Lx Go.Proofs.YtjafllnbgfcchaaDoor.XK Go.Proofs.YtjafllnbgfcchaaDoor.Px
structure Ow (w W : World) (l : List (Nat × Obj)) : Prop where
 bel : Below w.heap.size w W
 loc : ∀ x ∈ l, w.heap.size ≤ x.1 ∧ W.heap[x.1]? = some x.2
section
variable {w W W' : World} {l : List (Nat × Obj)}
theorem Ow.start (w : World) : Ow w w [] := ⟨Below.refl _ _, fun x hx => by simp at hx⟩
theorem Ow.sz (h : Ow w W l) : w.heap.size ≤ W.heap.size := h.bel.size
theorem Ow.below (h : Ow w W l) (hb : Below W.heap.size W W') : Ow w W' l := ⟨h.bel.trans (hb.mono h.sz), fun x hx => ⟨(h.loc x hx).1, blk_below (h.loc x hx).2 hb⟩⟩
theorem Ow.drewN {n : Nat} (h : Ow w W l) : Ow w (W.drewN n) l := h.below (pw_below_drewN (Below.refl _ _) n)
theorem Ow.drew (h : Ow w W l) : Ow w W.drew l := h.below (below_drew (Below.refl _ _))
theorem Ow.newg {q : Obj} {g : Nat} (hg : W.heap.size = g) (h : Ow w W l) : Ow w (W.alloc q) ((g, q) :: l) := by
 subst hg
 exact ⟨(h.below (below_alloc (Below.refl _ _) q)).bel, fun x hx => by
  rcases List.mem_cons.1 hx with rfl | hx
  ·exact ⟨h.sz, blk_new W q⟩
  ·exact (h.below (below_alloc (Below.refl _ _) q)).loc x hx⟩
theorem Ow.new {q : Obj} (h : Ow w W l) : Ow w (W.alloc q) ((W.heap.size, q) :: l) := h.newg rfl
theorem Ow.sub {l' : List (Nat × Obj)} (hs : ∀ x ∈ l', x ∈ l) (h : Ow w W l) : Ow w W l' := ⟨h.bel, fun x hx => h.loc x (hs x hx)⟩
theorem Ow.drop1 {y : Nat × Obj} (h : Ow w W (y :: l)) : Ow w W l := h.sub fun z hz => List.mem_cons_of_mem _ hz
theorem Ow.cons {g : Nat} {q : Obj} (hg : w.heap.size ≤ g) (hb : W.heap[g]? = some q) (h : Ow w W l) : Ow w W ((g, q) :: l) := ⟨h.bel, fun x hx => by
 rcases List.mem_cons.1 hx with rfl | hx
 ·exact ⟨hg, hb⟩
 ·exact h.loc x hx⟩
theorem Ow.put {g j : Nat} {v : Value} {cs : Array Value} {t : TypeId} (h : Ow w W ((g, .cells cs t (0, 0)) :: l)) (hn : ∀ y ∈ l, y.1 ≠ g) : Ow w (W.setCell ⟨g, j, none⟩ v) ((g, .cells (cs.setIfInBounds j v) t (0, 0)) :: l) :=
 ⟨h.bel.setCell (h.loc (g, .cells cs t (0, 0)) List.mem_cons_self).1 v, fun x hx => by
  rcases List.mem_cons.1 hx with rfl | hx
  ·exact ⟨(h.loc (g, .cells cs t (0, 0)) List.mem_cons_self).1, blk_set (h.loc (g, .cells cs t (0, 0)) List.mem_cons_self).2 j v⟩
  ·exact ⟨(h.loc x (List.mem_cons_of_mem _ hx)).1, (Below.heap_setCell W ⟨g, j, none⟩ v x.1 (hn x hx)).trans (h.loc x (List.mem_cons_of_mem _ hx)).2⟩⟩
theorem Ow.l0 {g : Nat} {q : Obj} (h : Ow w W ((g, q) :: l)) : W.heap[g]? = some q := (h.loc (g, q) (by simp)).2
theorem Ow.l1 {g : Nat} {q : Obj} {y : Nat × Obj} (h : Ow w W (y :: (g, q) :: l)) : W.heap[g]? = some q := (h.loc (g, q) (by simp)).2
theorem Ow.l2 {g : Nat} {q : Obj} {y z : Nat × Obj} (h : Ow w W (z :: y :: (g, q) :: l)) : W.heap[g]? = some q := (h.loc (g, q) (by simp)).2
theorem Ow.l3 {g : Nat} {q : Obj} {y z u : Nat × Obj} (h : Ow w W (u :: z :: y :: (g, q) :: l)) : W.heap[g]? = some q := (h.loc (g, q) (by simp)).2
theorem Ow.g0 {g : Nat} {q : Obj} (h : Ow w W ((g, q) :: l)) : w.heap.size ≤ g := (h.loc (g, q) (by simp)).1
end
end Go.Proofs.YtjafllnbgfcchaaDoor.Ow
end
section
-- Written by a program of this session (wip/xprint) out of the translation.
namespace Go.Proofs.YtjafllnbgfcchaaDoor.XCK
open Go.RowKit Go.Proofs.YtjafllnbgfcchaaDoorW.PrintWords Go.Proofs.YtjafllnbgfcchaaDoorW.PrintLast Go.Proofs.YtjafllnbgfcchaaDoorW.PrintMore Go.Proofs.YtjafllnbgfcchaaDoor.XK
attribute [local go_sem] max2_int min2_int max_two min_two max_three min_three max_four min_four   -- for this text's walks alone
set_option linter.unusedVariables false
set_option linter.unusedSimpArgs false

-- the values' own types
/-! #### struct type 64 -/
structure S64 where
 f0 : ByteArray
 f1 : Bool
def z64 : S64 := ⟨(⟨#[]⟩ : ByteArray), false⟩
def k64 : Kd S64 := Kd.iso (Kd.pair Kd.string Kd.bool) (fun x : S64 => (x.f0, x.f1))
theorem k64_open {w : World} {x : S64} {cs : List Value} (h : k64.K w x cs) : cs = [.string x.f0, .bool x.f1] := by
 obtain ⟨_, _, rfl, rfl, rfl⟩ := h
 exact rfl
def rd_T64 (xs : List S64) (i : Int) : S64 := xs.getD i.toNat z64
theorem at_T64 {w : World} {A : Option Addr} {n : Nat} {xs : List S64} (h : Kd.C k64 w A n xs) (i : Int) (h0 : 0 ≤ i) (h1 : i < n) : ∃ ad , A = some ad ∧ w.cell? (ad.add (i.toNat * 2)) = some (.string (rd_T64 xs i).f0) ∧ w.cell? ⟨(ad.add (i.toNat * 2)).block, (ad.add (i.toNat * 2)).off + 1, none⟩ = some (.bool (rd_T64 xs i).f1) := by
 obtain ⟨ad, c, e, _, hK, hc0⟩ := Kd.C_get h z64 i h0 h1
 have hc : ∀ j u, c[j]? = some u → w.cell? (ad.add (i.toNat * 2 + j)) = some u := hc0
 obtain rfl := k64_open hK
 exact ⟨ad, e, hc 0 _ rfl, by rw [← add_field _ _ 1 (by omega)]; exact hc 1 _ rfl⟩

end Go.Proofs.YtjafllnbgfcchaaDoor.XCK
end
section
/- clocks.Clock's On, walked: a guard more, in a row of its own. -/
namespace Go.Proofs.YtjafllnbgfcchaaDoor.Cl
set_option linter.unusedVariables false
set_option linter.unusedSimpArgs false
open Go Go.RowKit Go.Proofs.YtjafllnbgfcchaaDoorW.PrintWords Go.Proofs.YtjafllnbgfcchaaDoorW.PrintLast Go.Proofs.YtjafllnbgfcchaaDoorW.PrintMore Go.Proofs.YtjafllnbgfcchaaDoor.XK Go.Proofs.YtjafllnbgfcchaaDoor.XCK Go.Proofs.YtjafllnbgfcchaaDoor.Ow Go.Proofs.YtjafllnbgfcchaaDoor.Px
attribute [local go_sem ↓] Go.wp_at_zero Go.wp_at_succ
abbrev G := S64
def gC : List G → List Value
 | [] => []
 | g :: r => .string g.f0 :: .bool g.f1 :: gC r
theorem gC_len : ∀ l : List G, (gC l).length = l.length * 2
 | [] => rfl
 | g :: r => by rw [gC, List.length_cons, List.length_cons, gC_len r, List.length_cons]; omega
theorem gC_app : ∀ l m : List G, gC (l ++ m) = gC l ++ gC m
 | [], m => rfl
 | g :: r, m => by rw [List.cons_append, gC, gC, gC_app r m]; rfl
theorem gC_get : ∀ (l : List G) (q : Nat) (u : Value), (gC l)[q]? = some u → ∃ j y i, l[j]? = some y ∧ q = j * 2 + i ∧ ([.string y.f0, .bool y.f1] : List Value)[i]? = some u
 | [], q, u, h => by simp [gC] at h
 | g :: r, 0, u, h => ⟨0, g, 0, rfl, rfl, h⟩
 | g :: r, 1, u, h => ⟨0, g, 1, rfl, rfl, h⟩
 | g :: r, q + 2, u, h => by
  obtain ⟨j, y, i, h1, h2, h3⟩ := gC_get r q u h
  exact ⟨j + 1, y, i, h1, by omega, h3⟩
theorem gM (w : World) (base : Nat) (ok : Nat → Prop) (g : G) : k64.M w base ok g [.string g.f0, .bool g.f1] := ⟨[.string g.f0], [.bool g.f1], rfl, rfl, rfl⟩
theorem gC_reps (w : World) (base : Nat) (ok : Nat → Prop) : ∀ (l ps : List G) (cs : List Value), Reps (k64.M w base ok) 2 ps cs → Reps (k64.M w base ok) 2 (ps ++ l) (cs ++ gC l)
 | [], ps, cs, h => by rw [gC, List.append_nil, List.append_nil]; exact h
 | g :: r, ps, cs, h => by
  have h2 := gC_reps w base ok r (ps ++ [g]) (cs ++ [.string g.f0, .bool g.f1]) (Reps.snoc h (gM w base ok g) rfl)
  rw [List.append_assoc, List.append_assoc] at h2
  exact h2
theorem blk_cells2 {W : World} {g : Nat} {t : TypeId} {a b : Value} (h : W.heap[g]? = some (.cells #[a, b] t (0, 0))) (j : Nat) (u : Value) (hj : ([a, b] : List Value)[j]? = some u) : W.cell? ((⟨g, 0, none⟩ : Addr).add j) = some u := by
 match j, hj with
 | 0, hj => exact (blk_cell h 0).trans hj
 | 1, hj => exact (blk_cell h 1).trans hj
 | j + 2, hj => simp at hj
theorem info_g : (Tryd.prog.info? 64).map (fun i => (i.zero, i.size, i.bytes)) = some (some (.agg #[.string ⟨#[]⟩, .bool false]), 2, 24) := by kernel_rfl
set_option maxHeartbeats 4000000 in
set_option maxRecDepth 100000 in
theorem on_walk (A0 : Option Addr) (c0 : Nat) (l0 : List G) (a1 : ByteArray) (a2 : Bool) (w : World) (hr0 : Kd.C k64 w A0 l0.length l0) (hc0 : l0.length ≤ c0) (hs : l0.length ≤ 1000000) :
  Calls Tryd.prog 26 #[.slice A0 l0.length c0, .string a1, .bool a2] w fun e w' => ∃ v0_ : Value, e = .returned v0_ ∧ Kd.R k64 64 w' w.heap.size (fun _ => True) v0_ (l0 ++ [⟨a1, a2⟩]) ∧ Below w.heap.size w w' := by
 have hread : ∀ b, A0 = some b → ∀ q u, (gC l0)[q]? = some u → w.cell? (b.add q) = some u := by
  intro b hb q u hu
  obtain ⟨j, y, i, h1, h2, h3⟩ := gC_get l0 q u hu
  obtain ⟨ad, had, hcell⟩ := hr0.2.2 (by have := (List.getElem?_eq_some_iff.1 h1).1; omega)
  obtain rfl : ad = b := Option.some.inj (had.symm.trans hb)
  obtain ⟨c, _, hR, hcs⟩ := hcell j y h1
  have hc := k64_open hR
  rw [hc] at hcs
  rw [h2]
  exact hcs i u h3
 have hnone : A0 = none → l0.length = 0 ∧ l0.length = 0 := by
  intro h
  cases l0 with
  | nil => exact ⟨rfl, rfl⟩
  | cons g r =>
   obtain ⟨ad, had, _⟩ := hr0.2.2 (by simp)
   rw [h] at had
   cases had
 have HR := Lib.hid (And.intro hread hnone)
 clear hread hnone hr0
 obtain ⟨i, hi, hz, hsz, hby⟩ : ∃ i, Tryd.prog.info? 64 = some i ∧ i.zero = some (.agg #[.string ⟨#[]⟩, .bool false]) ∧ i.size = 2 ∧ i.bytes = 24 := by
  have h := info_g
  cases hx : Tryd.prog.info? 64 with
  | none => rw [hx] at h; cases h
  | some i =>
   rw [hx] at h
   simp only [Option.map_some, Option.some.injEq, Prod.mk.injEq] at h
   exact ⟨i, rfl, h.1, h.2.1, h.2.2⟩
 have HI := Lib.hid (And.intro hi (And.intro hz (And.intro hsz hby)))
 clear hi hz hsz hby
 have HO := Lib.hid ((Ow.start w).new (q := .cells #[.string a1, .bool a2] 64 (0, 0)))
 go_enter Tryd.func26, Tryd.ntmps26
 go_wp2_with (first | (refine gate_builtin (b := .append) (xs := #[.tmp 12, .tmp 16]) rfl ?_; refine wpList_append_grows _ rfl (.tmp 12) (.tmp 16) 61 rfl 64 i (.agg #[.string ⟨#[]⟩, .bool false]) 2 24 Tryd.underlying61 HI.out.1 HI.out.2.1 HI.out.2.2.1 HI.out.2.2.2 rfl (by decide) A0 l0.length l0.length (gC l0) rfl HR.out.2 (gC_len l0) (fun b hb q u hu => pw_cell_below HO.out.bel (HR.out.1 b hb q u hu)) ⟨w.heap.size, 0, none⟩ 1 1 [.string a1, .bool a2] rfl rfl (fun j u hj => (blk_cells2 HO.out.l0 j u hj)) (by intro u hu; simp at hu; rcases hu with rfl | rfl <;> rfl) (by omega) (by unfold maxLen; omega) (by omega) ?_; intro v' w2 hown hgr))
 go_ret
 have hlen : (l0 ++ [(⟨a1, a2⟩ : G)]).length = l0.length + 1 := by simp
 have hsz := HO.out.sz
 have hown2 := own_weaken hown hsz
 rw [← hlen] at hown2
 have hrep := gC_reps w2 w.heap.size (fun k => True ∧ some k ≠ v'.ownBlock) (l0 ++ [⟨a1, a2⟩]) [] [] (Reps.none _ _)
 rw [List.nil_append, List.nil_append, gC_app] at hrep
 exact ⟨v', rfl, ⟨fun _ _ => trivial, _, hown2, hrep⟩, HO.out.bel.trans (Below.mono ⟨hgr.os, hgr.tape, hgr.output, hgr.size, fun k hk => hgr.block k hk (by simp)⟩ hsz)⟩
end Go.Proofs.YtjafllnbgfcchaaDoor.Cl
end
section
/- The checker of clocks as plain functions over trees: no memory in sight. -/
namespace Go.Proofs.YtjafllnbgfcchaaDoor.Cl
set_option linter.unusedVariables false
set_option linter.unusedSimpArgs false
open Go Go.RowKit Go.Proofs.YtjafllnbgfcchaaDoor.XK
abbrev E := S43
abbrev D := S39
abbrev N := S34
abbrev Q := S45
abbrev F := Int × Int
def bad (is : Bool) (a e : Int) (f : F) : F := if is && f.2 == 0 then (a, e) else f
def find (m : ByteArray) : List D → Option D
 | [] => none
 | d :: r => if Fnd.sameB d.f0 m then some d else find m r
def named (n : N) (m : ByteArray) : Option D := find m (n.f2 ++ n.f3 ++ n.f4)
def namedD (n : N) (m : ByteArray) : D := (named n m).getD z39
def callee (l : List N) (m : ByteArray) : N := (Fnd.findN l m).getD z34
def ofC (n : N) : Nat → ByteArray → List G × Bool
 | 0, m => ([], (namedD n m).f3.data.toList == [])
 | k + 1, m => if (namedD n m).f3.data.toList == [] then ([], true) else ((ofC n k (namedD n m).f3).1 ++ [⟨(namedD n m).f3, (namedD n m).f4⟩], (ofC n k (namedD n m).f3).2)
def ofN (n : N) (m : ByteArray) : List G × Bool := ofC n (n.f2 ++ n.f3 ++ n.f4).length m
def sameG : List G → List G → Bool
 | [], [] => true
 | a :: l, b :: r => Fnd.sameB a.f0 b.f0 && a.f1 == b.f1 && sameG l r
 | _, _ => false
theorem sameG_len : ∀ a b : List G, sameG a b = true → a.length = b.length
 | [], [], _ => rfl
 | a :: l, b :: r, h => by
  rw [sameG, Bool.and_eq_true] at h
  rw [List.length_cons, List.length_cons, sameG_len l r h.2]
 | [], _ :: _, h => by cases h
 | _ :: _, [], h => by cases h
theorem ofC_len (n : N) : ∀ k m, (ofC n k m).1.length ≤ k
 | 0, m => Nat.le_refl _
 | k + 1, m => by
  rw [ofC]
  split
  ·exact Nat.zero_le _
  ·rw [List.length_append]
   exact Nat.succ_le_succ (ofC_len n k _)
abbrev Ex := E → List G → F → Option F
def kidsC (ex : Ex) (on : List G) : List E → F → Option F
 | [], f => some f
 | e :: r, f => (ex e on f).bind fun f1 => kidsC ex on r f1
def insC (ex : Ex) (on : List G) : List D → List E → F → Option F
 | [], _, f => some f
 | d :: r, ks, f => if d.f2.f1 then insC ex on r ks.tail f else match ks with
  | [] => none
  | k :: ks' => (ex k on f).bind fun f1 => insC ex on r ks' f1
def callC (ex : Ex) (l : List N) (e : E) (on : List G) (f : F) : Option F := insC ex on (callee l e.f3).f2 e.f5 f
def exprK (ex : Ex) (l : List N) (n : N) (e : E) (on : List G) (f : F) : Option F :=
 if 1000000 < on.length then none
 else if e.f0 = 3 then some (bad (!sameG (ofN n e.f3).1 on) e.f1 8 f)
 else if e.f0 = 11 then kidsC ex (ofN n e.f3).1 e.f5 (bad (!sameG ((ofN n e.f3).1 ++ [⟨e.f3, e.f4⟩]) on) e.f1 8 f)
 else if e.f0 = 12 then match e.f5 with
  | a :: b :: _ => (ex a (on ++ [⟨e.f3, false⟩]) (bad (!sameG (ofN n e.f3).1 on) e.f1 8 f)).bind fun f1 => ex b (on ++ [⟨e.f3, true⟩]) f1
  | _ => none
 else if e.f0 = 14 then some (bad (decide (0 < on.length)) e.f1 8 f)
 else if e.f0 = 13 then callC ex l e on f
 else kidsC ex on e.f5 f
def expr : Nat → List N → N → Ex
 | 0, _, _ => fun _ _ _ => none
 | k + 1, l, n => exprK (expr k l n) l n
def varsC (n : N) : List D → F → F
 | [], f => f
 | d :: r, f => varsC n r (bad (!(ofN n d.f0).2) d.f1 10 f)
def leftC (n : N) : List S47 → Bool → List G → F → List G × F
 | [], _, on, f => (on, f)
 | x :: r, first, on, f => leftC n r false (if first then (ofN n x.f0).1 else on) (bad (!first && !sameG (ofN n x.f0).1 on) x.f1 8 f)
def eqsC (ex : Ex) (n : N) : List Q → F → Option F
 | [], f => some f
 | q :: r, f => (ex q.f2 (leftC n q.f0 true [] f).1 (leftC n q.f0 true [] f).2).bind fun f1 => eqsC ex n r f1
def node (k : Nat) (l : List N) (n : N) (f : F) : Option F :=
 if 1000000 < n.f2.length + n.f3.length + n.f4.length then none
 else if (varsC n n.f4 f).2 == 0 then eqsC (expr k l n) n n.f5 (varsC n n.f4 f) else some (varsC n n.f4 f)
def nodesC (k : Nat) (l : List N) : List N → F → Option F
 | [], f => some f
 | n :: r, f => (node k l n f).bind fun f1 => nodesC k l r f1
def check (k : Nat) (l : List N) : Option F := nodesC k l l (0, 0)
end Go.Proofs.YtjafllnbgfcchaaDoor.Cl
end
section
/- A checker in memory: one block that its methods change; what it reads is older than it. -/
namespace Go.Proofs.YtjafllnbgfcchaaDoor.Ck
set_option linter.unusedVariables false
open Go Go.RowKit Go.Proofs.YtjafllnbgfcchaaDoorW.PrintWords Go.Proofs.YtjafllnbgfcchaaDoorW.PrintLast Go.Proofs.YtjafllnbgfcchaaDoorW.PrintMore Go.Proofs.YtjafllnbgfcchaaDoor.Lx Go.Proofs.YtjafllnbgfcchaaDoor.XK Go.Proofs.YtjafllnbgfcchaaDoor.Px
structure Ck (c : Nat) (w W : World) (o : Obj) (l : List (Nat × Obj)) : Prop where
 only : Only c w W
 blk : W.heap[c]? = some o
 lc : c < w.heap.size
 loc : ∀ x ∈ l, w.heap.size ≤ x.1 ∧ W.heap[x.1]? = some x.2
section
variable {c : Nat} {w W W' : World} {o o' : Obj} {l : List (Nat × Obj)}
theorem Ck.start (h : w.heap[c]? = some o) : Ck c w w o [] := ⟨Only.refl _ _, h, blk_lt h, fun x hx => by simp at hx⟩
theorem Ck.sz (h : Ck c w W o l) : w.heap.size ≤ W.heap.size := h.only.size
theorem Ck.below (h : Ck c w W o l) (hb : Below W.heap.size W W') : Ck c w W' o l :=
 ⟨h.only.trans (Only.of_below hb), blk_below h.blk hb, h.lc, fun x hx => ⟨(h.loc x hx).1, blk_below (h.loc x hx).2 hb⟩⟩
theorem Ck.alloc {q : Obj} (h : Ck c w W o l) : Ck c w (W.alloc q) o l := h.below (below_alloc (Below.refl _ _) q)
theorem Ck.drewN {n : Nat} (h : Ck c w W o l) : Ck c w (W.drewN n) o l := h.below (pw_below_drewN (Below.refl _ _) n)
theorem Ck.drew (h : Ck c w W o l) : Ck c w W.drew o l := h.below (below_drew (Below.refl _ _))
theorem Ck.new {q : Obj} (h : Ck c w W o l) : Ck c w (W.alloc q) o ((W.heap.size, q) :: l) :=
 ⟨h.alloc.only, h.alloc.blk, h.lc, fun x hx => by
  rcases List.mem_cons.1 hx with rfl | hx
  ·exact ⟨h.sz, blk_new W q⟩
  ·exact h.alloc.loc x hx⟩
theorem Ck.newg {q : Obj} {g : Nat} (hg : W.heap.size = g) (h : Ck c w W o l) : Ck c w (W.alloc q) o ((g, q) :: l) := by
 subst hg
 exact h.new
theorem Ck.store {g j : Nat} {v : Value} (hg : w.heap.size ≤ g) (hn : ∀ x ∈ l, x.1 ≠ g) (h : Ck c w W o l) : Ck c w (W.setCell ⟨g, j, none⟩ v) o l :=
 ⟨h.only.store hg j v, (Below.heap_setCell W ⟨g, j, none⟩ v c (by have := h.lc; show c ≠ g; omega)).trans h.blk, h.lc, fun x hx => ⟨(h.loc x hx).1, (Below.heap_setCell W ⟨g, j, none⟩ v x.1 (hn x hx)).trans (h.loc x hx).2⟩⟩
theorem Ck.call (h : Ck c w W o l) (hO : Only c W W') (hb : W'.heap[c]? = some o') : Ck c w W' o' l :=
 ⟨h.only.trans hO, hb, h.lc, fun x hx => ⟨(h.loc x hx).1, hO.blk (h.loc x hx).2 (by have := (h.loc x hx).1; have := h.lc; omega)⟩⟩
theorem Ck.put {cs : Array Value} {t : TypeId} (h : Ck c w W (.cells cs t (0, 0)) l) (j : Nat) (v : Value) : Ck c w (W.setCell ⟨c, j, none⟩ v) (.cells (cs.setIfInBounds j v) t (0, 0)) l :=
 ⟨⟨h.only.os, h.only.tape, h.only.output, by simpa [World.setCell] using h.only.size, fun i hi hn => (Below.heap_setCell W ⟨c, j, none⟩ v i hn).trans (h.only.keep i hi hn)⟩, blk_set h.blk j v, h.lc, fun x hx => ⟨(h.loc x hx).1, (Below.heap_setCell W ⟨c, j, none⟩ v x.1 (by have := (h.loc x hx).1; have := h.lc; show x.1 ≠ c; omega)).trans (h.loc x hx).2⟩⟩
theorem Ck.sub {l' : List (Nat × Obj)} (hs : ∀ x ∈ l', x ∈ l) (h : Ck c w W o l) : Ck c w W o l' := ⟨h.only, h.blk, h.lc, fun x hx => h.loc x (hs x hx)⟩
theorem Ck.nil (h : Ck c w W o l) : Ck c w W o [] := h.sub (fun x hx => by simp at hx)
theorem Ck.cons {g : Nat} {q : Obj} (hg : w.heap.size ≤ g) (hb : W.heap[g]? = some q) (h : Ck c w W o l) : Ck c w W o ((g, q) :: l) :=
 ⟨h.only, h.blk, h.lc, fun x hx => by
  rcases List.mem_cons.1 hx with rfl | hx
  ·exact ⟨hg, hb⟩
  ·exact h.loc x hx⟩
theorem Ck.l0 {g : Nat} {q : Obj} (h : Ck c w W o ((g, q) :: l)) : W.heap[g]? = some q := (h.loc (g, q) (by simp)).2
theorem Ck.l1 {g : Nat} {q : Obj} {y : Nat × Obj} (h : Ck c w W o (y :: (g, q) :: l)) : W.heap[g]? = some q := (h.loc (g, q) (by simp)).2
theorem Ck.l2 {g : Nat} {q : Obj} {y z : Nat × Obj} (h : Ck c w W o (z :: y :: (g, q) :: l)) : W.heap[g]? = some q := (h.loc (g, q) (by simp)).2
theorem Ck.l3 {g : Nat} {q : Obj} {y z u : Nat × Obj} (h : Ck c w W o (u :: z :: y :: (g, q) :: l)) : W.heap[g]? = some q := (h.loc (g, q) (by simp)).2
theorem Ck.g0 {g : Nat} {q : Obj} (h : Ck c w W o ((g, q) :: l)) : w.heap.size ≤ g := (h.loc (g, q) (by simp)).1
theorem Ck.g1 {g : Nat} {q : Obj} {y : Nat × Obj} (h : Ck c w W o (y :: (g, q) :: l)) : w.heap.size ≤ g := (h.loc (g, q) (by simp)).1
theorem Only.below {n : Nat} (h : Only c w W) (hn : n ≤ c) (hs : n ≤ w.heap.size) : Below n w W := ⟨h.os, h.tape, h.output, h.size, fun i hi => h.keep i (by omega) (by omega)⟩
end
theorem Ck.old {c : Nat} {w0 w W : World} {o : Obj} {l : List (Nat × Obj)} (h : Ck c w W o l) (hb : Below w0.heap.size w0 w) (hc : w0.heap.size ≤ c) : Below w0.heap.size w0 W := hb.trans (Only.below h.only hc hb.size)
end Go.Proofs.YtjafllnbgfcchaaDoor.Ck
end
section
/- The checker of clocks in memory; its smallest methods, walked. -/
namespace Go.Proofs.YtjafllnbgfcchaaDoor.Cl
set_option linter.unusedVariables false
set_option linter.unusedSimpArgs false
open Go Go.RowKit Go.Proofs.YtjafllnbgfcchaaDoorW.PrintWords Go.Proofs.YtjafllnbgfcchaaDoorW.PrintLast Go.Proofs.YtjafllnbgfcchaaDoorW.PrintMore Go.Proofs.YtjafllnbgfcchaaDoor.Lx Go.Proofs.YtjafllnbgfcchaaDoor.XK Go.Proofs.YtjafllnbgfcchaaDoor.XCK Go.Proofs.YtjafllnbgfcchaaDoor.Px Go.Proofs.YtjafllnbgfcchaaDoor.Ck
attribute [local go_sem ↓] Go.wp_at_zero Go.wp_at_succ
structure Ctx where
 w0 : World
 c : Nat
 A : Option Addr
 cap : Nat
 l : List N
 n : N
 A2 : Option Addr
 c2 : Nat
 A3 : Option Addr
 c3 : Nat
 A4 : Option Addr
 c4 : Nat
 A5 : Option Addr
 c5 : Nat
structure Ctx.Ok (x : Ctx) : Prop where
 hc : x.w0.heap.size ≤ x.c
 hl : Kd.C k34 x.w0 x.A x.l.length x.l
 hlc : x.l.length ≤ x.cap
 h2 : Kd.C k39 x.w0 x.A2 x.n.f2.length x.n.f2
 m2 : x.n.f2.length ≤ x.c2
 h3 : Kd.C k39 x.w0 x.A3 x.n.f3.length x.n.f3
 m3 : x.n.f3.length ≤ x.c3
 h4 : Kd.C k39 x.w0 x.A4 x.n.f4.length x.n.f4
 m4 : x.n.f4.length ≤ x.c4
 h5 : Kd.C k45 x.w0 x.A5 x.n.f5.length x.n.f5
 m5 : x.n.f5.length ≤ x.c5
 few : x.n.f2.length + x.n.f3.length + x.n.f4.length ≤ 1000000
abbrev Ctx.obj (x : Ctx) (f : F) : Obj := .cells #[.slice x.A x.l.length x.cap, .string x.n.f0, .int .i64 x.n.f1, .slice x.A2 x.n.f2.length x.c2, .slice x.A3 x.n.f3.length x.c3, .slice x.A4 x.n.f4.length x.c4, .slice x.A5 x.n.f5.length x.c5, .int .i64 f.1, .int .i64 f.2] 118 (0, 0)
structure At (x : Ctx) (w : World) (f : F) : Prop where
 blk : w.heap[x.c]? = some (x.obj f)
 bel : Below x.w0.heap.size x.w0 w
structure Does (x : Ctx) (f : F) (w w' : World) : Prop where
 only : Only x.c w w'
 blk : w'.heap[x.c]? = some (x.obj f)
theorem At.step {x : Ctx} {w w' : World} {f f' : F} (h : At x w f) (hx : x.Ok) (d : Does x f' w w') : At x w' f' := ⟨d.blk, h.bel.trans (Only.below d.only hx.hc h.bel.size)⟩
theorem At.below {x : Ctx} {w w' : World} {f : F} (h : At x w f) (hb : Below w.heap.size w w') : At x w' f := ⟨blk_below h.blk hb, h.bel.trans (hb.mono h.bel.size)⟩
theorem Does.trans {x : Ctx} {w w1 w2 : World} {f f' : F} (h : Does x f w w1) (k : Does x f' w1 w2) : Does x f' w w2 := ⟨h.only.trans k.only, k.blk⟩
theorem Does.below {x : Ctx} {w w1 w2 : World} {f : F} (h : Does x f w w1) (hb : Below w1.heap.size w1 w2) : Does x f w w2 := ⟨h.only.trans (Only.of_below hb), blk_below h.blk hb⟩
theorem Does.refl {x : Ctx} {w : World} {f : F} (h : At x w f) : Does x f w w := ⟨Only.refl _ _, h.blk⟩
theorem At.ck {x : Ctx} {w : World} {f : F} (h : At x w f) : Ck x.c w w (x.obj f) [] := Ck.start h.blk
theorem At.of_ck {x : Ctx} {w W : World} {f f' : F} {l : List (Nat × Obj)} (h : At x w f) (hx : x.Ok) (k : Ck x.c w W (x.obj f') l) : At x W f' := h.step hx ⟨k.only, k.blk⟩
theorem Does.of_ck {x : Ctx} {w W : World} {f : F} {l : List (Nat × Obj)} (k : Ck x.c w W (x.obj f) l) : Does x f w W := ⟨k.only, k.blk⟩
theorem Ck.does {x : Ctx} {w W W' : World} {f f' : F} {l : List (Nat × Obj)} (k : Ck x.c w W (x.obj f) l) (d : Does x f' W W') : Ck x.c w W' (x.obj f') l := k.call d.only d.blk
theorem _root_.Go.Proofs.YtjafllnbgfcchaaDoor.Ck.Ck.two {c : Nat} {w W : World} {o : Obj} {l : List (Nat × Obj)} (h : Ck c w W o l) (p q : Obj) : Ck c w ((W.alloc p).alloc q) o ((W.heap.size + 1, q) :: (W.heap.size, p) :: l) := (h.new (q := p)).newg (g := W.heap.size + 1) (by simp)
theorem blk9 {W : World} {g : Nat} {t : TypeId} {a0 a1 a2 a3 a4 a5 a6 a7 a8 : Value} (h : W.heap[g]? = some (.cells #[a0, a1, a2, a3, a4, a5, a6, a7, a8] t (0, 0))) :
  W.cell? ⟨g, 0, none⟩ = some a0 ∧ W.cell? ⟨g, 1, none⟩ = some a1 ∧ W.cell? ⟨g, 2, none⟩ = some a2 ∧ W.cell? ⟨g, 3, none⟩ = some a3 ∧ W.cell? ⟨g, 4, none⟩ = some a4 ∧ W.cell? ⟨g, 5, none⟩ = some a5 ∧ W.cell? ⟨g, 6, none⟩ = some a6 ∧ W.cell? ⟨g, 7, none⟩ = some a7 ∧ W.cell? ⟨g, 8, none⟩ = some a8 ∧ ∀ j, W.frozen? ⟨g, j, none⟩ = false :=
 ⟨blk_cell h 0, blk_cell h 1, blk_cell h 2, blk_cell h 3, blk_cell h 4, blk_cell h 5, blk_cell h 6, blk_cell h 7, blk_cell h 8, fun j => blk_frozen h j⟩
abbrev exA (e : E) (A : Option Addr) (c : Nat) : Value := .agg #[.int .i64 e.f0, .int .i64 e.f1, .int .i64 e.f2, .string e.f3, .bool e.f4, .slice A e.f5.length c]
structure ExAt (w0 : World) (e : E) (A : Option Addr) (c : Nat) : Prop where
 kids : Kd.C k43 w0 A e.f5.length e.f5
 room : e.f5.length ≤ c
theorem kid_at {w0 : World} {e : E} {A : Option Addr} {c : Nat} (h : ExAt w0 e A c) (i : Nat) (k : E) (hk : e.f5[i]? = some k) : ∃ ad A' c', A = some ad ∧ w0.cell? (ad.add (i * 6)) = some (.int .i64 k.f0) ∧
  w0.cell? ⟨(ad.add (i * 6)).block, (ad.add (i * 6)).off + 1, none⟩ = some (.int .i64 k.f1) ∧ w0.cell? ⟨(ad.add (i * 6)).block, (ad.add (i * 6)).off + 2, none⟩ = some (.int .i64 k.f2) ∧
  w0.cell? ⟨(ad.add (i * 6)).block, (ad.add (i * 6)).off + 3, none⟩ = some (.string k.f3) ∧ w0.cell? ⟨(ad.add (i * 6)).block, (ad.add (i * 6)).off + 4, none⟩ = some (.bool k.f4) ∧
  w0.cell? ⟨(ad.add (i * 6)).block, (ad.add (i * 6)).off + 5, none⟩ = some (.slice A' k.f5.length c') ∧ ExAt w0 k A' c' := by
 have hlt := (List.getElem?_eq_some_iff.1 hk).1
 obtain ⟨ad, A', c', e1, hx0, hx1, hx2, hx3, hx4, hx5, hl, hC⟩ := at_T43 h.kids (i : Int) (by omega) (by omega)
 have hr : rd_T43 e.f5 (i : Int) = k := by
  unfold rd_T43
  simp [hk]
 rw [hr] at hx0 hx1 hx2 hx3 hx4 hx5 hl hC
 simp only [Int.toNat_natCast] at hx0 hx1 hx2 hx3 hx4 hx5
 exact ⟨ad, A', c', e1, hx0, hx1, hx2, hx3, hx4, hx5, hC, hl⟩
set_option maxHeartbeats 4000000 in
theorem bad_walk {x : Ctx} (hx : x.Ok) (is : Bool) (a e : Int) (f : F) (w : World) (h : At x w f) :
  Calls Tryd.prog 89 #[.pointer (some ⟨x.c, 0, none⟩), .bool is, .int .i64 a, .int .i64 e] w fun e' w' => e' = .returned (.tuple #[]) ∧ Does x (bad is a e f) w w' := by
 obtain ⟨r0, r1, r2, r3, r4, r5, r6, r7, r8, rf⟩ := blk9 h.blk
 have H := Lib.hid h
 have rl := blk_lt h.blk
 clear h
 obtain ⟨fa, fe⟩ := f
 go_enter Tryd.func89, Tryd.ntmps89
 cases is with
 | false =>
  go_wp2_with (fail)
  go_end0
  exact ⟨rfl, Does.refl H.out⟩
 | true =>
  by_cases hz : fe = 0
  ·subst hz
   go_wp2_with (fail)
   go_end0
   have h2 : bad true a e (fa, 0) = (a, e) := rfl
   rw [h2]
   exact ⟨rfl, Does.of_ck (x := x) (f := (a, e)) ((H.out.ck.put 7 _).put 8 _)⟩
  ·have h1 : (fe == 0) = false := by simpa using hz
   go_wp2_with (fail)
   go_end0
   have h2 : bad true a e (fa, fe) = (fa, fe) := by unfold bad; rw [if_neg (by simp only [h1]; decide)]
   rw [h2]
   exact ⟨rfl, Does.refl H.out⟩
def dcT (d : D) (b : Bool) : ByteArray × Int × Bool × Bool × ByteArray × Bool × Bool := (d.f0, d.f1, d.f2.f0, d.f2.f1, d.f3, d.f4, b)
theorem rd_drop (L : List D) (i : Nat) (h : i < L.length) : L.drop i = rd_T39 L (i : Int) :: L.drop (i + 1) := by
 rw [List.drop_eq_getElem_cons h]
 unfold rd_T39
 simp [h]
theorem named_l0 (m : ByteArray) (L : List D) (hL : L.length ≤ 1000000) : ∀ q i : Nat, L.length - i = q → i ≤ L.length → tree_Named.l0 (q + 1) m L (L.length : Int) (i : Int) = some (match find m (L.drop i) with
  | some d => dcT d true
  | none => dcT z39 false)
 | 0, i, hq, hi => by
  have e : L.drop i = [] := List.drop_eq_nil_of_le (by omega)
  rw [e, tree_Named.l0, if_neg (by omega)]
  rfl
 | q + 1, i, hq, hi => by
  have hlt : i < L.length := by omega
  have hw : wrap64 ((i : Int) + 1) = ((i + 1 : Nat) : Int) := by unfold wrap64; omega
  rw [tree_Named.l0, if_pos (by omega), if_pos (by omega), if_pos (by omega), rd_drop L i hlt, find]
  by_cases hs : (rd_T39 L (i : Int)).f0.toList = m.toList
  ·rw [if_pos hs, if_pos (by rw [Fnd.sameB, ← Fnd.toList_data, ← Fnd.toList_data, hs]; simp)]
   rfl
  ·rw [if_neg hs, if_neg (by rw [Fnd.sameB, ← Fnd.toList_data, ← Fnd.toList_data]; simpa using hs), hw]
   exact named_l0 m L hL q (i + 1) (by omega) (by omega)
theorem named_f (n : N) (m : ByteArray) (hf : n.f2.length + n.f3.length + n.f4.length ≤ 1000000) : ∃ k, tree_Named.f k n.f0 n.f1 n.f2 n.f3 n.f4 n.f5 m = some (dcT (namedD n m) (named n m).isSome) := by
 refine ⟨(n.f2 ++ n.f3 ++ n.f4).length + 1, ?_⟩
 have hL : (n.f2 ++ n.f3 ++ n.f4).length ≤ 1000000 := by simp only [List.length_append]; omega
 have hA : tree_All.f n.f0 n.f1 n.f2 n.f3 n.f4 n.f5 = some (n.f2 ++ n.f3 ++ n.f4) := by
  unfold tree_All.f
  rw [Option.bind_some, if_pos (by simp only [List.length_nil]; omega), Option.bind_some, if_pos (by simp only [List.length_append, List.length_nil]; omega), Option.bind_some, if_pos (by simp only [List.length_append, List.length_nil]; omega)]
  simp
 have h := named_l0 m _ hL (n.f2 ++ n.f3 ++ n.f4).length 0 (by omega) (by omega)
 rw [tree_Named.f, hA, Option.bind_some]
 refine h.trans ?_
 rw [List.drop_zero]
 unfold namedD named
 cases find m (n.f2 ++ n.f3 ++ n.f4) <;> rfl
theorem named_walk {x : Ctx} (hx : x.Ok) (m : ByteArray) (w : World) (hb : Below x.w0.heap.size x.w0 w) :
  Calls Tryd.prog 93 #[.agg #[.string x.n.f0, .int .i64 x.n.f1, .slice x.A2 x.n.f2.length x.c2, .slice x.A3 x.n.f3.length x.c3, .slice x.A4 x.n.f4.length x.c4, .slice x.A5 x.n.f5.length x.c5], .string m] w fun e w' =>
   e = .returned (.tuple #[.agg #[.string (namedD x.n m).f0, .int .i64 (namedD x.n m).f1, .bool (namedD x.n m).f2.f0, .bool (namedD x.n m).f2.f1, .string (namedD x.n m).f3, .bool (namedD x.n m).f4], .bool (named x.n m).isSome]) ∧ Below w.heap.size w w' := by
 obtain ⟨k, hk⟩ := named_f x.n m hx.few
 exact tree_Named.calls k _ _ _ _ _ _ _ _ _ _ _ _ _ _ m _ _ _ _ _ _ _ w (Kd.C_below hx.h2 hb) hx.m2 (Kd.C_below hx.h3 hb) hx.m3 (Kd.C_below hx.h4 hb) hx.m4 (Kd.C_below hx.h5 hb) hx.m5 hk
abbrev dcO (d : D) : Obj := .cells #[.string d.f0, .int .i64 d.f1, .bool d.f2.f0, .bool d.f2.f1, .string d.f3, .bool d.f4] 39 (0, 0)
theorem drop_at {α : Type} {l : List α} {i : Nat} (h : i < l.length) : ∃ k, l[i]? = some k ∧ l.drop i = k :: l.drop (i + 1) := ⟨l[i], by simp [h], List.drop_eq_getElem_cons h⟩
theorem _root_.Go.Proofs.YtjafllnbgfcchaaDoor.Ck.Ck.drop1 {c : Nat} {w W : World} {o : Obj} {y : Nat × Obj} {l : List (Nat × Obj)} (h : Ck c w W o (y :: l)) : Ck c w W o l := h.sub (fun z hz => List.mem_cons_of_mem _ hz)
theorem _root_.Go.Proofs.YtjafllnbgfcchaaDoor.Ck.Ck.st6 {c g : Nat} {w W : World} {o : Obj} {l : List (Nat × Obj)} (hn : ∀ y ∈ l, y.1 ≠ g) (hg : w.heap.size ≤ g) (h : Ck c w W o l) (v0 v1 v2 v3 v4 v5 : Value) :
  Ck c w ((((((W.setCell ⟨g, 0, none⟩ v0).setCell ⟨g, 1, none⟩ v1).setCell ⟨g, 2, none⟩ v2).setCell ⟨g, 3, none⟩ v3).setCell ⟨g, 4, none⟩ v4).setCell ⟨g, 5, none⟩ v5) o l :=
 Ck.store hg hn (Ck.store hg hn (Ck.store hg hn (Ck.store hg hn (Ck.store hg hn (Ck.store hg hn h)))))
theorem _root_.Go.Proofs.YtjafllnbgfcchaaDoor.Ck.Ck.set6 {c g : Nat} {w W : World} {o : Obj} {l : List (Nat × Obj)} {t : TypeId} {a0 a1 a2 a3 a4 a5 : Value} (h : Ck c w W o ((g, .cells #[a0, a1, a2, a3, a4, a5] t (0, 0)) :: l)) (hn : ∀ y ∈ l, y.1 ≠ g) (v0 v1 v2 v3 v4 v5 : Value) :
  Ck c w ((((((W.setCell ⟨g, 0, none⟩ v0).setCell ⟨g, 1, none⟩ v1).setCell ⟨g, 2, none⟩ v2).setCell ⟨g, 3, none⟩ v3).setCell ⟨g, 4, none⟩ v4).setCell ⟨g, 5, none⟩ v5) o ((g, .cells #[v0, v1, v2, v3, v4, v5] t (0, 0)) :: l) :=
 Ck.cons h.g0 (blk_set6 h.l0 v0 v1 v2 v3 v4 v5) (Ck.st6 hn h.g0 h.drop1 v0 v1 v2 v3 v4 v5)
structure NdAt (w0 : World) (m : N) (B2 : Option Addr) (b2 : Nat) (B3 : Option Addr) (b3 : Nat) (B4 : Option Addr) (b4 : Nat) (B5 : Option Addr) (b5 : Nat) : Prop where
 h2 : Kd.C k39 w0 B2 m.f2.length m.f2
 m2 : m.f2.length ≤ b2
 h3 : Kd.C k39 w0 B3 m.f3.length m.f3
 m3 : m.f3.length ≤ b3
 h4 : Kd.C k39 w0 B4 m.f4.length m.f4
 m4 : m.f4.length ≤ b4
 h5 : Kd.C k45 w0 B5 m.f5.length m.f5
 m5 : m.f5.length ≤ b5
abbrev ndO (m : N) (B2 : Option Addr) (b2 : Nat) (B3 : Option Addr) (b3 : Nat) (B4 : Option Addr) (b4 : Nat) (B5 : Option Addr) (b5 : Nat) : Obj := .cells #[.string m.f0, .int .i64 m.f1, .slice B2 m.f2.length b2, .slice B3 m.f3.length b3, .slice B4 m.f4.length b4, .slice B5 m.f5.length b5] 34 (0, 0)
theorem callee_walk {x : Ctx} (hx : x.Ok) (nm : ByteArray) (w : World) (hb : Below x.w0.heap.size x.w0 w) :
  Calls Tryd.prog 86 #[.slice x.A x.l.length x.cap, .string nm] w fun e w' => ∃ B2 b2 B3 b3 B4 b4 B5 b5, e = .returned (.tuple #[.agg #[.string (callee x.l nm).f0, .int .i64 (callee x.l nm).f1, .slice B2 (callee x.l nm).f2.length b2, .slice B3 (callee x.l nm).f3.length b3, .slice B4 (callee x.l nm).f4.length b4, .slice B5 (callee x.l nm).f5.length b5], .bool (Fnd.findN x.l nm).isSome]) ∧
   NdAt x.w0 (callee x.l nm) B2 b2 B3 b3 B4 b4 B5 b5 ∧ Below w.heap.size w w' := by
 refine (Fnd.find_walk x.A x.cap x.l nm x.w0 w hb hx.hl hx.hlc).mono ?_
 rintro e w' ⟨hb, hm⟩
 unfold callee
 cases hf : Fnd.findN x.l nm with
 | none =>
  rw [hf] at hm
  exact ⟨none, 0, none, 0, none, 0, none, 0, hm, ⟨Kd.C_nil _ _, Nat.le_refl _, Kd.C_nil _ _, Nat.le_refl _, Kd.C_nil _ _, Nat.le_refl _, Kd.C_nil _ _, Nat.le_refl _⟩, hb⟩
 | some y =>
  rw [hf] at hm
  obtain ⟨cs, hK, he⟩ := hm
  obtain ⟨A2, c2, A3, c3, A4, c4, A5, c5, rfl, l2, g2, l3, g3, l4, g4, l5, g5⟩ := k34_open hK
  exact ⟨A2, c2, A3, c3, A4, c4, A5, c5, he, ⟨g2, l2, g3, l3, g4, l4, g5, l5⟩, hb⟩
theorem dec_at {w0 : World} {A : Option Addr} {l : List D} (h : Kd.C k39 w0 A l.length l) (i : Nat) (d : D) (hk : l[i]? = some d) : ∃ ad, A = some ad ∧ w0.cell? (ad.add (i * 6)) = some (.string d.f0) ∧
  w0.cell? ⟨(ad.add (i * 6)).block, (ad.add (i * 6)).off + 1, none⟩ = some (.int .i64 d.f1) ∧ w0.cell? ⟨(ad.add (i * 6)).block, (ad.add (i * 6)).off + 2, none⟩ = some (.bool d.f2.f0) ∧
  w0.cell? ⟨(ad.add (i * 6)).block, (ad.add (i * 6)).off + 3, none⟩ = some (.bool d.f2.f1) ∧ w0.cell? ⟨(ad.add (i * 6)).block, (ad.add (i * 6)).off + 4, none⟩ = some (.string d.f3) ∧
  w0.cell? ⟨(ad.add (i * 6)).block, (ad.add (i * 6)).off + 5, none⟩ = some (.bool d.f4) := by
 have hlt := (List.getElem?_eq_some_iff.1 hk).1
 obtain ⟨ad, e1, hx0, hx1, hx2, hx3, hx4, hx5⟩ := at_T39 h (i : Int) (by omega) (by omega)
 have hr : rd_T39 l (i : Int) = d := by
  unfold rd_T39
  simp [hk]
 rw [hr] at hx0 hx1 hx2 hx3 hx4 hx5
 simp only [Int.toNat_natCast] at hx0 hx1 hx2 hx3 hx4 hx5
 exact ⟨ad, e1, hx0, hx1, hx2, hx3, hx4, hx5⟩
theorem ms9 {a b : Nat} (h : b < a) : a + 1 - (b + 1) < a + 1 - b := by omega
end Go.Proofs.YtjafllnbgfcchaaDoor.Cl
end
section
-- Written by a program of this session (wip/xprint) out of the translation.
namespace Go.Proofs.YtjafllnbgfcchaaDoor.XCK
open Go.RowKit Go.Proofs.YtjafllnbgfcchaaDoorW.PrintWords Go.Proofs.YtjafllnbgfcchaaDoorW.PrintLast Go.Proofs.YtjafllnbgfcchaaDoorW.PrintMore Go.Proofs.YtjafllnbgfcchaaDoor.XK
attribute [local go_sem] max2_int min2_int max_two min_two max_three min_three max_four min_four   -- for this text's walks alone
set_option linter.unusedVariables false
set_option linter.unusedSimpArgs false

theorem eqA64 (d : Nat) (w : World) (x0 y0 : ByteArray) (x1 y1 : Bool) :
  (Op.equalIn (d + 2) 64 (.agg #[.string x0, .bool x1]) (.agg #[.string y0, .bool y1])).run Tryd.prog w = .ok (x0.toList == y0.toList && (x1 == y1)) w := by
 refine eqA_of Tryd.underlying64 (by kernel_rfl) ?_
 refine eqf_cons (by rfl) (by go_simp; rfl) (by go_simp; rfl) (by go_simp) ?_
 exact eqf_last (by rfl) (by go_simp; rfl) (by go_simp; rfl) (by go_simp)
end Go.Proofs.YtjafllnbgfcchaaDoor.XCK
end
section
/- The clock of a name, and are two clocks the same: walked. -/
namespace Go.Proofs.YtjafllnbgfcchaaDoor.Cl
set_option linter.unusedVariables false
set_option linter.unusedSimpArgs false
open Go Go.RowKit Go.Proofs.YtjafllnbgfcchaaDoorW.PrintWords Go.Proofs.YtjafllnbgfcchaaDoorW.PrintLast Go.Proofs.YtjafllnbgfcchaaDoorW.PrintMore Go.Proofs.YtjafllnbgfcchaaDoor.Lx Go.Proofs.YtjafllnbgfcchaaDoor.XK Go.Proofs.YtjafllnbgfcchaaDoor.XCK Go.Proofs.YtjafllnbgfcchaaDoor.Px Go.Proofs.YtjafllnbgfcchaaDoor.Ck Go.Proofs.YtjafllnbgfcchaaDoor.Ow
attribute [local go_sem ↓] Go.wp_at_zero Go.wp_at_succ
attribute [local go_sem high] eqA64
structure ClV (n : Nat) (w : World) (A : Option Addr) (c : Nat) (l : List G) : Prop where
 row : Kd.C k64 w A l.length l
 room : l.length ≤ c
 own : ∀ ad, A = some ad → n ≤ ad.block
theorem ClV.nil (n : Nat) (w : World) : ClV n w none 0 [] := ⟨Kd.C_nil _ _, Nat.le_refl _, fun ad h => by cases h⟩
theorem ClV.below {n : Nat} {w w' : World} {A : Option Addr} {c : Nat} {l : List G} (h : ClV n w A c l) (hb : Below w.heap.size w w') : ClV n w' A c l := ⟨Kd.C_below h.row hb, h.room, h.own⟩
theorem ClV.le {n m : Nat} {w : World} {A : Option Addr} {c : Nat} {l : List G} (h : ClV n w A c l) (hm : m ≤ n) : ClV m w A c l := ⟨h.row, h.room, fun ad ha => Nat.le_trans hm (h.own ad ha)⟩
theorem ClV.only {n p : Nat} {w w' : World} {A : Option Addr} {c : Nat} {l : List G} (h : ClV n w A c l) (hn : p < n) (hO : Only p w w') : ClV n w' A c l := by
 refine ⟨⟨h.row.1, h.row.2.1, fun hp => ?_⟩, h.room, h.own⟩
 obtain ⟨ad, ha, hcell⟩ := h.row.2.2 hp
 refine ⟨ad, ha, fun j p hj => ?_⟩
 obtain ⟨cs, hl, hK, hcs⟩ := hcell j p hj
 obtain rfl := k64_open hK
 refine ⟨_, hl, k64.K_of_M (gM w' 0 (fun _ => True) p), fun i u hu => ?_⟩
 have h1 := hcs i u hu
 have hb : (ad.add (j * k64.sz + i)).block = ad.block := by unfold Addr.add; split <;> rfl
 refine (World.cell?_of_block (w := w) (hO.keep _ (World.block_lt_of_cell? _ _ h1) ?_)).trans h1
 rw [hb]
 have := h.own ad ha
 omega
theorem onv_walk {n : Nat} (A0 : Option Addr) (c0 : Nat) (l0 : List G) (a1 : ByteArray) (a2 : Bool) (w : World) (h : ClV n w A0 c0 l0) (hs : l0.length ≤ 1000000) :
  Calls Tryd.prog 26 #[.slice A0 l0.length c0, .string a1, .bool a2] w fun e w' => ∃ A c, e = .returned (.slice A (l0 ++ [(⟨a1, a2⟩ : G)]).length c) ∧ ClV w.heap.size w' A c (l0 ++ [⟨a1, a2⟩]) ∧ Below w.heap.size w w' := by
 refine (on_walk A0 c0 l0 a1 a2 w h.row h.room hs).mono ?_
 rintro e w3 ⟨v, rfl, hR, hb⟩
 obtain ⟨A', c', rfl, hl, hC⟩ := Kd.R_reads hR
 refine ⟨A', c', rfl, ⟨hC, hl, fun ad ha => ?_⟩, hb⟩
 subst ha
 obtain ⟨inner, ho⟩ := Kd.R_own hR
 exact own_base ho ad.block rfl
abbrev ndA (n : N) (B2 : Option Addr) (b2 : Nat) (B3 : Option Addr) (b3 : Nat) (B4 : Option Addr) (b4 : Nat) (B5 : Option Addr) (b5 : Nat) : Value := .agg #[.string n.f0, .int .i64 n.f1, .slice B2 n.f2.length b2, .slice B3 n.f3.length b3, .slice B4 n.f4.length b4, .slice B5 n.f5.length b5]
abbrev Ctx.nd (x : Ctx) : Value := ndA x.n x.A2 x.c2 x.A3 x.c3 x.A4 x.c4 x.A5 x.c5
abbrev Ctx.ndo (x : Ctx) : Obj := ndO x.n x.A2 x.c2 x.A3 x.c3 x.A4 x.c4 x.A5 x.c5
theorem onq_walk {n : Nat} (A0 : Option Addr) (c0 : Nat) (l0 : List G) (a1 : ByteArray) (a2 : Bool) (q : List G) (w : World) (h : ClV n w A0 c0 l0) (hs : l0.length ≤ 1000000) (hq : l0 ++ [(⟨a1, a2⟩ : G)] = q) :
  Calls Tryd.prog 26 #[.slice A0 l0.length c0, .string a1, .bool a2] w fun e w' => ∃ A c, e = .returned (.slice A q.length c) ∧ ClV w.heap.size w' A c q ∧ Below w.heap.size w w' := by
 subst hq
 exact onv_walk A0 c0 l0 a1 a2 w h hs
theorem guard_at {w : World} {A : Option Addr} {l : List G} (h : Kd.C k64 w A l.length l) (i : Nat) (d : G) (hk : l[i]? = some d) : ∃ ad, A = some ad ∧ w.cell? (ad.add (i * 2)) = some (.string d.f0) ∧
  w.cell? ⟨(ad.add (i * 2)).block, (ad.add (i * 2)).off + 1, none⟩ = some (.bool d.f1) := by
 have hlt := (List.getElem?_eq_some_iff.1 hk).1
 obtain ⟨ad, e1, hx0, hx1⟩ := at_T64 h (i : Int) (by omega) (by omega)
 have hr : rd_T64 l (i : Int) = d := by
  unfold rd_T64
  simp [hk]
 rw [hr] at hx0 hx1
 simp only [Int.toNat_natCast] at hx0 hx1
 exact ⟨ad, e1, hx0, hx1⟩
set_option maxHeartbeats 4000000 in
set_option maxRecDepth 100000 in
theorem of_walk {x : Ctx} (hx : x.Ok) : ∀ (k : Nat) (m : ByteArray) (w : World), k ≤ 1000000 → Below x.w0.heap.size x.w0 w →
  Calls Tryd.prog 109 #[x.nd, .string m, .int .i64 (k : Int)] w fun e w' => ∃ A c, e = .returned (.tuple #[.slice A (ofC x.n k m).1.length c, .bool (ofC x.n k m).2]) ∧ ClV w.heap.size w' A c (ofC x.n k m).1 ∧ Below w.heap.size w w' := by
 intro k
 induction k with
 | zero =>
  intro m w hk hb0
  have H := Lib.hid hb0
  obtain ⟨d, hd⟩ : ∃ d, namedD x.n m = d := ⟨_, rfl⟩
  obtain ⟨B, hB⟩ : ∃ B, (named x.n m).isSome = B := ⟨_, rfl⟩
  have HD := Lib.hid (And.intro hd hB)
  obtain ⟨r, hr⟩ : ∃ r, ofC x.n 0 m = r := ⟨_, rfl⟩
  have hf : (([] : List G), d.f3.data.toList == []) = r := by rw [← hr, ofC, hd]
  rw [hr]
  have HF := Lib.hid hf
  have HO := Lib.hid ((Ow.start w).new (q := x.ndo))
  clear hb0 hd hB hf hr
  go_enter Tryd.func109, Tryd.ntmps109
  go_wp2_with (fail)
  refine (named_walk hx m _ (H.out.trans (HO.out.bel.mono H.out.size))).mono ?_
  rintro e w1 ⟨rfl, hb⟩
  rw [HD.out.1, HD.out.2]
  have HS := Lib.hid ((HO.out.below hb).new (q := dcO d))
  clear hb HD
  obtain ⟨d0, d1, ⟨d2, d3⟩, d4, d5⟩ := d
  by_cases hz : d4.toList = []
  ·have hy : (d4.data.toList == []) = true := by rw [← Fnd.toList_data, hz]; rfl
   obtain rfl : (([] : List G), true) = r := by
    have h9 := HF.out
    dsimp only at h9
    rw [hy] at h9
    exact h9
   go_wp2_with (fail)
   go_ret2
   exact ⟨none, 0, rfl, ClV.nil _ _, HS.out.bel⟩
  ·have hy : (d4.data.toList == []) = false := by rw [← Fnd.toList_data]; exact beq_eq_false_iff_ne.2 hz
   have z1 : (d4.toList == []) = false := beq_eq_false_iff_ne.2 hz
   have z2 : d4.toList.isEmpty = false := by cases h9 : d4.toList with
    | nil => exact absurd h9 hz
    | cons _ _ => rfl
   have z3 : (d4.toList = []) = False := eq_false hz
   obtain rfl : (([] : List G), false) = r := by
    have h9 := HF.out
    dsimp only at h9
    rw [hy] at h9
    exact h9
   go_wp2_with (fail)
   go_ret2
   exact ⟨none, 0, rfl, ClV.nil _ _, HS.out.bel⟩
 | succ k ih =>
  intro m w hk hb0
  have H := Lib.hid hb0
  have IH := Lib.hid ih
  obtain ⟨d, hd⟩ : ∃ d, namedD x.n m = d := ⟨_, rfl⟩
  obtain ⟨B, hB⟩ : ∃ B, (named x.n m).isSome = B := ⟨_, rfl⟩
  have HD := Lib.hid (And.intro hd hB)
  obtain ⟨r, hr⟩ : ∃ r, ofC x.n (k + 1) m = r := ⟨_, rfl⟩
  have hf : (if d.f3.data.toList == [] then (([] : List G), true) else ((ofC x.n k d.f3).1 ++ [⟨d.f3, d.f4⟩], (ofC x.n k d.f3).2)) = r := by rw [← hr, ofC, hd]
  rw [hr]
  have HF := Lib.hid hf
  have HO := Lib.hid ((Ow.start w).new (q := x.ndo))
  clear hb0 hd hB hf hr ih
  have k0 : (((k + 1 : Nat) : Int) == 0) = false := by rw [beq_eq_false_iff_ne]; omega
  have k1 : wrap64 (((k + 1 : Nat) : Int) - 1) = (k : Int) := by unfold wrap64; omega
  have k3 : (k : Int) = ((k + 1 : Nat) : Int) - 1 := by omega
  generalize hK : ((k + 1 : Nat) : Int) = K at k0 k1 k3 ⊢
  have K3 := Lib.hid k3
  clear k3
  have k2 : (K = 0) = False := eq_false (by simpa using k0)
  go_enter Tryd.func109, Tryd.ntmps109
  go_wp2_with (fail)
  refine (named_walk hx m _ (H.out.trans (HO.out.bel.mono H.out.size))).mono ?_
  rintro e w1 ⟨rfl, hb⟩
  rw [HD.out.1, HD.out.2]
  have HS := Lib.hid ((HO.out.below hb).new (q := dcO d))
  clear hb HD
  obtain ⟨d0, d1, ⟨d2, d3⟩, d4, d5⟩ := d
  by_cases hz : d4.toList = []
  ·have hy : (d4.data.toList == []) = true := by rw [← Fnd.toList_data, hz]; rfl
   obtain rfl : (([] : List G), true) = r := by
    have h9 := HF.out
    rw [if_pos hy] at h9
    exact h9
   go_wp2_with (fail)
   go_ret2
   exact ⟨none, 0, rfl, ClV.nil _ _, HS.out.bel⟩
  ·have hy : ¬ (d4.data.toList == []) = true := by rw [← Fnd.toList_data]; simpa using hz
   have hr9 := HF.out
   rw [if_neg hy] at hr9
   clear HF
   obtain ⟨p, hp⟩ : ∃ p, ofC x.n k d4 = p := ⟨_, rfl⟩
   dsimp only at hr9
   rw [hp] at hr9
   subst hr9
   have hlen : p.1.length ≤ 1000000 := by rw [← hp]; exact Nat.le_trans (ofC_len _ _ _) (by omega)
   have HP := Lib.hid hp
   have HN := Lib.hid hlen
   clear hp hlen
   have z1 : (d4.toList == []) = false := beq_eq_false_iff_ne.2 hz
   have z2 : d4.toList.isEmpty = false := by cases h9 : d4.toList with
    | nil => exact absurd h9 hz
    | cons _ _ => rfl
   have z3 : (d4.toList = []) = False := eq_false hz
   obtain ⟨s0, s1, s2, s3, s4, s5, sf⟩ := blk6 HS.out.l0
   obtain ⟨t0, t1, t2, t3, t4, t5, tf⟩ := blk6 HS.out.l1
   generalize hW : w1.alloc _ = W at HS s0 s1 s2 s3 s4 s5 sf t0 t1 t2 t3 t4 t5 tf ⊢
   generalize hg : w1.heap.size = g at HS s0 s1 s2 s3 s4 s5 sf ⊢
   go_wp2_with (fail)
   have h9 := IH.out d4 W (by omega) (H.out.trans (HS.out.bel.mono H.out.size))
   rw [HP.out, K3.out] at h9
   with_reducible refine h9.mono ?_
   rintro e w2 ⟨A, c, rfl, hV, hb⟩
   clear h9
   have HS2 := Lib.hid (HS.out.below hb)
   have HV := Lib.hid hV
   clear hb hV s0 s1 s2 s3 s4 s5 sf t0 t1 t2 t3 t4 t5 tf
   obtain ⟨s0, s1, s2, s3, s4, s5, sf⟩ := blk6 HS2.out.l0
   go_wp2_with (fail)
   refine (onv_walk A c p.1 d4 d5 _ HV.out HN.out).mono ?_
   rintro e w3 ⟨A', c', rfl, hR, hb⟩
   have HR := Lib.hid hR
   have HS3 := Lib.hid (HS2.out.below hb)
   clear hb hR
   go_wp2_with (fail)
   go_ret2
   exact ⟨A', c', rfl, HR.out.le HS2.out.sz, HS3.out.bel⟩
set_option maxHeartbeats 4000000 in
set_option maxRecDepth 100000 in
theorem same_walk (A : Option Addr) (c : Nat) (a : List G) (A2 : Option Addr) (c2 : Nat) (b : List G) {n n2 : Nat} (w : World) (ha : ClV n w A c a) (hb : ClV n2 w A2 c2 b) :
  Calls Tryd.prog 27 #[.slice A a.length c, .slice A2 b.length c2] w fun e w' => e = .returned (.bool (sameG a b)) ∧ Below w.heap.size w w' := by
 obtain ⟨r, hr⟩ : ∃ r, sameG a b = r := ⟨_, rfl⟩
 rw [hr]
 have HA := Lib.hid ha
 have HB := Lib.hid hb
 have HR := Lib.hid hr
 clear ha hb hr
 by_cases hl : a.length = b.length
 ·rw [← hl]
  have HN := Lib.hid hl
  clear hl
  have HL0 := Lib.hid (show sameG (a.drop 0) (b.drop 0) = r from HR.out)
  have HB0 := Lib.hid (Below.refl w.heap.size w)
  go_enter Tryd.func27, Tryd.ntmps27
  go_wp2_with (fail)
  go_loopg [14] (a.length + 1) (fun m9 u wr => ∃ i : Nat, u = .int .i64 (i : Int) ∧ i ≤ a.length ∧ m9 = a.length + 1 - i ∧ Hid (Below w.heap.size w wr) ∧ Hid (sameG (a.drop i) (b.drop i) = r))
  case atStart => exact ⟨0, rfl, by omega, by simp, HB0, HL0⟩
  case round =>
   obtain ⟨i, rfl, hi, rfl, HB1, HL⟩ := hrel
   clear HB0 HL0
   rcases Nat.lt_or_ge i a.length with hlt | hge
   ·obtain ⟨g1, hk1, hd1⟩ := drop_at hlt
    obtain ⟨g2, hk2, hd2⟩ := drop_at (l := b) (by have := HN.out; omega : i < b.length)
    obtain ⟨ad, hA, x0, x1⟩ := guard_at HA.out.row i g1 hk1
    obtain ⟨ad2, hA2, y0, y1⟩ := guard_at HB.out.row i g2 hk2
    subst hA hA2
    replace x0 := pw_cell_below HB1.out x0
    replace x1 := pw_cell_below HB1.out x1
    replace y0 := pw_cell_below HB1.out y0
    replace y1 := pw_cell_below HB1.out y1
    have hL := HL.out
    rw [hd1, hd2, sameG] at hL
    have HL2 := Lib.hid hL
    have xl := World.block_lt_of_cell? _ _ x0
    have xn : ¬ ((ad.add (i * 2)).block = wr.heap.size) := Nat.ne_of_lt xl
    have yl := World.block_lt_of_cell? _ _ y0
    have yn : ¬ ((ad2.add (i * 2)).block = wr.heap.size) := Nat.ne_of_lt yl
    have i2 : ((i : Int) < (a.length : Int)) = True := eq_true (by omega)
    have i3 : decide ((i : Int) < (a.length : Int)) = true := decide_eq_true (by omega)
    have i4 : (0 ≤ (i : Int)) = True := eq_true (by omega)
    have hw9 : wrap64 ((i : Int) + 1) = ((i + 1 : Nat) : Int) := by have h9 := HA.out.row.2.1; unfold maxLen at h9; unfold wrap64; omega
    clear hL HL hk1 hk2 hd1 hd2
    obtain ⟨g10, g11⟩ := g1
    obtain ⟨g20, g21⟩ := g2
    cases hq : (Fnd.sameB g10 g20 && g11 == g21) with
    | false =>
     have q1 : (!Fnd.sameB g10 g20 || !g11 == g21) = true := by rw [← Bool.not_and, hq]; rfl
     have q0 : (!g10.toList == g20.toList || !g11 == g21) = true := by rw [Fnd.toList_data, Fnd.toList_data]; exact q1
     obtain rfl : false = r := by
      have h9 := HL2.out
      rw [hq] at h9
      exact h9
     clear hq HL2
     go_wp2_with (fail)
     go_region
     go_wp2_with (fail)
     go_ret
     exact ⟨rfl, below_drew (below_alloc HB1.out _)⟩
    | true =>
     have q1 : (!Fnd.sameB g10 g20 || !g11 == g21) = false := by rw [← Bool.not_and, hq]; rfl
     have q0 : (!g10.toList == g20.toList || !g11 == g21) = false := by rw [Fnd.toList_data, Fnd.toList_data]; exact q1
     have HL3 : Hid (sameG (a.drop (i + 1)) (b.drop (i + 1)) = r) := Lib.hid (by
      have h9 := HL2.out
      rw [hq] at h9
      exact h9)
     clear hq HL2
     go_wp2_with (fail)
     go_region
     go_wp2_with (fail)
     go_roundg (a.length + 1 - (i + 1))
     case measure => exact ms9 hlt
     case rel => exact ⟨i + 1, (by first | rw [hw9] | rfl), hlt, rfl, Lib.hid (below_drew (below_alloc HB1.out _)), HL3⟩
   ·have hL := HL.out
    rw [List.drop_eq_nil_of_le hge, List.drop_eq_nil_of_le (by have := HN.out; omega)] at hL
    obtain rfl : true = r := hL
    have i2 : ((i : Int) < (a.length : Int)) = False := eq_false (by omega)
    have i3 : decide ((i : Int) < (a.length : Int)) = false := decide_eq_false (by omega)
    clear HL
    go_wp2_with (fail)
    go_ret
    exact ⟨rfl, HB1.out⟩
 ·obtain rfl : false = r := by
   have h9 := HR.out
   cases r with
   | false => rfl
   | true => exact absurd (sameG_len a b h9) hl
  have i0 : ((a.length : Int) == (b.length : Int)) = false := by rw [beq_eq_false_iff_ne]; omega
  have i1 : ((a.length : Int) = (b.length : Int)) = False := eq_false (by omega)
  go_enter Tryd.func27, Tryd.ntmps27
  go_wp2_with (fail)
  go_ret
  exact ⟨rfl, Below.refl _ _⟩
theorem all_walk {x : Ctx} (hx : x.Ok) (w : World) (hb : Below x.w0.heap.size x.w0 w) :
  Calls Tryd.prog 17 #[x.nd] w fun e w' => ∃ A c, e = .returned (.slice A (x.n.f2 ++ x.n.f3 ++ x.n.f4).length c) ∧ Below w.heap.size w w' := by
 have hA : tree_All.f x.n.f0 x.n.f1 x.n.f2 x.n.f3 x.n.f4 x.n.f5 = some (x.n.f2 ++ x.n.f3 ++ x.n.f4) := by
  have := hx.few
  unfold tree_All.f
  rw [Option.bind_some, if_pos (by simp only [List.length_nil]; omega), Option.bind_some, if_pos (by simp only [List.length_append, List.length_nil]; omega), Option.bind_some, if_pos (by simp only [List.length_append, List.length_nil]; omega)]
  simp
 refine (tree_All.calls _ _ _ _ _ _ _ _ _ _ _ _ _ _ _ w (Kd.C_below hx.h2 hb) hx.m2 (Kd.C_below hx.h3 hb) hx.m3 (Kd.C_below hx.h4 hb) hx.m4 (Kd.C_below hx.h5 hb) hx.m5 hA).mono ?_
 rintro e w' ⟨v, rfl, hR, hb⟩
 obtain ⟨A, c, rfl⟩ := Kd.R_slice hR
 exact ⟨A, c, rfl, hb⟩
set_option maxHeartbeats 4000000 in
set_option maxRecDepth 100000 in
theorem off_walk {x : Ctx} (hx : x.Ok) (m : ByteArray) (w : World) (hb0 : Below x.w0.heap.size x.w0 w) :
  Calls Tryd.prog 88 #[x.nd, .string m] w fun e w' => ∃ A c, e = .returned (.tuple #[.slice A (ofN x.n m).1.length c, .bool (ofN x.n m).2]) ∧ ClV w.heap.size w' A c (ofN x.n m).1 ∧ Below w.heap.size w w' := by
 have H := Lib.hid hb0
 have HO := Lib.hid ((Ow.start w).new (q := x.ndo))
 have hk : (x.n.f2 ++ x.n.f3 ++ x.n.f4).length ≤ 1000000 := by have := hx.few; simp only [List.length_append]; omega
 obtain ⟨K, hK⟩ : ∃ K, (x.n.f2 ++ x.n.f3 ++ x.n.f4).length = K := ⟨_, rfl⟩
 have ha := fun (V : World) (hV : Below x.w0.heap.size x.w0 V) => all_walk hx V hV
 rw [hK] at ha hk
 have HA := Lib.hid ha
 obtain ⟨r, hr⟩ : ∃ r, ofN x.n m = r := ⟨_, rfl⟩
 have hr2 : ofC x.n K m = r := by rw [← hr, ← hK]; rfl
 rw [hr]
 have HR := Lib.hid (And.intro hr2 hk)
 clear hb0 hr hk ha hK hr2
 go_enter Tryd.func88, Tryd.ntmps88
 go_wp2_with (fail)
 generalize hW : w.alloc _ = W
 rw [hW] at HO
 clear hW
 have pfS : ∀ {V : World}, Ow w V [(w.heap.size, x.ndo)] → V.cell? ⟨w.heap.size, 0, none⟩ = some (.string x.n.f0) ∧ V.cell? ⟨w.heap.size, 1, none⟩ = some (.int .i64 x.n.f1) ∧ V.cell? ⟨w.heap.size, 2, none⟩ = some (.slice x.A2 x.n.f2.length x.c2) ∧ V.cell? ⟨w.heap.size, 3, none⟩ = some (.slice x.A3 x.n.f3.length x.c3) ∧ V.cell? ⟨w.heap.size, 4, none⟩ = some (.slice x.A4 x.n.f4.length x.c4) ∧ V.cell? ⟨w.heap.size, 5, none⟩ = some (.slice x.A5 x.n.f5.length x.c5) := fun {V} h => ⟨blk_cell h.l0 0, blk_cell h.l0 1, blk_cell h.l0 2, blk_cell h.l0 3, blk_cell h.l0 4, blk_cell h.l0 5⟩
 have hS0 : (W.drew).cell? ⟨w.heap.size, 0, none⟩ = some (.string x.n.f0) ∧ (W.drew).cell? ⟨w.heap.size, 1, none⟩ = some (.int .i64 x.n.f1) ∧ (W.drew).cell? ⟨w.heap.size, 2, none⟩ = some (.slice x.A2 x.n.f2.length x.c2) ∧ (W.drew).cell? ⟨w.heap.size, 3, none⟩ = some (.slice x.A3 x.n.f3.length x.c3) ∧ (W.drew).cell? ⟨w.heap.size, 4, none⟩ = some (.slice x.A4 x.n.f4.length x.c4) ∧ (W.drew).cell? ⟨w.heap.size, 5, none⟩ = some (.slice x.A5 x.n.f5.length x.c5) := pfS HO.out.drew
 go_region_held2 (fun w' => w'.cell? ⟨w.heap.size, 0, none⟩ = some (.string x.n.f0) ∧ w'.cell? ⟨w.heap.size, 1, none⟩ = some (.int .i64 x.n.f1) ∧ w'.cell? ⟨w.heap.size, 2, none⟩ = some (.slice x.A2 x.n.f2.length x.c2) ∧ w'.cell? ⟨w.heap.size, 3, none⟩ = some (.slice x.A3 x.n.f3.length x.c3) ∧ w'.cell? ⟨w.heap.size, 4, none⟩ = some (.slice x.A4 x.n.f4.length x.c4) ∧ w'.cell? ⟨w.heap.size, 5, none⟩ = some (.slice x.A5 x.n.f5.length x.c5)) (first | with_reducible exact hS0 | with_reducible exact hS1) (first | (go_at_call 17; (refine (HA.out _ (H.out.trans (HO.out.drew.bel.mono H.out.size))).mono ?_); go_must (rintro e' w1 ⟨A1, c1, rfl, hb⟩; have HO1 := Lib.hid (Ow.below HO.out.drew hb); have hS1 : w1.cell? ⟨w.heap.size, 0, none⟩ = some (.string x.n.f0) ∧ w1.cell? ⟨w.heap.size, 1, none⟩ = some (.int .i64 x.n.f1) ∧ w1.cell? ⟨w.heap.size, 2, none⟩ = some (.slice x.A2 x.n.f2.length x.c2) ∧ w1.cell? ⟨w.heap.size, 3, none⟩ = some (.slice x.A3 x.n.f3.length x.c3) ∧ w1.cell? ⟨w.heap.size, 4, none⟩ = some (.slice x.A4 x.n.f4.length x.c4) ∧ w1.cell? ⟨w.heap.size, 5, none⟩ = some (.slice x.A5 x.n.f5.length x.c5) := pfS HO1.out; clear hb)) | (go_at_call 109; (refine (of_walk hx K m _ HR.out.2 (H.out.trans (HO1.out.bel.mono H.out.size))).mono ?_); go_must (rintro e' w2 ⟨A2, c2, rfl, hV, hb⟩; have HO2 := Lib.hid (Ow.below HO1.out hb); have HV := Lib.hid hV; have hS1 : w2.cell? ⟨w.heap.size, 0, none⟩ = some (.string x.n.f0) ∧ w2.cell? ⟨w.heap.size, 1, none⟩ = some (.int .i64 x.n.f1) ∧ w2.cell? ⟨w.heap.size, 2, none⟩ = some (.slice x.A2 x.n.f2.length x.c2) ∧ w2.cell? ⟨w.heap.size, 3, none⟩ = some (.slice x.A3 x.n.f3.length x.c3) ∧ w2.cell? ⟨w.heap.size, 4, none⟩ = some (.slice x.A4 x.n.f4.length x.c4) ∧ w2.cell? ⟨w.heap.size, 5, none⟩ = some (.slice x.A5 x.n.f5.length x.c5) := pfS HO2.out; clear hb hV)))
 go_wp2_with (fail)
 go_ret2
 have e := HR.out.1
 rw [← e]
 exact ⟨A2, c2, rfl, HV.out.le HO1.out.sz, HO2.out.bel⟩
set_option maxHeartbeats 4000000 in
set_option maxRecDepth 100000 in
theorem cof_walk {x : Ctx} (hx : x.Ok) (m : ByteArray) (f : F) (w : World) (h : At x w f) :
  Calls Tryd.prog 90 #[.pointer (some ⟨x.c, 0, none⟩), .string m] w fun e w' => ∃ A c, e = .returned (.slice A (ofN x.n m).1.length c) ∧ ClV (x.c + 1) w' A c (ofN x.n m).1 ∧ Below w.heap.size w w' := by
 obtain ⟨r0, r1, r2, r3, r4, r5, r6, r7, r8, rf⟩ := blk9 h.blk
 have H := Lib.hid h
 have rl := blk_lt h.blk
 clear h
 go_enter Tryd.func90, Tryd.ntmps90
 go_wp2_with (fail)
 refine (off_walk hx m _ H.out.bel).mono ?_
 rintro e w1 ⟨A, c, rfl, hV, hb⟩
 have HV := Lib.hid (And.intro hV hb)
 clear hV hb
 go_wp2_with (fail)
 go_ret
 exact ⟨A, c, rfl, HV.out.1.le rl, HV.out.2⟩
end Go.Proofs.YtjafllnbgfcchaaDoor.Cl
end
section
/- The checker of clocks: kids, call, expr, walked. -/
namespace Go.Proofs.YtjafllnbgfcchaaDoor.Cl
set_option linter.unusedVariables false
set_option linter.unusedSimpArgs false
open Go Go.RowKit Go.Proofs.YtjafllnbgfcchaaDoorW.PrintWords Go.Proofs.YtjafllnbgfcchaaDoorW.PrintLast Go.Proofs.YtjafllnbgfcchaaDoorW.PrintMore Go.Proofs.YtjafllnbgfcchaaDoor.Lx Go.Proofs.YtjafllnbgfcchaaDoor.XK Go.Proofs.YtjafllnbgfcchaaDoor.XCK Go.Proofs.YtjafllnbgfcchaaDoor.Px Go.Proofs.YtjafllnbgfcchaaDoor.Ck Go.Proofs.YtjafllnbgfcchaaDoor.Ow
attribute [local go_sem ↓] Go.wp_at_zero Go.wp_at_succ
abbrev exO (e : E) (A : Option Addr) (c : Nat) : Obj := .cells #[.int .i64 e.f0, .int .i64 e.f1, .int .i64 e.f2, .string e.f3, .bool e.f4, .slice A e.f5.length c] 43 (0, 0)
abbrev ExIs (x : Ctx) (ex : Ex) : Prop := ∀ (e : E) (A : Option Addr) (c : Nat) (on : List G) (oA : Option Addr) (oc : Nat) (f r : F) (w : World), ExAt x.w0 e A c → ClV (x.c + 1) w oA oc on → At x w f → ex e on f = some r →
  Calls Tryd.prog 91 #[.pointer (some ⟨x.c, 0, none⟩), exA e A c, .slice oA on.length oc] w fun e' w' => e' = .returned (.tuple #[]) ∧ Does x r w w'
theorem ck_only {x : Ctx} {w W : World} {f : F} {l : List (Nat × Obj)} {A : Option Addr} {c : Nat} {on : List G} (k : Ck x.c w W (x.obj f) l) (h : ClV (x.c + 1) w A c on) : ClV (x.c + 1) W A c on := h.only (Nat.lt_succ_self _) k.only
set_option maxHeartbeats 4000000 in
set_option maxRecDepth 100000 in
theorem kids_walk {x : Ctx} (hx : x.Ok) {ex : Ex} (hex : ExIs x ex) (l : List E) (A : Option Addr) (c : Nat) (on : List G) (oA : Option Addr) (oc : Nat) (f r : F) (w : World) (hl : Kd.C k43 x.w0 A l.length l) (ho : ClV (x.c + 1) w oA oc on) (h : At x w f) (hr : kidsC ex on l f = some r) :
    Calls Tryd.prog 110 #[.pointer (some ⟨x.c, 0, none⟩), .slice oA on.length oc, .slice A l.length c] w fun e' w' => e' = .returned (.tuple #[]) ∧ Does x r w w' := by
  have H := Lib.hid h
  have HE : Hid (ExAt x.w0 ⟨0, 0, 0, ⟨#[]⟩, false, l⟩ A l.length) := Lib.hid ⟨hl, Nat.le_refl _⟩
  have HV := Lib.hid ho
  have HS := Lib.hid H.out.ck
  have HL := Lib.hid (show kidsC ex on (l.drop 0) f = some r from hr)
  clear h hl ho hr
  go_enter Tryd.func110, Tryd.ntmps110
  go_wp2_with (fail)
  go_loopg [10] (l.length + 1) (fun m9 u wr => ∃ (i : Nat) (f' : F), u = .int .i64 (i : Int) ∧ i ≤ l.length ∧ m9 = l.length + 1 - i ∧ Hid (Ck x.c w wr (x.obj f') []) ∧ Hid (kidsC ex on (l.drop i) f' = some r))
  case atStart => exact ⟨0, _, rfl, by omega, by simp, HS, HL⟩
  case round =>
    obtain ⟨i, f', rfl, hi, rfl, HS', HL'⟩ := hrel
    clear HS HL
    have HS := HS'
    have HL := HL'
    clear HS' HL'
    rcases Nat.lt_or_ge i l.length with hlt | hge
    · obtain ⟨k, hk, hd⟩ := drop_at hlt
      obtain ⟨ad, A', c', hA, x0, x1, x2, x3, x4, x5, hE⟩ := kid_at HE.out i k hk
      subst hA
      have hb := (H.out.of_ck hx HS.out).bel
      replace x0 := pw_cell_below hb x0
      replace x1 := pw_cell_below hb x1
      replace x2 := pw_cell_below hb x2
      replace x3 := pw_cell_below hb x3
      replace x4 := pw_cell_below hb x4
      replace x5 := pw_cell_below hb x5
      have xl := World.block_lt_of_cell? _ _ x0
      have xn : ¬ ((ad.add (i * 6)).block = wr.heap.size) := Nat.ne_of_lt xl
      have hL := HL.out
      rw [hd] at hL
      obtain ⟨f4, hw, hL⟩ := Option.bind_eq_some_iff.1 hL
      have HW := Lib.hid (And.intro hw hE)
      have HL2 := Lib.hid hL
      have i0 : ((i : Int) < (l.length : Int)) = True := eq_true (by omega)
      have i1 : decide ((i : Int) < (l.length : Int)) = true := decide_eq_true (by omega)
      have i2 : (0 ≤ (i : Int)) = True := eq_true (by omega)
      clear hw hE hL hd hk hb
      go_wp2_with (fail)
      have HT := Lib.hid (HS.out.new (q := exO k A' c'))
      refine (hex k A' c' on oA oc f' f4 _ HW.out.2 (ck_only HT.out HV.out) (H.out.of_ck hx HT.out) HW.out.1).mono ?_
      rintro e' w9 ⟨rfl, hD⟩
      have HS2 := Lib.hid (Ck.does HT.out hD).drop1
      have hw9 : wrap64 ((i : Int) + 1) = ((i + 1 : Nat) : Int) := by have h9 := HE.out.kids.2.1; unfold maxLen at h9; unfold wrap64; dsimp only at h9; omega
      clear hD
      go_wp2_with (fail)
      go_roundg (l.length + 1 - (i + 1))
      case measure => exact ms9 hlt
      case rel => exact ⟨i + 1, f4, (by first | rfl | rw [hw9]), hlt, rfl, HS2, HL2⟩
    · have hd : l.drop i = [] := List.drop_eq_nil_of_le hge
      have hL := HL.out
      rw [hd] at hL
      obtain rfl : f' = r := Option.some.inj hL
      have i0 : ((i : Int) < (l.length : Int)) = False := eq_false (by omega)
      have i1 : decide ((i : Int) < (l.length : Int)) = false := decide_eq_false (by omega)
      clear hL hd
      go_wp2_with (fail)
      go_end0
      exact ⟨rfl, Does.of_ck HS.out⟩
set_option maxHeartbeats 4000000 in
set_option maxRecDepth 100000 in
theorem call_walk {x : Ctx} (hx : x.Ok) {ex : Ex} (hex : ExIs x ex) (e : E) (A : Option Addr) (c : Nat) (on : List G) (oA : Option Addr) (oc : Nat) (f r : F) (w : World) (he : ExAt x.w0 e A c) (ho : ClV (x.c + 1) w oA oc on) (h : At x w f) (hr : callC ex x.l e on f = some r) :
    Calls Tryd.prog 111 #[.pointer (some ⟨x.c, 0, none⟩), exA e A c, .slice oA on.length oc] w fun e' w' => e' = .returned (.tuple #[]) ∧ Does x r w w' := by
  unfold callC at hr
  obtain ⟨m, hm⟩ : ∃ m, callee x.l e.f3 = m := ⟨_, rfl⟩
  rw [hm] at hr
  have H := Lib.hid h
  have HE := Lib.hid he
  have HR := Lib.hid hr
  have HD := Lib.hid hm
  have HV := Lib.hid ho
  clear h he hr hm ho
  go_enter Tryd.func111, Tryd.ntmps111
  have sl := blk_lt H.out.blk
  go_wp2_with (fail)
  have HS := Lib.hid (H.out.ck.new (q := exO e A c))
  generalize hW : w.alloc _ = W
  rw [hW] at HS
  clear hW
  have pfS : ∀ {V : World}, Ck x.c w V (x.obj f) [(w.heap.size, exO e A c)] → V.cell? ⟨x.c, 0, none⟩ = some (.slice x.A x.l.length x.cap) ∧ V.cell? ⟨w.heap.size, 3, none⟩ = some (.string e.f3) := fun {V} h => ⟨blk_cell h.blk 0, blk_cell h.l0 3⟩
  have hS0 : (W.drew).cell? ⟨x.c, 0, none⟩ = some (.slice x.A x.l.length x.cap) ∧ (W.drew).cell? ⟨w.heap.size, 3, none⟩ = some (.string e.f3) := pfS HS.out.drew
  have hSa : ∀ o, ((W.drew).alloc o).cell? ⟨x.c, 0, none⟩ = some (.slice x.A x.l.length x.cap) ∧ ((W.drew).alloc o).cell? ⟨w.heap.size, 3, none⟩ = some (.string e.f3) := fun o => pfS (Ck.alloc HS.out.drew)
  have hSb : ∀ o, ((W.alloc o).drew).cell? ⟨x.c, 0, none⟩ = some (.slice x.A x.l.length x.cap) ∧ ((W.alloc o).drew).cell? ⟨w.heap.size, 3, none⟩ = some (.string e.f3) := fun o => pfS (Ck.drew (Ck.alloc HS.out))
  have ge9 : w.heap.size ≤ W.heap.size := HS.out.sz
  have nb9 : ∀ y ∈ ([(w.heap.size, exO e A c)] : List (Nat × Obj)), y.1 ≠ W.heap.size := fun y hy => Nat.ne_of_lt (blk_lt (HS.out.loc y hy).2)
  go_cut [6] (fun u wc => ∃ gm B2 b2 B3 b3 B4 b4 B5 b5, u = .pointer (some ⟨gm, 0, none⟩) ∧ Hid (Ck x.c w wc (x.obj f) ((gm, ndO m B2 b2 B3 b3 B4 b4 B5 b5) :: [(w.heap.size, exO e A c)])) ∧ Hid (NdAt x.w0 m B2 b2 B3 b3 B4 b4 B5 b5))
  case first =>
    go_region_held2 (fun w' => w'.cell? ⟨x.c, 0, none⟩ = some (.slice x.A x.l.length x.cap) ∧ w'.cell? ⟨w.heap.size, 3, none⟩ = some (.string e.f3)) (first | with_reducible exact hS0 | with_reducible exact hSa _ | with_reducible exact hSb _ | with_reducible exact hS1 | with_reducible exact hS2 _ | with_reducible exact hS5 _ _ _ _ _ _) (first | (go_at_call 86; (first | ((with_reducible refine (callee_walk hx e.f3 _ (H.out.of_ck hx (HS.out.drew)).bel).mono ?_); go_must (rintro e' w1 ⟨B2, b2, B3, b3, B4, b4, B5, b5, rfl, hN, hb⟩; rw [HD.out] at hN; have HM := Lib.hid hN; clear hN; (try rw [HD.out]); have HSC := Lib.hid (Ck.below (HS.out.drew) hb); have mkX : True := trivial; have hS1 : w1.cell? ⟨x.c, 0, none⟩ = some (.slice x.A x.l.length x.cap) ∧ w1.cell? ⟨w.heap.size, 3, none⟩ = some (.string e.f3) := pfS HSC.out; have hS2 : ∀ o, (w1.alloc o).cell? ⟨x.c, 0, none⟩ = some (.slice x.A x.l.length x.cap) ∧ (w1.alloc o).cell? ⟨w.heap.size, 3, none⟩ = some (.string e.f3) := fun o => pfS (Ck.alloc HSC.out); clear hb)) | ((with_reducible refine (callee_walk hx e.f3 _ (H.out.of_ck hx (Ck.drew (Ck.new (q := Obj.cells #[.string ⟨#[]⟩, .int .i64 0, .slice none 0 0, .slice none 0 0, .slice none 0 0, .slice none 0 0] 34) HS.out))).bel).mono ?_); go_must (rintro e' w1 ⟨B2, b2, B3, b3, B4, b4, B5, b5, rfl, hN, hb⟩; rw [HD.out] at hN; have HM := Lib.hid hN; clear hN; (try rw [HD.out]); have HSC := Lib.hid (Ck.below (HS.out.new.drew) hb); have mkX : True ∧ True := ⟨trivial, trivial⟩; have hS1 : w1.cell? ⟨x.c, 0, none⟩ = some (.slice x.A x.l.length x.cap) ∧ w1.cell? ⟨w.heap.size, 3, none⟩ = some (.string e.f3) := pfS (Ck.drop1 HSC.out); have hS2 : ∀ o, (w1.alloc o).cell? ⟨x.c, 0, none⟩ = some (.slice x.A x.l.length x.cap) ∧ (w1.alloc o).cell? ⟨w.heap.size, 3, none⟩ = some (.string e.f3) := fun o => pfS (Ck.alloc (Ck.drop1 HSC.out)); have hS5 : ∀ v0 v1 v2 v3 v4 v5 : Value, ((((((w1.setCell ⟨W.heap.size, 0, none⟩ v0).setCell ⟨W.heap.size, 1, none⟩ v1).setCell ⟨W.heap.size, 2, none⟩ v2).setCell ⟨W.heap.size, 3, none⟩ v3).setCell ⟨W.heap.size, 4, none⟩ v4).setCell ⟨W.heap.size, 5, none⟩ v5).cell? ⟨x.c, 0, none⟩ = some (.slice x.A x.l.length x.cap) ∧ ((((((w1.setCell ⟨W.heap.size, 0, none⟩ v0).setCell ⟨W.heap.size, 1, none⟩ v1).setCell ⟨W.heap.size, 2, none⟩ v2).setCell ⟨W.heap.size, 3, none⟩ v3).setCell ⟨W.heap.size, 4, none⟩ v4).setCell ⟨W.heap.size, 5, none⟩ v5).cell? ⟨w.heap.size, 3, none⟩ = some (.string e.f3) := fun v0 v1 v2 v3 v4 v5 => pfS (Ck.st6 nb9 ge9 (Ck.drop1 HSC.out) v0 v1 v2 v3 v4 v5); obtain ⟨z0, z1, z2, z3, z4, z5, zf⟩ := blk6 HSC.out.l0; have zl := blk_lt HSC.out.l0; clear hb)) | ((with_reducible refine (callee_walk hx e.f3 _ (H.out.of_ck hx (Ck.newg (g := W.heap.size) (q := Obj.cells #[.string ⟨#[]⟩, .int .i64 0, .slice none 0 0, .slice none 0 0, .slice none 0 0, .slice none 0 0] 34) rfl (Ck.drew HS.out))).bel).mono ?_); go_must (rintro e' w1 ⟨B2, b2, B3, b3, B4, b4, B5, b5, rfl, hN, hb⟩; rw [HD.out] at hN; have HM := Lib.hid hN; clear hN; (try rw [HD.out]); have HSC := Lib.hid (Ck.below (Ck.newg (g := W.heap.size) rfl (Ck.drew HS.out)) hb); have mkX : True ∧ True := ⟨trivial, trivial⟩; have hS1 : w1.cell? ⟨x.c, 0, none⟩ = some (.slice x.A x.l.length x.cap) ∧ w1.cell? ⟨w.heap.size, 3, none⟩ = some (.string e.f3) := pfS (Ck.drop1 HSC.out); have hS2 : ∀ o, (w1.alloc o).cell? ⟨x.c, 0, none⟩ = some (.slice x.A x.l.length x.cap) ∧ (w1.alloc o).cell? ⟨w.heap.size, 3, none⟩ = some (.string e.f3) := fun o => pfS (Ck.alloc (Ck.drop1 HSC.out)); have hS5 : ∀ v0 v1 v2 v3 v4 v5 : Value, ((((((w1.setCell ⟨W.heap.size, 0, none⟩ v0).setCell ⟨W.heap.size, 1, none⟩ v1).setCell ⟨W.heap.size, 2, none⟩ v2).setCell ⟨W.heap.size, 3, none⟩ v3).setCell ⟨W.heap.size, 4, none⟩ v4).setCell ⟨W.heap.size, 5, none⟩ v5).cell? ⟨x.c, 0, none⟩ = some (.slice x.A x.l.length x.cap) ∧ ((((((w1.setCell ⟨W.heap.size, 0, none⟩ v0).setCell ⟨W.heap.size, 1, none⟩ v1).setCell ⟨W.heap.size, 2, none⟩ v2).setCell ⟨W.heap.size, 3, none⟩ v3).setCell ⟨W.heap.size, 4, none⟩ v4).setCell ⟨W.heap.size, 5, none⟩ v5).cell? ⟨w.heap.size, 3, none⟩ = some (.string e.f3) := fun v0 v1 v2 v3 v4 v5 => pfS (Ck.st6 nb9 ge9 (Ck.drop1 HSC.out) v0 v1 v2 v3 v4 v5); obtain ⟨z0, z1, z2, z3, z4, z5, zf⟩ := blk6 HSC.out.l0; have zl := blk_lt HSC.out.l0; clear hb)))))
    all_goals
      go_wp2_with (fail)
      go_meet
      case rel =>
        first
        | (have _tk : True ∧ True := mkX
           refine ⟨W.heap.size, _, _, _, _, _, _, _, _, rfl, Lib.hid ?_, HM⟩
           exact (Ck.set6 HSC.out nb9 _ _ _ _ _ _))
        | (have _tk : True := mkX
           refine ⟨w1.heap.size, _, _, _, _, _, _, _, _, rfl, Lib.hid ?_, HM⟩
           exact (Ck.new HSC.out))
  case rest =>
    obtain ⟨gm, B2, b2, B3, b3, B4, b4, B5, b5, rfl, HS', HM⟩ := hcut
    clear HS hS0 hSa hSb pfS ge9 nb9
    have HS := HS'
    clear HS'
    obtain ⟨m0, m1, m2, m3, m4, m5, mf⟩ := blk6 HS.out.l0
    have ml := blk_lt HS.out.l0
    obtain ⟨e0, e1, e2, e3, e4, e5, ef⟩ := blk6 HS.out.l1
    have el := blk_lt HS.out.l1
    have hR := HR.out
    clear HR
    have HL := Lib.hid (show insC ex on (m.f2.drop 0) (e.f5.drop 0) f = some r from hR)
    clear hR
    go_wp2_with (fail)
    go_loopg [23] (m.f2.length + 1) (fun m9 u wr => ∃ (i : Nat) (f' : F), u = .int .i64 (i : Int) ∧ i ≤ m.f2.length ∧ m9 = m.f2.length + 1 - i ∧ Hid (Ck x.c w wr (x.obj f') [(gm, ndO m B2 b2 B3 b3 B4 b4 B5 b5), (w.heap.size, exO e A c)]) ∧ Hid (insC ex on (m.f2.drop i) (e.f5.drop i) f' = some r))
    case atStart => exact ⟨0, _, rfl, by omega, by simp, HS, HL⟩
    case round =>
      obtain ⟨i, f', rfl, hi, rfl, HS', HL'⟩ := hrel
      clear HS HL
      have HS := HS'
      have HL := HL'
      clear HS' HL'
      obtain ⟨m0, m1, m2, m3, m4, m5, mf⟩ := blk6 HS.out.l0
      have ml := blk_lt HS.out.l0
      obtain ⟨e0, e1, e2, e3, e4, e5, ef⟩ := blk6 HS.out.l1
      have el := blk_lt HS.out.l1
      rcases Nat.lt_or_ge i m.f2.length with hlt | hge
      · have hw9 : wrap64 ((i : Int) + 1) = ((i + 1 : Nat) : Int) := by have h9 := HM.out.h2.2.1; unfold maxLen at h9; unfold wrap64; omega
        obtain ⟨d, hdk, hdd⟩ := drop_at hlt
        have hL := HL.out
        rw [hdd] at hL
        obtain ⟨ad2, hA2, y0, y1, y2, y3, y4, y5⟩ := dec_at HM.out.h2 i d hdk
        subst hA2
        have hb := (H.out.of_ck hx HS.out).bel
        replace y0 := pw_cell_below hb y0
        replace y1 := pw_cell_below hb y1
        replace y2 := pw_cell_below hb y2
        replace y3 := pw_cell_below hb y3
        replace y4 := pw_cell_below hb y4
        replace y5 := pw_cell_below hb y5
        have yl := World.block_lt_of_cell? _ _ y0
        have yn : ¬ ((ad2.add (i * 6)).block = wr.heap.size) := Nat.ne_of_lt yl
        have i0 : ((i : Int) < (m.f2.length : Int)) = True := eq_true (by omega)
        have i1 : decide ((i : Int) < (m.f2.length : Int)) = true := decide_eq_true (by omega)
        have i2 : (0 ≤ (i : Int)) = True := eq_true (by omega)
        obtain ⟨d0, d1, ⟨d2, d3⟩, d4, d5⟩ := d
        cases d3 with
        | true =>
          have hL : insC ex on (m.f2.drop (i + 1)) (e.f5.drop i).tail f' = some r := hL
          rw [List.tail_drop] at hL
          have HL2 := Lib.hid hL
          have HS2 := Lib.hid (HS.out.new (q := dcO ⟨d0, d1, ⟨d2, true⟩, d4, d5⟩)).drop1
          clear hL hb hdk hdd
          go_wp2_with (fail)
          go_roundg (m.f2.length + 1 - (i + 1))
          case measure => exact ms9 hlt
          case rel => exact ⟨i + 1, _, (by first | rfl | rw [hw9]), hlt, rfl, HS2, HL2⟩
        | false =>
          have hL : (match e.f5.drop i with | [] => none | k :: ks' => (ex k on f').bind fun f1 => insC ex on (m.f2.drop (i + 1)) ks' f1) = some r := hL
          have hle : i < e.f5.length := by
            rcases Nat.lt_or_ge i e.f5.length with h9 | h9
            · exact h9
            · rw [List.drop_eq_nil_of_le h9] at hL
              cases hL
          obtain ⟨k, hk, hd⟩ := drop_at hle
          rw [hd] at hL
          obtain ⟨f4, hw, hL⟩ := Option.bind_eq_some_iff.1 hL
          obtain ⟨ad, A', c', hA, x0, x1, x2, x3, x4, x5, hE⟩ := kid_at HE.out i k hk
          subst hA
          replace x0 := pw_cell_below hb x0
          replace x1 := pw_cell_below hb x1
          replace x2 := pw_cell_below hb x2
          replace x3 := pw_cell_below hb x3
          replace x4 := pw_cell_below hb x4
          replace x5 := pw_cell_below hb x5
          have xl := World.block_lt_of_cell? _ _ x0
          have xn : ¬ ((ad.add (i * 6)).block = wr.heap.size) := Nat.ne_of_lt xl
          have HW := Lib.hid (And.intro hw hE)
          have HL2 := Lib.hid hL
          have i3 : ((i : Int) < (e.f5.length : Int)) = True := eq_true (by omega)
          clear hw hE hL hd hk hb hdk hdd
          go_wp2_with (fail)
          have HT := Lib.hid (HS.out.new (q := dcO ⟨d0, d1, ⟨d2, false⟩, d4, d5⟩))
          refine (hex k A' c' on oA oc f' f4 _ HW.out.2 (ck_only HT.out HV.out) (H.out.of_ck hx HT.out) HW.out.1).mono ?_
          rintro e' w9 ⟨rfl, hD⟩
          have HS2 := Lib.hid (Ck.does HT.out hD).drop1
          clear hD
          go_wp2_with (fail)
          go_roundg (m.f2.length + 1 - (i + 1))
          case measure => exact ms9 hlt
          case rel => exact ⟨i + 1, f4, (by first | rfl | rw [hw9]), hlt, rfl, HS2, HL2⟩
      · have hd : m.f2.drop i = [] := List.drop_eq_nil_of_le hge
        have hL := HL.out
        rw [hd] at hL
        obtain rfl : f' = r := Option.some.inj hL
        have i0 : ((i : Int) < (m.f2.length : Int)) = False := eq_false (by omega)
        have i1 : decide ((i : Int) < (m.f2.length : Int)) = false := decide_eq_false (by omega)
        clear hL hd
        go_wp2_with (fail)
        go_end0
        exact ⟨rfl, Does.of_ck HS.out⟩
set_option maxHeartbeats 4000000 in
set_option maxRecDepth 100000 in
theorem expr_k3 {x : Ctx} (hx : x.Ok) {ex : Ex} (hex : ExIs x ex) (e : E) (A : Option Addr) (c : Nat) (on : List G) (oA : Option Addr) (oc : Nat) (f r : F) (w : World) (hk : e.f0 = 3) (he : ExAt x.w0 e A c) (ho : ClV (x.c + 1) w oA oc on) (h : At x w f) (hs : on.length ≤ 1000000) (hr : exprK ex x.l x.n e on f = some r) :
    Calls Tryd.prog 91 #[.pointer (some ⟨x.c, 0, none⟩), exA e A c, .slice oA on.length oc] w fun e' w' => e' = .returned (.tuple #[]) ∧ Does x r w w' := by
  obtain ⟨e0, e1, e2, e3, e4, e5⟩ := e
  obtain rfl : e0 = 3 := hk
  have hr : some (bad (!sameG (ofN x.n e3).1 on) e1 8 f) = some r := by
    have h9 := hr
    unfold exprK at h9
    rw [if_neg (Nat.not_lt.2 hs)] at h9
    dsimp only at h9
    rw [if_pos rfl] at h9
    exact h9
  have H := Lib.hid h
  have HE := Lib.hid he
  have HV := Lib.hid ho
  have HN := Lib.hid hs
  have HR := Lib.hid hr
  clear h he ho hr hs
  obtain rfl := Option.some.inj HR.out
  clear HR
  go_enter Tryd.func91, Tryd.ntmps91
  go_wp2_with (fail)
  have HS := Lib.hid (H.out.ck.new (q := exO ⟨3, e1, e2, e3, e4, e5⟩ A c))
  generalize hW : w.alloc _ = W
  rw [hW] at HS
  clear hW
  obtain ⟨q0, q1, q2, q3, q4, q5, qf⟩ := blk6 HS.out.l0
  have ql := blk_lt HS.out.l0
  go_wp2_with (fail)
  have pfS : ∀ {V : World} {g : F}, Ck x.c w V (x.obj g) [(w.heap.size, exO ⟨3, e1, e2, e3, e4, e5⟩ A c)] → V.cell? ⟨w.heap.size, 1, none⟩ = some (.int .i64 e1) ∧ V.cell? ⟨w.heap.size, 3, none⟩ = some (.string e3) := fun {V g} h => ⟨blk_cell h.l0 1, blk_cell h.l0 3⟩
  have hS0 : (W.drew).cell? ⟨w.heap.size, 1, none⟩ = some (.int .i64 e1) ∧ (W.drew).cell? ⟨w.heap.size, 3, none⟩ = some (.string e3) := pfS HS.out.drew
  go_region_held2 (fun w' => w'.cell? ⟨w.heap.size, 1, none⟩ = some (.int .i64 e1) ∧ w'.cell? ⟨w.heap.size, 3, none⟩ = some (.string e3)) (first | with_reducible exact hS0 | with_reducible exact hS1 | with_reducible exact hS2 | with_reducible exact hS3) (first | (go_at_call 90; (refine (cof_walk hx e3 f _ (H.out.of_ck hx (HS.out.drew))).mono ?_); go_must (rintro e' v1 ⟨A1, c1, rfl, hV, hb⟩; have HT1 := Lib.hid (Ck.below (HS.out.drew) hb); have HV1 := Lib.hid hV; clear hV; have hS1 : v1.cell? ⟨w.heap.size, 1, none⟩ = some (.int .i64 e1) ∧ v1.cell? ⟨w.heap.size, 3, none⟩ = some (.string e3) := pfS HT1.out; clear hb)) | (go_at_call 27; (refine (same_walk A1 c1 ((ofN x.n e3).1) oA oc on _ (HV1.out) (ck_only (HT1.out) HV.out)).mono ?_); go_must (rintro e' v2 ⟨rfl, hb⟩; have HT2 := Lib.hid (Ck.below (HT1.out) hb); have hS2 : v2.cell? ⟨w.heap.size, 1, none⟩ = some (.int .i64 e1) ∧ v2.cell? ⟨w.heap.size, 3, none⟩ = some (.string e3) := pfS HT2.out; clear hb)) | (go_at_call 89; (refine (bad_walk hx (!sameG (ofN x.n e3).1 on) e1 8 f _ (H.out.of_ck hx (HT2.out))).mono ?_); go_must (rintro e' v3 ⟨rfl, hD⟩; have HT3 := Lib.hid (Ck.does (HT2.out) hD); have hS3 : v3.cell? ⟨w.heap.size, 1, none⟩ = some (.int .i64 e1) ∧ v3.cell? ⟨w.heap.size, 3, none⟩ = some (.string e3) := pfS HT3.out; clear hD)))
  go_wp2_with (fail)
  go_end0
  exact ⟨rfl, Does.of_ck HT3.out⟩
set_option maxHeartbeats 4000000 in
set_option maxRecDepth 100000 in
theorem expr_k14 {x : Ctx} (hx : x.Ok) {ex : Ex} (hex : ExIs x ex) (e : E) (A : Option Addr) (c : Nat) (on : List G) (oA : Option Addr) (oc : Nat) (f r : F) (w : World) (hk : e.f0 = 14) (he : ExAt x.w0 e A c) (ho : ClV (x.c + 1) w oA oc on) (h : At x w f) (hs : on.length ≤ 1000000) (hr : exprK ex x.l x.n e on f = some r) :
    Calls Tryd.prog 91 #[.pointer (some ⟨x.c, 0, none⟩), exA e A c, .slice oA on.length oc] w fun e' w' => e' = .returned (.tuple #[]) ∧ Does x r w w' := by
  obtain ⟨e0, e1, e2, e3, e4, e5⟩ := e
  obtain rfl : e0 = 14 := hk
  have hr : some (bad (decide (0 < on.length)) e1 8 f) = some r := by
    have h9 := hr
    unfold exprK at h9
    rw [if_neg (Nat.not_lt.2 hs)] at h9
    dsimp only at h9
    rw [if_neg (by decide : ¬ (14 : Int) = 3)] at h9
    rw [if_neg (by decide : ¬ (14 : Int) = 11)] at h9
    rw [if_neg (by decide : ¬ (14 : Int) = 12)] at h9
    rw [if_pos rfl] at h9
    exact h9
  have H := Lib.hid h
  have HE := Lib.hid he
  have HV := Lib.hid ho
  have HN := Lib.hid hs
  have HR := Lib.hid hr
  clear h he ho hr hs
  obtain rfl := Option.some.inj HR.out
  clear HR
  have d0 : decide ((0 : Int) < (on.length : Int)) = decide (0 < on.length) := decide_eq_decide.2 (by omega)
  go_enter Tryd.func91, Tryd.ntmps91
  go_wp2_with (fail)
  have HS := Lib.hid (H.out.ck.new (q := exO ⟨14, e1, e2, e3, e4, e5⟩ A c))
  generalize hW : w.alloc _ = W
  rw [hW] at HS
  clear hW
  obtain ⟨p0, p1, p2, p3, p4, p5, pf⟩ := blk6 HS.out.l0
  have pl := blk_lt HS.out.l0
  go_wp2_with (fail)
  refine (bad_walk hx (decide (0 < on.length)) e1 8 f _ (H.out.of_ck hx HS.out)).mono ?_
  rintro e' w9 ⟨rfl, hD⟩
  have HT := Lib.hid (Ck.does HS.out hD)
  clear hD
  go_wp2_with (fail)
  go_end0
  exact ⟨rfl, Does.of_ck HT.out⟩
set_option maxHeartbeats 4000000 in
set_option maxRecDepth 100000 in
theorem expr_k13 {x : Ctx} (hx : x.Ok) {ex : Ex} (hex : ExIs x ex) (e : E) (A : Option Addr) (c : Nat) (on : List G) (oA : Option Addr) (oc : Nat) (f r : F) (w : World) (hk : e.f0 = 13) (he : ExAt x.w0 e A c) (ho : ClV (x.c + 1) w oA oc on) (h : At x w f) (hs : on.length ≤ 1000000) (hr : exprK ex x.l x.n e on f = some r) :
    Calls Tryd.prog 91 #[.pointer (some ⟨x.c, 0, none⟩), exA e A c, .slice oA on.length oc] w fun e' w' => e' = .returned (.tuple #[]) ∧ Does x r w w' := by
  obtain ⟨e0, e1, e2, e3, e4, e5⟩ := e
  obtain rfl : e0 = 13 := hk
  have hr : callC ex x.l ⟨13, e1, e2, e3, e4, e5⟩ on f = some r := by
    have h9 := hr
    unfold exprK at h9
    rw [if_neg (Nat.not_lt.2 hs)] at h9
    dsimp only at h9
    rw [if_neg (by decide : ¬ (13 : Int) = 3)] at h9
    rw [if_neg (by decide : ¬ (13 : Int) = 11)] at h9
    rw [if_neg (by decide : ¬ (13 : Int) = 12)] at h9
    rw [if_neg (by decide : ¬ (13 : Int) = 14)] at h9
    rw [if_pos rfl] at h9
    exact h9
  have H := Lib.hid h
  have HE := Lib.hid he
  have HV := Lib.hid ho
  have HN := Lib.hid hs
  have HR := Lib.hid hr
  clear h he ho hr hs
  go_enter Tryd.func91, Tryd.ntmps91
  go_wp2_with (fail)
  have HS := Lib.hid (H.out.ck.new (q := exO ⟨13, e1, e2, e3, e4, e5⟩ A c))
  generalize hW : w.alloc _ = W
  rw [hW] at HS
  clear hW
  obtain ⟨p0, p1, p2, p3, p4, p5, pf⟩ := blk6 HS.out.l0
  have pl := blk_lt HS.out.l0
  go_wp2_with (fail)
  refine (call_walk hx hex ⟨13, e1, e2, e3, e4, e5⟩ A c on oA oc f r _ HE.out (ck_only HS.out HV.out) (H.out.of_ck hx HS.out) HR.out).mono ?_
  rintro e' w9 ⟨rfl, hD⟩
  have HU := Lib.hid (Ck.does HS.out hD)
  clear hD
  go_wp2_with (fail)
  go_end0
  exact ⟨rfl, Does.of_ck HU.out⟩
set_option maxHeartbeats 4000000 in
set_option maxRecDepth 100000 in
theorem expr_kdef {x : Ctx} (hx : x.Ok) {ex : Ex} (hex : ExIs x ex) (e : E) (A : Option Addr) (c : Nat) (on : List G) (oA : Option Addr) (oc : Nat) (f r : F) (w : World) (hk : e.f0 ≠ 3 ∧ e.f0 ≠ 11 ∧ e.f0 ≠ 12 ∧ e.f0 ≠ 14 ∧ e.f0 ≠ 13) (he : ExAt x.w0 e A c) (ho : ClV (x.c + 1) w oA oc on) (h : At x w f) (hs : on.length ≤ 1000000) (hr : exprK ex x.l x.n e on f = some r) :
    Calls Tryd.prog 91 #[.pointer (some ⟨x.c, 0, none⟩), exA e A c, .slice oA on.length oc] w fun e' w' => e' = .returned (.tuple #[]) ∧ Does x r w w' := by
  obtain ⟨n3, n11, n12, n14, n13⟩ := hk
  have hr : kidsC ex on e.f5 f = some r := by
    have h9 := hr
    unfold exprK at h9
    rw [if_neg (Nat.not_lt.2 hs), if_neg n3, if_neg n11, if_neg n12, if_neg n14, if_neg n13] at h9
    exact h9
  have i3 : (e.f0 = 3) = False := eq_false n3
  have j3 : (e.f0 == 3) = false := beq_eq_false_iff_ne.2 n3
  have i11 : (e.f0 = 11) = False := eq_false n11
  have j11 : (e.f0 == 11) = false := beq_eq_false_iff_ne.2 n11
  have i12 : (e.f0 = 12) = False := eq_false n12
  have j12 : (e.f0 == 12) = false := beq_eq_false_iff_ne.2 n12
  have i14 : (e.f0 = 14) = False := eq_false n14
  have j14 : (e.f0 == 14) = false := beq_eq_false_iff_ne.2 n14
  have i13 : (e.f0 = 13) = False := eq_false n13
  have j13 : (e.f0 == 13) = false := beq_eq_false_iff_ne.2 n13
  clear n3 n11 n12 n14 n13
  have H := Lib.hid h
  have HE := Lib.hid he
  have HV := Lib.hid ho
  have HR := Lib.hid hr
  clear h he ho hr hs
  go_enter Tryd.func91, Tryd.ntmps91
  go_wp2_with (fail)
  have HS := Lib.hid (H.out.ck.new (q := exO e A c))
  generalize hW : w.alloc _ = W
  rw [hW] at HS
  clear hW
  obtain ⟨p0, p1, p2, p3, p4, p5, pf⟩ := blk6 HS.out.l0
  have pl := blk_lt HS.out.l0
  go_wp2_with (fail)
  refine (kids_walk hx hex e.f5 A c on oA oc f r _ HE.out.kids (ck_only HS.out HV.out) (H.out.of_ck hx HS.out) HR.out).mono ?_
  rintro e' w9 ⟨rfl, hD⟩
  have HU := Lib.hid (Ck.does HS.out hD)
  clear hD
  go_wp2_with (fail)
  go_end0
  exact ⟨rfl, Does.of_ck HU.out⟩
set_option maxHeartbeats 4000000 in
set_option maxRecDepth 100000 in
theorem expr_k11 {x : Ctx} (hx : x.Ok) {ex : Ex} (hex : ExIs x ex) (e : E) (A : Option Addr) (c : Nat) (on : List G) (oA : Option Addr) (oc : Nat) (f r : F) (w : World) (hk : e.f0 = 11) (he : ExAt x.w0 e A c) (ho : ClV (x.c + 1) w oA oc on) (h : At x w f) (hs : on.length ≤ 1000000) (hr : exprK ex x.l x.n e on f = some r) :
    Calls Tryd.prog 91 #[.pointer (some ⟨x.c, 0, none⟩), exA e A c, .slice oA on.length oc] w fun e' w' => e' = .returned (.tuple #[]) ∧ Does x r w w' := by
  obtain ⟨e0, e1, e2, e3, e4, e5⟩ := e
  obtain rfl : e0 = 11 := hk
  have hr : kidsC ex (ofN x.n e3).1 e5 (bad (!sameG ((ofN x.n e3).1 ++ [⟨e3, e4⟩]) on) e1 8 f) = some r := by
    have h9 := hr
    unfold exprK at h9
    rw [if_neg (Nat.not_lt.2 hs)] at h9
    dsimp only at h9
    rw [if_neg (by decide : ¬ (11 : Int) = 3)] at h9
    rw [if_pos rfl] at h9
    exact h9
  have H := Lib.hid h
  have HE := Lib.hid he
  have HV := Lib.hid ho
  have HN := Lib.hid hs
  have HR := Lib.hid hr
  clear h he ho hr hs
  go_enter Tryd.func91, Tryd.ntmps91
  go_wp2_with (fail)
  have HS := Lib.hid (H.out.ck.new (q := exO ⟨11, e1, e2, e3, e4, e5⟩ A c))
  generalize hW : w.alloc _ = W
  rw [hW] at HS
  clear hW
  obtain ⟨p0, p1, p2, p3, p4, p5, pf⟩ := blk6 HS.out.l0
  have pl := blk_lt HS.out.l0
  go_wp2_with (fail)
  refine (cof_walk hx e3 f _ (H.out.of_ck hx HS.out)).mono ?_
  rintro e' w1 ⟨A1, c1, rfl, hV, hb⟩
  have HS1 := Lib.hid (HS.out.below hb)
  have HV1 := Lib.hid hV
  have HL1 : Hid ((ofN x.n e3).1.length ≤ 1000000) := Lib.hid (Nat.le_trans (ofC_len _ _ _) (by have := hx.few; simp only [List.length_append]; omega))
  clear hb hV HS p0 p1 p2 p3 p4 p5 pf pl
  have HS := HS1
  clear HS1
  obtain ⟨p, hp⟩ : ∃ p, (ofN x.n e3).1 = p := ⟨_, rfl⟩
  have HV2 : Hid (ClV (x.c + 1) w1 A1 c1 p) := Lib.hid (by rw [← hp]; exact HV1.out)
  have HL2 : Hid (p.length ≤ 1000000) := Lib.hid (by rw [← hp]; exact HL1.out)
  have hp2 : (ofN x.n e3).1.length = p.length := congrArg _ hp
  clear HV1 HL1
  obtain ⟨q9, hq9⟩ : ∃ q, p ++ [(⟨e3, e4⟩ : G)] = q := ⟨_, rfl⟩
  have HQ9 := Lib.hid hq9
  have hR := HR.out
  rw [hp, hq9] at hR
  have HR2 := Lib.hid hR
  clear hR HR hp hq9
  simp only [hp2]
  clear hp2
  obtain ⟨p0, p1, p2, p3, p4, p5, pf⟩ := blk6 HS.out.l0
  have pl := blk_lt HS.out.l0
  go_wp2_with (fail)
  have pfS : ∀ {V : World} {g : F}, Ck x.c w V (x.obj g) [(w.heap.size, exO ⟨11, e1, e2, e3, e4, e5⟩ A c)] → V.cell? ⟨w.heap.size, 1, none⟩ = some (.int .i64 e1) ∧ V.cell? ⟨w.heap.size, 3, none⟩ = some (.string e3) ∧ V.cell? ⟨w.heap.size, 4, none⟩ = some (.bool e4) := fun {V g} h => ⟨blk_cell h.l0 1, blk_cell h.l0 3, blk_cell h.l0 4⟩
  have hS0 : (w1.drew).cell? ⟨w.heap.size, 1, none⟩ = some (.int .i64 e1) ∧ (w1.drew).cell? ⟨w.heap.size, 3, none⟩ = some (.string e3) ∧ (w1.drew).cell? ⟨w.heap.size, 4, none⟩ = some (.bool e4) := pfS HS.out.drew
  go_region_held2 (fun w' => w'.cell? ⟨w.heap.size, 1, none⟩ = some (.int .i64 e1) ∧ w'.cell? ⟨w.heap.size, 3, none⟩ = some (.string e3) ∧ w'.cell? ⟨w.heap.size, 4, none⟩ = some (.bool e4)) (first | with_reducible exact hS0 | with_reducible exact hS1 | with_reducible exact hS2 | with_reducible exact hS3) (first | (go_at_call 26; (refine (onq_walk A1 c1 p e3 e4 q9 _ (HV2.out.below (below_drew (Below.refl _ _))) HL2.out HQ9.out).mono ?_); go_must (rintro e' v1 ⟨A2, c2, rfl, hV, hb⟩; have HT1 := Lib.hid (Ck.below (HS.out.drew) hb); have HV3 := Lib.hid hV; have HP1 := Lib.hid ((HV2.out.below (below_drew (Below.refl _ _))).below hb); clear hV; have hS1 : v1.cell? ⟨w.heap.size, 1, none⟩ = some (.int .i64 e1) ∧ v1.cell? ⟨w.heap.size, 3, none⟩ = some (.string e3) ∧ v1.cell? ⟨w.heap.size, 4, none⟩ = some (.bool e4) := pfS HT1.out; clear hb)) | (go_at_call 27; (refine (same_walk A2 c2 (q9) oA oc on _ (HV3.out) (ck_only (HT1.out) HV.out)).mono ?_); go_must (rintro e' v2 ⟨rfl, hb⟩; have HT2 := Lib.hid (Ck.below (HT1.out) hb); have HP2 := Lib.hid (HP1.out.below hb); have hS2 : v2.cell? ⟨w.heap.size, 1, none⟩ = some (.int .i64 e1) ∧ v2.cell? ⟨w.heap.size, 3, none⟩ = some (.string e3) ∧ v2.cell? ⟨w.heap.size, 4, none⟩ = some (.bool e4) := pfS HT2.out; clear hb)) | (go_at_call 89; (refine (bad_walk hx (!sameG q9 on) e1 8 f _ (H.out.of_ck hx (HT2.out))).mono ?_); go_must (rintro e' v3 ⟨rfl, hD⟩; have HT3 := Lib.hid (Ck.does (HT2.out) hD); have HV9 := Lib.hid (HP2.out.only (Nat.lt_succ_self _) hD.only); have hS3 : v3.cell? ⟨w.heap.size, 1, none⟩ = some (.int .i64 e1) ∧ v3.cell? ⟨w.heap.size, 3, none⟩ = some (.string e3) ∧ v3.cell? ⟨w.heap.size, 4, none⟩ = some (.bool e4) := pfS HT3.out; clear hD)))
  obtain ⟨p0, p1, p2, p3, p4, p5, pf⟩ := blk6 HT3.out.l0
  have pl := blk_lt HT3.out.l0
  go_wp2_with (fail)
  refine (kids_walk hx hex e5 A c p A1 c1 (bad (!sameG q9 on) e1 8 f) r _ HE.out.kids (HV9.out) (H.out.of_ck hx HT3.out) HR2.out).mono ?_
  rintro e' w9 ⟨rfl, hD⟩
  have HU := Lib.hid (Ck.does HT3.out hD)
  clear hD
  go_wp2_with (fail)
  go_end0
  exact ⟨rfl, Does.of_ck HU.out⟩
set_option maxHeartbeats 4000000 in
set_option maxRecDepth 100000 in
theorem expr_k12 {x : Ctx} (hx : x.Ok) {ex : Ex} (hex : ExIs x ex) (e : E) (A : Option Addr) (c : Nat) (on : List G) (oA : Option Addr) (oc : Nat) (f r : F) (w : World) (hk : e.f0 = 12) (he : ExAt x.w0 e A c) (ho : ClV (x.c + 1) w oA oc on) (h : At x w f) (hs : on.length ≤ 1000000) (hr : exprK ex x.l x.n e on f = some r) :
    Calls Tryd.prog 91 #[.pointer (some ⟨x.c, 0, none⟩), exA e A c, .slice oA on.length oc] w fun e' w' => e' = .returned (.tuple #[]) ∧ Does x r w w' := by
  obtain ⟨e0, e1, e2, e3, e4, e5⟩ := e
  obtain rfl : e0 = 12 := hk
  have hr : (match (generalizing := false) e5 with | a :: b :: _ => (ex a (on ++ [⟨e3, false⟩]) (bad (!sameG (ofN x.n e3).1 on) e1 8 f)).bind fun f1 => ex b (on ++ [⟨e3, true⟩]) f1 | _ => none) = some r := by
    have h9 := hr
    unfold exprK at h9
    rw [if_neg (Nat.not_lt.2 hs)] at h9
    dsimp only at h9
    rw [if_neg (by decide : ¬ (12 : Int) = 3)] at h9
    rw [if_neg (by decide : ¬ (12 : Int) = 11)] at h9
    rw [if_pos rfl] at h9
    exact h9
  have H := Lib.hid h
  have HE := Lib.hid he
  have HV := Lib.hid ho
  have HN := Lib.hid hs
  have HR := Lib.hid hr
  clear h he ho hr hs
  obtain ⟨a, b, tl, hk, hr⟩ : ∃ a b tl, e5 = a :: b :: tl ∧ ((ex a (on ++ [⟨e3, false⟩]) (bad (!sameG (ofN x.n e3).1 on) e1 8 f)).bind fun f1 => ex b (on ++ [⟨e3, true⟩]) f1) = some r := by
    have h9 := HR.out
    rcases e5 with _ | ⟨a, _ | ⟨b, tl⟩⟩
    · cases h9
    · cases h9
    · exact ⟨a, b, tl, rfl, h9⟩
  obtain ⟨f1, hw, hr⟩ := Option.bind_eq_some_iff.1 hr
  obtain ⟨ad0, B0, b0, hA0, x0, x1, x2, x3, x4, x5, hE0⟩ := kid_at HE.out 0 a (by show e5[0]? = _; rw [hk]; rfl)
  obtain ⟨ad1, B1, b1, hA1, y0, y1, y2, y3, y4, y5, hE1⟩ := kid_at HE.out 1 b (by show e5[1]? = _; rw [hk]; rfl)
  subst hA0
  obtain rfl : ad0 = ad1 := Option.some.inj hA1
  have hlen : 2 ≤ e5.length := by rw [hk]; simp
  have l0 : (0 : Int) < (e5.length : Int) := by omega
  have l1 : (1 : Int) < (e5.length : Int) := by omega
  have l0' : (0 < e5.length) = True := eq_true (by omega)
  have l1' : (1 < e5.length) = True := eq_true (by omega)
  simp only [Nat.reduceMul, Nat.reduceEqDiff, Go.Addr.add, ↓reduceIte] at x0 x1 x2 x3 x4 x5 y0 y1 y2 y3 y4 y5
  have HX : Hid (x.w0.cell? ad0 = some (.int .i64 a.f0) ∧ x.w0.cell? ⟨ad0.block, ad0.off + 1, none⟩ = some (.int .i64 a.f1) ∧ x.w0.cell? ⟨ad0.block, ad0.off + 2, none⟩ = some (.int .i64 a.f2) ∧ x.w0.cell? ⟨ad0.block, ad0.off + 3, none⟩ = some (.string a.f3) ∧ x.w0.cell? ⟨ad0.block, ad0.off + 4, none⟩ = some (.bool a.f4) ∧ x.w0.cell? ⟨ad0.block, ad0.off + 5, none⟩ = some (.slice B0 a.f5.length b0)) := Lib.hid ⟨x0, x1, x2, x3, x4, x5⟩
  have HY : Hid (x.w0.cell? ⟨ad0.block, ad0.off + 6, none⟩ = some (.int .i64 b.f0) ∧ x.w0.cell? ⟨ad0.block, ad0.off + 6 + 1, none⟩ = some (.int .i64 b.f1) ∧ x.w0.cell? ⟨ad0.block, ad0.off + 6 + 2, none⟩ = some (.int .i64 b.f2) ∧ x.w0.cell? ⟨ad0.block, ad0.off + 6 + 3, none⟩ = some (.string b.f3) ∧ x.w0.cell? ⟨ad0.block, ad0.off + 6 + 4, none⟩ = some (.bool b.f4) ∧ x.w0.cell? ⟨ad0.block, ad0.off + 6 + 5, none⟩ = some (.slice B1 b.f5.length b1)) := Lib.hid ⟨y0, y1, y2, y3, y4, y5⟩
  have HK := Lib.hid (And.intro hE0 hE1)
  obtain ⟨q0, hq0⟩ : ∃ q, on ++ [(⟨e3, false⟩ : G)] = q := ⟨_, rfl⟩
  obtain ⟨q1, hq1⟩ : ∃ q, on ++ [(⟨e3, true⟩ : G)] = q := ⟨_, rfl⟩
  rw [hq0] at hw
  rw [hq1] at hr
  have HQ := Lib.hid (And.intro hq0 hq1)
  have HW := Lib.hid (And.intro hw hr)
  clear hq0 hq1 hk hw hr HR x0 x1 x2 x3 x4 x5 y0 y1 y2 y3 y4 y5 hE0 hE1 hA1 hlen
  go_enter Tryd.func91, Tryd.ntmps91
  go_wp2_with (fail)
  have HS := Lib.hid (H.out.ck.new (q := exO ⟨12, e1, e2, e3, e4, e5⟩ (some ad0) c))
  generalize hW : w.alloc _ = W
  rw [hW] at HS
  clear hW
  obtain ⟨p0, p1, p2, p3, p4, p5, pf⟩ := blk6 HS.out.l0
  have pl := blk_lt HS.out.l0
  go_wp2_with (fail)
  have pfS : ∀ {V : World} {g : F}, Ck x.c w V (x.obj g) [(w.heap.size, exO ⟨12, e1, e2, e3, e4, e5⟩ (some ad0) c)] → V.cell? ⟨w.heap.size, 1, none⟩ = some (.int .i64 e1) ∧ V.cell? ⟨w.heap.size, 3, none⟩ = some (.string e3) := fun {V g} h => ⟨blk_cell h.l0 1, blk_cell h.l0 3⟩
  have hS0 : (W.drew).cell? ⟨w.heap.size, 1, none⟩ = some (.int .i64 e1) ∧ (W.drew).cell? ⟨w.heap.size, 3, none⟩ = some (.string e3) := pfS HS.out.drew
  go_region_held2 (fun w' => w'.cell? ⟨w.heap.size, 1, none⟩ = some (.int .i64 e1) ∧ w'.cell? ⟨w.heap.size, 3, none⟩ = some (.string e3)) (first | with_reducible exact hS0 | with_reducible exact hS1 | with_reducible exact hS2 | with_reducible exact hS3) (first | (go_at_call 90; (refine (cof_walk hx e3 f _ (H.out.of_ck hx (HS.out.drew))).mono ?_); go_must (rintro e' v1 ⟨A1, c1, rfl, hV, hb⟩; have HT1 := Lib.hid (Ck.below (HS.out.drew) hb); have HV1 := Lib.hid hV; clear hV; have hS1 : v1.cell? ⟨w.heap.size, 1, none⟩ = some (.int .i64 e1) ∧ v1.cell? ⟨w.heap.size, 3, none⟩ = some (.string e3) := pfS HT1.out; clear hb)) | (go_at_call 27; (refine (same_walk A1 c1 ((ofN x.n e3).1) oA oc on _ (HV1.out) (ck_only (HT1.out) HV.out)).mono ?_); go_must (rintro e' v2 ⟨rfl, hb⟩; have HT2 := Lib.hid (Ck.below (HT1.out) hb); have hS2 : v2.cell? ⟨w.heap.size, 1, none⟩ = some (.int .i64 e1) ∧ v2.cell? ⟨w.heap.size, 3, none⟩ = some (.string e3) := pfS HT2.out; clear hb)) | (go_at_call 89; (refine (bad_walk hx (!sameG (ofN x.n e3).1 on) e1 8 f _ (H.out.of_ck hx (HT2.out))).mono ?_); go_must (rintro e' v3 ⟨rfl, hD⟩; have HT3 := Lib.hid (Ck.does (HT2.out) hD); have hS3 : v3.cell? ⟨w.heap.size, 1, none⟩ = some (.int .i64 e1) ∧ v3.cell? ⟨w.heap.size, 3, none⟩ = some (.string e3) := pfS HT3.out; clear hD)))
  clear hS0 hS1 hS2 hS3 pfS p0 p1 p2 p3 p4 p5 pf pl
  obtain ⟨p0, p1, p2, p3, p4, p5, pf⟩ := blk6 HT3.out.l0
  have pl := blk_lt HT3.out.l0
  go_wp2_with (fail)
  have pfS : ∀ {V : World} {g : F}, Ck x.c w V (x.obj g) [(w.heap.size, exO ⟨12, e1, e2, e3, e4, e5⟩ (some ad0) c)] → V.cell? ⟨w.heap.size, 3, none⟩ = some (.string e3) ∧ V.cell? ⟨w.heap.size, 5, none⟩ = some (.slice (some ad0) e5.length c) ∧ V.cell? ad0 = some (.int .i64 a.f0) ∧ V.cell? ⟨ad0.block, ad0.off + 1, none⟩ = some (.int .i64 a.f1) ∧ V.cell? ⟨ad0.block, ad0.off + 2, none⟩ = some (.int .i64 a.f2) ∧ V.cell? ⟨ad0.block, ad0.off + 3, none⟩ = some (.string a.f3) ∧ V.cell? ⟨ad0.block, ad0.off + 4, none⟩ = some (.bool a.f4) ∧ V.cell? ⟨ad0.block, ad0.off + 5, none⟩ = some (.slice B0 a.f5.length b0) := fun {V g} h => ⟨blk_cell h.l0 3, blk_cell h.l0 5, pw_cell_below (H.out.of_ck hx h).bel HX.out.1, pw_cell_below (H.out.of_ck hx h).bel HX.out.2.1, pw_cell_below (H.out.of_ck hx h).bel HX.out.2.2.1, pw_cell_below (H.out.of_ck hx h).bel HX.out.2.2.2.1, pw_cell_below (H.out.of_ck hx h).bel HX.out.2.2.2.2.1, pw_cell_below (H.out.of_ck hx h).bel HX.out.2.2.2.2.2⟩
  have hS0 : (v3.drew).cell? ⟨w.heap.size, 3, none⟩ = some (.string e3) ∧ (v3.drew).cell? ⟨w.heap.size, 5, none⟩ = some (.slice (some ad0) e5.length c) ∧ (v3.drew).cell? ad0 = some (.int .i64 a.f0) ∧ (v3.drew).cell? ⟨ad0.block, ad0.off + 1, none⟩ = some (.int .i64 a.f1) ∧ (v3.drew).cell? ⟨ad0.block, ad0.off + 2, none⟩ = some (.int .i64 a.f2) ∧ (v3.drew).cell? ⟨ad0.block, ad0.off + 3, none⟩ = some (.string a.f3) ∧ (v3.drew).cell? ⟨ad0.block, ad0.off + 4, none⟩ = some (.bool a.f4) ∧ (v3.drew).cell? ⟨ad0.block, ad0.off + 5, none⟩ = some (.slice B0 a.f5.length b0) := pfS HT3.out.drew
  go_region_held2 (fun w' => w'.cell? ⟨w.heap.size, 3, none⟩ = some (.string e3) ∧ w'.cell? ⟨w.heap.size, 5, none⟩ = some (.slice (some ad0) e5.length c) ∧ w'.cell? ad0 = some (.int .i64 a.f0) ∧ w'.cell? ⟨ad0.block, ad0.off + 1, none⟩ = some (.int .i64 a.f1) ∧ w'.cell? ⟨ad0.block, ad0.off + 2, none⟩ = some (.int .i64 a.f2) ∧ w'.cell? ⟨ad0.block, ad0.off + 3, none⟩ = some (.string a.f3) ∧ w'.cell? ⟨ad0.block, ad0.off + 4, none⟩ = some (.bool a.f4) ∧ w'.cell? ⟨ad0.block, ad0.off + 5, none⟩ = some (.slice B0 a.f5.length b0)) (first | with_reducible exact hS0 | with_reducible exact hS1 | with_reducible exact hS2) (first | (go_at_call 26; (refine (onq_walk oA oc on e3 false q0 _ (ck_only (HT3.out.drew) HV.out) HN.out HQ.out.1).mono ?_); go_must (rintro e' u1 ⟨A2, c2, rfl, hV, hb⟩; have HU1 := Lib.hid (Ck.below (HT3.out.drew) hb); have HV2 := Lib.hid hV; clear hV; have hS1 : u1.cell? ⟨w.heap.size, 3, none⟩ = some (.string e3) ∧ u1.cell? ⟨w.heap.size, 5, none⟩ = some (.slice (some ad0) e5.length c) ∧ u1.cell? ad0 = some (.int .i64 a.f0) ∧ u1.cell? ⟨ad0.block, ad0.off + 1, none⟩ = some (.int .i64 a.f1) ∧ u1.cell? ⟨ad0.block, ad0.off + 2, none⟩ = some (.int .i64 a.f2) ∧ u1.cell? ⟨ad0.block, ad0.off + 3, none⟩ = some (.string a.f3) ∧ u1.cell? ⟨ad0.block, ad0.off + 4, none⟩ = some (.bool a.f4) ∧ u1.cell? ⟨ad0.block, ad0.off + 5, none⟩ = some (.slice B0 a.f5.length b0) := pfS HU1.out; clear hb)) | (go_at_call 91; (refine (hex a B0 b0 q0 A2 c2 (bad (!sameG (ofN x.n e3).1 on) e1 8 f) f1 _ HK.out.1 (HV2.out.le (Nat.le_trans HS.out.lc HT3.out.sz)) (H.out.of_ck hx (HU1.out)) HW.out.1).mono ?_); go_must (rintro e' u2 ⟨rfl, hD⟩; have HU2 := Lib.hid (Ck.does (HU1.out) hD); have hS2 : u2.cell? ⟨w.heap.size, 3, none⟩ = some (.string e3) ∧ u2.cell? ⟨w.heap.size, 5, none⟩ = some (.slice (some ad0) e5.length c) ∧ u2.cell? ad0 = some (.int .i64 a.f0) ∧ u2.cell? ⟨ad0.block, ad0.off + 1, none⟩ = some (.int .i64 a.f1) ∧ u2.cell? ⟨ad0.block, ad0.off + 2, none⟩ = some (.int .i64 a.f2) ∧ u2.cell? ⟨ad0.block, ad0.off + 3, none⟩ = some (.string a.f3) ∧ u2.cell? ⟨ad0.block, ad0.off + 4, none⟩ = some (.bool a.f4) ∧ u2.cell? ⟨ad0.block, ad0.off + 5, none⟩ = some (.slice B0 a.f5.length b0) := pfS HU2.out; clear hD)))
  clear hS0 hS1 hS2 pfS p0 p1 p2 p3 p4 p5 pf pl HV2
  obtain ⟨p0, p1, p2, p3, p4, p5, pf⟩ := blk6 HU2.out.l0
  have pl := blk_lt HU2.out.l0
  go_wp2_with (fail)
  have pfS : ∀ {V : World} {g : F}, Ck x.c w V (x.obj g) [(w.heap.size, exO ⟨12, e1, e2, e3, e4, e5⟩ (some ad0) c)] → V.cell? ⟨w.heap.size, 3, none⟩ = some (.string e3) ∧ V.cell? ⟨w.heap.size, 5, none⟩ = some (.slice (some ad0) e5.length c) ∧ V.cell? ⟨ad0.block, ad0.off + 6, none⟩ = some (.int .i64 b.f0) ∧ V.cell? ⟨ad0.block, ad0.off + 6 + 1, none⟩ = some (.int .i64 b.f1) ∧ V.cell? ⟨ad0.block, ad0.off + 6 + 2, none⟩ = some (.int .i64 b.f2) ∧ V.cell? ⟨ad0.block, ad0.off + 6 + 3, none⟩ = some (.string b.f3) ∧ V.cell? ⟨ad0.block, ad0.off + 6 + 4, none⟩ = some (.bool b.f4) ∧ V.cell? ⟨ad0.block, ad0.off + 6 + 5, none⟩ = some (.slice B1 b.f5.length b1) := fun {V g} h => ⟨blk_cell h.l0 3, blk_cell h.l0 5, pw_cell_below (H.out.of_ck hx h).bel HY.out.1, pw_cell_below (H.out.of_ck hx h).bel HY.out.2.1, pw_cell_below (H.out.of_ck hx h).bel HY.out.2.2.1, pw_cell_below (H.out.of_ck hx h).bel HY.out.2.2.2.1, pw_cell_below (H.out.of_ck hx h).bel HY.out.2.2.2.2.1, pw_cell_below (H.out.of_ck hx h).bel HY.out.2.2.2.2.2⟩
  have hS0 : (u2.drew).cell? ⟨w.heap.size, 3, none⟩ = some (.string e3) ∧ (u2.drew).cell? ⟨w.heap.size, 5, none⟩ = some (.slice (some ad0) e5.length c) ∧ (u2.drew).cell? ⟨ad0.block, ad0.off + 6, none⟩ = some (.int .i64 b.f0) ∧ (u2.drew).cell? ⟨ad0.block, ad0.off + 6 + 1, none⟩ = some (.int .i64 b.f1) ∧ (u2.drew).cell? ⟨ad0.block, ad0.off + 6 + 2, none⟩ = some (.int .i64 b.f2) ∧ (u2.drew).cell? ⟨ad0.block, ad0.off + 6 + 3, none⟩ = some (.string b.f3) ∧ (u2.drew).cell? ⟨ad0.block, ad0.off + 6 + 4, none⟩ = some (.bool b.f4) ∧ (u2.drew).cell? ⟨ad0.block, ad0.off + 6 + 5, none⟩ = some (.slice B1 b.f5.length b1) := pfS HU2.out.drew
  go_region_held2 (fun w' => w'.cell? ⟨w.heap.size, 3, none⟩ = some (.string e3) ∧ w'.cell? ⟨w.heap.size, 5, none⟩ = some (.slice (some ad0) e5.length c) ∧ w'.cell? ⟨ad0.block, ad0.off + 6, none⟩ = some (.int .i64 b.f0) ∧ w'.cell? ⟨ad0.block, ad0.off + 6 + 1, none⟩ = some (.int .i64 b.f1) ∧ w'.cell? ⟨ad0.block, ad0.off + 6 + 2, none⟩ = some (.int .i64 b.f2) ∧ w'.cell? ⟨ad0.block, ad0.off + 6 + 3, none⟩ = some (.string b.f3) ∧ w'.cell? ⟨ad0.block, ad0.off + 6 + 4, none⟩ = some (.bool b.f4) ∧ w'.cell? ⟨ad0.block, ad0.off + 6 + 5, none⟩ = some (.slice B1 b.f5.length b1)) (first | with_reducible exact hS0 | with_reducible exact hS1 | with_reducible exact hS2) (first | (go_at_call 26; (refine (onq_walk oA oc on e3 true q1 _ (ck_only (HU2.out.drew) HV.out) HN.out HQ.out.2).mono ?_); go_must (rintro e' t1 ⟨A2, c2, rfl, hV, hb⟩; have HX9_1 := Lib.hid (Ck.below (HU2.out.drew) hb); have HV2 := Lib.hid hV; clear hV; have hS1 : t1.cell? ⟨w.heap.size, 3, none⟩ = some (.string e3) ∧ t1.cell? ⟨w.heap.size, 5, none⟩ = some (.slice (some ad0) e5.length c) ∧ t1.cell? ⟨ad0.block, ad0.off + 6, none⟩ = some (.int .i64 b.f0) ∧ t1.cell? ⟨ad0.block, ad0.off + 6 + 1, none⟩ = some (.int .i64 b.f1) ∧ t1.cell? ⟨ad0.block, ad0.off + 6 + 2, none⟩ = some (.int .i64 b.f2) ∧ t1.cell? ⟨ad0.block, ad0.off + 6 + 3, none⟩ = some (.string b.f3) ∧ t1.cell? ⟨ad0.block, ad0.off + 6 + 4, none⟩ = some (.bool b.f4) ∧ t1.cell? ⟨ad0.block, ad0.off + 6 + 5, none⟩ = some (.slice B1 b.f5.length b1) := pfS HX9_1.out; clear hb)) | (go_at_call 91; (refine (hex b B1 b1 q1 A2 c2 f1 r _ HK.out.2 (HV2.out.le (Nat.le_trans HS.out.lc HU2.out.sz)) (H.out.of_ck hx (HX9_1.out)) HW.out.2).mono ?_); go_must (rintro e' t2 ⟨rfl, hD⟩; have HX9_2 := Lib.hid (Ck.does (HX9_1.out) hD); have hS2 : t2.cell? ⟨w.heap.size, 3, none⟩ = some (.string e3) ∧ t2.cell? ⟨w.heap.size, 5, none⟩ = some (.slice (some ad0) e5.length c) ∧ t2.cell? ⟨ad0.block, ad0.off + 6, none⟩ = some (.int .i64 b.f0) ∧ t2.cell? ⟨ad0.block, ad0.off + 6 + 1, none⟩ = some (.int .i64 b.f1) ∧ t2.cell? ⟨ad0.block, ad0.off + 6 + 2, none⟩ = some (.int .i64 b.f2) ∧ t2.cell? ⟨ad0.block, ad0.off + 6 + 3, none⟩ = some (.string b.f3) ∧ t2.cell? ⟨ad0.block, ad0.off + 6 + 4, none⟩ = some (.bool b.f4) ∧ t2.cell? ⟨ad0.block, ad0.off + 6 + 5, none⟩ = some (.slice B1 b.f5.length b1) := pfS HX9_2.out; clear hD)))
  go_wp2_with (fail)
  go_end0
  exact ⟨rfl, Does.of_ck HX9_2.out⟩
theorem expr_walk {x : Ctx} (hx : x.Ok) {ex : Ex} (hex : ExIs x ex) : ExIs x (exprK ex x.l x.n) := by
  intro e A c on oA oc f r w he ho h hr
  have hs : on.length ≤ 1000000 := by
    rcases Nat.lt_or_ge 1000000 on.length with h9 | h9
    · unfold exprK at hr
      rw [if_pos h9] at hr
      cases hr
    · exact h9
  by_cases n3 : e.f0 = 3
  · exact expr_k3 hx hex e A c on oA oc f r w n3 he ho h hs hr
  by_cases n11 : e.f0 = 11
  · exact expr_k11 hx hex e A c on oA oc f r w n11 he ho h hs hr
  by_cases n12 : e.f0 = 12
  · exact expr_k12 hx hex e A c on oA oc f r w n12 he ho h hs hr
  by_cases n14 : e.f0 = 14
  · exact expr_k14 hx hex e A c on oA oc f r w n14 he ho h hs hr
  by_cases n13 : e.f0 = 13
  · exact expr_k13 hx hex e A c on oA oc f r w n13 he ho h hs hr
  exact expr_kdef hx hex e A c on oA oc f r w ⟨n3, n11, n12, n14, n13⟩ he ho h hs hr
theorem expr_is {x : Ctx} (hx : x.Ok) : ∀ k : Nat, ExIs x (expr k x.l x.n)
  | 0 => by intro e A c on oA oc f r w he ho h hr; cases hr
  | k + 1 => expr_walk hx (expr_is hx k)
end Go.Proofs.YtjafllnbgfcchaaDoor.Cl
end
section
/- The checker of clocks: node, Check, walked. -/
namespace Go.Proofs.YtjafllnbgfcchaaDoor.Cl
set_option linter.unusedVariables false
set_option linter.unusedSimpArgs false
open Go Go.RowKit Go.Proofs.YtjafllnbgfcchaaDoorW.PrintWords Go.Proofs.YtjafllnbgfcchaaDoorW.PrintLast Go.Proofs.YtjafllnbgfcchaaDoorW.PrintMore Go.Proofs.YtjafllnbgfcchaaDoor.Lx Go.Proofs.YtjafllnbgfcchaaDoor.XK Go.Proofs.YtjafllnbgfcchaaDoor.XCK Go.Proofs.YtjafllnbgfcchaaDoor.Px Go.Proofs.YtjafllnbgfcchaaDoor.Ck Go.Proofs.YtjafllnbgfcchaaDoor.Ow
attribute [local go_sem ↓] Go.wp_at_zero Go.wp_at_succ
abbrev eqO (q : Q) (A0 : Option Addr) (c0 : Nat) (A7 : Option Addr) (c7 : Nat) : Obj := .cells #[.slice A0 q.f0.length c0, .bool q.f1, .int .i64 q.f2.f0, .int .i64 q.f2.f1, .int .i64 q.f2.f2, .string q.f2.f3, .bool q.f2.f4, .slice A7 q.f2.f5.length c7] 45 (0, 0)
abbrev lfO (x : S47) : Obj := .cells #[.string x.f0, .int .i64 x.f1] 47 (0, 0)
structure QAt (w0 : World) (q : Q) (A0 : Option Addr) (c0 : Nat) (A7 : Option Addr) (c7 : Nat) : Prop where
 left : Kd.C k47 w0 A0 q.f0.length q.f0
 room : q.f0.length ≤ c0
 ex : ExAt w0 q.f2 A7 c7
theorem blk8 {W : World} {g : Nat} {t : TypeId} {a0 a1 a2 a3 a4 a5 a6 a7 : Value} (h : W.heap[g]? = some (.cells #[a0, a1, a2, a3, a4, a5, a6, a7] t (0, 0))) :
  W.cell? ⟨g, 0, none⟩ = some a0 ∧ W.cell? ⟨g, 1, none⟩ = some a1 ∧ W.cell? ⟨g, 2, none⟩ = some a2 ∧ W.cell? ⟨g, 3, none⟩ = some a3 ∧ W.cell? ⟨g, 4, none⟩ = some a4 ∧ W.cell? ⟨g, 5, none⟩ = some a5 ∧ W.cell? ⟨g, 6, none⟩ = some a6 ∧ W.cell? ⟨g, 7, none⟩ = some a7 ∧ ∀ j, W.frozen? ⟨g, j, none⟩ = false :=
 ⟨blk_cell h 0, blk_cell h 1, blk_cell h 2, blk_cell h 3, blk_cell h 4, blk_cell h 5, blk_cell h 6, blk_cell h 7, fun j => blk_frozen h j⟩
abbrev Ctx.put (x : Ctx) (n : N) (B2 : Option Addr) (b2 : Nat) (B3 : Option Addr) (b3 : Nat) (B4 : Option Addr) (b4 : Nat) (B5 : Option Addr) (b5 : Nat) : Ctx := ⟨x.w0, x.c, x.A, x.cap, x.l, n, B2, b2, B3, b3, B4, b4, B5, b5⟩
theorem Ctx.Ok.put {x : Ctx} (hx : x.Ok) {n : N} {B2 : Option Addr} {b2 : Nat} {B3 : Option Addr} {b3 : Nat} {B4 : Option Addr} {b4 : Nat} {B5 : Option Addr} {b5 : Nat} (h : NdAt x.w0 n B2 b2 B3 b3 B4 b4 B5 b5) (hf : ¬ 1000000 < n.f2.length + n.f3.length + n.f4.length) : (x.put n B2 b2 B3 b3 B4 b4 B5 b5).Ok :=
 ⟨hx.hc, hx.hl, hx.hlc, h.h2, h.m2, h.h3, h.m3, h.h4, h.m4, h.h5, h.m5, by show n.f2.length + n.f3.length + n.f4.length ≤ 1000000; omega⟩
theorem at_put {x : Ctx} {n : N} {B2 : Option Addr} {b2 : Nat} {B3 : Option Addr} {b3 : Nat} {B4 : Option Addr} {b4 : Nat} {B5 : Option Addr} {b5 : Nat} {w W : World} {f : F} {l : List (Nat × Obj)} (k : Ck x.c w W ((x.put n B2 b2 B3 b3 B4 b4 B5 b5).obj f) l) (hb : Below x.w0.heap.size x.w0 w) (hx : x.Ok) : At (x.put n B2 b2 B3 b3 B4 b4 B5 b5) W f :=
 ⟨k.blk, Ck.old k hb hx.hc⟩
theorem left_at {w0 : World} {A : Option Addr} {l : List S47} (h : Kd.C k47 w0 A l.length l) (i : Nat) (d : S47) (hk : l[i]? = some d) : ∃ ad, A = some ad ∧ w0.cell? (ad.add (i * 2)) = some (.string d.f0) ∧
  w0.cell? ⟨(ad.add (i * 2)).block, (ad.add (i * 2)).off + 1, none⟩ = some (.int .i64 d.f1) := by
 have hlt := (List.getElem?_eq_some_iff.1 hk).1
 obtain ⟨ad, e1, hx0, hx1⟩ := at_T47 h (i : Int) (by omega) (by omega)
 have hr : rd_T47 l (i : Int) = d := by
  unfold rd_T47
  simp [hk]
 rw [hr] at hx0 hx1
 simp only [Int.toNat_natCast] at hx0 hx1
 exact ⟨ad, e1, hx0, hx1⟩
theorem eq_at {w0 : World} {A : Option Addr} {l : List Q} (h : Kd.C k45 w0 A l.length l) (i : Nat) (q : Q) (hk : l[i]? = some q) : ∃ ad A0 c0 A7 c7, A = some ad ∧ w0.cell? (ad.add (i * 8)) = some (.slice A0 q.f0.length c0) ∧
  w0.cell? ⟨(ad.add (i * 8)).block, (ad.add (i * 8)).off + 1, none⟩ = some (.bool q.f1) ∧ w0.cell? ⟨(ad.add (i * 8)).block, (ad.add (i * 8)).off + 2, none⟩ = some (.int .i64 q.f2.f0) ∧
  w0.cell? ⟨(ad.add (i * 8)).block, (ad.add (i * 8)).off + 3, none⟩ = some (.int .i64 q.f2.f1) ∧ w0.cell? ⟨(ad.add (i * 8)).block, (ad.add (i * 8)).off + 4, none⟩ = some (.int .i64 q.f2.f2) ∧
  w0.cell? ⟨(ad.add (i * 8)).block, (ad.add (i * 8)).off + 5, none⟩ = some (.string q.f2.f3) ∧ w0.cell? ⟨(ad.add (i * 8)).block, (ad.add (i * 8)).off + 6, none⟩ = some (.bool q.f2.f4) ∧
  w0.cell? ⟨(ad.add (i * 8)).block, (ad.add (i * 8)).off + 7, none⟩ = some (.slice A7 q.f2.f5.length c7) ∧ QAt w0 q A0 c0 A7 c7 := by
 have hlt := (List.getElem?_eq_some_iff.1 hk).1
 obtain ⟨ad, A0, c0, A7, c7, e1, hx0, hx1, hx2, hx3, hx4, hx5, hx6, hx7, l0, g0, l7, g7⟩ := at_T45 h (i : Int) (by omega) (by omega)
 have hr : rd_T45 l (i : Int) = q := by
  unfold rd_T45
  simp [hk]
 rw [hr] at hx0 hx1 hx2 hx3 hx4 hx5 hx6 hx7 l0 g0 l7 g7
 simp only [Int.toNat_natCast] at hx0 hx1 hx2 hx3 hx4 hx5 hx6 hx7
 exact ⟨ad, A0, c0, A7, c7, e1, hx0, hx1, hx2, hx3, hx4, hx5, hx6, hx7, ⟨g0, l0, ⟨g7, l7⟩⟩⟩
theorem node_at {w0 : World} {A : Option Addr} {l : List N} (h : Kd.C k34 w0 A l.length l) (i : Nat) (q : N) (hk : l[i]? = some q) : ∃ ad B2 b2 B3 b3 B4 b4 B5 b5, A = some ad ∧ w0.cell? (ad.add (i * 6)) = some (.string q.f0) ∧
  w0.cell? ⟨(ad.add (i * 6)).block, (ad.add (i * 6)).off + 1, none⟩ = some (.int .i64 q.f1) ∧ w0.cell? ⟨(ad.add (i * 6)).block, (ad.add (i * 6)).off + 2, none⟩ = some (.slice B2 q.f2.length b2) ∧
  w0.cell? ⟨(ad.add (i * 6)).block, (ad.add (i * 6)).off + 3, none⟩ = some (.slice B3 q.f3.length b3) ∧ w0.cell? ⟨(ad.add (i * 6)).block, (ad.add (i * 6)).off + 4, none⟩ = some (.slice B4 q.f4.length b4) ∧
  w0.cell? ⟨(ad.add (i * 6)).block, (ad.add (i * 6)).off + 5, none⟩ = some (.slice B5 q.f5.length b5) ∧ NdAt w0 q B2 b2 B3 b3 B4 b4 B5 b5 := by
 have hlt := (List.getElem?_eq_some_iff.1 hk).1
 obtain ⟨ad, B2, b2, B3, b3, B4, b4, B5, b5, e1, hx0, hx1, hx2, hx3, hx4, hx5, l2, g2, l3, g3, l4, g4, l5, g5⟩ := at_T34 h (i : Int) (by omega) (by omega)
 have hr : rd_T34 l (i : Int) = q := by
  unfold rd_T34
  simp [hk]
 rw [hr] at hx0 hx1 hx2 hx3 hx4 hx5 l2 g2 l3 g3 l4 g4 l5 g5
 simp only [Int.toNat_natCast] at hx0 hx1 hx2 hx3 hx4 hx5
 exact ⟨ad, B2, b2, B3, b3, B4, b4, B5, b5, e1, hx0, hx1, hx2, hx3, hx4, hx5, ⟨g2, l2, g3, l3, g4, l4, g5, l5⟩⟩
theorem int_pos {J : Int} (h : 0 < J) : decide (0 < J) = true ∧ (0 < J) = True ∧ (J == 0) = false ∧ (J = 0) = False := ⟨decide_eq_true h, eq_true h, beq_eq_false_iff_ne.2 (by omega), eq_false (by omega)⟩
theorem int_np {J : Int} (h : J = 0) : decide (0 < J) = false ∧ (0 < J) = False ∧ (J == 0) = true ∧ (J = 0) = True := ⟨decide_eq_false (by omega), eq_false (by omega), beq_iff_eq.2 h, eq_true h⟩
theorem nat_pos {j : Nat} (h : ¬ j = 0) : (0 : Int) < (j : Int) := by omega
theorem nat_np {j : Nat} (h : j = 0) : (j : Int) = 0 := by omega
set_option maxHeartbeats 4000000 in
set_option maxRecDepth 100000 in
theorem node_walk {x : Ctx} (hx : x.Ok) (k : Nat) (n : N) (B2 : Option Addr) (b2 : Nat) (B3 : Option Addr) (b3 : Nat) (B4 : Option Addr) (b4 : Nat) (B5 : Option Addr) (b5 : Nat) (f r : F) (w : World) (hN : NdAt x.w0 n B2 b2 B3 b3 B4 b4 B5 b5) (h : At x w f) (hr : node k x.l n f = some r) :
  Calls Tryd.prog 54 #[.pointer (some ⟨x.c, 0, none⟩), .agg #[.string n.f0, .int .i64 n.f1, .slice B2 n.f2.length b2, .slice B3 n.f3.length b3, .slice B4 n.f4.length b4, .slice B5 n.f5.length b5]] w fun e' w' => e' = .returned (.tuple #[]) ∧ Only x.c w w' ∧ w'.heap[x.c]? = some ((x.put n B2 b2 B3 b3 B4 b4 B5 b5).obj r) := by
 unfold node at hr
 split at hr
 case isTrue => cases hr
 rename_i hfew
 have hy := hx.put hN hfew
 obtain ⟨f1, h1⟩ : ∃ f1, varsC n n.f4 f = f1 := ⟨_, rfl⟩
 rw [h1] at hr
 have H := Lib.hid h
 have HM := Lib.hid hN
 have HR := Lib.hid hr
 have H1 := Lib.hid h1
 obtain ⟨r0, r1, r2, r3, r4, r5, r6, r7, r8, rf⟩ := blk9 h.blk
 have rl := blk_lt h.blk
 have rn : ¬ (x.c = w.heap.size) := Nat.ne_of_lt rl
 clear h hN hr h1 hfew
 go_enter Tryd.func54, Tryd.ntmps54
 go_wp2_with (fail)
 have HS : Hid (Ck x.c w _ ((x.put n B2 b2 B3 b3 B4 b4 B5 b5).obj f) [(w.heap.size, ndO n B2 b2 B3 b3 B4 b4 B5 b5)]) := Lib.hid (Ck.newg (g := w.heap.size) (q := ndO n B2 b2 B3 b3 B4 b4 B5 b5) (by simp [World.setCell]) ((((((H.out.ck.put 1 (.string n.f0)).put 2 (.int .i64 n.f1)).put 3 (.slice B2 n.f2.length b2)).put 4 (.slice B3 n.f3.length b3)).put 5 (.slice B4 n.f4.length b4)).put 6 (.slice B5 n.f5.length b5)))
 generalize hW : World.alloc _ _ = W
 rw [hW] at HS
 clear hW r0 r1 r2 r3 r4 r5 r6 r7 r8 rf rn rl
 obtain ⟨m0, m1, m2, m3, m4, m5, mf⟩ := blk6 HS.out.l0
 have ml := blk_lt HS.out.l0
 have HQ := H1
 go_wp2_with (fail)
 go_loopg [21] (n.f4.length + 1) (fun m9 u wr => ∃ (i : Nat) (f' : F), u = .int .i64 (i : Int) ∧ i ≤ n.f4.length ∧ m9 = n.f4.length + 1 - i ∧ Hid (Ck x.c w wr ((x.put n B2 b2 B3 b3 B4 b4 B5 b5).obj f') [(w.heap.size, ndO n B2 b2 B3 b3 B4 b4 B5 b5)]) ∧ Hid (varsC n (n.f4.drop i) f' = f1))
 case atStart => exact ⟨0, _, rfl, by omega, by simp, HS, HQ⟩
 case round =>
  obtain ⟨i, f', rfl, hi, rfl, HS', HL⟩ := hrel
  clear HS
  have HS := HS'
  clear HS'
  obtain ⟨m0, m1, m2, m3, m4, m5, mf⟩ := blk6 HS.out.l0
  have ml := blk_lt HS.out.l0
  rcases Nat.lt_or_ge i n.f4.length with hlt | hge
  ·obtain ⟨d, hdk, hdd⟩ := drop_at hlt
   obtain ⟨ad2, hA2, y0, y1, y2, y3, y4, y5⟩ := dec_at HM.out.h4 i d hdk
   have hb := Ck.old HS.out H.out.bel hx.hc
   replace y0 := pw_cell_below hb y0
   replace y1 := pw_cell_below hb y1
   replace y2 := pw_cell_below hb y2
   replace y3 := pw_cell_below hb y3
   replace y4 := pw_cell_below hb y4
   replace y5 := pw_cell_below hb y5
   have xl := World.block_lt_of_cell? _ _ y0
   have xn : ¬ ((ad2.add (i * 6)).block = wr.heap.size) := Nat.ne_of_lt xl
   have mn : ¬ (w.heap.size = wr.heap.size) := Nat.ne_of_lt ml
   have i0 : ((i : Int) < (n.f4.length : Int)) = True := eq_true (by omega)
   have i1 : decide ((i : Int) < (n.f4.length : Int)) = true := decide_eq_true (by omega)
   have i2 : (0 ≤ (i : Int)) = True := eq_true (by omega)
   have hw9 : wrap64 ((i : Int) + 1) = ((i + 1 : Nat) : Int) := by have h9 := HM.out.h4.2.1; unfold maxLen at h9; unfold wrap64; omega
   have hL : varsC n (n.f4.drop (i + 1)) (bad (!(ofN n d.f0).2) d.f1 10 f') = f1 := by have h9 := HL.out; rw [hdd] at h9; exact h9
   obtain ⟨p, hp⟩ : ∃ p, ofN n d.f0 = p := ⟨_, rfl⟩
   rw [hp] at hL
   have HP := Lib.hid hp
   have HL2 := Lib.hid hL
   clear hb hdk hdd HL hL hp
   obtain ⟨d0, d1, ⟨d2, d3⟩, d4, d5⟩ := d
   subst hA2
   have HT := Lib.hid (HS.out.new (q := dcO ⟨d0, d1, ⟨d2, d3⟩, d4, d5⟩))
   go_wp2_with (fail)
   have h9 := off_walk hy d0 _ (Ck.old HT.out H.out.bel hx.hc)
   have hP : ofN (x.put n B2 b2 B3 b3 (some ad2) b4 B5 b5).n d0 = p := HP.out
   rw [hP] at h9
   refine h9.mono ?_
   rintro e' w7 ⟨A1, c1, rfl, hV, hb⟩
   have HU := Lib.hid (HT.out.below hb)
   clear hb hV h9 hP
   obtain ⟨uu0, uu1, uu2, uu3, uu4, uu5, uuf⟩ := blk6 HU.out.l0
   have uul := blk_lt HU.out.l0
   obtain ⟨vv0, vv1, vv2, vv3, vv4, vv5, vvf⟩ := blk6 HU.out.l1
   have vvl := blk_lt HU.out.l1
   obtain ⟨p0, p1⟩ := p
   go_wp2_with (fail)
   refine (bad_walk hy (!p1) d1 10 f' _ (at_put HU.out H.out.bel hx)).mono ?_
   rintro e' w8 ⟨rfl, hD⟩
   have HS2 := Lib.hid (Ck.call HU.out hD.only hD.blk).drop1
   clear hD
   go_wp2_with (fail)
   go_roundg (n.f4.length + 1 - (i + 1))
   case measure => exact ms9 hlt
   case rel => exact ⟨i + 1, _, (by first | rw [hw9] | rfl), hlt, rfl, HS2, HL2⟩
  ·have hd : n.f4.drop i = [] := List.drop_eq_nil_of_le hge
   have hL := HL.out
   rw [hd] at hL
   obtain rfl : f' = f1 := hL
   have i0 : ((i : Int) < (n.f4.length : Int)) = False := eq_false (by omega)
   have i1 : decide ((i : Int) < (n.f4.length : Int)) = false := decide_eq_false (by omega)
   clear hd hi hge HL
   obtain ⟨fa, fe⟩ := f'
   obtain ⟨r0, r1, r2, r3, r4, r5, r6, r7, r8, rf⟩ := blk9 HS.out.blk
   have rl := blk_lt HS.out.blk
   by_cases hz : fe = 0
   ·subst hz
    have HR2 := Lib.hid (show eqsC (expr k x.l n) n n.f5 (fa, 0) = some r from HR.out)
    clear HR
    have HQ := HR2
    go_wp2_with (fail)
    clear r0 r1 r2 r3 r4 r5 r6 r7 r8 rf rl m0 m1 m2 m3 m4 m5 mf ml
    go_loopg [48] (n.f5.length + 1) (fun m9 u wr => ∃ (i : Nat) (f' : F), u = .int .i64 (i : Int) ∧ i ≤ n.f5.length ∧ m9 = n.f5.length + 1 - i ∧ Hid (Ck x.c w wr ((x.put n B2 b2 B3 b3 B4 b4 B5 b5).obj f') [(w.heap.size, ndO n B2 b2 B3 b3 B4 b4 B5 b5)]) ∧ Hid (eqsC (expr k x.l n) n (n.f5.drop i) f' = some r))
    case atStart => exact ⟨0, _, rfl, by omega, by simp, HS, HQ⟩
    case round =>
     obtain ⟨i, f', rfl, hi, rfl, HS', HL⟩ := hrel
     clear HS HQ HR2
     have HS := HS'
     clear HS'
     obtain ⟨m0, m1, m2, m3, m4, m5, mf⟩ := blk6 HS.out.l0
     have ml := blk_lt HS.out.l0
     rcases Nat.lt_or_ge i n.f5.length with hlt | hge
     ·obtain ⟨q, hdk, hdd⟩ := drop_at hlt
      obtain ⟨ad2, A0, c0, A7, c7, hA2, y0, y1, y2, y3, y4, y5, y6, y7, hq⟩ := eq_at HM.out.h5 i q hdk
      have hb := Ck.old HS.out H.out.bel hx.hc
      replace y0 := pw_cell_below hb y0
      replace y1 := pw_cell_below hb y1
      replace y2 := pw_cell_below hb y2
      replace y3 := pw_cell_below hb y3
      replace y4 := pw_cell_below hb y4
      replace y5 := pw_cell_below hb y5
      replace y6 := pw_cell_below hb y6
      replace y7 := pw_cell_below hb y7
      have xl := World.block_lt_of_cell? _ _ y0
      have xn : ¬ ((ad2.add (i * 8)).block = wr.heap.size) := Nat.ne_of_lt xl
      have mn : ¬ (w.heap.size = wr.heap.size) := Nat.ne_of_lt ml
      have i0 : ((i : Int) < (n.f5.length : Int)) = True := eq_true (by omega)
      have i1 : decide ((i : Int) < (n.f5.length : Int)) = true := decide_eq_true (by omega)
      have i2 : (0 ≤ (i : Int)) = True := eq_true (by omega)
      have hw9 : wrap64 ((i : Int) + 1) = ((i + 1 : Nat) : Int) := by have h9 := HM.out.h5.2.1; unfold maxLen at h9; unfold wrap64; omega
      have hL := HL.out
      rw [hdd] at hL
      obtain ⟨⟨on9, g9⟩, hlf⟩ : ∃ p, leftC n (q.f0.drop 0) true [] f' = p := ⟨_, rfl⟩
      have hL : ((expr k x.l n) q.f2 (leftC n (q.f0.drop 0) true [] f').1 (leftC n (q.f0.drop 0) true [] f').2).bind (fun f1 => eqsC (expr k x.l n) n (n.f5.drop (i + 1)) f1) = some r := hL
      rw [hlf] at hL
      obtain ⟨f4, hl4, hL⟩ := Option.bind_eq_some_iff.1 hL
      have HG := Lib.hid (And.intro hl4 hL)
      have HE := Lib.hid hq
      have HF := Lib.hid hlf
      clear hb hdk hdd HL hl4 hL hq hlf
      subst hA2
      have HT := Lib.hid (HS.out.new (q := eqO q A0 c0 A7 c7))
      go_wp2_with (fail)
      generalize hgq : wr.heap.size = gq at HT ⊢
      generalize hV : wr.alloc _ = V at HT ⊢
      clear hV HS m0 m1 m2 m3 m4 m5 mf y0 y1 y2 y3 y4 y5 y6 y7 xl xn mn
      have HV : Hid (ClV (x.c + 1) V none 0 []) := Lib.hid (ClV.nil _ _)
      go_loopg [55, 10] (q.f0.length + 1) (fun m9 u uo wr2 => ∃ (j : Nat) (oA : Option Addr) (on : List G) (oc : Nat) (f5 : F), u = .int .i64 (j : Int) ∧ uo = .slice oA on.length oc ∧ j ≤ q.f0.length ∧ m9 = q.f0.length + 1 - j ∧ Hid (Ck x.c w wr2 ((x.put n B2 b2 B3 b3 B4 b4 (some ad2) b5).obj f5) [(gq, eqO q A0 c0 A7 c7), (w.heap.size, ndO n B2 b2 B3 b3 B4 b4 (some ad2) b5)]) ∧ Hid (ClV (x.c + 1) wr2 oA oc on) ∧ Hid (leftC n (q.f0.drop j) (j == 0) on f5 = (on9, g9)))
      case atStart => exact ⟨0, none, [], 0, _, rfl, rfl, by omega, by simp, HT, HV, HF⟩
      case round =>
       obtain ⟨j, oA, on, oc, f5, rfl, rfl, hj, rfl, HS', HV', HL'⟩ := hrel
       clear HT HV HF
       have HS := HS'
       have HV := HV'
       have HL := HL'
       clear HS' HV' HL'
       obtain ⟨q0, q1, q2, q3, q4, q5, q6, q7, qf⟩ := blk8 HS.out.l0
       have ql := blk_lt HS.out.l0
       obtain ⟨m0, m1, m2, m3, m4, m5, mf⟩ := blk6 HS.out.l1
       have ml := blk_lt HS.out.l1
       rcases Nat.lt_or_ge j q.f0.length with hjl | hjg
       ·have j0 : ((j : Int) < (q.f0.length : Int)) = True := eq_true (by omega)
        have j1 : decide ((j : Int) < (q.f0.length : Int)) = true := decide_eq_true (by omega)
        have j2 : (0 ≤ (j : Int)) = True := eq_true (by omega)
        obtain ⟨lf, hlk, hld⟩ := drop_at hjl
        have hL : leftC n (q.f0.drop (j + 1)) false (if (j == 0) then (ofN n lf.f0).1 else on) (bad (!(j == 0) && !sameG (ofN n lf.f0).1 on) lf.f1 8 f5) = (on9, g9) := by have h9 := HL.out; rw [hld] at h9; exact h9
        obtain ⟨al, hA0, l0, l1⟩ := left_at HE.out.left j lf hlk
        subst hA0
        have hb := Ck.old HS.out H.out.bel hx.hc
        replace l0 := pw_cell_below hb l0
        replace l1 := pw_cell_below hb l1
        have ll := World.block_lt_of_cell? _ _ l0
        have ln : ¬ ((al.add (j * 2)).block = wr.heap.size) := Nat.ne_of_lt ll
        have hw8 : wrap64 ((j : Int) + 1) = ((j + 1 : Nat) : Int) := by have h9 := HE.out.left.2.1; unfold maxLen at h9; unfold wrap64; omega
        obtain ⟨lm, la⟩ := lf
        obtain ⟨p, hp⟩ : ∃ p, (ofN n lm).1 = p := ⟨_, rfl⟩
        rw [hp] at hL
        have HP := Lib.hid hp
        have HT := Lib.hid (HS.out.new (q := lfO ⟨lm, la⟩))
        have HL3 := Lib.hid hL
        clear hb hlk hld HL hL hp
        go_wp2_with (fail)
        have h9 := cof_walk hy lm f5 _ (at_put HT.out H.out.bel hx)
        have hP : (ofN (x.put n B2 b2 B3 b3 B4 b4 (some ad2) b5).n lm).1 = p := HP.out
        rw [hP] at h9
        refine h9.mono ?_
        rintro e' w7 ⟨A1, c1, rfl, hV1, hb⟩
        have HU := Lib.hid (HT.out.below hb)
        have HV1 : Hid (ClV (x.c + 1) w7 A1 c1 p) := Lib.hid hV1
        have HV2 := Lib.hid ((HV.out.below (below_alloc (Below.refl _ _) _)).below hb)
        clear hb hV1 h9 hP
        generalize hgl : wr.heap.size = gl at HU ⊢
        have HA := hgl
        clear HA
        obtain ⟨u0, u1, uf⟩ : w7.cell? ⟨gl, 0, none⟩ = some (.string lm) ∧ w7.cell? ⟨gl, 1, none⟩ = some (.int .i64 la) ∧ ∀ j, w7.frozen? ⟨gl, j, none⟩ = false := ⟨blk_cell HU.out.l0 0, blk_cell HU.out.l0 1, fun j => blk_frozen HU.out.l0 j⟩
        have ul := blk_lt HU.out.l0
        have hS0 : (w7.drew.cell? ⟨gl, 1, none⟩ = some (.int .i64 la)) := blk_cell HU.out.drew.l0 1
        have HVd := Lib.hid (HV2.out.below (below_drew (Below.refl _ _)))
        have HVe := Lib.hid (HV1.out.below (below_drew (Below.refl _ _)))
        by_cases hj0 : j = 0
        ·have HL4 := Lib.hid (show leftC n (q.f0.drop (j + 1)) (j + 1 == 0) p (bad false la 8 f5) = (on9, g9) from by
          have h9 := HL3.out
          rw [beq_iff_eq.2 hj0] at h9
          exact h9)
         have g9 := nat_np hj0
         clear hj0 j0 j1 j2
         generalize hJ : (j : Int) = J at hw8 g9 ⊢
         clear hJ
         have g0 := (int_np g9).1
         have HG9 := Lib.hid g9
         clear g9
         go_wp2_with (fail)
         first
         | (have hL0 : (w7.drew.cell? ⟨gl, 1, none⟩ = some (.int .i64 la)) := hS0; go_region_law (first | (go_simp; go_at_call 89; (refine (bad_walk hy (false) la 8 f5 _ (at_put (HU.out.drew) H.out.bel hx)).mono ?_); go_must (rintro e' v1 ⟨rfl, hD⟩; have HX := Lib.hid (Ck.call (HU.out.drew) hD.only hD.blk); have HV9 := Lib.hid (HVe.out.only (Nat.lt_succ_self _) hD.only); have HVa := Lib.hid (HVd.out.only (Nat.lt_succ_self _) hD.only); have hS9 : (v1.cell? ⟨gl, 1, none⟩ = some (.int .i64 la)) := blk_cell HX.out.l0 1; clear hD))))
         | skip
         all_goals
          have g2 := (int_np HG9.out).2.2.1
          go_wp2_with (fail)
          have HS2 := Lib.hid HX.out.drop1
          go_roundg (q.f0.length + 1 - (j + 1))
          case measure => exact ms9 hjl
          case rel => exact ⟨j + 1, A1, p, c1, _, (by first | rw [hw8] | rfl), rfl, hjl, rfl, HS2, HV9, HL4⟩
        ·have HL4 := Lib.hid (show leftC n (q.f0.drop (j + 1)) (j + 1 == 0) on (bad (!sameG p on) la 8 f5) = (on9, g9) from by
          have h9 := HL3.out
          have e0 : (j == 0) = false := beq_eq_false_iff_ne.2 hj0
          rw [e0] at h9
          exact h9)
         have g9 := nat_pos hj0
         clear hj0 j0 j1 j2
         generalize hJ : (j : Int) = J at hw8 g9 ⊢
         clear hJ
         obtain ⟨g0, g1, g2, g3⟩ := int_pos g9
         go_wp2_with (fail)
         go_region_held2 (fun w' => (w'.cell? ⟨gl, 1, none⟩ = some (.int .i64 la))) (first | with_reducible exact hS0 | with_reducible exact hS9 | with_reducible exact hS1) (first | (go_at_call 27; (refine (same_walk A1 c1 p oA oc on _ HVe.out HVd.out).mono ?_); go_must (rintro e' v1 ⟨rfl, hb⟩; have HU1 := Lib.hid (HU.out.drew.below hb); have HVf := Lib.hid (HVd.out.below hb); have HVg := Lib.hid (HVe.out.below hb); have hS1 : (v1.cell? ⟨gl, 1, none⟩ = some (.int .i64 la)) := blk_cell HU1.out.l0 1; clear hb)) | (go_at_call 89; (refine (bad_walk hy (!sameG p on) la 8 f5 _ (at_put (HU1.out) H.out.bel hx)).mono ?_); go_must (rintro e' v2 ⟨rfl, hD⟩; have HX := Lib.hid (Ck.call (HU1.out) hD.only hD.blk); have HV9 := Lib.hid (HVg.out.only (Nat.lt_succ_self _) hD.only); have HVa := Lib.hid (HVf.out.only (Nat.lt_succ_self _) hD.only); have hS9 : (v2.cell? ⟨gl, 1, none⟩ = some (.int .i64 la)) := blk_cell HX.out.l0 1; clear hD)))
         go_wp2_with (fail)
         have HS2 := Lib.hid HX.out.drop1
         go_roundg (q.f0.length + 1 - (j + 1))
         case measure => exact ms9 hjl
         case rel => exact ⟨j + 1, oA, on, oc, _, (by first | rw [hw8] | rfl), rfl, hjl, rfl, HS2, HVa, HL4⟩
       ·have j0 : ((j : Int) < (q.f0.length : Int)) = False := eq_false (by omega)
        have j1 : decide ((j : Int) < (q.f0.length : Int)) = false := decide_eq_false (by omega)
        have hL := HL.out
        rw [List.drop_eq_nil_of_le hjg] at hL
        have hL : (on, f5) = (on9, g9) := hL
        obtain ⟨rfl, rfl⟩ := Prod.mk.inj hL
        clear HL hL
        go_wp2_with (fail)
        refine (expr_is hy k q.f2 A7 c7 on oA oc f5 f4 _ HE.out.ex HV.out (at_put HS.out H.out.bel hx) HG.out.1).mono ?_
        rintro e' w9 ⟨rfl, hD⟩
        have HS2 := Lib.hid (Ck.call HS.out hD.only hD.blk).drop1
        have HL2 := Lib.hid HG.out.2
        clear hD HG
        go_wp2_with (fail)
        go_roundg (n.f5.length + 1 - (i + 1))
        case measure => exact ms9 hlt
        case rel => exact ⟨i + 1, _, (by first | rw [hw9] | rfl), hlt, rfl, HS2, HL2⟩
     ·have hd : n.f5.drop i = [] := List.drop_eq_nil_of_le hge
      have hL := HL.out
      rw [hd] at hL
      obtain rfl : f' = r := Option.some.inj hL
      have i0 : ((i : Int) < (n.f5.length : Int)) = False := eq_false (by omega)
      have i1 : decide ((i : Int) < (n.f5.length : Int)) = false := decide_eq_false (by omega)
      clear hd hi hge HL hL
      go_wp2_with (fail)
      go_end0
      exact ⟨rfl, HS.out.only, HS.out.blk⟩
   ·have h1 : (fe == 0) = false := by simpa using hz
    have hr : some (fa, fe) = some r := by
     have h9 := HR.out
     rw [if_neg (by simpa using hz)] at h9
     exact h9
    obtain rfl := Option.some.inj hr
    clear hr HR
    go_wp2_with (fail)
    refine bodyPost_ret (results_none rfl _ _ _) rfl ?_
    exact ⟨rfl, HS.out.only, HS.out.blk⟩
end Go.Proofs.YtjafllnbgfcchaaDoor.Cl
end
