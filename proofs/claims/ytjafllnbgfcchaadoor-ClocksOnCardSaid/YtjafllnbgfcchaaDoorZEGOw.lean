/- Joined of: XCKx0, XCKx1, Ow, ClOn, ClP, Ck, ClL, ClW. -/
import Derived.Test.YtjafllnbgfcchaaDoorProg
import Derived.Test.YtjafllnbgfcchaaDoorZEXKx1
import Derived.Below
import Derived.Deep.Draws
import Derived.Deep.AppendLies
import Derived.Maps.AppendAt
import Derived.OwnWalk
import Derived.Laws.BytesArg
import Derived.Laws.MakeOwn
import Derived.Laws.OwnMore
import Derived.Deep.OwnRows
import Derived.Tactics
import Derived.Lib.ConvBytes
import Derived.Laws.Slices
import Derived.WalkKit
import Derived.KernelRfl
import Derived.RowKit3
import Derived.Deep.LoopGhost
import Derived.Deep.QuietTactic
import Derived.BigQuiet
import Derived.WideLaws
import Derived.Deep.DeepCutAuto
import Derived.Deep.CutBlock
import Derived.Deep.RegionHeld3
import Derived.Laws.Rows
import Derived.Lib.AppendStr
import Derived.ArgAppend
import Derived.Laws.IdiomCopy
import Derived.OrdersHeld
import Derived.Laws.BitsLemmas
import Derived.RowKit
import Derived.Test.YtjafllnbgfcchaaDoorZEWWords
import Derived.Test.YtjafllnbgfcchaaDoorZEWLast
import Derived.Test.YtjafllnbgfcchaaDoorZEGWTab
import Derived.Test.YtjafllnbgfcchaaDoorZEWNEv
import Derived.Test.YtjafllnbgfcchaaDoorZEWMore
import Derived.Test.YtjafllnbgfcchaaDoorZEGPEx
import Derived.Deep.DeepMust
import Derived.Test.YtjafllnbgfcchaaDoorZEFnd
import Derived.Deep.RegionHeld2
import Derived.StillTailTactics
section
-- Written by a program of this session (wip/xprint) out of the translation.
namespace Go.Proofs.YtjafllnbgfcchaaDoor.XCK
open Go.RowKit Go.Proofs.YtjafllnbgfcchaaDoorW.PrintWords Go.Proofs.YtjafllnbgfcchaaDoorW.PrintLast Go.Proofs.YtjafllnbgfcchaaDoorW.PrintMore Go.Proofs.YtjafllnbgfcchaaDoor.XK
attribute [local go_sem] max2_int min2_int max_two min_two max_three min_three max_four min_four   -- for this text's walks alone
set_option linter.unusedVariables false
set_option linter.unusedSimpArgs false

-- the values' own types
/-! #### struct type 64 -/
structure S64 where
 f0 : ByteArray
 f1 : Bool
def z64 : S64 := ⟨(⟨#[]⟩ : ByteArray), false⟩
def k64 : Kd S64 := Kd.iso (Kd.pair Kd.string Kd.bool) (fun x : S64 => (x.f0, x.f1))
theorem k64_open {w : World} {x : S64} {cs : List Value} (h : k64.K w x cs) : cs = [.string x.f0, .bool x.f1] := by
 obtain ⟨_, _, rfl, rfl, rfl⟩ := h
 exact rfl
def rd_T64 (xs : List S64) (i : Int) : S64 := xs.getD i.toNat z64
theorem at_T64 {w : World} {A : Option Addr} {n : Nat} {xs : List S64} (h : Kd.C k64 w A n xs) (i : Int) (h0 : 0 ≤ i) (h1 : i < n) : ∃ ad , A = some ad ∧ w.cell? (ad.add (i.toNat * 2)) = some (.string (rd_T64 xs i).f0) ∧ w.cell? ⟨(ad.add (i.toNat * 2)).block, (ad.add (i.toNat * 2)).off + 1, none⟩ = some (.bool (rd_T64 xs i).f1) := by
 obtain ⟨ad, c, e, _, hK, hc0⟩ := Kd.C_get h z64 i h0 h1
 have hc : ∀ j u, c[j]? = some u → w.cell? (ad.add (i.toNat * 2 + j)) = some u := hc0
 obtain rfl := k64_open hK
 exact ⟨ad, e, hc 0 _ rfl, by rw [← add_field _ _ 1 (by omega)]; exact hc 1 _ rfl⟩

end Go.Proofs.YtjafllnbgfcchaaDoor.XCK
end
section
-- Written by a program of this session (wip/xprint) out of the translation.
namespace Go.Proofs.YtjafllnbgfcchaaDoor.XCK
open Go.RowKit Go.Proofs.YtjafllnbgfcchaaDoorW.PrintWords Go.Proofs.YtjafllnbgfcchaaDoorW.PrintLast Go.Proofs.YtjafllnbgfcchaaDoorW.PrintMore Go.Proofs.YtjafllnbgfcchaaDoor.XK
attribute [local go_sem] max2_int min2_int max_two min_two max_three min_three max_four min_four   -- for this text's walks alone
set_option linter.unusedVariables false
set_option linter.unusedSimpArgs false

theorem eqA64 (d : Nat) (w : World) (x0 y0 : ByteArray) (x1 y1 : Bool) :
  (Op.equalIn (d + 2) 64 (.agg #[.string x0, .bool x1]) (.agg #[.string y0, .bool y1])).run Tryd.prog w = .ok (x0.toList == y0.toList && (x1 == y1)) w := by
 refine eqA_of Tryd.underlying64 (by kernel_rfl) ?_
 refine eqf_cons (by rfl) (by go_simp; rfl) (by go_simp; rfl) (by go_simp) ?_
 exact eqf_last (by rfl) (by go_simp; rfl) (by go_simp; rfl) (by go_simp)
end Go.Proofs.YtjafllnbgfcchaaDoor.XCK
end
section
/- What a function has made for itself: its own blocks, told with what lies in them; all older blocks as they were. -/
namespace Go.Proofs.YtjafllnbgfcchaaDoor.Ow
set_option linter.unusedVariables false
open Go Go.RowKit Go.Proofs.YtjafllnbgfcchaaDoorW.PrintWords Go.Proofs.YtjafllnbgfcchaaDoorW.PrintLast Go.Proofs.YtjafllnbgfcchaaDoorW.PrintMore Go.Proofs.YtjafllnbgfcchaaDoor.Lx Go.Proofs.YtjafllnbgfcchaaDoor.XK Go.Proofs.YtjafllnbgfcchaaDoor.Px
structure Ow (w W : World) (l : List (Nat × Obj)) : Prop where
 bel : Below w.heap.size w W
 loc : ∀ x ∈ l, w.heap.size ≤ x.1 ∧ W.heap[x.1]? = some x.2
section
variable {w W W' : World} {l : List (Nat × Obj)}
theorem Ow.start (w : World) : Ow w w [] := ⟨Below.refl _ _, fun x hx => by simp at hx⟩
theorem Ow.sz (h : Ow w W l) : w.heap.size ≤ W.heap.size := h.bel.size
theorem Ow.below (h : Ow w W l) (hb : Below W.heap.size W W') : Ow w W' l := ⟨h.bel.trans (hb.mono h.sz), fun x hx => ⟨(h.loc x hx).1, blk_below (h.loc x hx).2 hb⟩⟩
theorem Ow.drewN {n : Nat} (h : Ow w W l) : Ow w (W.drewN n) l := h.below (pw_below_drewN (Below.refl _ _) n)
theorem Ow.drew (h : Ow w W l) : Ow w W.drew l := h.below (below_drew (Below.refl _ _))
theorem Ow.newg {q : Obj} {g : Nat} (hg : W.heap.size = g) (h : Ow w W l) : Ow w (W.alloc q) ((g, q) :: l) := by
 subst hg
 exact ⟨(h.below (below_alloc (Below.refl _ _) q)).bel, fun x hx => by
  rcases List.mem_cons.1 hx with rfl | hx
  ·exact ⟨h.sz, blk_new W q⟩
  ·exact (h.below (below_alloc (Below.refl _ _) q)).loc x hx⟩
theorem Ow.new {q : Obj} (h : Ow w W l) : Ow w (W.alloc q) ((W.heap.size, q) :: l) := h.newg rfl
theorem Ow.sub {l' : List (Nat × Obj)} (hs : ∀ x ∈ l', x ∈ l) (h : Ow w W l) : Ow w W l' := ⟨h.bel, fun x hx => h.loc x (hs x hx)⟩
theorem Ow.drop1 {y : Nat × Obj} (h : Ow w W (y :: l)) : Ow w W l := h.sub fun z hz => List.mem_cons_of_mem _ hz
theorem Ow.cons {g : Nat} {q : Obj} (hg : w.heap.size ≤ g) (hb : W.heap[g]? = some q) (h : Ow w W l) : Ow w W ((g, q) :: l) := ⟨h.bel, fun x hx => by
 rcases List.mem_cons.1 hx with rfl | hx
 ·exact ⟨hg, hb⟩
 ·exact h.loc x hx⟩
theorem Ow.put {g j : Nat} {v : Value} {cs : Array Value} {t : TypeId} (h : Ow w W ((g, .cells cs t (0, 0)) :: l)) (hn : ∀ y ∈ l, y.1 ≠ g) : Ow w (W.setCell ⟨g, j, none⟩ v) ((g, .cells (cs.setIfInBounds j v) t (0, 0)) :: l) :=
 ⟨h.bel.setCell (h.loc (g, .cells cs t (0, 0)) List.mem_cons_self).1 v, fun x hx => by
  rcases List.mem_cons.1 hx with rfl | hx
  ·exact ⟨(h.loc (g, .cells cs t (0, 0)) List.mem_cons_self).1, blk_set (h.loc (g, .cells cs t (0, 0)) List.mem_cons_self).2 j v⟩
  ·exact ⟨(h.loc x (List.mem_cons_of_mem _ hx)).1, (Below.heap_setCell W ⟨g, j, none⟩ v x.1 (hn x hx)).trans (h.loc x (List.mem_cons_of_mem _ hx)).2⟩⟩
theorem Ow.l0 {g : Nat} {q : Obj} (h : Ow w W ((g, q) :: l)) : W.heap[g]? = some q := (h.loc (g, q) (by simp)).2
theorem Ow.l1 {g : Nat} {q : Obj} {y : Nat × Obj} (h : Ow w W (y :: (g, q) :: l)) : W.heap[g]? = some q := (h.loc (g, q) (by simp)).2
theorem Ow.l2 {g : Nat} {q : Obj} {y z : Nat × Obj} (h : Ow w W (z :: y :: (g, q) :: l)) : W.heap[g]? = some q := (h.loc (g, q) (by simp)).2
theorem Ow.l3 {g : Nat} {q : Obj} {y z u : Nat × Obj} (h : Ow w W (u :: z :: y :: (g, q) :: l)) : W.heap[g]? = some q := (h.loc (g, q) (by simp)).2
theorem Ow.g0 {g : Nat} {q : Obj} (h : Ow w W ((g, q) :: l)) : w.heap.size ≤ g := (h.loc (g, q) (by simp)).1
end
end Go.Proofs.YtjafllnbgfcchaaDoor.Ow
end
section
/- clocks.Clock's On, walked: a guard more, in a row of its own. -/
namespace Go.Proofs.YtjafllnbgfcchaaDoor.Cl
set_option linter.unusedVariables false
set_option linter.unusedSimpArgs false
open Go Go.RowKit Go.Proofs.YtjafllnbgfcchaaDoorW.PrintWords Go.Proofs.YtjafllnbgfcchaaDoorW.PrintLast Go.Proofs.YtjafllnbgfcchaaDoorW.PrintMore Go.Proofs.YtjafllnbgfcchaaDoor.XK Go.Proofs.YtjafllnbgfcchaaDoor.XCK Go.Proofs.YtjafllnbgfcchaaDoor.Ow Go.Proofs.YtjafllnbgfcchaaDoor.Px
attribute [local go_sem ↓] Go.wp_at_zero Go.wp_at_succ
abbrev G := S64
def gC : List G → List Value
 | [] => []
 | g :: r => .string g.f0 :: .bool g.f1 :: gC r
theorem gC_len : ∀ l : List G, (gC l).length = l.length * 2
 | [] => rfl
 | g :: r => by rw [gC, List.length_cons, List.length_cons, gC_len r, List.length_cons]; omega
theorem gC_app : ∀ l m : List G, gC (l ++ m) = gC l ++ gC m
 | [], m => rfl
 | g :: r, m => by rw [List.cons_append, gC, gC, gC_app r m]; rfl
theorem gC_get : ∀ (l : List G) (q : Nat) (u : Value), (gC l)[q]? = some u → ∃ j y i, l[j]? = some y ∧ q = j * 2 + i ∧ ([.string y.f0, .bool y.f1] : List Value)[i]? = some u
 | [], q, u, h => by simp [gC] at h
 | g :: r, 0, u, h => ⟨0, g, 0, rfl, rfl, h⟩
 | g :: r, 1, u, h => ⟨0, g, 1, rfl, rfl, h⟩
 | g :: r, q + 2, u, h => by
  obtain ⟨j, y, i, h1, h2, h3⟩ := gC_get r q u h
  exact ⟨j + 1, y, i, h1, by omega, h3⟩
theorem gM (w : World) (base : Nat) (ok : Nat → Prop) (g : G) : k64.M w base ok g [.string g.f0, .bool g.f1] := ⟨[.string g.f0], [.bool g.f1], rfl, rfl, rfl⟩
theorem gC_reps (w : World) (base : Nat) (ok : Nat → Prop) : ∀ (l ps : List G) (cs : List Value), Reps (k64.M w base ok) 2 ps cs → Reps (k64.M w base ok) 2 (ps ++ l) (cs ++ gC l)
 | [], ps, cs, h => by rw [gC, List.append_nil, List.append_nil]; exact h
 | g :: r, ps, cs, h => by
  have h2 := gC_reps w base ok r (ps ++ [g]) (cs ++ [.string g.f0, .bool g.f1]) (Reps.snoc h (gM w base ok g) rfl)
  rw [List.append_assoc, List.append_assoc] at h2
  exact h2
theorem blk_cells2 {W : World} {g : Nat} {t : TypeId} {a b : Value} (h : W.heap[g]? = some (.cells #[a, b] t (0, 0))) (j : Nat) (u : Value) (hj : ([a, b] : List Value)[j]? = some u) : W.cell? ((⟨g, 0, none⟩ : Addr).add j) = some u := by
 match j, hj with
 | 0, hj => exact (blk_cell h 0).trans hj
 | 1, hj => exact (blk_cell h 1).trans hj
 | j + 2, hj => simp at hj
theorem info_g : (Tryd.prog.info? 64).map (fun i => (i.zero, i.size, i.bytes)) = some (some (.agg #[.string ⟨#[]⟩, .bool false]), 2, 24) := by kernel_rfl
set_option maxHeartbeats 4000000 in
set_option maxRecDepth 100000 in
theorem on_walk (A0 : Option Addr) (c0 : Nat) (l0 : List G) (a1 : ByteArray) (a2 : Bool) (w : World) (hr0 : Kd.C k64 w A0 l0.length l0) (hc0 : l0.length ≤ c0) (hs : l0.length ≤ 1000000) :
  Calls Tryd.prog 26 #[.slice A0 l0.length c0, .string a1, .bool a2] w fun e w' => ∃ v0_ : Value, e = .returned v0_ ∧ Kd.R k64 64 w' w.heap.size (fun _ => True) v0_ (l0 ++ [⟨a1, a2⟩]) ∧ Below w.heap.size w w' := by
 have hread : ∀ b, A0 = some b → ∀ q u, (gC l0)[q]? = some u → w.cell? (b.add q) = some u := by
  intro b hb q u hu
  obtain ⟨j, y, i, h1, h2, h3⟩ := gC_get l0 q u hu
  obtain ⟨ad, had, hcell⟩ := hr0.2.2 (by have := (List.getElem?_eq_some_iff.1 h1).1; omega)
  obtain rfl : ad = b := Option.some.inj (had.symm.trans hb)
  obtain ⟨c, _, hR, hcs⟩ := hcell j y h1
  have hc := k64_open hR
  rw [hc] at hcs
  rw [h2]
  exact hcs i u h3
 have hnone : A0 = none → l0.length = 0 ∧ l0.length = 0 := by
  intro h
  cases l0 with
  | nil => exact ⟨rfl, rfl⟩
  | cons g r =>
   obtain ⟨ad, had, _⟩ := hr0.2.2 (by simp)
   rw [h] at had
   cases had
 have HR := Lib.hid (And.intro hread hnone)
 clear hread hnone hr0
 obtain ⟨i, hi, hz, hsz, hby⟩ : ∃ i, Tryd.prog.info? 64 = some i ∧ i.zero = some (.agg #[.string ⟨#[]⟩, .bool false]) ∧ i.size = 2 ∧ i.bytes = 24 := by
  have h := info_g
  cases hx : Tryd.prog.info? 64 with
  | none => rw [hx] at h; cases h
  | some i =>
   rw [hx] at h
   simp only [Option.map_some, Option.some.injEq, Prod.mk.injEq] at h
   exact ⟨i, rfl, h.1, h.2.1, h.2.2⟩
 have HI := Lib.hid (And.intro hi (And.intro hz (And.intro hsz hby)))
 clear hi hz hsz hby
 have HO := Lib.hid ((Ow.start w).new (q := .cells #[.string a1, .bool a2] 64 (0, 0)))
 go_enter Tryd.func26, Tryd.ntmps26
 go_wp2_with (first | (refine gate_builtin (b := .append) (xs := #[.tmp 12, .tmp 16]) rfl ?_; refine wpList_append_grows _ rfl (.tmp 12) (.tmp 16) 61 rfl 64 i (.agg #[.string ⟨#[]⟩, .bool false]) 2 24 Tryd.underlying61 HI.out.1 HI.out.2.1 HI.out.2.2.1 HI.out.2.2.2 rfl (by decide) A0 l0.length l0.length (gC l0) rfl HR.out.2 (gC_len l0) (fun b hb q u hu => pw_cell_below HO.out.bel (HR.out.1 b hb q u hu)) ⟨w.heap.size, 0, none⟩ 1 1 [.string a1, .bool a2] rfl rfl (fun j u hj => (blk_cells2 HO.out.l0 j u hj)) (by intro u hu; simp at hu; rcases hu with rfl | rfl <;> rfl) (by omega) (by unfold maxLen; omega) (by omega) ?_; intro v' w2 hown hgr))
 go_ret
 have hlen : (l0 ++ [(⟨a1, a2⟩ : G)]).length = l0.length + 1 := by simp
 have hsz := HO.out.sz
 have hown2 := own_weaken hown hsz
 rw [← hlen] at hown2
 have hrep := gC_reps w2 w.heap.size (fun k => True ∧ some k ≠ v'.ownBlock) (l0 ++ [⟨a1, a2⟩]) [] [] (Reps.none _ _)
 rw [List.nil_append, List.nil_append, gC_app] at hrep
 exact ⟨v', rfl, ⟨fun _ _ => trivial, _, hown2, hrep⟩, HO.out.bel.trans (Below.mono ⟨hgr.os, hgr.tape, hgr.output, hgr.size, fun k hk => hgr.block k hk (by simp)⟩ hsz)⟩
end Go.Proofs.YtjafllnbgfcchaaDoor.Cl
end
section
/- The checker of clocks as plain functions over trees: no memory in sight. -/
namespace Go.Proofs.YtjafllnbgfcchaaDoor.Cl
set_option linter.unusedVariables false
set_option linter.unusedSimpArgs false
open Go Go.RowKit Go.Proofs.YtjafllnbgfcchaaDoor.XK
abbrev E := S43
abbrev D := S39
abbrev N := S34
abbrev Q := S45
abbrev F := Int × Int
def bad (is : Bool) (a e : Int) (f : F) : F := if is && f.2 == 0 then (a, e) else f
def find (m : ByteArray) : List D → Option D
 | [] => none
 | d :: r => if Fnd.sameB d.f0 m then some d else find m r
def named (n : N) (m : ByteArray) : Option D := find m (n.f2 ++ n.f3 ++ n.f4)
def namedD (n : N) (m : ByteArray) : D := (named n m).getD z39
def callee (l : List N) (m : ByteArray) : N := (Fnd.findN l m).getD z34
def ofC (n : N) : Nat → ByteArray → List G × Bool
 | 0, m => ([], (namedD n m).f3.data.toList == [])
 | k + 1, m => if (namedD n m).f3.data.toList == [] then ([], true) else ((ofC n k (namedD n m).f3).1 ++ [⟨(namedD n m).f3, (namedD n m).f4⟩], (ofC n k (namedD n m).f3).2)
def ofN (n : N) (m : ByteArray) : List G × Bool := ofC n (n.f2 ++ n.f3 ++ n.f4).length m
def sameG : List G → List G → Bool
 | [], [] => true
 | a :: l, b :: r => Fnd.sameB a.f0 b.f0 && a.f1 == b.f1 && sameG l r
 | _, _ => false
theorem sameG_len : ∀ a b : List G, sameG a b = true → a.length = b.length
 | [], [], _ => rfl
 | a :: l, b :: r, h => by
  rw [sameG, Bool.and_eq_true] at h
  rw [List.length_cons, List.length_cons, sameG_len l r h.2]
 | [], _ :: _, h => by cases h
 | _ :: _, [], h => by cases h
theorem ofC_len (n : N) : ∀ k m, (ofC n k m).1.length ≤ k
 | 0, m => Nat.le_refl _
 | k + 1, m => by
  rw [ofC]
  split
  ·exact Nat.zero_le _
  ·rw [List.length_append]
   exact Nat.succ_le_succ (ofC_len n k _)
abbrev Ex := E → List G → F → Option F
def kidsC (ex : Ex) (on : List G) : List E → F → Option F
 | [], f => some f
 | e :: r, f => (ex e on f).bind fun f1 => kidsC ex on r f1
def insC (ex : Ex) (on : List G) : List D → List E → F → Option F
 | [], _, f => some f
 | d :: r, ks, f => if d.f2.f1 then insC ex on r ks.tail f else match ks with
  | [] => none
  | k :: ks' => (ex k on f).bind fun f1 => insC ex on r ks' f1
def callC (ex : Ex) (l : List N) (e : E) (on : List G) (f : F) : Option F := insC ex on (callee l e.f3).f2 e.f5 f
def exprK (ex : Ex) (l : List N) (n : N) (e : E) (on : List G) (f : F) : Option F :=
 if 1000000 < on.length then none
 else if e.f0 = 3 then some (bad (!sameG (ofN n e.f3).1 on) e.f1 8 f)
 else if e.f0 = 11 then kidsC ex (ofN n e.f3).1 e.f5 (bad (!sameG ((ofN n e.f3).1 ++ [⟨e.f3, e.f4⟩]) on) e.f1 8 f)
 else if e.f0 = 12 then match e.f5 with
  | a :: b :: _ => (ex a (on ++ [⟨e.f3, false⟩]) (bad (!sameG (ofN n e.f3).1 on) e.f1 8 f)).bind fun f1 => ex b (on ++ [⟨e.f3, true⟩]) f1
  | _ => none
 else if e.f0 = 14 then some (bad (decide (0 < on.length)) e.f1 8 f)
 else if e.f0 = 13 then callC ex l e on f
 else kidsC ex on e.f5 f
def expr : Nat → List N → N → Ex
 | 0, _, _ => fun _ _ _ => none
 | k + 1, l, n => exprK (expr k l n) l n
def varsC (n : N) : List D → F → F
 | [], f => f
 | d :: r, f => varsC n r (bad (!(ofN n d.f0).2) d.f1 10 f)
def leftC (n : N) : List S47 → Bool → List G → F → List G × F
 | [], _, on, f => (on, f)
 | x :: r, first, on, f => leftC n r false (if first then (ofN n x.f0).1 else on) (bad (!first && !sameG (ofN n x.f0).1 on) x.f1 8 f)
def eqsC (ex : Ex) (n : N) : List Q → F → Option F
 | [], f => some f
 | q :: r, f => (ex q.f2 (leftC n q.f0 true [] f).1 (leftC n q.f0 true [] f).2).bind fun f1 => eqsC ex n r f1
def node (k : Nat) (l : List N) (n : N) (f : F) : Option F :=
 if 1000000 < n.f2.length + n.f3.length + n.f4.length then none
 else if (varsC n n.f4 f).2 == 0 then eqsC (expr k l n) n n.f5 (varsC n n.f4 f) else some (varsC n n.f4 f)
def nodesC (k : Nat) (l : List N) : List N → F → Option F
 | [], f => some f
 | n :: r, f => (node k l n f).bind fun f1 => nodesC k l r f1
def check (k : Nat) (l : List N) : Option F := nodesC k l l (0, 0)
end Go.Proofs.YtjafllnbgfcchaaDoor.Cl
end
section
/- A checker in memory: one block that its methods change; what it reads is older than it. -/
namespace Go.Proofs.YtjafllnbgfcchaaDoor.Ck
set_option linter.unusedVariables false
open Go Go.RowKit Go.Proofs.YtjafllnbgfcchaaDoorW.PrintWords Go.Proofs.YtjafllnbgfcchaaDoorW.PrintLast Go.Proofs.YtjafllnbgfcchaaDoorW.PrintMore Go.Proofs.YtjafllnbgfcchaaDoor.Lx Go.Proofs.YtjafllnbgfcchaaDoor.XK Go.Proofs.YtjafllnbgfcchaaDoor.Px
structure Ck (c : Nat) (w W : World) (o : Obj) (l : List (Nat × Obj)) : Prop where
 only : Only c w W
 blk : W.heap[c]? = some o
 lc : c < w.heap.size
 loc : ∀ x ∈ l, w.heap.size ≤ x.1 ∧ W.heap[x.1]? = some x.2
section
variable {c : Nat} {w W W' : World} {o o' : Obj} {l : List (Nat × Obj)}
theorem Ck.start (h : w.heap[c]? = some o) : Ck c w w o [] := ⟨Only.refl _ _, h, blk_lt h, fun x hx => by simp at hx⟩
theorem Ck.sz (h : Ck c w W o l) : w.heap.size ≤ W.heap.size := h.only.size
theorem Ck.below (h : Ck c w W o l) (hb : Below W.heap.size W W') : Ck c w W' o l :=
 ⟨h.only.trans (Only.of_below hb), blk_below h.blk hb, h.lc, fun x hx => ⟨(h.loc x hx).1, blk_below (h.loc x hx).2 hb⟩⟩
theorem Ck.alloc {q : Obj} (h : Ck c w W o l) : Ck c w (W.alloc q) o l := h.below (below_alloc (Below.refl _ _) q)
theorem Ck.drewN {n : Nat} (h : Ck c w W o l) : Ck c w (W.drewN n) o l := h.below (pw_below_drewN (Below.refl _ _) n)
theorem Ck.drew (h : Ck c w W o l) : Ck c w W.drew o l := h.below (below_drew (Below.refl _ _))
theorem Ck.new {q : Obj} (h : Ck c w W o l) : Ck c w (W.alloc q) o ((W.heap.size, q) :: l) :=
 ⟨h.alloc.only, h.alloc.blk, h.lc, fun x hx => by
  rcases List.mem_cons.1 hx with rfl | hx
  ·exact ⟨h.sz, blk_new W q⟩
  ·exact h.alloc.loc x hx⟩
theorem Ck.newg {q : Obj} {g : Nat} (hg : W.heap.size = g) (h : Ck c w W o l) : Ck c w (W.alloc q) o ((g, q) :: l) := by
 subst hg
 exact h.new
theorem Ck.store {g j : Nat} {v : Value} (hg : w.heap.size ≤ g) (hn : ∀ x ∈ l, x.1 ≠ g) (h : Ck c w W o l) : Ck c w (W.setCell ⟨g, j, none⟩ v) o l :=
 ⟨h.only.store hg j v, (Below.heap_setCell W ⟨g, j, none⟩ v c (by have := h.lc; show c ≠ g; omega)).trans h.blk, h.lc, fun x hx => ⟨(h.loc x hx).1, (Below.heap_setCell W ⟨g, j, none⟩ v x.1 (hn x hx)).trans (h.loc x hx).2⟩⟩
theorem Ck.call (h : Ck c w W o l) (hO : Only c W W') (hb : W'.heap[c]? = some o') : Ck c w W' o' l :=
 ⟨h.only.trans hO, hb, h.lc, fun x hx => ⟨(h.loc x hx).1, hO.blk (h.loc x hx).2 (by have := (h.loc x hx).1; have := h.lc; omega)⟩⟩
theorem Ck.put {cs : Array Value} {t : TypeId} (h : Ck c w W (.cells cs t (0, 0)) l) (j : Nat) (v : Value) : Ck c w (W.setCell ⟨c, j, none⟩ v) (.cells (cs.setIfInBounds j v) t (0, 0)) l :=
 ⟨⟨h.only.os, h.only.tape, h.only.output, by simpa [World.setCell] using h.only.size, fun i hi hn => (Below.heap_setCell W ⟨c, j, none⟩ v i hn).trans (h.only.keep i hi hn)⟩, blk_set h.blk j v, h.lc, fun x hx => ⟨(h.loc x hx).1, (Below.heap_setCell W ⟨c, j, none⟩ v x.1 (by have := (h.loc x hx).1; have := h.lc; show x.1 ≠ c; omega)).trans (h.loc x hx).2⟩⟩
theorem Ck.sub {l' : List (Nat × Obj)} (hs : ∀ x ∈ l', x ∈ l) (h : Ck c w W o l) : Ck c w W o l' := ⟨h.only, h.blk, h.lc, fun x hx => h.loc x (hs x hx)⟩
theorem Ck.nil (h : Ck c w W o l) : Ck c w W o [] := h.sub (fun x hx => by simp at hx)
theorem Ck.cons {g : Nat} {q : Obj} (hg : w.heap.size ≤ g) (hb : W.heap[g]? = some q) (h : Ck c w W o l) : Ck c w W o ((g, q) :: l) :=
 ⟨h.only, h.blk, h.lc, fun x hx => by
  rcases List.mem_cons.1 hx with rfl | hx
  ·exact ⟨hg, hb⟩
  ·exact h.loc x hx⟩
theorem Ck.l0 {g : Nat} {q : Obj} (h : Ck c w W o ((g, q) :: l)) : W.heap[g]? = some q := (h.loc (g, q) (by simp)).2
theorem Ck.l1 {g : Nat} {q : Obj} {y : Nat × Obj} (h : Ck c w W o (y :: (g, q) :: l)) : W.heap[g]? = some q := (h.loc (g, q) (by simp)).2
theorem Ck.l2 {g : Nat} {q : Obj} {y z : Nat × Obj} (h : Ck c w W o (z :: y :: (g, q) :: l)) : W.heap[g]? = some q := (h.loc (g, q) (by simp)).2
theorem Ck.l3 {g : Nat} {q : Obj} {y z u : Nat × Obj} (h : Ck c w W o (u :: z :: y :: (g, q) :: l)) : W.heap[g]? = some q := (h.loc (g, q) (by simp)).2
theorem Ck.g0 {g : Nat} {q : Obj} (h : Ck c w W o ((g, q) :: l)) : w.heap.size ≤ g := (h.loc (g, q) (by simp)).1
theorem Ck.g1 {g : Nat} {q : Obj} {y : Nat × Obj} (h : Ck c w W o (y :: (g, q) :: l)) : w.heap.size ≤ g := (h.loc (g, q) (by simp)).1
theorem Only.below {n : Nat} (h : Only c w W) (hn : n ≤ c) (hs : n ≤ w.heap.size) : Below n w W := ⟨h.os, h.tape, h.output, h.size, fun i hi => h.keep i (by omega) (by omega)⟩
end
theorem Ck.old {c : Nat} {w0 w W : World} {o : Obj} {l : List (Nat × Obj)} (h : Ck c w W o l) (hb : Below w0.heap.size w0 w) (hc : w0.heap.size ≤ c) : Below w0.heap.size w0 W := hb.trans (Only.below h.only hc hb.size)
end Go.Proofs.YtjafllnbgfcchaaDoor.Ck
end
section
/- The checker of clocks in memory; its smallest methods, walked. -/
namespace Go.Proofs.YtjafllnbgfcchaaDoor.Cl
set_option linter.unusedVariables false
set_option linter.unusedSimpArgs false
open Go Go.RowKit Go.Proofs.YtjafllnbgfcchaaDoorW.PrintWords Go.Proofs.YtjafllnbgfcchaaDoorW.PrintLast Go.Proofs.YtjafllnbgfcchaaDoorW.PrintMore Go.Proofs.YtjafllnbgfcchaaDoor.Lx Go.Proofs.YtjafllnbgfcchaaDoor.XK Go.Proofs.YtjafllnbgfcchaaDoor.XCK Go.Proofs.YtjafllnbgfcchaaDoor.Px Go.Proofs.YtjafllnbgfcchaaDoor.Ck
attribute [local go_sem ↓] Go.wp_at_zero Go.wp_at_succ
structure Ctx where
 w0 : World
 c : Nat
 A : Option Addr
 cap : Nat
 l : List N
 n : N
 A2 : Option Addr
 c2 : Nat
 A3 : Option Addr
 c3 : Nat
 A4 : Option Addr
 c4 : Nat
 A5 : Option Addr
 c5 : Nat
structure Ctx.Ok (x : Ctx) : Prop where
 hc : x.w0.heap.size ≤ x.c
 hl : Kd.C k34 x.w0 x.A x.l.length x.l
 hlc : x.l.length ≤ x.cap
 h2 : Kd.C k39 x.w0 x.A2 x.n.f2.length x.n.f2
 m2 : x.n.f2.length ≤ x.c2
 h3 : Kd.C k39 x.w0 x.A3 x.n.f3.length x.n.f3
 m3 : x.n.f3.length ≤ x.c3
 h4 : Kd.C k39 x.w0 x.A4 x.n.f4.length x.n.f4
 m4 : x.n.f4.length ≤ x.c4
 h5 : Kd.C k45 x.w0 x.A5 x.n.f5.length x.n.f5
 m5 : x.n.f5.length ≤ x.c5
 few : x.n.f2.length + x.n.f3.length + x.n.f4.length ≤ 1000000
abbrev Ctx.obj (x : Ctx) (f : F) : Obj := .cells #[.slice x.A x.l.length x.cap, .string x.n.f0, .int .i64 x.n.f1, .slice x.A2 x.n.f2.length x.c2, .slice x.A3 x.n.f3.length x.c3, .slice x.A4 x.n.f4.length x.c4, .slice x.A5 x.n.f5.length x.c5, .int .i64 f.1, .int .i64 f.2] 118 (0, 0)
structure At (x : Ctx) (w : World) (f : F) : Prop where
 blk : w.heap[x.c]? = some (x.obj f)
 bel : Below x.w0.heap.size x.w0 w
structure Does (x : Ctx) (f : F) (w w' : World) : Prop where
 only : Only x.c w w'
 blk : w'.heap[x.c]? = some (x.obj f)
theorem At.step {x : Ctx} {w w' : World} {f f' : F} (h : At x w f) (hx : x.Ok) (d : Does x f' w w') : At x w' f' := ⟨d.blk, h.bel.trans (Only.below d.only hx.hc h.bel.size)⟩
theorem At.below {x : Ctx} {w w' : World} {f : F} (h : At x w f) (hb : Below w.heap.size w w') : At x w' f := ⟨blk_below h.blk hb, h.bel.trans (hb.mono h.bel.size)⟩
theorem Does.trans {x : Ctx} {w w1 w2 : World} {f f' : F} (h : Does x f w w1) (k : Does x f' w1 w2) : Does x f' w w2 := ⟨h.only.trans k.only, k.blk⟩
theorem Does.below {x : Ctx} {w w1 w2 : World} {f : F} (h : Does x f w w1) (hb : Below w1.heap.size w1 w2) : Does x f w w2 := ⟨h.only.trans (Only.of_below hb), blk_below h.blk hb⟩
theorem Does.refl {x : Ctx} {w : World} {f : F} (h : At x w f) : Does x f w w := ⟨Only.refl _ _, h.blk⟩
theorem At.ck {x : Ctx} {w : World} {f : F} (h : At x w f) : Ck x.c w w (x.obj f) [] := Ck.start h.blk
theorem At.of_ck {x : Ctx} {w W : World} {f f' : F} {l : List (Nat × Obj)} (h : At x w f) (hx : x.Ok) (k : Ck x.c w W (x.obj f') l) : At x W f' := h.step hx ⟨k.only, k.blk⟩
theorem Does.of_ck {x : Ctx} {w W : World} {f : F} {l : List (Nat × Obj)} (k : Ck x.c w W (x.obj f) l) : Does x f w W := ⟨k.only, k.blk⟩
theorem Ck.does {x : Ctx} {w W W' : World} {f f' : F} {l : List (Nat × Obj)} (k : Ck x.c w W (x.obj f) l) (d : Does x f' W W') : Ck x.c w W' (x.obj f') l := k.call d.only d.blk
theorem _root_.Go.Proofs.YtjafllnbgfcchaaDoor.Ck.Ck.two {c : Nat} {w W : World} {o : Obj} {l : List (Nat × Obj)} (h : Ck c w W o l) (p q : Obj) : Ck c w ((W.alloc p).alloc q) o ((W.heap.size + 1, q) :: (W.heap.size, p) :: l) := (h.new (q := p)).newg (g := W.heap.size + 1) (by simp)
theorem blk9 {W : World} {g : Nat} {t : TypeId} {a0 a1 a2 a3 a4 a5 a6 a7 a8 : Value} (h : W.heap[g]? = some (.cells #[a0, a1, a2, a3, a4, a5, a6, a7, a8] t (0, 0))) :
  W.cell? ⟨g, 0, none⟩ = some a0 ∧ W.cell? ⟨g, 1, none⟩ = some a1 ∧ W.cell? ⟨g, 2, none⟩ = some a2 ∧ W.cell? ⟨g, 3, none⟩ = some a3 ∧ W.cell? ⟨g, 4, none⟩ = some a4 ∧ W.cell? ⟨g, 5, none⟩ = some a5 ∧ W.cell? ⟨g, 6, none⟩ = some a6 ∧ W.cell? ⟨g, 7, none⟩ = some a7 ∧ W.cell? ⟨g, 8, none⟩ = some a8 ∧ ∀ j, W.frozen? ⟨g, j, none⟩ = false :=
 ⟨blk_cell h 0, blk_cell h 1, blk_cell h 2, blk_cell h 3, blk_cell h 4, blk_cell h 5, blk_cell h 6, blk_cell h 7, blk_cell h 8, fun j => blk_frozen h j⟩
abbrev exA (e : E) (A : Option Addr) (c : Nat) : Value := .agg #[.int .i64 e.f0, .int .i64 e.f1, .int .i64 e.f2, .string e.f3, .bool e.f4, .slice A e.f5.length c]
structure ExAt (w0 : World) (e : E) (A : Option Addr) (c : Nat) : Prop where
 kids : Kd.C k43 w0 A e.f5.length e.f5
 room : e.f5.length ≤ c
theorem kid_at {w0 : World} {e : E} {A : Option Addr} {c : Nat} (h : ExAt w0 e A c) (i : Nat) (k : E) (hk : e.f5[i]? = some k) : ∃ ad A' c', A = some ad ∧ w0.cell? (ad.add (i * 6)) = some (.int .i64 k.f0) ∧
  w0.cell? ⟨(ad.add (i * 6)).block, (ad.add (i * 6)).off + 1, none⟩ = some (.int .i64 k.f1) ∧ w0.cell? ⟨(ad.add (i * 6)).block, (ad.add (i * 6)).off + 2, none⟩ = some (.int .i64 k.f2) ∧
  w0.cell? ⟨(ad.add (i * 6)).block, (ad.add (i * 6)).off + 3, none⟩ = some (.string k.f3) ∧ w0.cell? ⟨(ad.add (i * 6)).block, (ad.add (i * 6)).off + 4, none⟩ = some (.bool k.f4) ∧
  w0.cell? ⟨(ad.add (i * 6)).block, (ad.add (i * 6)).off + 5, none⟩ = some (.slice A' k.f5.length c') ∧ ExAt w0 k A' c' := by
 have hlt := (List.getElem?_eq_some_iff.1 hk).1
 obtain ⟨ad, A', c', e1, hx0, hx1, hx2, hx3, hx4, hx5, hl, hC⟩ := at_T43 h.kids (i : Int) (by omega) (by omega)
 have hr : rd_T43 e.f5 (i : Int) = k := by
  unfold rd_T43
  simp [hk]
 rw [hr] at hx0 hx1 hx2 hx3 hx4 hx5 hl hC
 simp only [Int.toNat_natCast] at hx0 hx1 hx2 hx3 hx4 hx5
 exact ⟨ad, A', c', e1, hx0, hx1, hx2, hx3, hx4, hx5, hC, hl⟩
set_option maxHeartbeats 4000000 in
theorem bad_walk {x : Ctx} (hx : x.Ok) (is : Bool) (a e : Int) (f : F) (w : World) (h : At x w f) :
  Calls Tryd.prog 89 #[.pointer (some ⟨x.c, 0, none⟩), .bool is, .int .i64 a, .int .i64 e] w fun e' w' => e' = .returned (.tuple #[]) ∧ Does x (bad is a e f) w w' := by
 obtain ⟨r0, r1, r2, r3, r4, r5, r6, r7, r8, rf⟩ := blk9 h.blk
 have H := Lib.hid h
 have rl := blk_lt h.blk
 clear h
 obtain ⟨fa, fe⟩ := f
 go_enter Tryd.func89, Tryd.ntmps89
 cases is with
 | false =>
  go_wp2_with (fail)
  go_end0
  exact ⟨rfl, Does.refl H.out⟩
 | true =>
  by_cases hz : fe = 0
  ·subst hz
   go_wp2_with (fail)
   go_end0
   have h2 : bad true a e (fa, 0) = (a, e) := rfl
   rw [h2]
   exact ⟨rfl, Does.of_ck (x := x) (f := (a, e)) ((H.out.ck.put 7 _).put 8 _)⟩
  ·have h1 : (fe == 0) = false := by simpa using hz
   go_wp2_with (fail)
   go_end0
   have h2 : bad true a e (fa, fe) = (fa, fe) := by unfold bad; rw [if_neg (by simp only [h1]; decide)]
   rw [h2]
   exact ⟨rfl, Does.refl H.out⟩
def dcT (d : D) (b : Bool) : ByteArray × Int × Bool × Bool × ByteArray × Bool × Bool := (d.f0, d.f1, d.f2.f0, d.f2.f1, d.f3, d.f4, b)
theorem rd_drop (L : List D) (i : Nat) (h : i < L.length) : L.drop i = rd_T39 L (i : Int) :: L.drop (i + 1) := by
 rw [List.drop_eq_getElem_cons h]
 unfold rd_T39
 simp [h]
theorem named_l0 (m : ByteArray) (L : List D) (hL : L.length ≤ 1000000) : ∀ q i : Nat, L.length - i = q → i ≤ L.length → tree_Named.l0 (q + 1) m L (L.length : Int) (i : Int) = some (match find m (L.drop i) with
  | some d => dcT d true
  | none => dcT z39 false)
 | 0, i, hq, hi => by
  have e : L.drop i = [] := List.drop_eq_nil_of_le (by omega)
  rw [e, tree_Named.l0, if_neg (by omega)]
  rfl
 | q + 1, i, hq, hi => by
  have hlt : i < L.length := by omega
  have hw : wrap64 ((i : Int) + 1) = ((i + 1 : Nat) : Int) := by unfold wrap64; omega
  rw [tree_Named.l0, if_pos (by omega), if_pos (by omega), if_pos (by omega), rd_drop L i hlt, find]
  by_cases hs : (rd_T39 L (i : Int)).f0.toList = m.toList
  ·rw [if_pos hs, if_pos (by rw [Fnd.sameB, ← Fnd.toList_data, ← Fnd.toList_data, hs]; simp)]
   rfl
  ·rw [if_neg hs, if_neg (by rw [Fnd.sameB, ← Fnd.toList_data, ← Fnd.toList_data]; simpa using hs), hw]
   exact named_l0 m L hL q (i + 1) (by omega) (by omega)
theorem named_f (n : N) (m : ByteArray) (hf : n.f2.length + n.f3.length + n.f4.length ≤ 1000000) : ∃ k, tree_Named.f k n.f0 n.f1 n.f2 n.f3 n.f4 n.f5 m = some (dcT (namedD n m) (named n m).isSome) := by
 refine ⟨(n.f2 ++ n.f3 ++ n.f4).length + 1, ?_⟩
 have hL : (n.f2 ++ n.f3 ++ n.f4).length ≤ 1000000 := by simp only [List.length_append]; omega
 have hA : tree_All.f n.f0 n.f1 n.f2 n.f3 n.f4 n.f5 = some (n.f2 ++ n.f3 ++ n.f4) := by
  unfold tree_All.f
  rw [Option.bind_some, if_pos (by simp only [List.length_nil]; omega), Option.bind_some, if_pos (by simp only [List.length_append, List.length_nil]; omega), Option.bind_some, if_pos (by simp only [List.length_append, List.length_nil]; omega)]
  simp
 have h := named_l0 m _ hL (n.f2 ++ n.f3 ++ n.f4).length 0 (by omega) (by omega)
 rw [tree_Named.f, hA, Option.bind_some]
 refine h.trans ?_
 rw [List.drop_zero]
 unfold namedD named
 cases find m (n.f2 ++ n.f3 ++ n.f4) <;> rfl
theorem named_walk {x : Ctx} (hx : x.Ok) (m : ByteArray) (w : World) (hb : Below x.w0.heap.size x.w0 w) :
  Calls Tryd.prog 93 #[.agg #[.string x.n.f0, .int .i64 x.n.f1, .slice x.A2 x.n.f2.length x.c2, .slice x.A3 x.n.f3.length x.c3, .slice x.A4 x.n.f4.length x.c4, .slice x.A5 x.n.f5.length x.c5], .string m] w fun e w' =>
   e = .returned (.tuple #[.agg #[.string (namedD x.n m).f0, .int .i64 (namedD x.n m).f1, .bool (namedD x.n m).f2.f0, .bool (namedD x.n m).f2.f1, .string (namedD x.n m).f3, .bool (namedD x.n m).f4], .bool (named x.n m).isSome]) ∧ Below w.heap.size w w' := by
 obtain ⟨k, hk⟩ := named_f x.n m hx.few
 exact tree_Named.calls k _ _ _ _ _ _ _ _ _ _ _ _ _ _ m _ _ _ _ _ _ _ w (Kd.C_below hx.h2 hb) hx.m2 (Kd.C_below hx.h3 hb) hx.m3 (Kd.C_below hx.h4 hb) hx.m4 (Kd.C_below hx.h5 hb) hx.m5 hk
abbrev dcO (d : D) : Obj := .cells #[.string d.f0, .int .i64 d.f1, .bool d.f2.f0, .bool d.f2.f1, .string d.f3, .bool d.f4] 39 (0, 0)
theorem drop_at {α : Type} {l : List α} {i : Nat} (h : i < l.length) : ∃ k, l[i]? = some k ∧ l.drop i = k :: l.drop (i + 1) := ⟨l[i], by simp [h], List.drop_eq_getElem_cons h⟩
theorem _root_.Go.Proofs.YtjafllnbgfcchaaDoor.Ck.Ck.drop1 {c : Nat} {w W : World} {o : Obj} {y : Nat × Obj} {l : List (Nat × Obj)} (h : Ck c w W o (y :: l)) : Ck c w W o l := h.sub (fun z hz => List.mem_cons_of_mem _ hz)
theorem _root_.Go.Proofs.YtjafllnbgfcchaaDoor.Ck.Ck.st6 {c g : Nat} {w W : World} {o : Obj} {l : List (Nat × Obj)} (hn : ∀ y ∈ l, y.1 ≠ g) (hg : w.heap.size ≤ g) (h : Ck c w W o l) (v0 v1 v2 v3 v4 v5 : Value) :
  Ck c w ((((((W.setCell ⟨g, 0, none⟩ v0).setCell ⟨g, 1, none⟩ v1).setCell ⟨g, 2, none⟩ v2).setCell ⟨g, 3, none⟩ v3).setCell ⟨g, 4, none⟩ v4).setCell ⟨g, 5, none⟩ v5) o l :=
 Ck.store hg hn (Ck.store hg hn (Ck.store hg hn (Ck.store hg hn (Ck.store hg hn (Ck.store hg hn h)))))
theorem _root_.Go.Proofs.YtjafllnbgfcchaaDoor.Ck.Ck.set6 {c g : Nat} {w W : World} {o : Obj} {l : List (Nat × Obj)} {t : TypeId} {a0 a1 a2 a3 a4 a5 : Value} (h : Ck c w W o ((g, .cells #[a0, a1, a2, a3, a4, a5] t (0, 0)) :: l)) (hn : ∀ y ∈ l, y.1 ≠ g) (v0 v1 v2 v3 v4 v5 : Value) :
  Ck c w ((((((W.setCell ⟨g, 0, none⟩ v0).setCell ⟨g, 1, none⟩ v1).setCell ⟨g, 2, none⟩ v2).setCell ⟨g, 3, none⟩ v3).setCell ⟨g, 4, none⟩ v4).setCell ⟨g, 5, none⟩ v5) o ((g, .cells #[v0, v1, v2, v3, v4, v5] t (0, 0)) :: l) :=
 Ck.cons h.g0 (blk_set6 h.l0 v0 v1 v2 v3 v4 v5) (Ck.st6 hn h.g0 h.drop1 v0 v1 v2 v3 v4 v5)
structure NdAt (w0 : World) (m : N) (B2 : Option Addr) (b2 : Nat) (B3 : Option Addr) (b3 : Nat) (B4 : Option Addr) (b4 : Nat) (B5 : Option Addr) (b5 : Nat) : Prop where
 h2 : Kd.C k39 w0 B2 m.f2.length m.f2
 m2 : m.f2.length ≤ b2
 h3 : Kd.C k39 w0 B3 m.f3.length m.f3
 m3 : m.f3.length ≤ b3
 h4 : Kd.C k39 w0 B4 m.f4.length m.f4
 m4 : m.f4.length ≤ b4
 h5 : Kd.C k45 w0 B5 m.f5.length m.f5
 m5 : m.f5.length ≤ b5
abbrev ndO (m : N) (B2 : Option Addr) (b2 : Nat) (B3 : Option Addr) (b3 : Nat) (B4 : Option Addr) (b4 : Nat) (B5 : Option Addr) (b5 : Nat) : Obj := .cells #[.string m.f0, .int .i64 m.f1, .slice B2 m.f2.length b2, .slice B3 m.f3.length b3, .slice B4 m.f4.length b4, .slice B5 m.f5.length b5] 34 (0, 0)
theorem callee_walk {x : Ctx} (hx : x.Ok) (nm : ByteArray) (w : World) (hb : Below x.w0.heap.size x.w0 w) :
  Calls Tryd.prog 86 #[.slice x.A x.l.length x.cap, .string nm] w fun e w' => ∃ B2 b2 B3 b3 B4 b4 B5 b5, e = .returned (.tuple #[.agg #[.string (callee x.l nm).f0, .int .i64 (callee x.l nm).f1, .slice B2 (callee x.l nm).f2.length b2, .slice B3 (callee x.l nm).f3.length b3, .slice B4 (callee x.l nm).f4.length b4, .slice B5 (callee x.l nm).f5.length b5], .bool (Fnd.findN x.l nm).isSome]) ∧
   NdAt x.w0 (callee x.l nm) B2 b2 B3 b3 B4 b4 B5 b5 ∧ Below w.heap.size w w' := by
 refine (Fnd.find_walk x.A x.cap x.l nm x.w0 w hb hx.hl hx.hlc).mono ?_
 rintro e w' ⟨hb, hm⟩
 unfold callee
 cases hf : Fnd.findN x.l nm with
 | none =>
  rw [hf] at hm
  exact ⟨none, 0, none, 0, none, 0, none, 0, hm, ⟨Kd.C_nil _ _, Nat.le_refl _, Kd.C_nil _ _, Nat.le_refl _, Kd.C_nil _ _, Nat.le_refl _, Kd.C_nil _ _, Nat.le_refl _⟩, hb⟩
 | some y =>
  rw [hf] at hm
  obtain ⟨cs, hK, he⟩ := hm
  obtain ⟨A2, c2, A3, c3, A4, c4, A5, c5, rfl, l2, g2, l3, g3, l4, g4, l5, g5⟩ := k34_open hK
  exact ⟨A2, c2, A3, c3, A4, c4, A5, c5, he, ⟨g2, l2, g3, l3, g4, l4, g5, l5⟩, hb⟩
theorem dec_at {w0 : World} {A : Option Addr} {l : List D} (h : Kd.C k39 w0 A l.length l) (i : Nat) (d : D) (hk : l[i]? = some d) : ∃ ad, A = some ad ∧ w0.cell? (ad.add (i * 6)) = some (.string d.f0) ∧
  w0.cell? ⟨(ad.add (i * 6)).block, (ad.add (i * 6)).off + 1, none⟩ = some (.int .i64 d.f1) ∧ w0.cell? ⟨(ad.add (i * 6)).block, (ad.add (i * 6)).off + 2, none⟩ = some (.bool d.f2.f0) ∧
  w0.cell? ⟨(ad.add (i * 6)).block, (ad.add (i * 6)).off + 3, none⟩ = some (.bool d.f2.f1) ∧ w0.cell? ⟨(ad.add (i * 6)).block, (ad.add (i * 6)).off + 4, none⟩ = some (.string d.f3) ∧
  w0.cell? ⟨(ad.add (i * 6)).block, (ad.add (i * 6)).off + 5, none⟩ = some (.bool d.f4) := by
 have hlt := (List.getElem?_eq_some_iff.1 hk).1
 obtain ⟨ad, e1, hx0, hx1, hx2, hx3, hx4, hx5⟩ := at_T39 h (i : Int) (by omega) (by omega)
 have hr : rd_T39 l (i : Int) = d := by
  unfold rd_T39
  simp [hk]
 rw [hr] at hx0 hx1 hx2 hx3 hx4 hx5
 simp only [Int.toNat_natCast] at hx0 hx1 hx2 hx3 hx4 hx5
 exact ⟨ad, e1, hx0, hx1, hx2, hx3, hx4, hx5⟩
theorem ms9 {a b : Nat} (h : b < a) : a + 1 - (b + 1) < a + 1 - b := by omega
end Go.Proofs.YtjafllnbgfcchaaDoor.Cl
end
section
/- The clock of a name, and are two clocks the same: walked. -/
namespace Go.Proofs.YtjafllnbgfcchaaDoor.Cl
set_option linter.unusedVariables false
set_option linter.unusedSimpArgs false
open Go Go.RowKit Go.Proofs.YtjafllnbgfcchaaDoorW.PrintWords Go.Proofs.YtjafllnbgfcchaaDoorW.PrintLast Go.Proofs.YtjafllnbgfcchaaDoorW.PrintMore Go.Proofs.YtjafllnbgfcchaaDoor.Lx Go.Proofs.YtjafllnbgfcchaaDoor.XK Go.Proofs.YtjafllnbgfcchaaDoor.XCK Go.Proofs.YtjafllnbgfcchaaDoor.Px Go.Proofs.YtjafllnbgfcchaaDoor.Ck Go.Proofs.YtjafllnbgfcchaaDoor.Ow
attribute [local go_sem ↓] Go.wp_at_zero Go.wp_at_succ
attribute [local go_sem high] eqA64
structure ClV (n : Nat) (w : World) (A : Option Addr) (c : Nat) (l : List G) : Prop where
 row : Kd.C k64 w A l.length l
 room : l.length ≤ c
 own : ∀ ad, A = some ad → n ≤ ad.block
theorem ClV.nil (n : Nat) (w : World) : ClV n w none 0 [] := ⟨Kd.C_nil _ _, Nat.le_refl _, fun ad h => by cases h⟩
theorem ClV.below {n : Nat} {w w' : World} {A : Option Addr} {c : Nat} {l : List G} (h : ClV n w A c l) (hb : Below w.heap.size w w') : ClV n w' A c l := ⟨Kd.C_below h.row hb, h.room, h.own⟩
theorem ClV.le {n m : Nat} {w : World} {A : Option Addr} {c : Nat} {l : List G} (h : ClV n w A c l) (hm : m ≤ n) : ClV m w A c l := ⟨h.row, h.room, fun ad ha => Nat.le_trans hm (h.own ad ha)⟩
theorem ClV.only {n p : Nat} {w w' : World} {A : Option Addr} {c : Nat} {l : List G} (h : ClV n w A c l) (hn : p < n) (hO : Only p w w') : ClV n w' A c l := by
 refine ⟨⟨h.row.1, h.row.2.1, fun hp => ?_⟩, h.room, h.own⟩
 obtain ⟨ad, ha, hcell⟩ := h.row.2.2 hp
 refine ⟨ad, ha, fun j p hj => ?_⟩
 obtain ⟨cs, hl, hK, hcs⟩ := hcell j p hj
 obtain rfl := k64_open hK
 refine ⟨_, hl, k64.K_of_M (gM w' 0 (fun _ => True) p), fun i u hu => ?_⟩
 have h1 := hcs i u hu
 have hb : (ad.add (j * k64.sz + i)).block = ad.block := by unfold Addr.add; split <;> rfl
 refine (World.cell?_of_block (w := w) (hO.keep _ (World.block_lt_of_cell? _ _ h1) ?_)).trans h1
 rw [hb]
 have := h.own ad ha
 omega
theorem onv_walk {n : Nat} (A0 : Option Addr) (c0 : Nat) (l0 : List G) (a1 : ByteArray) (a2 : Bool) (w : World) (h : ClV n w A0 c0 l0) (hs : l0.length ≤ 1000000) :
  Calls Tryd.prog 26 #[.slice A0 l0.length c0, .string a1, .bool a2] w fun e w' => ∃ A c, e = .returned (.slice A (l0 ++ [(⟨a1, a2⟩ : G)]).length c) ∧ ClV w.heap.size w' A c (l0 ++ [⟨a1, a2⟩]) ∧ Below w.heap.size w w' := by
 refine (on_walk A0 c0 l0 a1 a2 w h.row h.room hs).mono ?_
 rintro e w3 ⟨v, rfl, hR, hb⟩
 obtain ⟨A', c', rfl, hl, hC⟩ := Kd.R_reads hR
 refine ⟨A', c', rfl, ⟨hC, hl, fun ad ha => ?_⟩, hb⟩
 subst ha
 obtain ⟨inner, ho⟩ := Kd.R_own hR
 exact own_base ho ad.block rfl
abbrev ndA (n : N) (B2 : Option Addr) (b2 : Nat) (B3 : Option Addr) (b3 : Nat) (B4 : Option Addr) (b4 : Nat) (B5 : Option Addr) (b5 : Nat) : Value := .agg #[.string n.f0, .int .i64 n.f1, .slice B2 n.f2.length b2, .slice B3 n.f3.length b3, .slice B4 n.f4.length b4, .slice B5 n.f5.length b5]
abbrev Ctx.nd (x : Ctx) : Value := ndA x.n x.A2 x.c2 x.A3 x.c3 x.A4 x.c4 x.A5 x.c5
abbrev Ctx.ndo (x : Ctx) : Obj := ndO x.n x.A2 x.c2 x.A3 x.c3 x.A4 x.c4 x.A5 x.c5
theorem onq_walk {n : Nat} (A0 : Option Addr) (c0 : Nat) (l0 : List G) (a1 : ByteArray) (a2 : Bool) (q : List G) (w : World) (h : ClV n w A0 c0 l0) (hs : l0.length ≤ 1000000) (hq : l0 ++ [(⟨a1, a2⟩ : G)] = q) :
  Calls Tryd.prog 26 #[.slice A0 l0.length c0, .string a1, .bool a2] w fun e w' => ∃ A c, e = .returned (.slice A q.length c) ∧ ClV w.heap.size w' A c q ∧ Below w.heap.size w w' := by
 subst hq
 exact onv_walk A0 c0 l0 a1 a2 w h hs
theorem guard_at {w : World} {A : Option Addr} {l : List G} (h : Kd.C k64 w A l.length l) (i : Nat) (d : G) (hk : l[i]? = some d) : ∃ ad, A = some ad ∧ w.cell? (ad.add (i * 2)) = some (.string d.f0) ∧
  w.cell? ⟨(ad.add (i * 2)).block, (ad.add (i * 2)).off + 1, none⟩ = some (.bool d.f1) := by
 have hlt := (List.getElem?_eq_some_iff.1 hk).1
 obtain ⟨ad, e1, hx0, hx1⟩ := at_T64 h (i : Int) (by omega) (by omega)
 have hr : rd_T64 l (i : Int) = d := by
  unfold rd_T64
  simp [hk]
 rw [hr] at hx0 hx1
 simp only [Int.toNat_natCast] at hx0 hx1
 exact ⟨ad, e1, hx0, hx1⟩
set_option maxHeartbeats 4000000 in
set_option maxRecDepth 100000 in
theorem of_walk {x : Ctx} (hx : x.Ok) : ∀ (k : Nat) (m : ByteArray) (w : World), k ≤ 1000000 → Below x.w0.heap.size x.w0 w →
  Calls Tryd.prog 109 #[x.nd, .string m, .int .i64 (k : Int)] w fun e w' => ∃ A c, e = .returned (.tuple #[.slice A (ofC x.n k m).1.length c, .bool (ofC x.n k m).2]) ∧ ClV w.heap.size w' A c (ofC x.n k m).1 ∧ Below w.heap.size w w' := by
 intro k
 induction k with
 | zero =>
  intro m w hk hb0
  have H := Lib.hid hb0
  obtain ⟨d, hd⟩ : ∃ d, namedD x.n m = d := ⟨_, rfl⟩
  obtain ⟨B, hB⟩ : ∃ B, (named x.n m).isSome = B := ⟨_, rfl⟩
  have HD := Lib.hid (And.intro hd hB)
  obtain ⟨r, hr⟩ : ∃ r, ofC x.n 0 m = r := ⟨_, rfl⟩
  have hf : (([] : List G), d.f3.data.toList == []) = r := by rw [← hr, ofC, hd]
  rw [hr]
  have HF := Lib.hid hf
  have HO := Lib.hid ((Ow.start w).new (q := x.ndo))
  clear hb0 hd hB hf hr
  go_enter Tryd.func109, Tryd.ntmps109
  go_wp2_with (fail)
  refine (named_walk hx m _ (H.out.trans (HO.out.bel.mono H.out.size))).mono ?_
  rintro e w1 ⟨rfl, hb⟩
  rw [HD.out.1, HD.out.2]
  have HS := Lib.hid ((HO.out.below hb).new (q := dcO d))
  clear hb HD
  obtain ⟨d0, d1, ⟨d2, d3⟩, d4, d5⟩ := d
  by_cases hz : d4.toList = []
  ·have hy : (d4.data.toList == []) = true := by rw [← Fnd.toList_data, hz]; rfl
   obtain rfl : (([] : List G), true) = r := by
    have h9 := HF.out
    dsimp only at h9
    rw [hy] at h9
    exact h9
   go_wp2_with (fail)
   go_ret2
   exact ⟨none, 0, rfl, ClV.nil _ _, HS.out.bel⟩
  ·have hy : (d4.data.toList == []) = false := by rw [← Fnd.toList_data]; exact beq_eq_false_iff_ne.2 hz
   have z1 : (d4.toList == []) = false := beq_eq_false_iff_ne.2 hz
   have z2 : d4.toList.isEmpty = false := by cases h9 : d4.toList with
    | nil => exact absurd h9 hz
    | cons _ _ => rfl
   have z3 : (d4.toList = []) = False := eq_false hz
   obtain rfl : (([] : List G), false) = r := by
    have h9 := HF.out
    dsimp only at h9
    rw [hy] at h9
    exact h9
   go_wp2_with (fail)
   go_ret2
   exact ⟨none, 0, rfl, ClV.nil _ _, HS.out.bel⟩
 | succ k ih =>
  intro m w hk hb0
  have H := Lib.hid hb0
  have IH := Lib.hid ih
  obtain ⟨d, hd⟩ : ∃ d, namedD x.n m = d := ⟨_, rfl⟩
  obtain ⟨B, hB⟩ : ∃ B, (named x.n m).isSome = B := ⟨_, rfl⟩
  have HD := Lib.hid (And.intro hd hB)
  obtain ⟨r, hr⟩ : ∃ r, ofC x.n (k + 1) m = r := ⟨_, rfl⟩
  have hf : (if d.f3.data.toList == [] then (([] : List G), true) else ((ofC x.n k d.f3).1 ++ [⟨d.f3, d.f4⟩], (ofC x.n k d.f3).2)) = r := by rw [← hr, ofC, hd]
  rw [hr]
  have HF := Lib.hid hf
  have HO := Lib.hid ((Ow.start w).new (q := x.ndo))
  clear hb0 hd hB hf hr ih
  have k0 : (((k + 1 : Nat) : Int) == 0) = false := by rw [beq_eq_false_iff_ne]; omega
  have k1 : wrap64 (((k + 1 : Nat) : Int) - 1) = (k : Int) := by unfold wrap64; omega
  have k3 : (k : Int) = ((k + 1 : Nat) : Int) - 1 := by omega
  generalize hK : ((k + 1 : Nat) : Int) = K at k0 k1 k3 ⊢
  have K3 := Lib.hid k3
  clear k3
  have k2 : (K = 0) = False := eq_false (by simpa using k0)
  go_enter Tryd.func109, Tryd.ntmps109
  go_wp2_with (fail)
  refine (named_walk hx m _ (H.out.trans (HO.out.bel.mono H.out.size))).mono ?_
  rintro e w1 ⟨rfl, hb⟩
  rw [HD.out.1, HD.out.2]
  have HS := Lib.hid ((HO.out.below hb).new (q := dcO d))
  clear hb HD
  obtain ⟨d0, d1, ⟨d2, d3⟩, d4, d5⟩ := d
  by_cases hz : d4.toList = []
  ·have hy : (d4.data.toList == []) = true := by rw [← Fnd.toList_data, hz]; rfl
   obtain rfl : (([] : List G), true) = r := by
    have h9 := HF.out
    rw [if_pos hy] at h9
    exact h9
   go_wp2_with (fail)
   go_ret2
   exact ⟨none, 0, rfl, ClV.nil _ _, HS.out.bel⟩
  ·have hy : ¬ (d4.data.toList == []) = true := by rw [← Fnd.toList_data]; simpa using hz
   have hr9 := HF.out
   rw [if_neg hy] at hr9
   clear HF
   obtain ⟨p, hp⟩ : ∃ p, ofC x.n k d4 = p := ⟨_, rfl⟩
   dsimp only at hr9
   rw [hp] at hr9
   subst hr9
   have hlen : p.1.length ≤ 1000000 := by rw [← hp]; exact Nat.le_trans (ofC_len _ _ _) (by omega)
   have HP := Lib.hid hp
   have HN := Lib.hid hlen
   clear hp hlen
   have z1 : (d4.toList == []) = false := beq_eq_false_iff_ne.2 hz
   have z2 : d4.toList.isEmpty = false := by cases h9 : d4.toList with
    | nil => exact absurd h9 hz
    | cons _ _ => rfl
   have z3 : (d4.toList = []) = False := eq_false hz
   obtain ⟨s0, s1, s2, s3, s4, s5, sf⟩ := blk6 HS.out.l0
   obtain ⟨t0, t1, t2, t3, t4, t5, tf⟩ := blk6 HS.out.l1
   generalize hW : w1.alloc _ = W at HS s0 s1 s2 s3 s4 s5 sf t0 t1 t2 t3 t4 t5 tf ⊢
   generalize hg : w1.heap.size = g at HS s0 s1 s2 s3 s4 s5 sf ⊢
   go_wp2_with (fail)
   have h9 := IH.out d4 W (by omega) (H.out.trans (HS.out.bel.mono H.out.size))
   rw [HP.out, K3.out] at h9
   with_reducible refine h9.mono ?_
   rintro e w2 ⟨A, c, rfl, hV, hb⟩
   clear h9
   have HS2 := Lib.hid (HS.out.below hb)
   have HV := Lib.hid hV
   clear hb hV s0 s1 s2 s3 s4 s5 sf t0 t1 t2 t3 t4 t5 tf
   obtain ⟨s0, s1, s2, s3, s4, s5, sf⟩ := blk6 HS2.out.l0
   go_wp2_with (fail)
   refine (onv_walk A c p.1 d4 d5 _ HV.out HN.out).mono ?_
   rintro e w3 ⟨A', c', rfl, hR, hb⟩
   have HR := Lib.hid hR
   have HS3 := Lib.hid (HS2.out.below hb)
   clear hb hR
   go_wp2_with (fail)
   go_ret2
   exact ⟨A', c', rfl, HR.out.le HS2.out.sz, HS3.out.bel⟩
set_option maxHeartbeats 4000000 in
set_option maxRecDepth 100000 in
theorem same_walk (A : Option Addr) (c : Nat) (a : List G) (A2 : Option Addr) (c2 : Nat) (b : List G) {n n2 : Nat} (w : World) (ha : ClV n w A c a) (hb : ClV n2 w A2 c2 b) :
  Calls Tryd.prog 27 #[.slice A a.length c, .slice A2 b.length c2] w fun e w' => e = .returned (.bool (sameG a b)) ∧ Below w.heap.size w w' := by
 obtain ⟨r, hr⟩ : ∃ r, sameG a b = r := ⟨_, rfl⟩
 rw [hr]
 have HA := Lib.hid ha
 have HB := Lib.hid hb
 have HR := Lib.hid hr
 clear ha hb hr
 by_cases hl : a.length = b.length
 ·rw [← hl]
  have HN := Lib.hid hl
  clear hl
  have HL0 := Lib.hid (show sameG (a.drop 0) (b.drop 0) = r from HR.out)
  have HB0 := Lib.hid (Below.refl w.heap.size w)
  go_enter Tryd.func27, Tryd.ntmps27
  go_wp2_with (fail)
  go_loopg [14] (a.length + 1) (fun m9 u wr => ∃ i : Nat, u = .int .i64 (i : Int) ∧ i ≤ a.length ∧ m9 = a.length + 1 - i ∧ Hid (Below w.heap.size w wr) ∧ Hid (sameG (a.drop i) (b.drop i) = r))
  case atStart => exact ⟨0, rfl, by omega, by simp, HB0, HL0⟩
  case round =>
   obtain ⟨i, rfl, hi, rfl, HB1, HL⟩ := hrel
   clear HB0 HL0
   rcases Nat.lt_or_ge i a.length with hlt | hge
   ·obtain ⟨g1, hk1, hd1⟩ := drop_at hlt
    obtain ⟨g2, hk2, hd2⟩ := drop_at (l := b) (by have := HN.out; omega : i < b.length)
    obtain ⟨ad, hA, x0, x1⟩ := guard_at HA.out.row i g1 hk1
    obtain ⟨ad2, hA2, y0, y1⟩ := guard_at HB.out.row i g2 hk2
    subst hA hA2
    replace x0 := pw_cell_below HB1.out x0
    replace x1 := pw_cell_below HB1.out x1
    replace y0 := pw_cell_below HB1.out y0
    replace y1 := pw_cell_below HB1.out y1
    have hL := HL.out
    rw [hd1, hd2, sameG] at hL
    have HL2 := Lib.hid hL
    have xl := World.block_lt_of_cell? _ _ x0
    have xn : ¬ ((ad.add (i * 2)).block = wr.heap.size) := Nat.ne_of_lt xl
    have yl := World.block_lt_of_cell? _ _ y0
    have yn : ¬ ((ad2.add (i * 2)).block = wr.heap.size) := Nat.ne_of_lt yl
    have i2 : ((i : Int) < (a.length : Int)) = True := eq_true (by omega)
    have i3 : decide ((i : Int) < (a.length : Int)) = true := decide_eq_true (by omega)
    have i4 : (0 ≤ (i : Int)) = True := eq_true (by omega)
    have hw9 : wrap64 ((i : Int) + 1) = ((i + 1 : Nat) : Int) := by have h9 := HA.out.row.2.1; unfold maxLen at h9; unfold wrap64; omega
    clear hL HL hk1 hk2 hd1 hd2
    obtain ⟨g10, g11⟩ := g1
    obtain ⟨g20, g21⟩ := g2
    cases hq : (Fnd.sameB g10 g20 && g11 == g21) with
    | false =>
     have q1 : (!Fnd.sameB g10 g20 || !g11 == g21) = true := by rw [← Bool.not_and, hq]; rfl
     have q0 : (!g10.toList == g20.toList || !g11 == g21) = true := by rw [Fnd.toList_data, Fnd.toList_data]; exact q1
     obtain rfl : false = r := by
      have h9 := HL2.out
      rw [hq] at h9
      exact h9
     clear hq HL2
     go_wp2_with (fail)
     go_region
     go_wp2_with (fail)
     go_ret
     exact ⟨rfl, below_drew (below_alloc HB1.out _)⟩
    | true =>
     have q1 : (!Fnd.sameB g10 g20 || !g11 == g21) = false := by rw [← Bool.not_and, hq]; rfl
     have q0 : (!g10.toList == g20.toList || !g11 == g21) = false := by rw [Fnd.toList_data, Fnd.toList_data]; exact q1
     have HL3 : Hid (sameG (a.drop (i + 1)) (b.drop (i + 1)) = r) := Lib.hid (by
      have h9 := HL2.out
      rw [hq] at h9
      exact h9)
     clear hq HL2
     go_wp2_with (fail)
     go_region
     go_wp2_with (fail)
     go_roundg (a.length + 1 - (i + 1))
     case measure => exact ms9 hlt
     case rel => exact ⟨i + 1, (by first | rw [hw9] | rfl), hlt, rfl, Lib.hid (below_drew (below_alloc HB1.out _)), HL3⟩
   ·have hL := HL.out
    rw [List.drop_eq_nil_of_le hge, List.drop_eq_nil_of_le (by have := HN.out; omega)] at hL
    obtain rfl : true = r := hL
    have i2 : ((i : Int) < (a.length : Int)) = False := eq_false (by omega)
    have i3 : decide ((i : Int) < (a.length : Int)) = false := decide_eq_false (by omega)
    clear HL
    go_wp2_with (fail)
    go_ret
    exact ⟨rfl, HB1.out⟩
 ·obtain rfl : false = r := by
   have h9 := HR.out
   cases r with
   | false => rfl
   | true => exact absurd (sameG_len a b h9) hl
  have i0 : ((a.length : Int) == (b.length : Int)) = false := by rw [beq_eq_false_iff_ne]; omega
  have i1 : ((a.length : Int) = (b.length : Int)) = False := eq_false (by omega)
  go_enter Tryd.func27, Tryd.ntmps27
  go_wp2_with (fail)
  go_ret
  exact ⟨rfl, Below.refl _ _⟩
theorem all_walk {x : Ctx} (hx : x.Ok) (w : World) (hb : Below x.w0.heap.size x.w0 w) :
  Calls Tryd.prog 17 #[x.nd] w fun e w' => ∃ A c, e = .returned (.slice A (x.n.f2 ++ x.n.f3 ++ x.n.f4).length c) ∧ Below w.heap.size w w' := by
 have hA : tree_All.f x.n.f0 x.n.f1 x.n.f2 x.n.f3 x.n.f4 x.n.f5 = some (x.n.f2 ++ x.n.f3 ++ x.n.f4) := by
  have := hx.few
  unfold tree_All.f
  rw [Option.bind_some, if_pos (by simp only [List.length_nil]; omega), Option.bind_some, if_pos (by simp only [List.length_append, List.length_nil]; omega), Option.bind_some, if_pos (by simp only [List.length_append, List.length_nil]; omega)]
  simp
 refine (tree_All.calls _ _ _ _ _ _ _ _ _ _ _ _ _ _ _ w (Kd.C_below hx.h2 hb) hx.m2 (Kd.C_below hx.h3 hb) hx.m3 (Kd.C_below hx.h4 hb) hx.m4 (Kd.C_below hx.h5 hb) hx.m5 hA).mono ?_
 rintro e w' ⟨v, rfl, hR, hb⟩
 obtain ⟨A, c, rfl⟩ := Kd.R_slice hR
 exact ⟨A, c, rfl, hb⟩
set_option maxHeartbeats 4000000 in
set_option maxRecDepth 100000 in
theorem off_walk {x : Ctx} (hx : x.Ok) (m : ByteArray) (w : World) (hb0 : Below x.w0.heap.size x.w0 w) :
  Calls Tryd.prog 88 #[x.nd, .string m] w fun e w' => ∃ A c, e = .returned (.tuple #[.slice A (ofN x.n m).1.length c, .bool (ofN x.n m).2]) ∧ ClV w.heap.size w' A c (ofN x.n m).1 ∧ Below w.heap.size w w' := by
 have H := Lib.hid hb0
 have HO := Lib.hid ((Ow.start w).new (q := x.ndo))
 have hk : (x.n.f2 ++ x.n.f3 ++ x.n.f4).length ≤ 1000000 := by have := hx.few; simp only [List.length_append]; omega
 obtain ⟨K, hK⟩ : ∃ K, (x.n.f2 ++ x.n.f3 ++ x.n.f4).length = K := ⟨_, rfl⟩
 have ha := fun (V : World) (hV : Below x.w0.heap.size x.w0 V) => all_walk hx V hV
 rw [hK] at ha hk
 have HA := Lib.hid ha
 obtain ⟨r, hr⟩ : ∃ r, ofN x.n m = r := ⟨_, rfl⟩
 have hr2 : ofC x.n K m = r := by rw [← hr, ← hK]; rfl
 rw [hr]
 have HR := Lib.hid (And.intro hr2 hk)
 clear hb0 hr hk ha hK hr2
 go_enter Tryd.func88, Tryd.ntmps88
 go_wp2_with (fail)
 generalize hW : w.alloc _ = W
 rw [hW] at HO
 clear hW
 have pfS : ∀ {V : World}, Ow w V [(w.heap.size, x.ndo)] → V.cell? ⟨w.heap.size, 0, none⟩ = some (.string x.n.f0) ∧ V.cell? ⟨w.heap.size, 1, none⟩ = some (.int .i64 x.n.f1) ∧ V.cell? ⟨w.heap.size, 2, none⟩ = some (.slice x.A2 x.n.f2.length x.c2) ∧ V.cell? ⟨w.heap.size, 3, none⟩ = some (.slice x.A3 x.n.f3.length x.c3) ∧ V.cell? ⟨w.heap.size, 4, none⟩ = some (.slice x.A4 x.n.f4.length x.c4) ∧ V.cell? ⟨w.heap.size, 5, none⟩ = some (.slice x.A5 x.n.f5.length x.c5) := fun {V} h => ⟨blk_cell h.l0 0, blk_cell h.l0 1, blk_cell h.l0 2, blk_cell h.l0 3, blk_cell h.l0 4, blk_cell h.l0 5⟩
 have hS0 : (W.drew).cell? ⟨w.heap.size, 0, none⟩ = some (.string x.n.f0) ∧ (W.drew).cell? ⟨w.heap.size, 1, none⟩ = some (.int .i64 x.n.f1) ∧ (W.drew).cell? ⟨w.heap.size, 2, none⟩ = some (.slice x.A2 x.n.f2.length x.c2) ∧ (W.drew).cell? ⟨w.heap.size, 3, none⟩ = some (.slice x.A3 x.n.f3.length x.c3) ∧ (W.drew).cell? ⟨w.heap.size, 4, none⟩ = some (.slice x.A4 x.n.f4.length x.c4) ∧ (W.drew).cell? ⟨w.heap.size, 5, none⟩ = some (.slice x.A5 x.n.f5.length x.c5) := pfS HO.out.drew
 go_region_held2 (fun w' => w'.cell? ⟨w.heap.size, 0, none⟩ = some (.string x.n.f0) ∧ w'.cell? ⟨w.heap.size, 1, none⟩ = some (.int .i64 x.n.f1) ∧ w'.cell? ⟨w.heap.size, 2, none⟩ = some (.slice x.A2 x.n.f2.length x.c2) ∧ w'.cell? ⟨w.heap.size, 3, none⟩ = some (.slice x.A3 x.n.f3.length x.c3) ∧ w'.cell? ⟨w.heap.size, 4, none⟩ = some (.slice x.A4 x.n.f4.length x.c4) ∧ w'.cell? ⟨w.heap.size, 5, none⟩ = some (.slice x.A5 x.n.f5.length x.c5)) (first | with_reducible exact hS0 | with_reducible exact hS1) (first | (go_at_call 17; (refine (HA.out _ (H.out.trans (HO.out.drew.bel.mono H.out.size))).mono ?_); go_must (rintro e' w1 ⟨A1, c1, rfl, hb⟩; have HO1 := Lib.hid (Ow.below HO.out.drew hb); have hS1 : w1.cell? ⟨w.heap.size, 0, none⟩ = some (.string x.n.f0) ∧ w1.cell? ⟨w.heap.size, 1, none⟩ = some (.int .i64 x.n.f1) ∧ w1.cell? ⟨w.heap.size, 2, none⟩ = some (.slice x.A2 x.n.f2.length x.c2) ∧ w1.cell? ⟨w.heap.size, 3, none⟩ = some (.slice x.A3 x.n.f3.length x.c3) ∧ w1.cell? ⟨w.heap.size, 4, none⟩ = some (.slice x.A4 x.n.f4.length x.c4) ∧ w1.cell? ⟨w.heap.size, 5, none⟩ = some (.slice x.A5 x.n.f5.length x.c5) := pfS HO1.out; clear hb)) | (go_at_call 109; (refine (of_walk hx K m _ HR.out.2 (H.out.trans (HO1.out.bel.mono H.out.size))).mono ?_); go_must (rintro e' w2 ⟨A2, c2, rfl, hV, hb⟩; have HO2 := Lib.hid (Ow.below HO1.out hb); have HV := Lib.hid hV; have hS1 : w2.cell? ⟨w.heap.size, 0, none⟩ = some (.string x.n.f0) ∧ w2.cell? ⟨w.heap.size, 1, none⟩ = some (.int .i64 x.n.f1) ∧ w2.cell? ⟨w.heap.size, 2, none⟩ = some (.slice x.A2 x.n.f2.length x.c2) ∧ w2.cell? ⟨w.heap.size, 3, none⟩ = some (.slice x.A3 x.n.f3.length x.c3) ∧ w2.cell? ⟨w.heap.size, 4, none⟩ = some (.slice x.A4 x.n.f4.length x.c4) ∧ w2.cell? ⟨w.heap.size, 5, none⟩ = some (.slice x.A5 x.n.f5.length x.c5) := pfS HO2.out; clear hb hV)))
 go_wp2_with (fail)
 go_ret2
 have e := HR.out.1
 rw [← e]
 exact ⟨A2, c2, rfl, HV.out.le HO1.out.sz, HO2.out.bel⟩
set_option maxHeartbeats 4000000 in
set_option maxRecDepth 100000 in
theorem cof_walk {x : Ctx} (hx : x.Ok) (m : ByteArray) (f : F) (w : World) (h : At x w f) :
  Calls Tryd.prog 90 #[.pointer (some ⟨x.c, 0, none⟩), .string m] w fun e w' => ∃ A c, e = .returned (.slice A (ofN x.n m).1.length c) ∧ ClV (x.c + 1) w' A c (ofN x.n m).1 ∧ Below w.heap.size w w' := by
 obtain ⟨r0, r1, r2, r3, r4, r5, r6, r7, r8, rf⟩ := blk9 h.blk
 have H := Lib.hid h
 have rl := blk_lt h.blk
 clear h
 go_enter Tryd.func90, Tryd.ntmps90
 go_wp2_with (fail)
 refine (off_walk hx m _ H.out.bel).mono ?_
 rintro e w1 ⟨A, c, rfl, hV, hb⟩
 have HV := Lib.hid (And.intro hV hb)
 clear hV hb
 go_wp2_with (fail)
 go_ret
 exact ⟨A, c, rfl, HV.out.1.le rl, HV.out.2⟩
end Go.Proofs.YtjafllnbgfcchaaDoor.Cl
end
