/- Joined of: CtP, CtL, CtW, CtV. -/
import Derived.Test.YtjafllnbgfcchaaDoorZCFnd
import Derived.Test.YtjafllnbgfcchaaDoorZCCk
import Derived.Deep.DeepMust
import Derived.Deep.RegionHeld2
section
/- The checker of types as plain functions over trees: no memory in sight. -/
namespace Go.Proofs.YtjafllnbgfcchaaDoor.Ct
set_option linter.unusedVariables false
open Go Go.RowKit Go.Proofs.YtjafllnbgfcchaaDoor.XK
abbrev E := S43
abbrev D := S39
abbrev N := S34
abbrev Q := S45
abbrev F := Int × Int
def bad (a e : Int) (f : F) : F := if f.2 == 0 then (a, e) else f
def find (m : ByteArray) : List D → Option D
 | [] => none
 | d :: r => if Fnd.sameB d.f0 m then some d else find m r
def named (n : N) (m : ByteArray) : Option D := find m (n.f2 ++ n.f3 ++ n.f4)
def namedD (n : N) (m : ByteArray) : D := (named n m).getD z39
def is (m : ByteArray) (l : List (List UInt8)) : Bool := l.contains m.data.toList
def plain (n : N) (m : ByteArray) (a : Int) (f : F) : Bool × F := ((namedD n m).f2.f0, if (namedD n m).f2.f1 then bad a 7 f else f)
abbrev Of := E → F → Option (Bool × F)
def want (of : Of) (e : E) (t : Bool) (f : F) : Option F := (of e f).bind fun q => some (if q.1 != t then bad e.f1 7 q.2 else q.2)
def same (of : Of) (a b : E) (f : F) : Option (Bool × F) := (of a f).bind fun q => (want of b q.1 q.2).bind fun f2 => some (q.1, f2)
def both (of : Of) (a b : E) (t : Bool) (f : F) : Option F := (want of a t f).bind fun f1 => want of b t f1
def binary (of : Of) (e : E) (f : F) : Option (Bool × F) := match e.f5 with
 | a :: b :: _ =>
  if is e.f3 [[97, 110, 100], [111, 114], [120, 111, 114]] then (both of a b true f).bind fun f2 => some (true, f2)
  else if is e.f3 [[61], [60, 62]] then (same of a b f).bind fun q => some (true, q.2)
  else (both of a b false f).bind fun f2 =>
   if is e.f3 [[47], [109, 111, 100]] then some (false, if b.f0 != 1 || b.f2 == 0 then bad b.f1 11 f2 else f2)
   else some (!is e.f3 [[43], [45], [42]], f2)
 | _ => none
def inOne (of : Of) (n : N) (d : D) (k : E) (f : F) : Option F :=
 if d.f2.f1 then some (match named n k.f3 with
  | some x => if k.f0 != 3 || !(x.f2.f0 == d.f2.f0 && x.f2.f1 == d.f2.f1) then bad k.f1 7 f else f
  | none => bad k.f1 7 f)
 else want of k d.f2.f0 f
def insL (of : Of) (n : N) : List D → List E → F → Option F
 | [], _, f => some f
 | _ :: _, [], _ => none
 | d :: r, k :: ks, f => (inOne of n d k f).bind fun f1 => insL of n r ks f1
def callee (l : List N) (m : ByteArray) : N := (Fnd.findN l m).getD z34
def call (of : Of) (l : List N) (n : N) (e : E) (f : F) : Option F := insL of n (callee l e.f3).f2 e.f5 f
def wants (of : Of) (t : Bool) : List E → F → Option F
 | [], f => some f
 | k :: r, f => (want of k t f).bind fun f1 => wants of t r f1
def await (of : Of) (n : N) (e : E) (f : F) : Option (Bool × F) :=
 let d := namedD n e.f3
 let f1 := if d.f2.f1 then f else bad e.f1 7 f
 let f2 := if 8 < e.f5.length then bad e.f1 3 f1 else f1
 (wants of d.f2.f0 e.f5 f2).bind fun f3 => some (d.f2.f0, f3)
def ofK (of : Of) (l : List N) (n : N) (e : E) (f : F) : Option (Bool × F) :=
 if e.f0 = 1 then some (false, f)
 else if e.f0 = 2 then some (true, f)
 else if e.f0 = 3 then some (plain n e.f3 e.f1 f)
 else if e.f0 = 4 then match e.f5 with
  | a :: _ => (want of a false f).bind fun f1 => some (false, f1)
  | _ => none
 else if e.f0 = 5 then match e.f5 with
  | a :: _ => (want of a true f).bind fun f1 => some (true, f1)
  | _ => none
 else if e.f0 = 6 then binary of e f
 else if e.f0 = 7 then match e.f5 with
  | a :: b :: c :: _ => (want of a true f).bind fun f1 => same of b c f1
  | _ => none
 else if e.f0 = 8 ∨ e.f0 = 9 then match e.f5 with
  | a :: b :: _ => same of a b f
  | _ => none
 else if e.f0 = 10 then match e.f5 with
  | a :: _ => of a f
  | _ => none
 else if e.f0 = 11 ∨ e.f0 = 12 then
  let q := plain n e.f3 e.f1 f
  let f1 := if q.1 then q.2 else bad e.f1 7 q.2
  if e.f0 = 11 then match e.f5 with
   | a :: _ => of a f1
   | _ => none
  else match e.f5 with
   | a :: b :: _ => same of a b f1
   | _ => none
 else if e.f0 = 14 then await of n e f
 else (call of l n e f).bind fun f1 => match (callee l e.f3).f3 with
  | d :: _ => some (d.f2.f0, f1)
  | [] => none
def of : Nat → List N → N → Of
 | 0, _, _ => fun _ _ => none
 | k + 1, l, n => ofK (of k l n) l n
def gives (of : Of) (l : List N) (n : N) (q : Q) (f : F) : Option (List (Bool × Bool) × F) :=
 if q.f2.f0 = 13 then if 1000000 < (callee l q.f2.f3).f3.length then none else (call of l n q.f2 f).bind fun f1 =>
  let out := (callee l q.f2.f3).f3.map fun d => (d.f2.f0, q.f1)
  some (out, if q.f1 && out.length != 1 then bad q.f2.f1 12 f1 else f1)
 else (of q.f2 f).bind fun r => some ([(r.1, false)], r.2)
def insB : List D → F → F
 | [], f => f
 | d :: r, f => insB r (if d.f2.f1 then bad d.f1 7 f else f)
def varsB (n : N) : List D → F → F
 | [], f => f
 | d :: r, f => varsB n r (if d.f3.data.toList == [] then f else if d.f2.f1 || !((namedD n d.f3).f2.f0 && !(namedD n d.f3).f2.f1) then bad d.f1 7 f else f)
def leftB (n : N) : List (Bool × Bool) → List S47 → F → Option F
 | [], _, f => some f
 | _ :: _, [], _ => none
 | t :: r, x :: xs, f => leftB n r xs (if (namedD n x.f0).f2.f0 == t.1 && (namedD n x.f0).f2.f1 == t.2 then f else bad x.f1 7 f)
def eqsB (of : Of) (l : List N) (n : N) : List Q → F → Option F
 | [], f => some f
 | q :: r, f => (gives of l n q f).bind fun g => (leftB n g.1 q.f0 g.2).bind fun f1 => eqsB of l n r f1
def node (k : Nat) (l : List N) (n : N) (first : Bool) (f : F) : Option F :=
 if 1000000 < n.f2.length + n.f3.length + n.f4.length then none else eqsB (of k l n) l n n.f5 (varsB n n.f4 (insB n.f3 (if first then insB n.f2 f else f)))
def nodesB (k : Nat) (l : List N) : List N → Bool → F → Option F
 | [], _, f => some f
 | n :: r, first, f => (node k l n first f).bind fun f1 => nodesB k l r false f1
def check (k : Nat) (l : List N) : Option F := nodesB k l l true (0, 0)
end Go.Proofs.YtjafllnbgfcchaaDoor.Ct
end
section
/- The checker of types in memory; its smallest methods, walked. -/
namespace Go.Proofs.YtjafllnbgfcchaaDoor.Ct
set_option linter.unusedVariables false
set_option linter.unusedSimpArgs false
open Go Go.RowKit Go.Proofs.YtjafllnbgfcchaaDoorW.PrintWords Go.Proofs.YtjafllnbgfcchaaDoorW.PrintLast Go.Proofs.YtjafllnbgfcchaaDoorW.PrintMore Go.Proofs.YtjafllnbgfcchaaDoor.Lx Go.Proofs.YtjafllnbgfcchaaDoor.XK Go.Proofs.YtjafllnbgfcchaaDoor.Px Go.Proofs.YtjafllnbgfcchaaDoor.Ck
attribute [local go_sem ↓] Go.wp_at_zero Go.wp_at_succ
structure Ctx where
 w0 : World
 c : Nat
 A : Option Addr
 cap : Nat
 l : List N
 n : N
 A2 : Option Addr
 c2 : Nat
 A3 : Option Addr
 c3 : Nat
 A4 : Option Addr
 c4 : Nat
 A5 : Option Addr
 c5 : Nat
structure Ctx.Ok (x : Ctx) : Prop where
 hc : x.w0.heap.size ≤ x.c
 hl : Kd.C k34 x.w0 x.A x.l.length x.l
 hlc : x.l.length ≤ x.cap
 h2 : Kd.C k39 x.w0 x.A2 x.n.f2.length x.n.f2
 m2 : x.n.f2.length ≤ x.c2
 h3 : Kd.C k39 x.w0 x.A3 x.n.f3.length x.n.f3
 m3 : x.n.f3.length ≤ x.c3
 h4 : Kd.C k39 x.w0 x.A4 x.n.f4.length x.n.f4
 m4 : x.n.f4.length ≤ x.c4
 h5 : Kd.C k45 x.w0 x.A5 x.n.f5.length x.n.f5
 m5 : x.n.f5.length ≤ x.c5
 few : x.n.f2.length + x.n.f3.length + x.n.f4.length ≤ 1000000
abbrev Ctx.obj (x : Ctx) (f : F) : Obj := .cells #[.slice x.A x.l.length x.cap, .string x.n.f0, .int .i64 x.n.f1, .slice x.A2 x.n.f2.length x.c2, .slice x.A3 x.n.f3.length x.c3, .slice x.A4 x.n.f4.length x.c4, .slice x.A5 x.n.f5.length x.c5, .int .i64 f.1, .int .i64 f.2] 122 (0, 0)
structure At (x : Ctx) (w : World) (f : F) : Prop where
 blk : w.heap[x.c]? = some (x.obj f)
 bel : Below x.w0.heap.size x.w0 w
structure Does (x : Ctx) (f : F) (w w' : World) : Prop where
 only : Only x.c w w'
 blk : w'.heap[x.c]? = some (x.obj f)
theorem At.step {x : Ctx} {w w' : World} {f f' : F} (h : At x w f) (hx : x.Ok) (d : Does x f' w w') : At x w' f' := ⟨d.blk, h.bel.trans (Only.below d.only hx.hc h.bel.size)⟩
theorem At.below {x : Ctx} {w w' : World} {f : F} (h : At x w f) (hb : Below w.heap.size w w') : At x w' f := ⟨blk_below h.blk hb, h.bel.trans (hb.mono h.bel.size)⟩
theorem Does.trans {x : Ctx} {w w1 w2 : World} {f f' : F} (h : Does x f w w1) (k : Does x f' w1 w2) : Does x f' w w2 := ⟨h.only.trans k.only, k.blk⟩
theorem Does.below {x : Ctx} {w w1 w2 : World} {f : F} (h : Does x f w w1) (hb : Below w1.heap.size w1 w2) : Does x f w w2 := ⟨h.only.trans (Only.of_below hb), blk_below h.blk hb⟩
theorem Does.refl {x : Ctx} {w : World} {f : F} (h : At x w f) : Does x f w w := ⟨Only.refl _ _, h.blk⟩
theorem At.ck {x : Ctx} {w : World} {f : F} (h : At x w f) : Ck x.c w w (x.obj f) [] := Ck.start h.blk
theorem At.of_ck {x : Ctx} {w W : World} {f f' : F} {l : List (Nat × Obj)} (h : At x w f) (hx : x.Ok) (k : Ck x.c w W (x.obj f') l) : At x W f' := h.step hx ⟨k.only, k.blk⟩
theorem Does.of_ck {x : Ctx} {w W : World} {f : F} {l : List (Nat × Obj)} (k : Ck x.c w W (x.obj f) l) : Does x f w W := ⟨k.only, k.blk⟩
theorem Ck.does {x : Ctx} {w W W' : World} {f f' : F} {l : List (Nat × Obj)} (k : Ck x.c w W (x.obj f) l) (d : Does x f' W W') : Ck x.c w W' (x.obj f') l := k.call d.only d.blk
theorem _root_.Go.Proofs.YtjafllnbgfcchaaDoor.Ck.Ck.two {c : Nat} {w W : World} {o : Obj} {l : List (Nat × Obj)} (h : Ck c w W o l) (p q : Obj) : Ck c w ((W.alloc p).alloc q) o ((W.heap.size + 1, q) :: (W.heap.size, p) :: l) := (h.new (q := p)).newg (g := W.heap.size + 1) (by simp)
theorem _root_.Go.Proofs.YtjafllnbgfcchaaDoor.Ck.Ck.swap {c : Nat} {w W : World} {o : Obj} {x y : Nat × Obj} {l : List (Nat × Obj)} (h : Ck c w W o (x :: y :: l)) : Ck c w W o (y :: x :: l) := h.sub (fun z hz => by
 rcases List.mem_cons.1 hz with rfl | hz
 ·exact List.mem_cons_of_mem _ List.mem_cons_self
 ·rcases List.mem_cons.1 hz with rfl | hz
  ·exact List.mem_cons_self
  ·exact List.mem_cons_of_mem _ (List.mem_cons_of_mem _ hz))
theorem blk9 {W : World} {g : Nat} {t : TypeId} {a0 a1 a2 a3 a4 a5 a6 a7 a8 : Value} (h : W.heap[g]? = some (.cells #[a0, a1, a2, a3, a4, a5, a6, a7, a8] t (0, 0))) :
  W.cell? ⟨g, 0, none⟩ = some a0 ∧ W.cell? ⟨g, 1, none⟩ = some a1 ∧ W.cell? ⟨g, 2, none⟩ = some a2 ∧ W.cell? ⟨g, 3, none⟩ = some a3 ∧ W.cell? ⟨g, 4, none⟩ = some a4 ∧ W.cell? ⟨g, 5, none⟩ = some a5 ∧ W.cell? ⟨g, 6, none⟩ = some a6 ∧ W.cell? ⟨g, 7, none⟩ = some a7 ∧ W.cell? ⟨g, 8, none⟩ = some a8 ∧ ∀ j, W.frozen? ⟨g, j, none⟩ = false :=
 ⟨blk_cell h 0, blk_cell h 1, blk_cell h 2, blk_cell h 3, blk_cell h 4, blk_cell h 5, blk_cell h 6, blk_cell h 7, blk_cell h 8, fun j => blk_frozen h j⟩
abbrev exA (e : E) (A : Option Addr) (c : Nat) : Value := .agg #[.int .i64 e.f0, .int .i64 e.f1, .int .i64 e.f2, .string e.f3, .bool e.f4, .slice A e.f5.length c]
structure ExAt (w0 : World) (e : E) (A : Option Addr) (c : Nat) : Prop where
 kids : Kd.C k43 w0 A e.f5.length e.f5
 room : e.f5.length ≤ c
theorem kid_at {w0 : World} {e : E} {A : Option Addr} {c : Nat} (h : ExAt w0 e A c) (i : Nat) (k : E) (hk : e.f5[i]? = some k) : ∃ ad A' c', A = some ad ∧ w0.cell? (ad.add (i * 6)) = some (.int .i64 k.f0) ∧
  w0.cell? ⟨(ad.add (i * 6)).block, (ad.add (i * 6)).off + 1, none⟩ = some (.int .i64 k.f1) ∧ w0.cell? ⟨(ad.add (i * 6)).block, (ad.add (i * 6)).off + 2, none⟩ = some (.int .i64 k.f2) ∧
  w0.cell? ⟨(ad.add (i * 6)).block, (ad.add (i * 6)).off + 3, none⟩ = some (.string k.f3) ∧ w0.cell? ⟨(ad.add (i * 6)).block, (ad.add (i * 6)).off + 4, none⟩ = some (.bool k.f4) ∧
  w0.cell? ⟨(ad.add (i * 6)).block, (ad.add (i * 6)).off + 5, none⟩ = some (.slice A' k.f5.length c') ∧ ExAt w0 k A' c' := by
 have hlt := (List.getElem?_eq_some_iff.1 hk).1
 obtain ⟨ad, A', c', e1, hx0, hx1, hx2, hx3, hx4, hx5, hl, hC⟩ := at_T43 h.kids (i : Int) (by omega) (by omega)
 have hr : rd_T43 e.f5 (i : Int) = k := by
  unfold rd_T43
  simp [hk]
 rw [hr] at hx0 hx1 hx2 hx3 hx4 hx5 hl hC
 simp only [Int.toNat_natCast] at hx0 hx1 hx2 hx3 hx4 hx5
 exact ⟨ad, A', c', e1, hx0, hx1, hx2, hx3, hx4, hx5, hC, hl⟩
set_option maxHeartbeats 4000000 in
theorem bad_walk {x : Ctx} (hx : x.Ok) (a e : Int) (f : F) (w : World) (h : At x w f) :
  Calls Tryd.prog 92 #[.pointer (some ⟨x.c, 0, none⟩), .int .i64 a, .int .i64 e] w fun e' w' => e' = .returned (.tuple #[]) ∧ Does x (bad a e f) w w' := by
 obtain ⟨r0, r1, r2, r3, r4, r5, r6, r7, r8, rf⟩ := blk9 h.blk
 have H := Lib.hid h
 have rl := blk_lt h.blk
 clear h
 obtain ⟨fa, fe⟩ := f
 go_enter Tryd.func92, Tryd.ntmps92
 by_cases hz : fe = 0
 ·subst hz
  go_wp2_with (fail)
  go_end0
  have h2 : bad a e (fa, 0) = (a, e) := rfl
  rw [h2]
  exact ⟨rfl, Does.of_ck (x := x) (f := (a, e)) ((H.out.ck.put 7 _).put 8 _)⟩
 ·have h1 : (fe == 0) = false := by simpa using hz
  go_wp2_with (fail)
  go_end0
  have h2 : bad a e (fa, fe) = (fa, fe) := by unfold bad; rw [if_neg (by simp only [h1]; decide)]
  rw [h2]
  exact ⟨rfl, Does.refl H.out⟩
def dcT (d : D) (b : Bool) : ByteArray × Int × Bool × Bool × ByteArray × Bool × Bool := (d.f0, d.f1, d.f2.f0, d.f2.f1, d.f3, d.f4, b)
theorem rd_drop (L : List D) (i : Nat) (h : i < L.length) : L.drop i = rd_T39 L (i : Int) :: L.drop (i + 1) := by
 rw [List.drop_eq_getElem_cons h]
 unfold rd_T39
 simp [h]
theorem named_l0 (m : ByteArray) (L : List D) (hL : L.length ≤ 1000000) : ∀ q i : Nat, L.length - i = q → i ≤ L.length → tree_Named.l0 (q + 1) m L (L.length : Int) (i : Int) = some (match find m (L.drop i) with
  | some d => dcT d true
  | none => dcT z39 false)
 | 0, i, hq, hi => by
  have e : L.drop i = [] := List.drop_eq_nil_of_le (by omega)
  rw [e, tree_Named.l0, if_neg (by omega)]
  rfl
 | q + 1, i, hq, hi => by
  have hlt : i < L.length := by omega
  have hw : wrap64 ((i : Int) + 1) = ((i + 1 : Nat) : Int) := by unfold wrap64; omega
  rw [tree_Named.l0, if_pos (by omega), if_pos (by omega), if_pos (by omega), rd_drop L i hlt, find]
  by_cases hs : (rd_T39 L (i : Int)).f0.toList = m.toList
  ·rw [if_pos hs, if_pos (by rw [Fnd.sameB, ← Fnd.toList_data, ← Fnd.toList_data, hs]; simp)]
   rfl
  ·rw [if_neg hs, if_neg (by rw [Fnd.sameB, ← Fnd.toList_data, ← Fnd.toList_data]; simpa using hs), hw]
   exact named_l0 m L hL q (i + 1) (by omega) (by omega)
theorem named_f (n : N) (m : ByteArray) (hf : n.f2.length + n.f3.length + n.f4.length ≤ 1000000) : ∃ k, tree_Named.f k n.f0 n.f1 n.f2 n.f3 n.f4 n.f5 m = some (dcT (namedD n m) (named n m).isSome) := by
 refine ⟨(n.f2 ++ n.f3 ++ n.f4).length + 1, ?_⟩
 have hL : (n.f2 ++ n.f3 ++ n.f4).length ≤ 1000000 := by simp only [List.length_append]; omega
 have hA : tree_All.f n.f0 n.f1 n.f2 n.f3 n.f4 n.f5 = some (n.f2 ++ n.f3 ++ n.f4) := by
  unfold tree_All.f
  rw [Option.bind_some, if_pos (by simp only [List.length_nil]; omega), Option.bind_some, if_pos (by simp only [List.length_append, List.length_nil]; omega), Option.bind_some, if_pos (by simp only [List.length_append, List.length_nil]; omega)]
  simp
 have h := named_l0 m _ hL (n.f2 ++ n.f3 ++ n.f4).length 0 (by omega) (by omega)
 rw [tree_Named.f, hA, Option.bind_some]
 refine h.trans ?_
 rw [List.drop_zero]
 unfold namedD named
 cases find m (n.f2 ++ n.f3 ++ n.f4) <;> rfl
theorem named_walk {x : Ctx} (hx : x.Ok) (m : ByteArray) (w : World) (hb : Below x.w0.heap.size x.w0 w) :
  Calls Tryd.prog 93 #[.agg #[.string x.n.f0, .int .i64 x.n.f1, .slice x.A2 x.n.f2.length x.c2, .slice x.A3 x.n.f3.length x.c3, .slice x.A4 x.n.f4.length x.c4, .slice x.A5 x.n.f5.length x.c5], .string m] w fun e w' =>
   e = .returned (.tuple #[.agg #[.string (namedD x.n m).f0, .int .i64 (namedD x.n m).f1, .bool (namedD x.n m).f2.f0, .bool (namedD x.n m).f2.f1, .string (namedD x.n m).f3, .bool (namedD x.n m).f4], .bool (named x.n m).isSome]) ∧ Below w.heap.size w w' := by
 obtain ⟨k, hk⟩ := named_f x.n m hx.few
 exact tree_Named.calls k _ _ _ _ _ _ _ _ _ _ _ _ _ _ m _ _ _ _ _ _ _ w (Kd.C_below hx.h2 hb) hx.m2 (Kd.C_below hx.h3 hb) hx.m3 (Kd.C_below hx.h4 hb) hx.m4 (Kd.C_below hx.h5 hb) hx.m5 hk
set_option maxHeartbeats 4000000 in
theorem plain_walk {x : Ctx} (hx : x.Ok) (m : ByteArray) (a : Int) (f : F) (w : World) (h : At x w f) :
  Calls Tryd.prog 128 #[.pointer (some ⟨x.c, 0, none⟩), .string m, .int .i64 a] w fun e' w' => e' = .returned (.bool (plain x.n m a f).1) ∧ Does x (plain x.n m a f).2 w w' := by
 obtain ⟨r0, r1, r2, r3, r4, r5, r6, r7, r8, rf⟩ := blk9 h.blk
 have H := Lib.hid h
 have rl := blk_lt h.blk
 clear h
 obtain ⟨d, hd⟩ : ∃ d, namedD x.n m = d := ⟨_, rfl⟩
 obtain ⟨B, hB⟩ : ∃ B, (named x.n m).isSome = B := ⟨_, rfl⟩
 have hp : plain x.n m a f = (d.f2.f0, if d.f2.f1 then bad a 7 f else f) := by rw [← hd]; rfl
 rw [hp]
 have HD := Lib.hid (And.intro hd hB)
 clear hd hB hp
 go_enter Tryd.func128, Tryd.ntmps128
 go_wp2_with (fail)
 refine (named_walk hx m _ H.out.bel).mono ?_
 rintro e w1 ⟨rfl, hb⟩
 rw [HD.out.1, HD.out.2]
 have HS := Lib.hid ((H.out.ck.below hb).new (q := .cells #[.string d.f0, .int .i64 d.f1, .bool d.f2.f0, .bool d.f2.f1, .string d.f3, .bool d.f4] 39))
 clear hb
 obtain ⟨d0, d1, ⟨d2, d3⟩, d4, d5⟩ := d
 cases d3 with
 | false =>
  go_wp2_with (fail)
  go_ret
  exact ⟨rfl, Does.of_ck HS.out⟩
 | true =>
  go_wp2_with (fail)
  refine (bad_walk hx a 7 f _ (H.out.of_ck hx HS.out)).mono ?_
  rintro e w2 ⟨rfl, hD⟩
  have hS := Ck.does HS.out hD
  obtain ⟨q0, q1, q2, q3, q4, q5, qf⟩ := blk6 hS.l0
  have HS2 := Lib.hid hS
  clear hS hD
  go_wp2_with (fail)
  go_ret
  exact ⟨rfl, Does.of_ck HS2.out⟩
end Go.Proofs.YtjafllnbgfcchaaDoor.Ct
end
section
/- The checker of types: want, same, walked. -/
namespace Go.Proofs.YtjafllnbgfcchaaDoor.Ct
set_option linter.unusedVariables false
set_option linter.unusedSimpArgs false
open Go Go.RowKit Go.Proofs.YtjafllnbgfcchaaDoorW.PrintWords Go.Proofs.YtjafllnbgfcchaaDoorW.PrintLast Go.Proofs.YtjafllnbgfcchaaDoorW.PrintMore Go.Proofs.YtjafllnbgfcchaaDoor.Lx Go.Proofs.YtjafllnbgfcchaaDoor.XK Go.Proofs.YtjafllnbgfcchaaDoor.Px Go.Proofs.YtjafllnbgfcchaaDoor.Ck
attribute [local go_sem ↓] Go.wp_at_zero Go.wp_at_succ
abbrev OfIs (x : Ctx) (of : Of) : Prop := ∀ (e : E) (A : Option Addr) (c : Nat) (f : F) (r : Bool × F) (w : World), ExAt x.w0 e A c → At x w f → of e f = some r →
 Calls Tryd.prog 112 #[.pointer (some ⟨x.c, 0, none⟩), exA e A c] w fun e' w' => e' = .returned (.bool r.1) ∧ Does x r.2 w w'
abbrev WantIs (x : Ctx) (of : Of) : Prop := ∀ (e : E) (A : Option Addr) (c : Nat) (t : Bool) (f r : F) (w : World), ExAt x.w0 e A c → At x w f → want of e t f = some r →
 Calls Tryd.prog 129 #[.pointer (some ⟨x.c, 0, none⟩), exA e A c, .bool t] w fun e' w' => e' = .returned (.tuple #[]) ∧ Does x r w w'
abbrev SameIs (x : Ctx) (of : Of) : Prop := ∀ (a : E) (A : Option Addr) (c : Nat) (b : E) (A' : Option Addr) (c' : Nat) (f : F) (r : Bool × F) (w : World), ExAt x.w0 a A c → ExAt x.w0 b A' c' → At x w f → same of a b f = some r →
 Calls Tryd.prog 131 #[.pointer (some ⟨x.c, 0, none⟩), exA a A c, exA b A' c'] w fun e' w' => e' = .returned (.bool r.1) ∧ Does x r.2 w w'
abbrev exO (e : E) (A : Option Addr) (c : Nat) : Obj := .cells #[.int .i64 e.f0, .int .i64 e.f1, .int .i64 e.f2, .string e.f3, .bool e.f4, .slice A e.f5.length c] 43 (0, 0)
set_option maxHeartbeats 4000000 in
theorem want_walk {x : Ctx} (hx : x.Ok) {of : Of} (hof : OfIs x of) : WantIs x of := by
 intro e A c t f r w he h hr
 unfold want at hr
 obtain ⟨q, hq, hr⟩ := Option.bind_eq_some_iff.1 hr
 have hr := Option.some.inj hr
 have H := Lib.hid h
 have HE := Lib.hid he
 have HQ := Lib.hid hq
 have HR := Lib.hid hr
 clear h he hq hr
 go_enter Tryd.func129, Tryd.ntmps129
 go_wp2_with (fail)
 have HS := Lib.hid (H.out.ck.new (q := exO e A c))
 refine (hof e A c f q _ HE.out (H.out.of_ck hx HS.out) HQ.out).mono ?_
 rintro e' w1 ⟨rfl, hD⟩
 have HS2 := Lib.hid (Ck.does HS.out hD)
 obtain ⟨q0, q1, q2, q3, q4, q5, qf⟩ := blk6 HS2.out.l0
 have ql := blk_lt HS2.out.l0
 clear hD HS
 obtain ⟨qb, qg⟩ := q
 cases qb <;> cases t
 case false.false | true.true =>
  have hr := HR.out
  simp only [bne_self_eq_false, Bool.false_eq_true, if_false] at hr
  subst hr
  go_wp2_with (fail)
  go_end0
  exact ⟨rfl, Does.of_ck HS2.out⟩
 case false.true | true.false =>
  have hr : bad e.f1 7 qg = r := HR.out
  subst hr
  go_wp2_with (fail)
  refine (bad_walk hx e.f1 7 qg _ (H.out.of_ck hx HS2.out)).mono ?_
  rintro e' w2 ⟨rfl, hD⟩
  have HS3 := Lib.hid (Ck.does HS2.out hD)
  clear hD
  go_wp2_with (fail)
  go_end0
  exact ⟨rfl, Does.of_ck HS3.out⟩
set_option maxHeartbeats 4000000 in
theorem same_walk {x : Ctx} (hx : x.Ok) {of : Of} (hof : OfIs x of) : SameIs x of := by
 intro a A c b A' c' f r w ha hb h hr
 unfold same at hr
 obtain ⟨q, hq, hr⟩ := Option.bind_eq_some_iff.1 hr
 obtain ⟨f2, hf2, hr⟩ := Option.bind_eq_some_iff.1 hr
 obtain rfl := Option.some.inj hr
 have H := Lib.hid h
 have HE := Lib.hid (And.intro ha hb)
 have HQ := Lib.hid (And.intro hq hf2)
 clear h ha hb hq hf2 hr
 go_enter Tryd.func131, Tryd.ntmps131
 go_wp2_with (fail)
 have HS := Lib.hid ((H.out.ck.new (q := exO a A c)).newg (g := w.heap.size + 1) (q := exO b A' c') (by simp))
 refine (hof a A c f q _ HE.out.1 (H.out.of_ck hx HS.out) HQ.out.1).mono ?_
 rintro e' w1 ⟨rfl, hD⟩
 have HS2 := Lib.hid (Ck.does HS.out hD)
 obtain ⟨q0, q1, q2, q3, q4, q5, qf⟩ := blk6 HS2.out.l0
 have ql := blk_lt HS2.out.l0
 clear hD HS
 go_wp2_with (fail)
 refine (want_walk hx hof b A' c' q.1 q.2 f2 _ HE.out.2 (H.out.of_ck hx HS2.out) HQ.out.2).mono ?_
 rintro e' w2 ⟨rfl, hD⟩
 have HS3 := Lib.hid (Ck.does HS2.out hD)
 clear hD
 go_wp2_with (fail)
 go_ret
 exact ⟨rfl, Does.of_ck HS3.out⟩
abbrev BinIs (x : Ctx) (of : Of) : Prop := ∀ (e : E) (A : Option Addr) (c : Nat) (f : F) (r : Bool × F) (w : World), ExAt x.w0 e A c → At x w f → binary of e f = some r →
 Calls Tryd.prog 130 #[.pointer (some ⟨x.c, 0, none⟩), exA e A c] w fun e' w' => e' = .returned (.bool r.1) ∧ Does x r.2 w w'
theorem is_cases (m : ByteArray) (l : List (List UInt8)) : is m l = l.contains m.toList := by rw [is, Fnd.toList_data]
set_option maxHeartbeats 4000000 in
theorem binary_walk {x : Ctx} (hx : x.Ok) {of : Of} (hof : OfIs x of) : BinIs x of := by
 intro e A c f r w he h hr
 unfold binary at hr
 split at hr
 case h_2 => cases hr
 rename_i a b tl hk
 have hk0 : e.f5[0]? = some a := by rw [hk]; rfl
 have hk1 : e.f5[1]? = some b := by rw [hk]; rfl
 obtain ⟨ad, A0, c0, hA, x0, x1, x2, x3, x4, x5, hE0⟩ := kid_at he 0 a hk0
 obtain ⟨ad', A1, c1, hA', y0, y1, y2, y3, y4, y5, hE1⟩ := kid_at he 1 b hk1
 subst hA
 obtain rfl : ad = ad' := Option.some.inj hA'
 have hlen : 2 ≤ e.f5.length := by rw [hk]; simp
 have H := Lib.hid h
 have HE := Lib.hid (And.intro hE0 hE1)
 have HR := Lib.hid hr
 have HX := Lib.hid (And.intro x0 (And.intro x1 (And.intro x2 (And.intro x3 (And.intro x4 x5)))))
 have HY := Lib.hid (And.intro y0 (And.intro y1 (And.intro y2 (And.intro y3 (And.intro y4 y5)))))
 clear h he hE0 hE1 hr hk hk0 hk1 x0 x1 x2 x3 x4 x5 y0 y1 y2 y3 y4 y5 hA'
 have l0 : (0 : Int) < (e.f5.length : Int) := by omega
 have l1 : (1 : Int) < (e.f5.length : Int) := by omega
 go_enter Tryd.func130, Tryd.ntmps130
 go_wp2_with (fail)
 have HS := Lib.hid (H.out.ck.new (q := exO e (some ad) c))
 generalize hW : w.alloc _ = W
 rw [hW] at HS
 have hb := (H.out.of_ck hx HS.out).bel
 obtain ⟨x0, x1, x2, x3, x4, x5⟩ := HX.out
 obtain ⟨y0, y1, y2, y3, y4, y5⟩ := HY.out
 simp only [Nat.reduceMul, Nat.reduceEqDiff, Go.Addr.add, ↓reduceIte] at x0 x1 x2 x3 x4 x5 y0 y1 y2 y3 y4 y5
 have l0' : (0 < e.f5.length) = True := eq_true (by omega)
 have l1' : (1 < e.f5.length) = True := eq_true (by omega)
 replace x0 := pw_cell_below hb x0
 replace x1 := pw_cell_below hb x1
 replace x2 := pw_cell_below hb x2
 replace x3 := pw_cell_below hb x3
 replace x4 := pw_cell_below hb x4
 replace x5 := pw_cell_below hb x5
 replace y0 := pw_cell_below hb y0
 replace y1 := pw_cell_below hb y1
 replace y2 := pw_cell_below hb y2
 replace y3 := pw_cell_below hb y3
 replace y4 := pw_cell_below hb y4
 replace y5 := pw_cell_below hb y5
 obtain ⟨q0, q1, q2, q3, q4, q5, qf⟩ := blk6 HS.out.l0
 have ql := blk_lt HS.out.l0
 have adl : ad.block < W.heap.size := World.block_lt_of_cell? _ _ x0
 have nb0 : ¬ (ad.block = W.heap.size) := by omega
 have nb1 : ¬ (ad.block = W.heap.size + 1) := by omega
 have nb2 : ¬ (w.heap.size = W.heap.size) := by omega
 have nb3 : ¬ (w.heap.size = W.heap.size + 1) := by omega
 clear hb hW
 go_cut [5, 6] (fun u v wc => ∃ ga gb, u = .pointer (some ⟨ga, 0, none⟩) ∧ v = .pointer (some ⟨gb, 0, none⟩) ∧ Hid (Ck x.c w wc (x.obj f) [(gb, exO b A1 c1), (ga, exO a A0 c0), (w.heap.size, exO e (some ad) c)]))
 case first =>
  go_region
  all_goals
   go_wp2_with (fail)
   go_meet
   case rel =>
    first
    | exact ⟨W.heap.size, W.heap.size + 1, rfl, rfl, Lib.hid (HS.out.two (exO a A0 c0) (exO b A1 c1)).drew⟩
    | exact ⟨W.heap.size + 1, W.heap.size, rfl, rfl, Lib.hid (HS.out.two (exO b A1 c1) (exO a A0 c0)).swap.drew⟩
 case rest =>
  obtain ⟨ga, gb, rfl, rfl, HS'⟩ := hcut
  clear HS x0 x1 x2 x3 x4 x5 y0 y1 y2 y3 y4 y5 q0 q1 q2 q3 q4 q5 qf ql adl nb0 nb1 nb2 nb3 HX HY
  have HS := HS'
  clear HS'
  obtain ⟨e0, e1, e2, e3, e4, e5, ef⟩ := blk6 HS.out.l2
  obtain ⟨a0, a1, a2, a3, a4, a5, af⟩ := blk6 HS.out.l1
  obtain ⟨b0, b1, b2, b3, b4, b5, bf⟩ := blk6 HS.out.l0
  have el := blk_lt HS.out.l2
  have al := blk_lt HS.out.l1
  have bl := blk_lt HS.out.l0
  have hr := HR.out
  cases hi : is e.f3 [[97, 110, 100], [111, 114], [120, 111, 114]] with
  | true =>
   rw [hi, if_pos rfl] at hr
   obtain ⟨f2, hf2, hr⟩ := Option.bind_eq_some_iff.1 hr
   obtain rfl := Option.some.inj hr
   obtain ⟨f1, hf1, hf2⟩ := Option.bind_eq_some_iff.1 hf2
   have HF := Lib.hid (And.intro hf1 hf2)
   clear hf1 hf2 hr HR
   rw [is_cases] at hi
   have hi : e.f3.toList = [97, 110, 100] ∨ e.f3.toList = [111, 114] ∨ e.f3.toList = [120, 111, 114] := by simpa using hi
   rcases hi with hi | hi | hi
   all_goals
    go_wp2_with (fail)
    refine (want_walk hx hof a A0 c0 true f f1 _ HE.out.1 (H.out.of_ck hx HS.out) HF.out.1).mono ?_
    rintro e' w1 ⟨rfl, hD⟩
    have HS2 := Lib.hid (Ck.does HS.out hD)
    clear hD
    obtain ⟨e0, e1, e2, e3, e4, e5, ef⟩ := blk6 HS2.out.l2
    obtain ⟨a0, a1, a2, a3, a4, a5, af⟩ := blk6 HS2.out.l1
    obtain ⟨b0, b1, b2, b3, b4, b5, bf⟩ := blk6 HS2.out.l0
    have el := blk_lt HS2.out.l2
    have al := blk_lt HS2.out.l1
    have bl := blk_lt HS2.out.l0
    go_wp2_with (fail)
    refine (want_walk hx hof b A1 c1 true f1 f2 _ HE.out.2 (H.out.of_ck hx HS2.out) HF.out.2).mono ?_
    rintro e' w2 ⟨rfl, hD⟩
    have HS3 := Lib.hid (Ck.does HS2.out hD)
    clear hD
    go_wp2_with (fail)
    go_ret
    exact ⟨rfl, Does.of_ck HS3.out⟩
  | false =>
   have hn1 : ¬ (e.f3.toList = [97, 110, 100] ∨ e.f3.toList = [111, 114] ∨ e.f3.toList = [120, 111, 114]) := by
    rw [is_cases] at hi
    simpa using hi
   obtain ⟨n1, n2, n3⟩ : e.f3.toList ≠ [97, 110, 100] ∧ e.f3.toList ≠ [111, 114] ∧ e.f3.toList ≠ [120, 111, 114] := ⟨fun h => hn1 (.inl h), fun h => hn1 (.inr (.inl h)), fun h => hn1 (.inr (.inr h))⟩
   have k1 : (e.f3.toList == [97, 110, 100]) = false := beq_eq_false_iff_ne.2 n1
   have k2 : (e.f3.toList == [111, 114]) = false := beq_eq_false_iff_ne.2 n2
   have k3 : (e.f3.toList == [120, 111, 114]) = false := beq_eq_false_iff_ne.2 n3
   rw [hi, if_neg (by decide)] at hr
   clear hn1 n1 n2 n3 hi
   cases hi : is e.f3 [[61], [60, 62]] with
   | true =>
    rw [hi, if_pos rfl] at hr
    obtain ⟨q, hq, hr⟩ := Option.bind_eq_some_iff.1 hr
    obtain rfl := Option.some.inj hr
    have HF := Lib.hid hq
    clear hq hr HR
    rw [is_cases] at hi
    have hi : e.f3.toList = [61] ∨ e.f3.toList = [60, 62] := by simpa using hi
    rcases hi with hi | hi
    all_goals
     clear k1 k2 k3
     go_wp2_with (fail)
     refine (same_walk hx hof a A0 c0 b A1 c1 f q _ HE.out.1 HE.out.2 (H.out.of_ck hx HS.out) HF.out).mono ?_
     rintro e' w1 ⟨rfl, hD⟩
     have HS2 := Lib.hid (Ck.does HS.out hD)
     clear hD
     go_wp2_with (fail)
     go_ret
     exact ⟨rfl, Does.of_ck HS2.out⟩
   | false =>
    have hn1 : ¬ (e.f3.toList = [61] ∨ e.f3.toList = [60, 62]) := by
     rw [is_cases] at hi
     simpa using hi
    have k4 : (e.f3.toList == [61]) = false := beq_eq_false_iff_ne.2 (fun h => hn1 (.inl h))
    have k5 : (e.f3.toList == [60, 62]) = false := beq_eq_false_iff_ne.2 (fun h => hn1 (.inr h))
    rw [hi, if_neg (by decide)] at hr
    obtain ⟨f2, hf2, hr⟩ := Option.bind_eq_some_iff.1 hr
    obtain ⟨f1, hf1, hf2⟩ := Option.bind_eq_some_iff.1 hf2
    have HF := Lib.hid (And.intro hf1 hf2)
    have HR := Lib.hid hr
    clear hn1 hi hf1 hf2 hr
    go_wp2_with (fail)
    refine (want_walk hx hof a A0 c0 false f f1 _ HE.out.1 (H.out.of_ck hx HS.out) HF.out.1).mono ?_
    rintro e' w1 ⟨rfl, hD⟩
    have HS2 := Lib.hid (Ck.does HS.out hD)
    clear hD
    obtain ⟨e0, e1, e2, e3, e4, e5, ef⟩ := blk6 HS2.out.l2
    obtain ⟨a0, a1, a2, a3, a4, a5, af⟩ := blk6 HS2.out.l1
    obtain ⟨b0, b1, b2, b3, b4, b5, bf⟩ := blk6 HS2.out.l0
    have el := blk_lt HS2.out.l2
    have al := blk_lt HS2.out.l1
    have bl := blk_lt HS2.out.l0
    go_wp2_with (fail)
    refine (want_walk hx hof b A1 c1 false f1 f2 _ HE.out.2 (H.out.of_ck hx HS2.out) HF.out.2).mono ?_
    rintro e' w2 ⟨rfl, hD⟩
    have HS3 := Lib.hid (Ck.does HS2.out hD)
    clear hD
    obtain ⟨e0, e1, e2, e3, e4, e5, ef⟩ := blk6 HS3.out.l2
    obtain ⟨a0, a1, a2, a3, a4, a5, af⟩ := blk6 HS3.out.l1
    obtain ⟨b0, b1, b2, b3, b4, b5, bf⟩ := blk6 HS3.out.l0
    have el := blk_lt HS3.out.l2
    have al := blk_lt HS3.out.l1
    have bl := blk_lt HS3.out.l0
    have hr := HR.out
    cases hi : is e.f3 [[47], [109, 111, 100]] with
    | true =>
     rw [hi, if_pos rfl] at hr
     rw [is_cases] at hi
     have hi : e.f3.toList = [47] ∨ e.f3.toList = [109, 111, 100] := by simpa using hi
     clear k1 k2 k3 k4 k5 HR
     by_cases z1 : b.f0 = 1
     ·have z3 : (b.f0 != 1) = false := by rw [z1]; rfl
      by_cases z2 : b.f2 = 0
      ·have z4 : (b.f2 == 0) = true := by rw [z2]; rfl
       rw [z3, z4, if_pos (by decide)] at hr
       obtain rfl := Option.some.inj hr
       clear hr
       rcases hi with hi | hi
       all_goals
        go_wp2_with (fail)
        refine (bad_walk hx b.f1 11 f2 _ (H.out.of_ck hx HS3.out)).mono ?_
        rintro e' w3 ⟨rfl, hD⟩
        have HS4 := Lib.hid (Ck.does HS3.out hD)
        clear hD
        go_wp2_with (fail)
        go_ret
        exact ⟨rfl, Does.of_ck HS4.out⟩
      ·have z4 : (b.f2 == 0) = false := by simpa using z2
       rw [z3, z4, if_neg (by decide)] at hr
       obtain rfl := Option.some.inj hr
       clear hr
       rcases hi with hi | hi
       all_goals
        go_wp2_with (fail)
        go_ret
        exact ⟨rfl, Does.of_ck HS3.out⟩
     ·have z3 : (b.f0 != 1) = true := by simpa using z1
      rw [z3, Bool.true_or, if_pos rfl] at hr
      obtain rfl := Option.some.inj hr
      clear hr
      rcases hi with hi | hi
      all_goals
       go_wp2_with (fail)
       refine (bad_walk hx b.f1 11 f2 _ (H.out.of_ck hx HS3.out)).mono ?_
       rintro e' w3 ⟨rfl, hD⟩
       have HS4 := Lib.hid (Ck.does HS3.out hD)
       clear hD
       go_wp2_with (fail)
       go_ret
       exact ⟨rfl, Does.of_ck HS4.out⟩
    | false =>
     rw [hi, if_neg (by decide)] at hr
     obtain rfl := Option.some.inj hr
     have hn1 : ¬ (e.f3.toList = [47] ∨ e.f3.toList = [109, 111, 100]) := by
      rw [is_cases] at hi
      simpa using hi
     have k6 : (e.f3.toList == [47]) = false := beq_eq_false_iff_ne.2 (fun h => hn1 (.inl h))
     have k7 : (e.f3.toList == [109, 111, 100]) = false := beq_eq_false_iff_ne.2 (fun h => hn1 (.inr h))
     clear hr HR hi hn1 k1 k2 k3 k4 k5
     cases hi : is e.f3 [[43], [45], [42]] with
     | true =>
      have HI := Lib.hid hi
      rw [is_cases] at hi
      have hi : e.f3.toList = [43] ∨ e.f3.toList = [45] ∨ e.f3.toList = [42] := by simpa using hi
      clear k6 k7
      rcases hi with hi | hi | hi
      all_goals
       go_wp2_with (fail)
       go_ret
       exact ⟨by rw [HI.out]; rfl, Does.of_ck HS3.out⟩
     | false =>
      have HI := Lib.hid hi
      have hn1 : ¬ (e.f3.toList = [43] ∨ e.f3.toList = [45] ∨ e.f3.toList = [42]) := by
       rw [is_cases] at hi
       simpa using hi
      have k8 : (e.f3.toList == [43]) = false := beq_eq_false_iff_ne.2 (fun h => hn1 (.inl h))
      have k9 : (e.f3.toList == [45]) = false := beq_eq_false_iff_ne.2 (fun h => hn1 (.inr (.inl h)))
      have k10 : (e.f3.toList == [42]) = false := beq_eq_false_iff_ne.2 (fun h => hn1 (.inr (.inr h)))
      clear hn1 hi
      go_wp2_with (fail)
      go_ret
      exact ⟨by rw [HI.out]; rfl, Does.of_ck HS3.out⟩
end Go.Proofs.YtjafllnbgfcchaaDoor.Ct
end
section
/- The checker of types: await, call, walked. -/
namespace Go.Proofs.YtjafllnbgfcchaaDoor.Ct
set_option linter.unusedVariables false
set_option linter.unusedSimpArgs false
open Go Go.RowKit Go.Proofs.YtjafllnbgfcchaaDoorW.PrintWords Go.Proofs.YtjafllnbgfcchaaDoorW.PrintLast Go.Proofs.YtjafllnbgfcchaaDoorW.PrintMore Go.Proofs.YtjafllnbgfcchaaDoor.Lx Go.Proofs.YtjafllnbgfcchaaDoor.XK Go.Proofs.YtjafllnbgfcchaaDoor.Px Go.Proofs.YtjafllnbgfcchaaDoor.Ck
attribute [local go_sem ↓] Go.wp_at_zero Go.wp_at_succ
abbrev dcO (d : D) : Obj := .cells #[.string d.f0, .int .i64 d.f1, .bool d.f2.f0, .bool d.f2.f1, .string d.f3, .bool d.f4] 39 (0, 0)
theorem drop_at {α : Type} {l : List α} {i : Nat} (h : i < l.length) : ∃ k, l[i]? = some k ∧ l.drop i = k :: l.drop (i + 1) := ⟨l[i], by simp [h], List.drop_eq_getElem_cons h⟩
theorem _root_.Go.Proofs.YtjafllnbgfcchaaDoor.Ck.Ck.drop1 {c : Nat} {w W : World} {o : Obj} {y : Nat × Obj} {l : List (Nat × Obj)} (h : Ck c w W o (y :: l)) : Ck c w W o l := h.sub (fun z hz => List.mem_cons_of_mem _ hz)
theorem _root_.Go.Proofs.YtjafllnbgfcchaaDoor.Ck.Ck.st6 {c g : Nat} {w W : World} {o : Obj} {l : List (Nat × Obj)} (hn : ∀ y ∈ l, y.1 ≠ g) (hg : w.heap.size ≤ g) (h : Ck c w W o l) (v0 v1 v2 v3 v4 v5 : Value) :
    Ck c w ((((((W.setCell ⟨g, 0, none⟩ v0).setCell ⟨g, 1, none⟩ v1).setCell ⟨g, 2, none⟩ v2).setCell ⟨g, 3, none⟩ v3).setCell ⟨g, 4, none⟩ v4).setCell ⟨g, 5, none⟩ v5) o l :=
  Ck.store hg hn (Ck.store hg hn (Ck.store hg hn (Ck.store hg hn (Ck.store hg hn (Ck.store hg hn h)))))
theorem _root_.Go.Proofs.YtjafllnbgfcchaaDoor.Ck.Ck.set6 {c g : Nat} {w W : World} {o : Obj} {l : List (Nat × Obj)} {t : TypeId} {a0 a1 a2 a3 a4 a5 : Value} (h : Ck c w W o ((g, .cells #[a0, a1, a2, a3, a4, a5] t (0, 0)) :: l)) (hn : ∀ y ∈ l, y.1 ≠ g) (v0 v1 v2 v3 v4 v5 : Value) :
    Ck c w ((((((W.setCell ⟨g, 0, none⟩ v0).setCell ⟨g, 1, none⟩ v1).setCell ⟨g, 2, none⟩ v2).setCell ⟨g, 3, none⟩ v3).setCell ⟨g, 4, none⟩ v4).setCell ⟨g, 5, none⟩ v5) o ((g, .cells #[v0, v1, v2, v3, v4, v5] t (0, 0)) :: l) :=
  Ck.cons h.g0 (blk_set6 h.l0 v0 v1 v2 v3 v4 v5) (Ck.st6 hn h.g0 h.drop1 v0 v1 v2 v3 v4 v5)
abbrev AwaitIs (x : Ctx) (of : Of) : Prop := ∀ (e : E) (A : Option Addr) (c : Nat) (f : F) (r : Bool × F) (w : World), ExAt x.w0 e A c → At x w f → await of x.n e f = some r →
  Calls Tryd.prog 132 #[.pointer (some ⟨x.c, 0, none⟩), exA e A c] w fun e' w' => e' = .returned (.bool r.1) ∧ Does x r.2 w w'
set_option maxHeartbeats 4000000 in
theorem await_walk {x : Ctx} (hx : x.Ok) {of : Of} (hof : OfIs x of) : AwaitIs x of := by
  intro e A c f r w he h hr
  unfold await at hr
  obtain ⟨d, hd⟩ : ∃ d, namedD x.n e.f3 = d := ⟨_, rfl⟩
  obtain ⟨B, hB⟩ : ∃ B, (named x.n e.f3).isSome = B := ⟨_, rfl⟩
  rw [hd] at hr
  dsimp only at hr
  have H := Lib.hid h
  have HE := Lib.hid he
  have HR := Lib.hid hr
  have HD := Lib.hid (And.intro hd hB)
  clear h he hr hd hB
  go_enter Tryd.func132, Tryd.ntmps132
  have h9 := blk9 H.out.blk
  obtain ⟨s0, s1, s2, s3, s4, s5, s6, s7, s8, sf⟩ := h9
  have sl := blk_lt H.out.blk
  go_wp2_with (fail)
  have HS := Lib.hid (H.out.ck.new (q := exO e A c))
  generalize hW : w.alloc _ = W
  rw [hW] at HS
  clear hW s0 s1 s2 s3 s4 s5 s6 s7 s8 sf
  have pfS : ∀ {V : World}, Ck x.c w V (x.obj f) [(w.heap.size, exO e A c)] → V.cell? ⟨x.c, 1, none⟩ = some (.string x.n.f0) ∧ V.cell? ⟨x.c, 2, none⟩ = some (.int .i64 x.n.f1) ∧ V.cell? ⟨x.c, 3, none⟩ = some (.slice x.A2 x.n.f2.length x.c2) ∧ V.cell? ⟨x.c, 4, none⟩ = some (.slice x.A3 x.n.f3.length x.c3) ∧ V.cell? ⟨x.c, 5, none⟩ = some (.slice x.A4 x.n.f4.length x.c4) ∧ V.cell? ⟨x.c, 6, none⟩ = some (.slice x.A5 x.n.f5.length x.c5) ∧ V.cell? ⟨w.heap.size, 3, none⟩ = some (.string e.f3) := fun {V} h => ⟨blk_cell h.blk 1, blk_cell h.blk 2, blk_cell h.blk 3, blk_cell h.blk 4, blk_cell h.blk 5, blk_cell h.blk 6, blk_cell h.l0 3⟩
  have hS0 : (W.drew).cell? ⟨x.c, 1, none⟩ = some (.string x.n.f0) ∧ (W.drew).cell? ⟨x.c, 2, none⟩ = some (.int .i64 x.n.f1) ∧ (W.drew).cell? ⟨x.c, 3, none⟩ = some (.slice x.A2 x.n.f2.length x.c2) ∧ (W.drew).cell? ⟨x.c, 4, none⟩ = some (.slice x.A3 x.n.f3.length x.c3) ∧ (W.drew).cell? ⟨x.c, 5, none⟩ = some (.slice x.A4 x.n.f4.length x.c4) ∧ (W.drew).cell? ⟨x.c, 6, none⟩ = some (.slice x.A5 x.n.f5.length x.c5) ∧ (W.drew).cell? ⟨w.heap.size, 3, none⟩ = some (.string e.f3) := pfS HS.out.drew
  have hSa : ∀ o, ((W.drew).alloc o).cell? ⟨x.c, 1, none⟩ = some (.string x.n.f0) ∧ ((W.drew).alloc o).cell? ⟨x.c, 2, none⟩ = some (.int .i64 x.n.f1) ∧ ((W.drew).alloc o).cell? ⟨x.c, 3, none⟩ = some (.slice x.A2 x.n.f2.length x.c2) ∧ ((W.drew).alloc o).cell? ⟨x.c, 4, none⟩ = some (.slice x.A3 x.n.f3.length x.c3) ∧ ((W.drew).alloc o).cell? ⟨x.c, 5, none⟩ = some (.slice x.A4 x.n.f4.length x.c4) ∧ ((W.drew).alloc o).cell? ⟨x.c, 6, none⟩ = some (.slice x.A5 x.n.f5.length x.c5) ∧ ((W.drew).alloc o).cell? ⟨w.heap.size, 3, none⟩ = some (.string e.f3) := fun o => pfS (Ck.alloc HS.out.drew)
  have hSb : ∀ o, ((W.alloc o).drew).cell? ⟨x.c, 1, none⟩ = some (.string x.n.f0) ∧ ((W.alloc o).drew).cell? ⟨x.c, 2, none⟩ = some (.int .i64 x.n.f1) ∧ ((W.alloc o).drew).cell? ⟨x.c, 3, none⟩ = some (.slice x.A2 x.n.f2.length x.c2) ∧ ((W.alloc o).drew).cell? ⟨x.c, 4, none⟩ = some (.slice x.A3 x.n.f3.length x.c3) ∧ ((W.alloc o).drew).cell? ⟨x.c, 5, none⟩ = some (.slice x.A4 x.n.f4.length x.c4) ∧ ((W.alloc o).drew).cell? ⟨x.c, 6, none⟩ = some (.slice x.A5 x.n.f5.length x.c5) ∧ ((W.alloc o).drew).cell? ⟨w.heap.size, 3, none⟩ = some (.string e.f3) := fun o => pfS (Ck.drew (Ck.alloc HS.out))
  have ge9 : w.heap.size ≤ W.heap.size := HS.out.sz
  have nb9 : ∀ y ∈ ([(w.heap.size, exO e A c)] : List (Nat × Obj)), y.1 ≠ W.heap.size := fun y hy => Nat.ne_of_lt (blk_lt (HS.out.loc y hy).2)
  go_cut [5] (fun u wc => ∃ gd, u = .pointer (some ⟨gd, 0, none⟩) ∧ Hid (Ck x.c w wc (x.obj f) ((gd, dcO d) :: [(w.heap.size, exO e A c)])))
  case first =>
    go_region_held2 (fun w' => w'.cell? ⟨x.c, 1, none⟩ = some (.string x.n.f0) ∧ w'.cell? ⟨x.c, 2, none⟩ = some (.int .i64 x.n.f1) ∧ w'.cell? ⟨x.c, 3, none⟩ = some (.slice x.A2 x.n.f2.length x.c2) ∧ w'.cell? ⟨x.c, 4, none⟩ = some (.slice x.A3 x.n.f3.length x.c3) ∧ w'.cell? ⟨x.c, 5, none⟩ = some (.slice x.A4 x.n.f4.length x.c4) ∧ w'.cell? ⟨x.c, 6, none⟩ = some (.slice x.A5 x.n.f5.length x.c5) ∧ w'.cell? ⟨w.heap.size, 3, none⟩ = some (.string e.f3)) (first | with_reducible exact hS0 | with_reducible exact hSa _ | with_reducible exact hSb _ | with_reducible exact hS1 | with_reducible exact hS2 _ | with_reducible exact hS5 _ _ _ _ _ _) (first | (go_at_call 93; (first | ((with_reducible refine (named_walk hx e.f3 _ (H.out.of_ck hx (HS.out.drew)).bel).mono ?_); go_must (rintro e' w1 ⟨rfl, hb⟩; (try rw [HD.out.1, HD.out.2]); have HSC := Lib.hid (Ck.below (HS.out.drew) hb); have mkX : True := trivial; have hS1 : w1.cell? ⟨x.c, 1, none⟩ = some (.string x.n.f0) ∧ w1.cell? ⟨x.c, 2, none⟩ = some (.int .i64 x.n.f1) ∧ w1.cell? ⟨x.c, 3, none⟩ = some (.slice x.A2 x.n.f2.length x.c2) ∧ w1.cell? ⟨x.c, 4, none⟩ = some (.slice x.A3 x.n.f3.length x.c3) ∧ w1.cell? ⟨x.c, 5, none⟩ = some (.slice x.A4 x.n.f4.length x.c4) ∧ w1.cell? ⟨x.c, 6, none⟩ = some (.slice x.A5 x.n.f5.length x.c5) ∧ w1.cell? ⟨w.heap.size, 3, none⟩ = some (.string e.f3) := pfS HSC.out; have hS2 : ∀ o, (w1.alloc o).cell? ⟨x.c, 1, none⟩ = some (.string x.n.f0) ∧ (w1.alloc o).cell? ⟨x.c, 2, none⟩ = some (.int .i64 x.n.f1) ∧ (w1.alloc o).cell? ⟨x.c, 3, none⟩ = some (.slice x.A2 x.n.f2.length x.c2) ∧ (w1.alloc o).cell? ⟨x.c, 4, none⟩ = some (.slice x.A3 x.n.f3.length x.c3) ∧ (w1.alloc o).cell? ⟨x.c, 5, none⟩ = some (.slice x.A4 x.n.f4.length x.c4) ∧ (w1.alloc o).cell? ⟨x.c, 6, none⟩ = some (.slice x.A5 x.n.f5.length x.c5) ∧ (w1.alloc o).cell? ⟨w.heap.size, 3, none⟩ = some (.string e.f3) := fun o => pfS (Ck.alloc HSC.out); clear hb)) | ((with_reducible refine (named_walk hx e.f3 _ (H.out.of_ck hx (Ck.drew (Ck.new (q := Obj.cells #[.string ⟨#[]⟩, .int .i64 0, .bool false, .bool false, .string ⟨#[]⟩, .bool false] 39) HS.out))).bel).mono ?_); go_must (rintro e' w1 ⟨rfl, hb⟩; (try rw [HD.out.1, HD.out.2]); have HSC := Lib.hid (Ck.below (HS.out.new.drew) hb); have mkX : True ∧ True := ⟨trivial, trivial⟩; have hS1 : w1.cell? ⟨x.c, 1, none⟩ = some (.string x.n.f0) ∧ w1.cell? ⟨x.c, 2, none⟩ = some (.int .i64 x.n.f1) ∧ w1.cell? ⟨x.c, 3, none⟩ = some (.slice x.A2 x.n.f2.length x.c2) ∧ w1.cell? ⟨x.c, 4, none⟩ = some (.slice x.A3 x.n.f3.length x.c3) ∧ w1.cell? ⟨x.c, 5, none⟩ = some (.slice x.A4 x.n.f4.length x.c4) ∧ w1.cell? ⟨x.c, 6, none⟩ = some (.slice x.A5 x.n.f5.length x.c5) ∧ w1.cell? ⟨w.heap.size, 3, none⟩ = some (.string e.f3) := pfS (Ck.drop1 HSC.out); have hS2 : ∀ o, (w1.alloc o).cell? ⟨x.c, 1, none⟩ = some (.string x.n.f0) ∧ (w1.alloc o).cell? ⟨x.c, 2, none⟩ = some (.int .i64 x.n.f1) ∧ (w1.alloc o).cell? ⟨x.c, 3, none⟩ = some (.slice x.A2 x.n.f2.length x.c2) ∧ (w1.alloc o).cell? ⟨x.c, 4, none⟩ = some (.slice x.A3 x.n.f3.length x.c3) ∧ (w1.alloc o).cell? ⟨x.c, 5, none⟩ = some (.slice x.A4 x.n.f4.length x.c4) ∧ (w1.alloc o).cell? ⟨x.c, 6, none⟩ = some (.slice x.A5 x.n.f5.length x.c5) ∧ (w1.alloc o).cell? ⟨w.heap.size, 3, none⟩ = some (.string e.f3) := fun o => pfS (Ck.alloc (Ck.drop1 HSC.out)); have hS5 : ∀ v0 v1 v2 v3 v4 v5 : Value, ((((((w1.setCell ⟨W.heap.size, 0, none⟩ v0).setCell ⟨W.heap.size, 1, none⟩ v1).setCell ⟨W.heap.size, 2, none⟩ v2).setCell ⟨W.heap.size, 3, none⟩ v3).setCell ⟨W.heap.size, 4, none⟩ v4).setCell ⟨W.heap.size, 5, none⟩ v5).cell? ⟨x.c, 1, none⟩ = some (.string x.n.f0) ∧ ((((((w1.setCell ⟨W.heap.size, 0, none⟩ v0).setCell ⟨W.heap.size, 1, none⟩ v1).setCell ⟨W.heap.size, 2, none⟩ v2).setCell ⟨W.heap.size, 3, none⟩ v3).setCell ⟨W.heap.size, 4, none⟩ v4).setCell ⟨W.heap.size, 5, none⟩ v5).cell? ⟨x.c, 2, none⟩ = some (.int .i64 x.n.f1) ∧ ((((((w1.setCell ⟨W.heap.size, 0, none⟩ v0).setCell ⟨W.heap.size, 1, none⟩ v1).setCell ⟨W.heap.size, 2, none⟩ v2).setCell ⟨W.heap.size, 3, none⟩ v3).setCell ⟨W.heap.size, 4, none⟩ v4).setCell ⟨W.heap.size, 5, none⟩ v5).cell? ⟨x.c, 3, none⟩ = some (.slice x.A2 x.n.f2.length x.c2) ∧ ((((((w1.setCell ⟨W.heap.size, 0, none⟩ v0).setCell ⟨W.heap.size, 1, none⟩ v1).setCell ⟨W.heap.size, 2, none⟩ v2).setCell ⟨W.heap.size, 3, none⟩ v3).setCell ⟨W.heap.size, 4, none⟩ v4).setCell ⟨W.heap.size, 5, none⟩ v5).cell? ⟨x.c, 4, none⟩ = some (.slice x.A3 x.n.f3.length x.c3) ∧ ((((((w1.setCell ⟨W.heap.size, 0, none⟩ v0).setCell ⟨W.heap.size, 1, none⟩ v1).setCell ⟨W.heap.size, 2, none⟩ v2).setCell ⟨W.heap.size, 3, none⟩ v3).setCell ⟨W.heap.size, 4, none⟩ v4).setCell ⟨W.heap.size, 5, none⟩ v5).cell? ⟨x.c, 5, none⟩ = some (.slice x.A4 x.n.f4.length x.c4) ∧ ((((((w1.setCell ⟨W.heap.size, 0, none⟩ v0).setCell ⟨W.heap.size, 1, none⟩ v1).setCell ⟨W.heap.size, 2, none⟩ v2).setCell ⟨W.heap.size, 3, none⟩ v3).setCell ⟨W.heap.size, 4, none⟩ v4).setCell ⟨W.heap.size, 5, none⟩ v5).cell? ⟨x.c, 6, none⟩ = some (.slice x.A5 x.n.f5.length x.c5) ∧ ((((((w1.setCell ⟨W.heap.size, 0, none⟩ v0).setCell ⟨W.heap.size, 1, none⟩ v1).setCell ⟨W.heap.size, 2, none⟩ v2).setCell ⟨W.heap.size, 3, none⟩ v3).setCell ⟨W.heap.size, 4, none⟩ v4).setCell ⟨W.heap.size, 5, none⟩ v5).cell? ⟨w.heap.size, 3, none⟩ = some (.string e.f3) := fun v0 v1 v2 v3 v4 v5 => pfS (Ck.st6 nb9 ge9 (Ck.drop1 HSC.out) v0 v1 v2 v3 v4 v5); obtain ⟨z0, z1, z2, z3, z4, z5, zf⟩ := blk6 HSC.out.l0; have zl := blk_lt HSC.out.l0; clear hb)) | ((with_reducible refine (named_walk hx e.f3 _ (H.out.of_ck hx (Ck.newg (g := W.heap.size) (q := Obj.cells #[.string ⟨#[]⟩, .int .i64 0, .bool false, .bool false, .string ⟨#[]⟩, .bool false] 39) rfl (Ck.drew HS.out))).bel).mono ?_); go_must (rintro e' w1 ⟨rfl, hb⟩; (try rw [HD.out.1, HD.out.2]); have HSC := Lib.hid (Ck.below (Ck.newg (g := W.heap.size) rfl (Ck.drew HS.out)) hb); have mkX : True ∧ True := ⟨trivial, trivial⟩; have hS1 : w1.cell? ⟨x.c, 1, none⟩ = some (.string x.n.f0) ∧ w1.cell? ⟨x.c, 2, none⟩ = some (.int .i64 x.n.f1) ∧ w1.cell? ⟨x.c, 3, none⟩ = some (.slice x.A2 x.n.f2.length x.c2) ∧ w1.cell? ⟨x.c, 4, none⟩ = some (.slice x.A3 x.n.f3.length x.c3) ∧ w1.cell? ⟨x.c, 5, none⟩ = some (.slice x.A4 x.n.f4.length x.c4) ∧ w1.cell? ⟨x.c, 6, none⟩ = some (.slice x.A5 x.n.f5.length x.c5) ∧ w1.cell? ⟨w.heap.size, 3, none⟩ = some (.string e.f3) := pfS (Ck.drop1 HSC.out); have hS2 : ∀ o, (w1.alloc o).cell? ⟨x.c, 1, none⟩ = some (.string x.n.f0) ∧ (w1.alloc o).cell? ⟨x.c, 2, none⟩ = some (.int .i64 x.n.f1) ∧ (w1.alloc o).cell? ⟨x.c, 3, none⟩ = some (.slice x.A2 x.n.f2.length x.c2) ∧ (w1.alloc o).cell? ⟨x.c, 4, none⟩ = some (.slice x.A3 x.n.f3.length x.c3) ∧ (w1.alloc o).cell? ⟨x.c, 5, none⟩ = some (.slice x.A4 x.n.f4.length x.c4) ∧ (w1.alloc o).cell? ⟨x.c, 6, none⟩ = some (.slice x.A5 x.n.f5.length x.c5) ∧ (w1.alloc o).cell? ⟨w.heap.size, 3, none⟩ = some (.string e.f3) := fun o => pfS (Ck.alloc (Ck.drop1 HSC.out)); have hS5 : ∀ v0 v1 v2 v3 v4 v5 : Value, ((((((w1.setCell ⟨W.heap.size, 0, none⟩ v0).setCell ⟨W.heap.size, 1, none⟩ v1).setCell ⟨W.heap.size, 2, none⟩ v2).setCell ⟨W.heap.size, 3, none⟩ v3).setCell ⟨W.heap.size, 4, none⟩ v4).setCell ⟨W.heap.size, 5, none⟩ v5).cell? ⟨x.c, 1, none⟩ = some (.string x.n.f0) ∧ ((((((w1.setCell ⟨W.heap.size, 0, none⟩ v0).setCell ⟨W.heap.size, 1, none⟩ v1).setCell ⟨W.heap.size, 2, none⟩ v2).setCell ⟨W.heap.size, 3, none⟩ v3).setCell ⟨W.heap.size, 4, none⟩ v4).setCell ⟨W.heap.size, 5, none⟩ v5).cell? ⟨x.c, 2, none⟩ = some (.int .i64 x.n.f1) ∧ ((((((w1.setCell ⟨W.heap.size, 0, none⟩ v0).setCell ⟨W.heap.size, 1, none⟩ v1).setCell ⟨W.heap.size, 2, none⟩ v2).setCell ⟨W.heap.size, 3, none⟩ v3).setCell ⟨W.heap.size, 4, none⟩ v4).setCell ⟨W.heap.size, 5, none⟩ v5).cell? ⟨x.c, 3, none⟩ = some (.slice x.A2 x.n.f2.length x.c2) ∧ ((((((w1.setCell ⟨W.heap.size, 0, none⟩ v0).setCell ⟨W.heap.size, 1, none⟩ v1).setCell ⟨W.heap.size, 2, none⟩ v2).setCell ⟨W.heap.size, 3, none⟩ v3).setCell ⟨W.heap.size, 4, none⟩ v4).setCell ⟨W.heap.size, 5, none⟩ v5).cell? ⟨x.c, 4, none⟩ = some (.slice x.A3 x.n.f3.length x.c3) ∧ ((((((w1.setCell ⟨W.heap.size, 0, none⟩ v0).setCell ⟨W.heap.size, 1, none⟩ v1).setCell ⟨W.heap.size, 2, none⟩ v2).setCell ⟨W.heap.size, 3, none⟩ v3).setCell ⟨W.heap.size, 4, none⟩ v4).setCell ⟨W.heap.size, 5, none⟩ v5).cell? ⟨x.c, 5, none⟩ = some (.slice x.A4 x.n.f4.length x.c4) ∧ ((((((w1.setCell ⟨W.heap.size, 0, none⟩ v0).setCell ⟨W.heap.size, 1, none⟩ v1).setCell ⟨W.heap.size, 2, none⟩ v2).setCell ⟨W.heap.size, 3, none⟩ v3).setCell ⟨W.heap.size, 4, none⟩ v4).setCell ⟨W.heap.size, 5, none⟩ v5).cell? ⟨x.c, 6, none⟩ = some (.slice x.A5 x.n.f5.length x.c5) ∧ ((((((w1.setCell ⟨W.heap.size, 0, none⟩ v0).setCell ⟨W.heap.size, 1, none⟩ v1).setCell ⟨W.heap.size, 2, none⟩ v2).setCell ⟨W.heap.size, 3, none⟩ v3).setCell ⟨W.heap.size, 4, none⟩ v4).setCell ⟨W.heap.size, 5, none⟩ v5).cell? ⟨w.heap.size, 3, none⟩ = some (.string e.f3) := fun v0 v1 v2 v3 v4 v5 => pfS (Ck.st6 nb9 ge9 (Ck.drop1 HSC.out) v0 v1 v2 v3 v4 v5); obtain ⟨z0, z1, z2, z3, z4, z5, zf⟩ := blk6 HSC.out.l0; have zl := blk_lt HSC.out.l0; clear hb)))))
    all_goals
      go_wp2_with (fail)
      go_meet
      case rel =>
        first
        | (have _tk : True ∧ True := mkX
           refine ⟨W.heap.size, rfl, Lib.hid ?_⟩
           exact (Ck.set6 HSC.out nb9 _ _ _ _ _ _))
        | (have _tk : True := mkX
           refine ⟨w1.heap.size, rfl, Lib.hid ?_⟩
           exact (Ck.new HSC.out))
  case rest =>
    obtain ⟨gd, rfl, HS'⟩ := hcut
    clear HS hS0 hSa hSb pfS ge9 nb9
    have HS := HS'
    clear HS'
    obtain ⟨q0, q1, q2, q3, q4, q5, qf⟩ := blk6 HS.out.l0
    have ql := blk_lt HS.out.l0
    obtain ⟨e0, e1, e2, e3, e4, e5, ef⟩ := blk6 HS.out.l1
    have el := blk_lt HS.out.l1
    obtain ⟨d0, d1, ⟨d2, d3⟩, d4, d5⟩ := d
    have HR' := HR.out
    dsimp only at HR'
    clear HR
    have HR := Lib.hid HR'
    clear HR'
    cases d3 with
    | true =>
      have hR := HR.out
      simp only [if_true] at hR
      clear HR
      have HR := Lib.hid hR
      clear hR
      by_cases hl : 8 < e.f5.length
      ·
        have l1 : decide ((e.f5.length : Int) > 8) = true := by simp; omega
        have l2 : (8 : Int) < (e.f5.length : Int) := by omega
        have hR := HR.out
        rw [if_pos hl] at hR
        clear HR
        have HR := Lib.hid hR
        clear hR
        go_wp2_with (fail)
        refine (bad_walk hx e.f1 3 _ _ (H.out.of_ck hx HS.out)).mono ?_
        rintro e' w3 ⟨rfl, hD⟩
        have HS' := Lib.hid (Ck.does HS.out hD)
        clear hD HS
        have HS := HS'
        clear HS'
        obtain ⟨q0, q1, q2, q3, q4, q5, qf⟩ := blk6 HS.out.l0
        have ql := blk_lt HS.out.l0
        obtain ⟨e0, e1, e2, e3, e4, e5, ef⟩ := blk6 HS.out.l1
        have el := blk_lt HS.out.l1
        obtain ⟨f3, hw, hr⟩ := Option.bind_eq_some_iff.1 HR.out
        obtain rfl := Option.some.inj hr
        have HL := Lib.hid hw
        clear hr hw HR
        go_wp2_with (fail)
        go_loopg [38] (e.f5.length + 1) (fun m9 u wr => ∃ (i : Nat) (f' : F), u = .int .i64 (i : Int) ∧ i ≤ e.f5.length ∧ m9 = e.f5.length + 1 - i ∧ Hid (Ck x.c w wr (x.obj f') [(gd, dcO ⟨d0, d1, ⟨d2, true⟩, d4, d5⟩), (w.heap.size, exO e A c)]) ∧ Hid (wants of d2 (e.f5.drop i) f' = some f3))
        case atStart => exact ⟨0, _, rfl, by omega, by simp, HS, HL⟩
        case round =>
          obtain ⟨i, f', rfl, hi, rfl, HS', HL'⟩ := hrel
          clear HS HL
          have HS := HS'
          have HL := HL'
          clear HS' HL'
          obtain ⟨q0, q1, q2, q3, q4, q5, qf⟩ := blk6 HS.out.l0
          have ql := blk_lt HS.out.l0
          obtain ⟨e0, e1, e2, e3, e4, e5, ef⟩ := blk6 HS.out.l1
          have el := blk_lt HS.out.l1
          rcases Nat.lt_or_ge i e.f5.length with hlt | hge
          · obtain ⟨k, hk, hd⟩ := drop_at hlt
            obtain ⟨ad, A', c', hA, x0, x1, x2, x3, x4, x5, hE⟩ := kid_at HE.out i k hk
            subst hA
            have hb := (H.out.of_ck hx HS.out).bel
            replace x0 := pw_cell_below hb x0
            replace x1 := pw_cell_below hb x1
            replace x2 := pw_cell_below hb x2
            replace x3 := pw_cell_below hb x3
            replace x4 := pw_cell_below hb x4
            replace x5 := pw_cell_below hb x5
            have hL := HL.out
            rw [hd] at hL
            obtain ⟨f4, hw, hL⟩ := Option.bind_eq_some_iff.1 hL
            have HW := Lib.hid (And.intro hw hE)
            have HL2 := Lib.hid hL
            have i0 : ((i : Int) < (e.f5.length : Int)) = True := eq_true (by omega)
            have i1 : decide ((i : Int) < (e.f5.length : Int)) = true := decide_eq_true (by omega)
            have i2 : (0 ≤ (i : Int)) = True := eq_true (by omega)
            clear hw hE hL hd hk hb
            go_wp2_with (fail)
            refine (want_walk hx hof k A' c' d2 f' f4 _ HW.out.2 (H.out.of_ck hx (HS.out.new (q := exO k A' c'))) HW.out.1).mono ?_
            rintro e' w9 ⟨rfl, hD⟩
            have HS2 := Lib.hid (Ck.does (HS.out.new (q := exO k A' c')) hD).drop1
            have hw9 : wrap64 ((i : Int) + 1) = ((i + 1 : Nat) : Int) := by have h9 := HE.out.kids.2.1; unfold maxLen at h9; unfold wrap64; omega
            clear hD
            go_wp2_with (fail)
            go_roundg (e.f5.length + 1 - (i + 1))
            case measure => omega
            case rel => exact ⟨i + 1, f4, (by first | rfl | rw [hw9]), by omega, rfl, HS2, HL2⟩
          · have hd : e.f5.drop i = [] := List.drop_eq_nil_of_le (by omega)
            have hL := HL.out
            rw [hd] at hL
            obtain rfl : f' = f3 := Option.some.inj hL
            have i0 : ((i : Int) < (e.f5.length : Int)) = False := eq_false (by omega)
            have i1 : decide ((i : Int) < (e.f5.length : Int)) = false := decide_eq_false (by omega)
            clear hL hd
            go_wp2_with (fail)
            go_ret
            exact ⟨rfl, Does.of_ck HS.out⟩
      ·
        have l1 : decide ((e.f5.length : Int) > 8) = false := by simp; omega
        have l2 : ¬ (8 : Int) < (e.f5.length : Int) := by omega
        have hR := HR.out
        rw [if_neg hl] at hR
        clear HR
        have HR := Lib.hid hR
        clear hR
        go_wp2_with (fail)
        obtain ⟨f3, hw, hr⟩ := Option.bind_eq_some_iff.1 HR.out
        obtain rfl := Option.some.inj hr
        have HL := Lib.hid hw
        clear hr hw HR
        go_wp2_with (fail)
        go_loopg [38] (e.f5.length + 1) (fun m9 u wr => ∃ (i : Nat) (f' : F), u = .int .i64 (i : Int) ∧ i ≤ e.f5.length ∧ m9 = e.f5.length + 1 - i ∧ Hid (Ck x.c w wr (x.obj f') [(gd, dcO ⟨d0, d1, ⟨d2, true⟩, d4, d5⟩), (w.heap.size, exO e A c)]) ∧ Hid (wants of d2 (e.f5.drop i) f' = some f3))
        case atStart => exact ⟨0, _, rfl, by omega, by simp, HS, HL⟩
        case round =>
          obtain ⟨i, f', rfl, hi, rfl, HS', HL'⟩ := hrel
          clear HS HL
          have HS := HS'
          have HL := HL'
          clear HS' HL'
          obtain ⟨q0, q1, q2, q3, q4, q5, qf⟩ := blk6 HS.out.l0
          have ql := blk_lt HS.out.l0
          obtain ⟨e0, e1, e2, e3, e4, e5, ef⟩ := blk6 HS.out.l1
          have el := blk_lt HS.out.l1
          rcases Nat.lt_or_ge i e.f5.length with hlt | hge
          · obtain ⟨k, hk, hd⟩ := drop_at hlt
            obtain ⟨ad, A', c', hA, x0, x1, x2, x3, x4, x5, hE⟩ := kid_at HE.out i k hk
            subst hA
            have hb := (H.out.of_ck hx HS.out).bel
            replace x0 := pw_cell_below hb x0
            replace x1 := pw_cell_below hb x1
            replace x2 := pw_cell_below hb x2
            replace x3 := pw_cell_below hb x3
            replace x4 := pw_cell_below hb x4
            replace x5 := pw_cell_below hb x5
            have hL := HL.out
            rw [hd] at hL
            obtain ⟨f4, hw, hL⟩ := Option.bind_eq_some_iff.1 hL
            have HW := Lib.hid (And.intro hw hE)
            have HL2 := Lib.hid hL
            have i0 : ((i : Int) < (e.f5.length : Int)) = True := eq_true (by omega)
            have i1 : decide ((i : Int) < (e.f5.length : Int)) = true := decide_eq_true (by omega)
            have i2 : (0 ≤ (i : Int)) = True := eq_true (by omega)
            clear hw hE hL hd hk hb
            go_wp2_with (fail)
            refine (want_walk hx hof k A' c' d2 f' f4 _ HW.out.2 (H.out.of_ck hx (HS.out.new (q := exO k A' c'))) HW.out.1).mono ?_
            rintro e' w9 ⟨rfl, hD⟩
            have HS2 := Lib.hid (Ck.does (HS.out.new (q := exO k A' c')) hD).drop1
            have hw9 : wrap64 ((i : Int) + 1) = ((i + 1 : Nat) : Int) := by have h9 := HE.out.kids.2.1; unfold maxLen at h9; unfold wrap64; omega
            clear hD
            go_wp2_with (fail)
            go_roundg (e.f5.length + 1 - (i + 1))
            case measure => omega
            case rel => exact ⟨i + 1, f4, (by first | rfl | rw [hw9]), by omega, rfl, HS2, HL2⟩
          · have hd : e.f5.drop i = [] := List.drop_eq_nil_of_le (by omega)
            have hL := HL.out
            rw [hd] at hL
            obtain rfl : f' = f3 := Option.some.inj hL
            have i0 : ((i : Int) < (e.f5.length : Int)) = False := eq_false (by omega)
            have i1 : decide ((i : Int) < (e.f5.length : Int)) = false := decide_eq_false (by omega)
            clear hL hd
            go_wp2_with (fail)
            go_ret
            exact ⟨rfl, Does.of_ck HS.out⟩
    | false =>
      have hR := HR.out
      simp only [Bool.false_eq_true, if_false] at hR
      clear HR
      have HR := Lib.hid hR
      clear hR
      by_cases hl : 8 < e.f5.length
      ·
        have l1 : decide ((e.f5.length : Int) > 8) = true := by simp; omega
        have l2 : (8 : Int) < (e.f5.length : Int) := by omega
        have hR := HR.out
        rw [if_pos hl] at hR
        clear HR
        have HR := Lib.hid hR
        clear hR
        go_wp2_with (fail)
        refine (bad_walk hx e.f1 7 _ _ (H.out.of_ck hx HS.out)).mono ?_
        rintro e' w2 ⟨rfl, hD⟩
        have HS' := Lib.hid (Ck.does HS.out hD)
        clear hD HS
        have HS := HS'
        clear HS'
        obtain ⟨q0, q1, q2, q3, q4, q5, qf⟩ := blk6 HS.out.l0
        have ql := blk_lt HS.out.l0
        obtain ⟨e0, e1, e2, e3, e4, e5, ef⟩ := blk6 HS.out.l1
        have el := blk_lt HS.out.l1
        go_wp2_with (fail)
        refine (bad_walk hx e.f1 3 _ _ (H.out.of_ck hx HS.out)).mono ?_
        rintro e' w3 ⟨rfl, hD⟩
        have HS' := Lib.hid (Ck.does HS.out hD)
        clear hD HS
        have HS := HS'
        clear HS'
        obtain ⟨q0, q1, q2, q3, q4, q5, qf⟩ := blk6 HS.out.l0
        have ql := blk_lt HS.out.l0
        obtain ⟨e0, e1, e2, e3, e4, e5, ef⟩ := blk6 HS.out.l1
        have el := blk_lt HS.out.l1
        obtain ⟨f3, hw, hr⟩ := Option.bind_eq_some_iff.1 HR.out
        obtain rfl := Option.some.inj hr
        have HL := Lib.hid hw
        clear hr hw HR
        go_wp2_with (fail)
        go_loopg [38] (e.f5.length + 1) (fun m9 u wr => ∃ (i : Nat) (f' : F), u = .int .i64 (i : Int) ∧ i ≤ e.f5.length ∧ m9 = e.f5.length + 1 - i ∧ Hid (Ck x.c w wr (x.obj f') [(gd, dcO ⟨d0, d1, ⟨d2, false⟩, d4, d5⟩), (w.heap.size, exO e A c)]) ∧ Hid (wants of d2 (e.f5.drop i) f' = some f3))
        case atStart => exact ⟨0, _, rfl, by omega, by simp, HS, HL⟩
        case round =>
          obtain ⟨i, f', rfl, hi, rfl, HS', HL'⟩ := hrel
          clear HS HL
          have HS := HS'
          have HL := HL'
          clear HS' HL'
          obtain ⟨q0, q1, q2, q3, q4, q5, qf⟩ := blk6 HS.out.l0
          have ql := blk_lt HS.out.l0
          obtain ⟨e0, e1, e2, e3, e4, e5, ef⟩ := blk6 HS.out.l1
          have el := blk_lt HS.out.l1
          rcases Nat.lt_or_ge i e.f5.length with hlt | hge
          · obtain ⟨k, hk, hd⟩ := drop_at hlt
            obtain ⟨ad, A', c', hA, x0, x1, x2, x3, x4, x5, hE⟩ := kid_at HE.out i k hk
            subst hA
            have hb := (H.out.of_ck hx HS.out).bel
            replace x0 := pw_cell_below hb x0
            replace x1 := pw_cell_below hb x1
            replace x2 := pw_cell_below hb x2
            replace x3 := pw_cell_below hb x3
            replace x4 := pw_cell_below hb x4
            replace x5 := pw_cell_below hb x5
            have hL := HL.out
            rw [hd] at hL
            obtain ⟨f4, hw, hL⟩ := Option.bind_eq_some_iff.1 hL
            have HW := Lib.hid (And.intro hw hE)
            have HL2 := Lib.hid hL
            have i0 : ((i : Int) < (e.f5.length : Int)) = True := eq_true (by omega)
            have i1 : decide ((i : Int) < (e.f5.length : Int)) = true := decide_eq_true (by omega)
            have i2 : (0 ≤ (i : Int)) = True := eq_true (by omega)
            clear hw hE hL hd hk hb
            go_wp2_with (fail)
            refine (want_walk hx hof k A' c' d2 f' f4 _ HW.out.2 (H.out.of_ck hx (HS.out.new (q := exO k A' c'))) HW.out.1).mono ?_
            rintro e' w9 ⟨rfl, hD⟩
            have HS2 := Lib.hid (Ck.does (HS.out.new (q := exO k A' c')) hD).drop1
            have hw9 : wrap64 ((i : Int) + 1) = ((i + 1 : Nat) : Int) := by have h9 := HE.out.kids.2.1; unfold maxLen at h9; unfold wrap64; omega
            clear hD
            go_wp2_with (fail)
            go_roundg (e.f5.length + 1 - (i + 1))
            case measure => omega
            case rel => exact ⟨i + 1, f4, (by first | rfl | rw [hw9]), by omega, rfl, HS2, HL2⟩
          · have hd : e.f5.drop i = [] := List.drop_eq_nil_of_le (by omega)
            have hL := HL.out
            rw [hd] at hL
            obtain rfl : f' = f3 := Option.some.inj hL
            have i0 : ((i : Int) < (e.f5.length : Int)) = False := eq_false (by omega)
            have i1 : decide ((i : Int) < (e.f5.length : Int)) = false := decide_eq_false (by omega)
            clear hL hd
            go_wp2_with (fail)
            go_ret
            exact ⟨rfl, Does.of_ck HS.out⟩
      ·
        have l1 : decide ((e.f5.length : Int) > 8) = false := by simp; omega
        have l2 : ¬ (8 : Int) < (e.f5.length : Int) := by omega
        have hR := HR.out
        rw [if_neg hl] at hR
        clear HR
        have HR := Lib.hid hR
        clear hR
        go_wp2_with (fail)
        refine (bad_walk hx e.f1 7 _ _ (H.out.of_ck hx HS.out)).mono ?_
        rintro e' w2 ⟨rfl, hD⟩
        have HS' := Lib.hid (Ck.does HS.out hD)
        clear hD HS
        have HS := HS'
        clear HS'
        obtain ⟨q0, q1, q2, q3, q4, q5, qf⟩ := blk6 HS.out.l0
        have ql := blk_lt HS.out.l0
        obtain ⟨e0, e1, e2, e3, e4, e5, ef⟩ := blk6 HS.out.l1
        have el := blk_lt HS.out.l1
        go_wp2_with (fail)
        obtain ⟨f3, hw, hr⟩ := Option.bind_eq_some_iff.1 HR.out
        obtain rfl := Option.some.inj hr
        have HL := Lib.hid hw
        clear hr hw HR
        go_wp2_with (fail)
        go_loopg [38] (e.f5.length + 1) (fun m9 u wr => ∃ (i : Nat) (f' : F), u = .int .i64 (i : Int) ∧ i ≤ e.f5.length ∧ m9 = e.f5.length + 1 - i ∧ Hid (Ck x.c w wr (x.obj f') [(gd, dcO ⟨d0, d1, ⟨d2, false⟩, d4, d5⟩), (w.heap.size, exO e A c)]) ∧ Hid (wants of d2 (e.f5.drop i) f' = some f3))
        case atStart => exact ⟨0, _, rfl, by omega, by simp, HS, HL⟩
        case round =>
          obtain ⟨i, f', rfl, hi, rfl, HS', HL'⟩ := hrel
          clear HS HL
          have HS := HS'
          have HL := HL'
          clear HS' HL'
          obtain ⟨q0, q1, q2, q3, q4, q5, qf⟩ := blk6 HS.out.l0
          have ql := blk_lt HS.out.l0
          obtain ⟨e0, e1, e2, e3, e4, e5, ef⟩ := blk6 HS.out.l1
          have el := blk_lt HS.out.l1
          rcases Nat.lt_or_ge i e.f5.length with hlt | hge
          · obtain ⟨k, hk, hd⟩ := drop_at hlt
            obtain ⟨ad, A', c', hA, x0, x1, x2, x3, x4, x5, hE⟩ := kid_at HE.out i k hk
            subst hA
            have hb := (H.out.of_ck hx HS.out).bel
            replace x0 := pw_cell_below hb x0
            replace x1 := pw_cell_below hb x1
            replace x2 := pw_cell_below hb x2
            replace x3 := pw_cell_below hb x3
            replace x4 := pw_cell_below hb x4
            replace x5 := pw_cell_below hb x5
            have hL := HL.out
            rw [hd] at hL
            obtain ⟨f4, hw, hL⟩ := Option.bind_eq_some_iff.1 hL
            have HW := Lib.hid (And.intro hw hE)
            have HL2 := Lib.hid hL
            have i0 : ((i : Int) < (e.f5.length : Int)) = True := eq_true (by omega)
            have i1 : decide ((i : Int) < (e.f5.length : Int)) = true := decide_eq_true (by omega)
            have i2 : (0 ≤ (i : Int)) = True := eq_true (by omega)
            clear hw hE hL hd hk hb
            go_wp2_with (fail)
            refine (want_walk hx hof k A' c' d2 f' f4 _ HW.out.2 (H.out.of_ck hx (HS.out.new (q := exO k A' c'))) HW.out.1).mono ?_
            rintro e' w9 ⟨rfl, hD⟩
            have HS2 := Lib.hid (Ck.does (HS.out.new (q := exO k A' c')) hD).drop1
            have hw9 : wrap64 ((i : Int) + 1) = ((i + 1 : Nat) : Int) := by have h9 := HE.out.kids.2.1; unfold maxLen at h9; unfold wrap64; omega
            clear hD
            go_wp2_with (fail)
            go_roundg (e.f5.length + 1 - (i + 1))
            case measure => omega
            case rel => exact ⟨i + 1, f4, (by first | rfl | rw [hw9]), by omega, rfl, HS2, HL2⟩
          · have hd : e.f5.drop i = [] := List.drop_eq_nil_of_le (by omega)
            have hL := HL.out
            rw [hd] at hL
            obtain rfl : f' = f3 := Option.some.inj hL
            have i0 : ((i : Int) < (e.f5.length : Int)) = False := eq_false (by omega)
            have i1 : decide ((i : Int) < (e.f5.length : Int)) = false := decide_eq_false (by omega)
            clear hL hd
            go_wp2_with (fail)
            go_ret
            exact ⟨rfl, Does.of_ck HS.out⟩
end Go.Proofs.YtjafllnbgfcchaaDoor.Ct
end
