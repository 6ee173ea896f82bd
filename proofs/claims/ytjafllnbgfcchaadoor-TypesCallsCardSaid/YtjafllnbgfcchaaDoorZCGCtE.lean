/- Joined of: CtE, PBase, PLx, PSeg, CtR, PMono, PRt, PRu, PRv, PBk, CtB, TcP, TcK, TcL. -/
import Derived.Test.YtjafllnbgfcchaaDoorZCGCtP
import Derived.Test.YtjafllnbgfcchaaDoorZCPurP
import Derived.Test.YtjafllnbgfcchaaDoorZCLexPure
import Derived.Test.YtjafllnbgfcchaaDoorZCGPCaught
import Derived.Test.YtjafllnbgfcchaaDoorZCPNdL
import Derived.Test.YtjafllnbgfcchaaDoorZCPExprT
import Derived.Test.YtjafllnbgfcchaaDoorZCGPFine
import Derived.Test.YtjafllnbgfcchaaDoorZCGXTBx0
import Derived.OpenShut
import Derived.Laws.IdiomArrays
section
/- The checker of types does not hang on places: which fault it tells is the same of nodes without them. -/
namespace Go.Proofs.YtjafllnbgfcchaaDoor.Ct
set_option linter.unusedVariables false
set_option linter.unusedSimpArgs false
open Go Go.RowKit Go.Proofs.YtjafllnbgfcchaaDoor.XK
mutual
def eE : E → E
 | ⟨k, _, n, m, o, l⟩ => ⟨k, 0, n, m, o, eEs l⟩
def eEs : List E → List E
 | [] => []
 | e :: r => eE e :: eEs r
end
def eD (d : D) : D := ⟨d.f0, 0, d.f2, d.f3, d.f4⟩
def eL (x : S47) : S47 := ⟨x.f0, 0⟩
def eQ (q : Q) : Q := ⟨q.f0.map eL, q.f1, eE q.f2⟩
def eN (n : N) : N := ⟨n.f0, 0, n.f2.map eD, n.f3.map eD, n.f4.map eD, n.f5.map eQ⟩
theorem eE_f0 (e : E) : (eE e).f0 = e.f0 := by cases e; rfl
theorem eE_f2 (e : E) : (eE e).f2 = e.f2 := by cases e; rfl
theorem eE_f3 (e : E) : (eE e).f3 = e.f3 := by cases e; rfl
theorem eE_f5 (e : E) : (eE e).f5 = eEs e.f5 := by cases e; rfl
theorem eEs_len (l : List E) : (eEs l).length = l.length := by
 induction l with
 | nil => rfl
 | cons e r ih => rw [eEs, List.length_cons, ih, List.length_cons]
theorem find_e (m : ByteArray) : ∀ l, find m (l.map eD) = (find m l).map eD
 | [] => rfl
 | d :: r => by
  rw [List.map_cons, find, find, find_e m r]
  show (if Fnd.sameB d.f0 m = true then _ else _) = _
  split <;> rfl
theorem named_e (n : N) (m : ByteArray) : named (eN n) m = (named n m).map eD := by
 unfold named
 rw [← find_e, List.map_append, List.map_append]
 rfl
theorem namedD_e (n : N) (m : ByteArray) : namedD (eN n) m = eD (namedD n m) := by
 unfold namedD
 rw [named_e]
 cases named n m <;> rfl
theorem findN_e (m : ByteArray) : ∀ l, Fnd.findN (l.map eN) m = (Fnd.findN l m).map eN
 | [] => rfl
 | d :: r => by
  rw [List.map_cons, Fnd.findN, Fnd.findN, findN_e m r]
  show (if Fnd.sameB d.f0 m = true then _ else _) = _
  split <;> rfl
theorem callee_e (l : List N) (m : ByteArray) : callee (l.map eN) m = eN (callee l m) := by
 unfold callee
 rw [findN_e]
 cases Fnd.findN l m <;> rfl
inductive OR {α : Type} (R : α → α → Prop) : Option α → Option α → Prop
 | none : OR R none none
 | some (a b : α) : R a b → OR R (some a) (some b)
theorem OR.bind {α β : Type} {R : α → α → Prop} {S : β → β → Prop} {a b : Option α} {g g' : α → Option β} (h : OR R a b) (hg : ∀ x y, R x y → OR S (g x) (g' y)) : OR S (a.bind g) (b.bind g') := by
 cases h with
 | none => exact .none
 | some x y h => exact hg x y h
theorem OR.ite {α : Type} {R : α → α → Prop} {c : Prop} [Decidable c] {a b a' b' : Option α} (h1 : OR R a a') (h2 : OR R b b') : OR R (if c then a else b) (if c then a' else b') := by
 by_cases h : c
 ·rw [if_pos h, if_pos h]; exact h1
 ·rw [if_neg h, if_neg h]; exact h2
def Rf (f f' : F) : Prop := f.2 = f'.2 ∧ (f.2 = 0 → f.1 = 0)
def Rq (x y : Bool × F) : Prop := x.1 = y.1 ∧ Rf x.2 y.2
theorem bad_r {a a' e : Int} {f f' : F} (h : Rf f f') (he : e ≠ 0 := by decide) : Rf (bad a e f) (bad a' e f') := by
 unfold bad
 rw [← h.1]
 split
 ·exact ⟨rfl, fun h => absurd h he⟩
 ·exact h
theorem ite_r {c : Prop} [Decidable c] {f f' g g' : F} (h : Rf f f') (h2 : Rf g g') : Rf (if c then f else g) (if c then f' else g') := by
 split
 ·exact h
 ·exact h2
theorem plain_r (n : N) (m : ByteArray) (a a' : Int) {f f' : F} (h : Rf f f') : Rq (plain n m a f) (plain (eN n) m a' f') := by
 unfold plain
 rw [namedD_e]
 exact ⟨rfl, ite_r (bad_r h) h⟩
def OfR (o o' : Of) : Prop := ∀ e f f', Rf f f' → OR Rq (o e f) (o' (eE e) f')
section
variable {o o' : Of} (ho : OfR o o')
include ho
theorem want_r (e : E) (t : Bool) {f f' : F} (h : Rf f f') : OR Rf (want o e t f) (want o' (eE e) t f') :=
 OR.bind (ho e f f' h) fun x y hxy => .some _ _ (by
  rw [hxy.1]
  exact ite_r (bad_r hxy.2) hxy.2)
theorem same_r (a b : E) {f f' : F} (h : Rf f f') : OR Rq (same o a b f) (same o' (eE a) (eE b) f') :=
 OR.bind (ho a f f' h) fun x y hxy => by
  rw [hxy.1]
  exact OR.bind (want_r ho b _ hxy.2) fun f1 f2 h1 => .some _ _ ⟨rfl, h1⟩
theorem both_r (a b : E) (t : Bool) {f f' : F} (h : Rf f f') : OR Rf (both o a b t f) (both o' (eE a) (eE b) t f') :=
 OR.bind (want_r ho a t h) fun f1 f2 h1 => want_r ho b t h1
theorem binary_r (e : E) {f f' : F} (h : Rf f f') : OR Rq (binary o e f) (binary o' (eE e) f') := by
 unfold binary
 rw [eE_f5, eE_f3]
 match e.f5 with
 | [] => exact .none
 | [a] => exact .none
 | a :: b :: r =>
  show OR Rq (if _ then _ else _) (if _ then _ else _)
  split
  ·exact OR.bind (both_r ho a b true h) fun f1 f2 h1 => .some _ _ ⟨rfl, h1⟩
  ·split
   ·exact OR.bind (same_r ho a b h) fun x y h1 => .some _ _ ⟨rfl, h1.2⟩
   ·refine OR.bind (both_r ho a b false h) fun f1 f2 h1 => ?_
    split
    ·rw [eE_f0, eE_f2]
     exact .some _ _ ⟨rfl, ite_r (bad_r h1) h1⟩
    ·exact .some _ _ ⟨rfl, h1⟩
theorem inOne_r (n : N) (d : D) (k : E) {f f' : F} (h : Rf f f') : OR Rf (inOne o n d k f) (inOne o' (eN n) (eD d) (eE k) f') := by
 unfold inOne
 show OR Rf (if d.f2.f1 then _ else _) (if d.f2.f1 then _ else _)
 split
 ·refine .some _ _ ?_
  rw [eE_f3, named_e, eE_f0]
  cases named n k.f3 with
  | none => exact bad_r h
  | some x => exact ite_r (bad_r h) h
 ·exact want_r ho k _ h
theorem insL_r (n : N) : ∀ (l : List D) (ks : List E) {f f' : F}, Rf f f' → OR Rf (insL o n l ks f) (insL o' (eN n) (l.map eD) (eEs ks) f')
 | [], _, f, f', h => .some _ _ h
 | _ :: _, [], _, _, _ => .none
 | d :: r, k :: ks, f, f', h => OR.bind (inOne_r ho n d k h) fun f1 f2 h1 => insL_r n r ks h1
theorem call_r (l : List N) (n : N) (e : E) {f f' : F} (h : Rf f f') : OR Rf (call o l n e f) (call o' (l.map eN) (eN n) (eE e) f') := by
 unfold call
 rw [eE_f3, callee_e, eE_f5]
 exact insL_r ho n _ _ h
theorem wants_r (t : Bool) : ∀ (ks : List E) {f f' : F}, Rf f f' → OR Rf (wants o t ks f) (wants o' t (eEs ks) f')
 | [], _, _, h => .some _ _ h
 | k :: r, _, _, h => OR.bind (want_r ho k t h) fun f1 f2 h1 => wants_r t r h1
theorem await_r (n : N) (e : E) {f f' : F} (h : Rf f f') : OR Rq (await o n e f) (await o' (eN n) (eE e) f') := by
 unfold await
 rw [eE_f3, namedD_e, eE_f5, eEs_len]
 exact OR.bind (wants_r ho _ _ (ite_r (bad_r (ite_r h (bad_r h))) (ite_r h (bad_r h)))) fun f1 f2 h1 => .some _ _ ⟨rfl, h1⟩
theorem ofK_r (l : List N) (n : N) : OfR (ofK o l n) (ofK o' (l.map eN) (eN n)) := by
 intro e f f' h
 unfold ofK
 rw [eE_f0, eE_f5, eE_f3]
 refine OR.ite (.some _ _ ⟨rfl, h⟩) ?_
 refine OR.ite (.some _ _ ⟨rfl, h⟩) ?_
 refine OR.ite (.some _ _ (plain_r n _ _ _ h)) ?_
 refine OR.ite ?_ ?_
 ·match e.f5 with
  | [] => exact .none
  | a :: r => exact OR.bind (want_r ho a _ h) fun f1 f2 h1 => .some _ _ ⟨rfl, h1⟩
 refine OR.ite ?_ ?_
 ·match e.f5 with
  | [] => exact .none
  | a :: r => exact OR.bind (want_r ho a _ h) fun f1 f2 h1 => .some _ _ ⟨rfl, h1⟩
 refine OR.ite (binary_r ho e h) ?_
 refine OR.ite ?_ ?_
 ·match e.f5 with
  | [] => exact .none
  | [a] => exact .none
  | [a, b] => exact .none
  | a :: b :: c :: r => exact OR.bind (want_r ho a _ h) fun f1 f2 h1 => same_r ho b c h1
 refine OR.ite ?_ ?_
 ·match e.f5 with
  | [] => exact .none
  | [a] => exact .none
  | a :: b :: r => exact same_r ho a b h
 refine OR.ite ?_ ?_
 ·match e.f5 with
  | [] => exact .none
  | a :: r => exact ho a _ _ h
 refine OR.ite ?_ ?_
 ·have hp := plain_r n e.f3 e.f1 (eE e).f1 h
  have h1 : Rf (if (plain n e.f3 e.f1 f).1 then (plain n e.f3 e.f1 f).2 else bad e.f1 7 (plain n e.f3 e.f1 f).2) (if (plain (eN n) e.f3 (eE e).f1 f').1 then (plain (eN n) e.f3 (eE e).f1 f').2 else bad (eE e).f1 7 (plain (eN n) e.f3 (eE e).f1 f').2) := by
   rw [← hp.1]
   exact ite_r hp.2 (bad_r hp.2)
  refine OR.ite ?_ ?_
  ·match e.f5 with
   | [] => exact .none
   | a :: r => exact ho a _ _ h1
  ·match e.f5 with
   | [] => exact .none
   | [a] => exact .none
   | a :: b :: r => exact same_r ho a b h1
 refine OR.ite (await_r ho n e h) ?_
 refine OR.bind (call_r ho l n e h) fun f1 f2 h1 => ?_
 rw [callee_e]
 show OR Rq (match (callee l e.f3).f3 with | d :: _ => _ | [] => _) (match (callee l e.f3).f3.map eD with | d :: _ => _ | [] => _)
 cases (callee l e.f3).f3 with
 | nil => exact .none
 | cons d r => exact .some _ _ ⟨rfl, h1⟩
end
theorem of_r (l : List N) (n : N) : ∀ k, OfR (of k l n) (of k (l.map eN) (eN n))
 | 0 => fun _ _ _ _ => .none
 | k + 1 => ofK_r (of_r l n k) l n
def Rg (x y : List (Bool × Bool) × F) : Prop := x.1 = y.1 ∧ Rf x.2 y.2
theorem gives_r {o o' : Of} (ho : OfR o o') (l : List N) (n : N) (q : Q) {f f' : F} (h : Rf f f') : OR Rg (gives o l n q f) (gives o' (l.map eN) (eN n) (eQ q) f') := by
 unfold gives
 show OR Rg (if q.f2.f0 = 13 then _ else _) (if (eE q.f2).f0 = 13 then _ else _)
 rw [eE_f0]
 split
 ·show OR Rg (if 1000000 < (callee l q.f2.f3).f3.length then _ else _) (if 1000000 < (callee (l.map eN) (eE q.f2).f3).f3.length then _ else _)
  rw [eE_f3, callee_e, show (eN (callee l q.f2.f3)).f3 = (callee l q.f2.f3).f3.map eD from rfl, List.length_map]
  split
  ·exact .none
  ·refine OR.bind (call_r ho l n q.f2 h) fun f1 f2 h1 => .some _ _ ⟨?_, ?_⟩
   ·dsimp only
    rw [show (eQ q).f2.f3 = (eE q.f2).f3 from rfl, eE_f3, callee_e, show (eN (callee l q.f2.f3)).f3 = (callee l q.f2.f3).f3.map eD from rfl, List.map_map]
    rfl
   ·dsimp only
    rw [show (eQ q).f2.f3 = (eE q.f2).f3 from rfl, eE_f3, callee_e, show (eN (callee l q.f2.f3)).f3 = (callee l q.f2.f3).f3.map eD from rfl, show (eQ q).f1 = q.f1 from rfl, List.length_map, List.length_map, List.length_map]
    exact ite_r (bad_r h1) h1
 ·exact OR.bind (ho q.f2 f f' h) fun x y hxy => .some _ _ ⟨by rw [hxy.1], hxy.2⟩
theorem insB_r : ∀ (l : List D) {f f' : F}, Rf f f' → Rf (insB l f) (insB (l.map eD) f')
 | [], _, _, h => h
 | d :: r, _, _, h => insB_r r (ite_r (bad_r h) h)
theorem varsB_r (n : N) : ∀ (l : List D) {f f' : F}, Rf f f' → Rf (varsB n l f) (varsB (eN n) (l.map eD) f')
 | [], _, _, h => h
 | d :: r, _, _, h => by
  rw [List.map_cons, varsB, varsB]
  refine varsB_r n r ?_
  rw [show (eD d).f3 = d.f3 from rfl, namedD_e]
  exact ite_r h (ite_r (bad_r h) h)
theorem leftB_r (n : N) : ∀ (ts : List (Bool × Bool)) (l : List S47) {f f' : F}, Rf f f' → OR Rf (leftB n ts l f) (leftB (eN n) ts (l.map eL) f')
 | [], _, _, _, h => .some _ _ h
 | _ :: _, [], _, _, _ => .none
 | t :: r, x :: xs, _, _, h => by
  rw [List.map_cons, leftB, leftB]
  refine leftB_r n r xs ?_
  rw [show (eL x).f0 = x.f0 from rfl, namedD_e]
  exact ite_r h (bad_r h)
theorem eqsB_r {o o' : Of} (ho : OfR o o') (l : List N) (n : N) : ∀ (qs : List Q) {f f' : F}, Rf f f' → OR Rf (eqsB o l n qs f) (eqsB o' (l.map eN) (eN n) (qs.map eQ) f')
 | [], _, _, h => .some _ _ h
 | q :: r, _, _, h => OR.bind (gives_r ho l n q h) fun x y hxy => by
  rw [hxy.1]
  exact OR.bind (leftB_r n y.1 q.f0 hxy.2) fun f1 f2 h1 => eqsB_r ho l n r h1
theorem node_r (k : Nat) (l : List N) (n : N) (first : Bool) {f f' : F} (h : Rf f f') : OR Rf (node k l n first f) (node k (l.map eN) (eN n) first f') := by
 unfold node
 rw [show (eN n).f2 = n.f2.map eD from rfl, show (eN n).f3 = n.f3.map eD from rfl, show (eN n).f4 = n.f4.map eD from rfl, show (eN n).f5 = n.f5.map eQ from rfl, List.length_map, List.length_map, List.length_map]
 split
 ·exact .none
 ·exact eqsB_r (of_r l n k) l n n.f5 (varsB_r n _ (insB_r _ (ite_r (insB_r _ h) h)))
theorem nodesB_r (k : Nat) (l : List N) : ∀ (ns : List N) (first : Bool) {f f' : F}, Rf f f' → OR Rf (nodesB k l ns first f) (nodesB k (l.map eN) (ns.map eN) first f')
 | [], _, _, _, h => .some _ _ h
 | n :: r, first, _, _, h => OR.bind (node_r k l n first h) fun f1 f2 h1 => nodesB_r k l r false h1
theorem check_r (k : Nat) (l : List N) : OR Rf (check k l) (check k (l.map eN)) := nodesB_r k l l true ⟨rfl, fun _ => rfl⟩
theorem check_told {k : Nat} {l : List N} {f : F} (h : check k (l.map eN) = some f) : ∃ r : F, check k l = some r ∧ r.2 = f.2 ∧ (r.2 = 0 → r.1 = 0) := by
 have h1 := check_r k l
 rw [h] at h1
 cases hc : check k l with
 | none => rw [hc] at h1; cases h1
 | some r =>
  rw [hc] at h1
  cases h1 with
  | some _ _ h2 => exact ⟨r, rfl, h2.1, h2.2⟩
end Go.Proofs.YtjafllnbgfcchaaDoor.Ct
end
section
/- Canonical tokens, and texts of numbers. -/
namespace Go.Proofs.YtjafllnbgfcchaaDoor
set_option linter.unusedVariables false
set_option linter.unusedSimpArgs false
namespace PX
def kwT (w : B) : T := ⟨3, w, 0⟩
def sgT (w : B) : T := ⟨4, w, 0⟩
def nmT (w : B) : T := ⟨1, w, 0⟩
def digs : Nat → Nat → B
 | 0, _ => []
 | k + 1, n => if n < 10 then [48 + n.toUInt8] else digs k (n / 10) ++ [48 + (n % 10).toUInt8]
def digits (n : Nat) : B := digs 20 n
def numT (n : Int) : List T := if n < 0 then [sgT [45], ⟨2, digits n.natAbs, n.natAbs⟩] else [⟨2, digits n.natAbs, n.natAbs⟩]
def par (x : List T) : List T := sgT [40] :: (x ++ [sgT [41]])
def commas : List (List T) → List T
 | [] => []
 | [x] => x
 | x :: r => x ++ sgT [44] :: commas r
def NameOk (m : B) : Prop := (∃ c r, m = c :: r ∧ LX.letter c = true) ∧ m.all LX.word = true ∧ LX.words.contains m = false ∧ m.length ≤ 30
def parB (x : B) : B := 40 :: (x ++ [41])
def commasB : List B → B
 | [] => []
 | [x] => x
 | x :: r => x ++ 44 :: 32 :: commasB r
def numB (n : Int) : B := if n < 0 then 45 :: digits n.natAbs else digits n.natAbs
end PX
end Go.Proofs.YtjafllnbgfcchaaDoor
end
section
/- Texts that are parted into tokens. -/
namespace Go.Proofs.YtjafllnbgfcchaaDoor
set_option linter.unusedVariables false
set_option linter.unusedSimpArgs false
namespace PX
def Lexes (s : B) (ts : List T) : Prop := ∀ total k, s.length < k → ∃ r, LX.go total k s = .ok r ∧ r.map tkp = ts
def Sp (s : B) : Prop := ∀ c r, s = c :: r → LX.word c = false
theorem Sp.nil : Sp [] := fun c r h => by cases h
theorem Sp.cons {c : UInt8} (r : B) (h : LX.word c = false) : Sp (c :: r) := fun c' r' e => by
 injection e with e1 e2
 subst e1
 exact h
theorem Lexes.nil : Lexes [] [endT] := fun total k hk => by
 obtain ⟨j, rfl⟩ : ∃ j, k = j + 1 := ⟨k - 1, by simp at hk; omega⟩
 exact ⟨_, rfl, rfl⟩
theorem Lexes.blank {s : B} {ts : List T} (c : UInt8) (hc : LX.blank c = true) (h : Lexes s ts) : Lexes (c :: s) ts := fun total k hk => by
 obtain ⟨j, rfl⟩ : ∃ j, k = j + 1 := ⟨k - 1, by simp at hk; omega⟩
 obtain ⟨r, h1, h2⟩ := h total (j + 1) (by simp at hk; omega)
 refine ⟨r, ?_, h2⟩
 rw [LX.go] at h1 ⊢
 rw [LX.skip_blank c s hc]
 exact h1
theorem Lexes.tok {t s : B} {ts : List T} {kind n : Nat} (ht : t ≠ []) (hs : LX.skip false (t ++ s) = t ++ s) (h1 : LX.one (t ++ s) = .ok (kind, t, n)) (h : Lexes s ts) : Lexes (t ++ s) (⟨kind, t, n⟩ :: ts) := fun total k hk => by
 obtain ⟨j, rfl⟩ : ∃ j, k = j + 1 := ⟨k - 1, by rw [List.length_append] at hk; omega⟩
 have hl : 1 ≤ t.length := by cases t with
  | nil => exact absurd rfl ht
  | cons _ _ => simp
 obtain ⟨r, h2, h3⟩ := h total j (by rw [List.length_append] at hk; omega)
 have he : (t ++ s).isEmpty = false := by cases t with
  | nil => exact absurd rfl ht
  | cons _ _ => rfl
 refine ⟨⟨kind, total - (t ++ s).length, t, n⟩ :: r, ?_, by rw [List.map_cons, h3]; rfl⟩
 rw [LX.go, hs]
 simp only [he, h1, List.drop_left, h2, Bool.false_eq_true, if_false]
theorem takeWhile_all (p : UInt8 → Bool) : ∀ (t s : B), t.all p = true → (∀ c r, s = c :: r → p c = false) → (t ++ s).takeWhile p = t
 | [], s, _, hs => by
  cases s with
  | nil => rfl
  | cons c r => rw [List.nil_append, List.takeWhile_cons, hs c r rfl]; rfl
 | a :: t, s, h, hs => by
  rw [List.all_cons, Bool.and_eq_true] at h
  rw [List.cons_append, List.takeWhile_cons, h.1, if_pos rfl, takeWhile_all p t s h.2 hs]
theorem letter_not {c : UInt8} (h : LX.letter c = true) : LX.blank c = false ∧ c ≠ 45 := by
 constructor
 ·cases hb : LX.blank c with
  | false => rfl
  | true =>
   unfold LX.blank at hb
   simp only [Bool.or_eq_true, beq_iff_eq] at hb
   rcases hb with (rfl | rfl) | rfl <;> exact absurd h (by decide)
 ·rintro rfl
  exact absurd h (by decide)
theorem skip_id {c : UInt8} (r : B) (hb : LX.blank c = false) (h : c ≠ 45) : LX.skip false (c :: r) = c :: r :=
 LX.skip_other _ (fun c' r' e => by
  injection e with e1
  subst e1
  exact hb) (by
  cases r with
  | nil => simp [List.isPrefixOf]
  | cons d r =>
   have : (45 == c) = false := beq_eq_false_iff_ne.2 fun e => h e.symm
   simp [List.isPrefixOf, this])
theorem Lexes.name {m s : B} {ts : List T} (hm : NameOk m) (hs : Sp s) (h : Lexes s ts) : Lexes (m ++ s) (nmT m :: ts) := by
 obtain ⟨⟨c, r, rfl, hc⟩, ha, hw, hl⟩ := hm
 have hn := letter_not hc
 refine Lexes.tok (by simp) (skip_id _ hn.1 hn.2) ?_ h
 show LX.one (c :: (r ++ s)) = _
 unfold LX.one
 simp only [hc, if_true]
 rw [show c :: (r ++ s) = (c :: r) ++ s from rfl, takeWhile_all LX.word (c :: r) s ha hs]
 simp only [hw, Bool.false_eq_true, if_false]
 rw [if_neg (by omega)]
theorem Lexes.kw {m s : B} {ts : List T} (hm : m ∈ LX.words) (hs : Sp s) (h : Lexes s ts) : Lexes (m ++ s) (kwT m :: ts) := by
 have key : ∀ x ∈ LX.words, x.all LX.word = true ∧ (match x with | [] => false | c :: _ => LX.letter c) = true := by decide
 obtain ⟨ha, hc⟩ := key m hm
 cases m with
 | nil => cases hc
 | cons c r =>
  have hc : LX.letter c = true := hc
  have hn := letter_not hc
  refine Lexes.tok (by simp) (skip_id _ hn.1 hn.2) ?_ h
  show LX.one (c :: (r ++ s)) = _
  unfold LX.one
  simp only [hc, if_true]
  rw [show c :: (r ++ s) = (c :: r) ++ s from rfl, takeWhile_all LX.word (c :: r) s ha hs]
  rw [List.contains_iff_mem.2 hm]
  rfl
theorem numGo_app : ∀ (x y : B) (a : Nat), LX.numGo a (x ++ y) = (LX.numGo a x).bind fun b => LX.numGo b y
 | [], y, a => rfl
 | c :: x, y, a => by
  rw [List.cons_append, LX.numGo, LX.numGo]
  split
  ·rfl
  ·exact numGo_app x y _
theorem dig_nat (d : Nat) (h : d < 10) : (48 + d.toUInt8).toNat = 48 + d ∧ LX.digit (48 + d.toUInt8) = true ∧ (48 + d.toUInt8 = 48 → d = 0) := by
 have key : ∀ d : Fin 10, (48 + (d.val).toUInt8).toNat = 48 + d.val ∧ LX.digit (48 + (d.val).toUInt8) = true ∧ (48 + (d.val).toUInt8 = 48 → d.val = 0) := by decide
 exact key ⟨d, h⟩
theorem digs_ok : ∀ (k n : Nat), n < 10 ^ k → n ≤ 9223372036854775808 → 1 ≤ k → LX.numGo 0 (digs k n) = some n ∧ (digs k n).all LX.digit = true ∧ (digs k n) ≠ [] ∧ (0 < n → (digs k n).head? ≠ some 48) ∧ (n < 10 → (digs k n).length = 1)
 | 0, n, _, _, h1 => by omega
 | k + 1, n, hk, hn, _ => by
  rw [digs]
  split
  ·rename_i h10
   obtain ⟨e1, e2, e3⟩ := dig_nat n h10
   refine ⟨?_, by simp [e2], by simp, fun h0 he => ?_, fun _ => rfl⟩
   ·rw [LX.numGo, e1]
    rw [if_neg (by omega), LX.numGo]
    congr 1
    omega
   ·simp only [List.head?_cons, Option.some.injEq] at he
    have := e3 he
    omega
  ·rename_i h10
   have hk1 : 1 ≤ k := by
    rcases Nat.eq_zero_or_pos k with rfl | h
    ·simp at hk; omega
    ·exact h
   obtain ⟨i1, i2, i3, i4, i5⟩ := digs_ok k (n / 10) (by rw [Nat.pow_succ] at hk; omega) (by omega) hk1
   obtain ⟨e1, e2, e3⟩ := dig_nat (n % 10) (by omega)
   refine ⟨?_, by rw [List.all_append, i2]; simp [e2], by simp, fun h0 => ?_, fun h => absurd h h10⟩
   ·rw [numGo_app, i1, Option.bind_some, LX.numGo, e1, if_neg (by omega), LX.numGo]
    congr 1
    omega
   ·cases hx : digs k (n / 10) with
    | nil => exact absurd hx i3
    | cons a y =>
     have := i4 (by omega)
     rw [hx] at this
     exact this
theorem digits_ok {n : Nat} (hn : n ≤ 9223372036854775808) : LX.numGo 0 (digits n) = some n ∧ (digits n).all LX.digit = true ∧ (digits n) ≠ [] ∧ ((digits n).head? = some 48 → (digits n).length = 1) := by
 obtain ⟨h1, h2, h3, h4, h5⟩ := digs_ok 20 n (Nat.lt_of_le_of_lt hn (by decide)) hn (by decide)
 refine ⟨h1, h2, h3, fun h => h5 ?_⟩
 rcases Nat.eq_zero_or_pos n with h0 | h0
 ·omega
 ·exact absurd h (h4 h0)
theorem digit_not {c : UInt8} (h : LX.digit c = true) : LX.blank c = false ∧ c ≠ 45 ∧ LX.letter c = false := by
 have key : ∀ c : Fin 256, LX.digit (UInt8.ofNat c.val) = true → LX.blank (UInt8.ofNat c.val) = false ∧ UInt8.ofNat c.val ≠ 45 ∧ LX.letter (UInt8.ofNat c.val) = false := by decide +kernel
 have e : UInt8.ofNat c.toNat = c := by simp
 have := key ⟨c.toNat, c.toNat_lt⟩
 simp only [e] at this
 exact this h
theorem Lexes.num {n : Nat} {s : B} {ts : List T} (hn : n ≤ 9223372036854775808) (hs : Sp s) (h : Lexes s ts) : Lexes (digits n ++ s) (⟨2, digits n, n⟩ :: ts) := by
 obtain ⟨h1, h2, h3, h4⟩ := digits_ok hn
 cases hd : digits n with
 | nil => exact absurd hd h3
 | cons c r =>
  rw [hd] at h1 h2 h4
  have hc : LX.digit c = true := by rw [List.all_cons, Bool.and_eq_true] at h2; exact h2.1
  obtain ⟨n1, n2, n3⟩ := digit_not hc
  refine Lexes.tok (by simp) (skip_id _ n1 n2) ?_ h
  show LX.one (c :: (r ++ s)) = _
  unfold LX.one
  simp only [n3, hc, Bool.false_eq_true, if_false, if_true]
  rw [show c :: (r ++ s) = (c :: r) ++ s from rfl, takeWhile_all LX.digit (c :: r) s h2 (fun c' r' e => by
   have := hs c' r' e
   unfold LX.word at this
   rw [Bool.or_eq_false_iff] at this
   exact this.2)]
  rw [h1, if_neg]
  intro hb
  simp only [Bool.and_eq_true, beq_iff_eq, decide_eq_true_eq] at hb
  have := h4 (by rw [hb.1]; rfl)
  omega
def SgSp (g s : B) : Prop := g ∈ [[60, 62], [60, 61], [62, 61], [45, 62], [40], [41], [44], [59], [58], [61], [43], [42], [47]] ∨ g ∈ [[60], [62], [45]] ∧ ∀ c r, s = c :: r → c ≠ 61 ∧ c ≠ 62 ∧ c ≠ 45
theorem Lexes.sg {g s : B} {ts : List T} (hg : SgSp g s) (h : Lexes s ts) : Lexes (g ++ s) (sgT g :: ts) := by
 have key : LX.skip false (g ++ s) = g ++ s ∧ LX.one (g ++ s) = .ok (4, g, 0) ∧ g ≠ [] := by
  rcases hg with hg | ⟨hg, hs⟩
  ·simp only [List.mem_cons, List.not_mem_nil, or_false] at hg
   rcases hg with rfl | rfl | rfl | rfl | rfl | rfl | rfl | rfl | rfl | rfl | rfl | rfl | rfl <;> refine ⟨?_, ?_, by simp⟩ <;> first
    | exact skip_id _ (by decide) (by decide)
    | (simp [LX.skip, LX.blank]; done)
    | (simp [LX.one, LX.letter, LX.digit, LX.signs, List.find?, List.isPrefixOf]; done)
  ·have hcase : s = [] ∨ ∃ c r, s = c :: r := by cases s with
    | nil => exact .inl rfl
    | cons c r => exact .inr ⟨c, r, rfl⟩
   simp only [List.mem_cons, List.not_mem_nil, or_false] at hg
   rcases hcase with rfl | ⟨c, r, rfl⟩
   ·rcases hg with rfl | rfl | rfl <;> refine ⟨?_, ?_, by simp⟩ <;> first
     | exact skip_id _ (by decide) (by decide)
     | (simp [LX.skip, LX.blank]; done)
     | (simp [LX.one, LX.letter, LX.digit, LX.signs, List.find?, List.isPrefixOf]; done)
   ·obtain ⟨h1, h2, h3⟩ := hs c r rfl
    have b1 : (61 == c) = false := beq_eq_false_iff_ne.2 fun e => h1 e.symm
    have b2 : (62 == c) = false := beq_eq_false_iff_ne.2 fun e => h2 e.symm
    have b3 : (c == 45) = false := beq_eq_false_iff_ne.2 h3
    rcases hg with rfl | rfl | rfl <;> refine ⟨?_, ?_, by simp⟩ <;> first
     | exact skip_id _ (by decide) (by decide)
     | (simp [LX.skip, LX.blank, b3, h3]; done)
     | (simp [LX.one, LX.letter, LX.digit, LX.signs, List.find?, List.isPrefixOf, b1, b2]; done)
 exact Lexes.tok key.2.2 key.1 key.2.1 h
def LxP (tx : B) (x : List T) : Prop := ∀ rest ts, Sp rest → Lexes rest ts → Lexes (tx ++ rest) (x ++ ts)
theorem LxP.sp {tx : B} {x : List T} (h : LxP tx x) {rest : B} {ts : List T} (c : UInt8) (hc : LX.word c = false) (hr : Lexes (c :: rest) ts) : Lexes (tx ++ c :: rest) (x ++ ts) := h _ _ (Sp.cons _ hc) hr
theorem LxP.par {tx : B} {x : List T} (h : LxP tx x) : LxP (parB tx) (par x) := fun rest ts hs hr => by
 have e1 : parB tx ++ rest = [40] ++ (tx ++ 41 :: rest) := by simp [parB]
 have e2 : PX.par x ++ ts = sgT [40] :: (x ++ sgT [41] :: ts) := by simp [PX.par]
 rw [e1, e2]
 exact Lexes.sg (.inl (by decide)) (h.sp 41 (by decide) (Lexes.sg (g := [41]) (.inl (by decide)) hr))
theorem LxP.commas : ∀ (l : List (B × List T)), (∀ q ∈ l, LxP q.1 q.2) → LxP (commasB (l.map (·.1))) (PX.commas (l.map (·.2)))
 | [], _ => fun rest ts _ hr => hr
 | [q], h => h q (by simp)
 | q :: y :: r, h => fun rest ts hs hr => by
  have e1 : commasB ((q :: y :: r).map (·.1)) ++ rest = q.1 ++ 44 :: (32 :: (commasB ((y :: r).map (·.1)) ++ rest)) := by
   show commasB (q.1 :: y.1 :: r.map _) ++ rest = _
   rw [commasB]
   ·simp
   ·simp
  have e2 : PX.commas ((q :: y :: r).map (·.2)) ++ ts = q.2 ++ sgT [44] :: (PX.commas ((y :: r).map (·.2)) ++ ts) := by
   show PX.commas (q.2 :: y.2 :: r.map _) ++ ts = _
   rw [PX.commas]
   ·simp
   ·simp
  rw [e1, e2]
  exact (h q (by simp)).sp 44 (by decide) (Lexes.sg (g := [44]) (.inl (by decide)) (Lexes.blank 32 (by decide) (LxP.commas (y :: r) (fun z hz => h z (List.mem_cons_of_mem _ hz)) rest ts hs hr)))
theorem LxP.name {m : B} (h : NameOk m) : LxP m [nmT m] := fun rest ts hs hr => Lexes.name h hs hr
theorem LxP.kw {m : B} (h : m ∈ LX.words) : LxP m [kwT m] := fun rest ts hs hr => Lexes.kw h hs hr
theorem LxP.numT {n : Int} (h0 : -9223372036854775808 ≤ n) (h1 : n ≤ 9223372036854775807) : LxP (numB n) (numT n) := fun rest ts hs hr => by
 unfold numB PX.numT
 have hn : n.natAbs ≤ 9223372036854775808 := by omega
 split
 ·have h2 := Lexes.num hn hs hr
  refine Lexes.sg (g := [45]) (.inr ⟨by decide, fun c r e => ?_⟩) h2
  obtain ⟨_, d2, d3, _⟩ := digits_ok hn
  cases hd : digits n.natAbs with
  | nil => exact absurd hd d3
  | cons a y =>
   rw [hd] at e d2
   injection e with e1
   subst e1
   rw [List.all_cons, Bool.and_eq_true] at d2
   refine ⟨?_, ?_, ?_⟩ <;> (rintro rfl; exact absurd d2.1 (by decide))
 ·exact Lexes.num hn hs hr
theorem LxP.kwSp {m tx : B} {x : List T} (hm : m ∈ LX.words) (h : LxP tx x) : LxP (m ++ 32 :: tx) (kwT m :: x) := fun rest ts hs hr => by
 rw [List.append_assoc]
 exact Lexes.kw hm (Sp.cons _ (by decide)) (Lexes.blank 32 (by decide) (h rest ts hs hr))
theorem LxP.mid {m tx ty : B} {x y : List T} (hm : m ∈ LX.words) (h : LxP tx x) (h2 : LxP ty y) : LxP (tx ++ 32 :: (m ++ 32 :: ty)) (x ++ kwT m :: y) := fun rest ts hs hr => by
 rw [List.append_assoc, List.append_assoc]
 exact h.sp 32 (by decide) (Lexes.blank 32 (by decide) (LxP.kwSp hm h2 rest ts hs hr))
theorem Lexes.all {s : B} {ts : List T} (h : Lexes s ts) (hs : s.length ≤ 4000) : ∃ toks, LX.all s = .ok toks ∧ toks.map tkp = ts := by
 unfold LX.all
 rw [if_neg (by omega)]
 exact h s.length (s.length + 1) (Nat.lt_succ_self _)
end PX
end Go.Proofs.YtjafllnbgfcchaaDoor
end
section
/- Texts told in pieces: blanks, names, words, signs, numbers; their tokens. -/
namespace Go.Proofs.YtjafllnbgfcchaaDoor
set_option linter.unusedVariables false
set_option linter.unusedSimpArgs false
namespace PX
inductive Pc where
 | sp (c : UInt8)
 | nm (m : B)
 | kw (m : B)
 | sg (g : B)
 | nu (n : Nat)
def Pc.txt : Pc → B
 | .sp c => [c]
 | .nm m => m
 | .kw m => m
 | .sg g => g
 | .nu n => digits n
def Pc.tok : Pc → List T
 | .sp _ => []
 | .nm m => [nmT m]
 | .kw m => [kwT m]
 | .sg g => [sgT g]
 | .nu n => [⟨2, digits n, n⟩]
def txts : List Pc → B
 | [] => []
 | p :: r => p.txt ++ txts r
def toks : List Pc → List T
 | [] => []
 | p :: r => p.tok ++ toks r
def soft (c : UInt8) : Bool := !LX.word c && c != 61 && c != 62 && c != 45
def Soft (s : B) : Prop := ∀ c r, s = c :: r → soft c = true
def nameB (m : B) : Bool := (match m with | [] => false | c :: _ => LX.letter c) && m.all LX.word && !LX.words.contains m && decide (m.length ≤ 30)
theorem nameB_ok {m : B} (h : nameB m = true) : NameOk m := by
 unfold nameB at h
 simp only [Bool.and_eq_true, Bool.not_eq_true', decide_eq_true_eq] at h
 obtain ⟨⟨⟨h1, h2⟩, h3⟩, h4⟩ := h
 cases m with
 | nil => cases h1
 | cons c r => exact ⟨⟨c, r, rfl, h1⟩, h2, h3, h4⟩
def sgA : List B := [[60, 62], [60, 61], [62, 61], [45, 62], [40], [41], [44], [59], [58], [61], [43], [42], [47]]
def sgB : List B := [[60], [62], [45]]
def Pc.fine : Pc → Bool
 | .sp c => LX.blank c
 | .nm m => nameB m
 | .kw m => LX.words.contains m
 | .sg g => sgA.contains g || sgB.contains g
 | .nu n => decide (n ≤ 9223372036854775808)
def Pc.ahead (p : Pc) (c : UInt8) : Bool :=
 match p with
 | .sp _ => true
 | .nm _ => !LX.word c
 | .kw _ => !LX.word c
 | .nu _ => !LX.word c
 | .sg g => sgA.contains g || (c != 61 && c != 62 && c != 45)
def segs : List Pc → Bool
 | [] => true
 | p :: r => p.fine && segs r && (match txts r with | c :: _ => p.ahead c | [] => true)
theorem soft_ahead {c : UInt8} (h : soft c = true) (p : Pc) : p.ahead c = true := by
 unfold soft at h
 simp only [Bool.and_eq_true] at h
 obtain ⟨⟨⟨h1, h2⟩, h3⟩, h4⟩ := h
 cases p with
 | sp _ => rfl
 | nm _ => exact h1
 | kw _ => exact h1
 | nu _ => exact h1
 | sg g =>
  show (sgA.contains g || (c != 61 && c != 62 && c != 45)) = true
  rw [h2, h3, h4]
  simp
theorem Lexes.pc {p : Pc} {s : B} {ts : List T} (hp : p.fine = true) (ha : ∀ c r, s = c :: r → p.ahead c = true) (h : Lexes s ts) : Lexes (p.txt ++ s) (p.tok ++ ts) := by
 cases p with
 | sp c => exact Lexes.blank c hp h
 | nm m => exact Lexes.name (nameB_ok hp) (fun c r e => by have := ha c r e; simpa [Pc.ahead] using this) h
 | kw m => exact Lexes.kw (List.contains_iff_mem.1 hp) (fun c r e => by have := ha c r e; simpa [Pc.ahead] using this) h
 | nu n => exact Lexes.num (of_decide_eq_true hp) (fun c r e => by have := ha c r e; simpa [Pc.ahead] using this) h
 | sg g =>
  refine Lexes.sg ?_ h
  have hp : (sgA.contains g || sgB.contains g) = true := hp
  by_cases hA : sgA.contains g = true
  ·exact .inl (List.contains_iff_mem.1 hA)
  ·have hB : sgB.contains g = true := by
    rw [Bool.or_eq_true] at hp
    exact hp.resolve_left hA
   refine .inr ⟨List.contains_iff_mem.1 hB, fun c r e => ?_⟩
   have := ha c r e
   unfold Pc.ahead at this
   dsimp only at this
   rw [Bool.or_eq_true] at this
   have := this.resolve_left hA
   simp only [Bool.and_eq_true, bne_iff_ne] at this
   exact ⟨this.1.1, this.1.2, this.2⟩
theorem Lexes.segs : ∀ (ps : List Pc), segs ps = true → ∀ rest ts, Soft rest → Lexes rest ts → Lexes (txts ps ++ rest) (toks ps ++ ts)
 | [], _, rest, ts, _, h => h
 | p :: r, hp, rest, ts, hs, h => by
  unfold PX.segs at hp
  simp only [Bool.and_eq_true] at hp
  obtain ⟨⟨h1, h2⟩, h3⟩ := hp
  have ih := Lexes.segs r h2 rest ts hs h
  rw [txts, PX.toks, List.append_assoc, List.append_assoc]
  refine Lexes.pc h1 (fun c y e => ?_) ih
  cases ht : txts r with
  | nil =>
   rw [ht] at e
   exact soft_ahead (hs c y e) p
  | cons c' y' =>
   rw [ht] at e h3
   injection e with e1
   subst e1
   exact h3
theorem Soft.nil : Soft [] := fun c r e => by cases e
theorem Soft.cons {c : UInt8} (r : B) (h : soft c = true) : Soft (c :: r) := fun c' r' e => by
 injection e with e1
 subst e1
 exact h
theorem Lexes.whole {ps : List Pc} (h : PX.segs ps = true) : Lexes (txts ps) (PX.toks ps ++ [endT]) := by
 have := Lexes.segs ps h [] [endT] Soft.nil Lexes.nil
 rwa [List.append_nil] at this
end PX
end Go.Proofs.YtjafllnbgfcchaaDoor
end
section
/- Real nodes without places; what is told of a text, by reckoning the parser's answer on its tokens. -/
namespace Go.Proofs.YtjafllnbgfcchaaDoor.Ct
set_option linter.unusedVariables false
set_option linter.unusedSimpArgs false
open Go Go.RowKit Go.Proofs.YtjafllnbgfcchaaDoor.XK
mutual
def rE0 : PX.Ex → E
 | .mk k _ n m o l => ⟨k, 0, n, ⟨m.toArray⟩, o, rEs0 l⟩
def rEs0 : List PX.Ex → List E
 | [] => []
 | e :: r => rE0 e :: rEs0 r
end
def rD0 (d : PX.Dc) : D := ⟨⟨d.name.toArray⟩, 0, ⟨d.bool, d.future⟩, ⟨d.clock.toArray⟩, d.off⟩
def rL0 (x : PX.Lf) : S47 := ⟨⟨x.name.toArray⟩, 0⟩
def rQ0 (q : PX.Eq) : Q := ⟨q.left.map rL0, q.async, rE0 q.e⟩
def rN0 (n : PX.Nd) : N := ⟨⟨n.name.toArray⟩, 0, n.ins.map rD0, n.outs.map rD0, n.vars.map rD0, n.eqs.map rQ0⟩
mutual
theorem eE_real (toks : List LX.Tok) : ∀ e, eE (Px.real toks e) = rE0 e
 | .mk k q n m o l => by rw [Px.real, eE, rE0, eEs_real toks l]
theorem eEs_real (toks : List LX.Tok) : ∀ l, eEs (Px.reals toks l) = rEs0 l
 | [] => rfl
 | e :: r => by rw [Px.reals, eEs, rEs0, eE_real toks e, eEs_real toks r]
end
theorem eQ_real (toks : List LX.Tok) (q : PX.Eq) : eQ (Px.realQ toks q) = rQ0 q := by
 unfold eQ Px.realQ rQ0
 rw [eE_real, List.map_map]
 rfl
theorem eN_real (toks : List LX.Tok) (n : PX.Nd) : eN (Px.realN toks n) = rN0 n := by
 unfold eN Px.realN rN0
 simp only [List.map_map]
 congr 1
 exact List.map_congr_left fun q _ => eQ_real toks q
end Go.Proofs.YtjafllnbgfcchaaDoor.Ct
end
section
/- More rounds give the plain parser's same answer. -/
namespace Go.Proofs.YtjafllnbgfcchaaDoor
namespace PX
def Le {α : Type} (r r' : Res α) : Prop := r.isOut = false → r' = r
theorem Le.refl {α : Type} (r : Res α) : Le r r := fun _ => rfl
theorem Le.out {α : Type} (r : Res α) : Le .out r := fun h => by cases h
theorem Le.bind {α β : Type} {r r' : Res α} {f f' : α → List T → Res β} (h : Le r r') (hf : ∀ a s, Le (f a s) (f' a s)) : Le (r.bind f) (r'.bind f') := by
 intro ho
 have h1 := Res.isOut_bind ho
 rw [h h1]
 cases r with
 | ok a s => exact hf a s ho
 | bad p e => rfl
 | out => rfl
theorem Le.bind' {α β : Type} (r : Res α) {f f' : α → List T → Res β} (hf : ∀ a s, Le (f a s) (f' a s)) : Le (r.bind f) (r.bind f') := Le.bind (Le.refl r) hf
theorem Le.ite {α : Type} {c : Prop} [Decidable c] {a a' b b' : Res α} (h1 : Le a a') (h2 : Le b b') : Le (if c then a else b) (if c then a' else b') := by
 split
 ·exact h1
 ·exact h2
theorem Le.lits : ∀ k s, Le (lits k s) (lits (k + 1) s)
 | 0, s => by rw [lits.eq_1]; exact Le.out _
 | k + 1, s => by
  rw [lits.eq_2 s k, lits.eq_2 s (k + 1)]
  exact Le.bind' _ fun e s1 => Le.ite (Le.bind (Le.lits k _) fun l s2 => Le.refl _) (Le.refl _)
structure Mono (k : Nat) : Prop where
 expr : ∀ s, Le (expr k s) (expr (k + 1) s)
 arrow : ∀ s, Le (arrow k s) (arrow (k + 1) s)
 bin : ∀ lvl s, Le (bin k lvl s) (bin (k + 1) lvl s)
 left : ∀ lvl a s, Le (left k lvl a s) (left (k + 1) lvl a s)
 unary : ∀ s, Le (unary k s) (unary (k + 1) s)
 whens : ∀ a s, Le (whens k a s) (whens (k + 1) a s)
 exprs : ∀ s, Le (exprs k s) (exprs (k + 1) s)
 call : ∀ m a s, Le (call k m a s) (call (k + 1) m a s)
 primary : ∀ s, Le (primary k s) (primary (k + 1) s)
theorem monos : ∀ k, Mono k
 | 0 => by constructor <;> intros <;> first | (rw [expr.eq_1]; exact Le.out _) | (rw [arrow.eq_1]; exact Le.out _) | (rw [bin.eq_1]; exact Le.out _) | (rw [left.eq_1]; exact Le.out _) | (rw [unary.eq_1]; exact Le.out _) | (rw [whens.eq_1]; exact Le.out _) | (rw [exprs.eq_1]; exact Le.out _) | (rw [call.eq_1]; exact Le.out _) | (rw [primary.eq_1]; exact Le.out _)
 | k + 1 => by
  have ih := monos k
  constructor
  ·intro s
   rw [expr.eq_2 s k, expr.eq_2 s (k + 1)]
   refine Le.ite ?_ (ih.arrow s)
   refine Le.bind (ih.expr _) fun a s1 => Le.bind' _ fun _ s2 => Le.bind (ih.expr _) fun b s3 => Le.bind' _ fun _ s4 => Le.bind (ih.expr _) fun c s5 => Le.refl _
  ·intro s
   rw [arrow.eq_2 s k, arrow.eq_2 s (k + 1)]
   refine Le.bind (ih.bin 0 s) fun a s1 => Le.ite (Le.bind (ih.arrow _) fun b s2 => Le.refl _) (Le.ite (Le.ite (Le.bind (ih.arrow _) fun b s2 => Le.refl _) (Le.refl _)) (Le.refl _))
  ·intro lvl s
   rw [bin.eq_2 lvl s k, bin.eq_2 lvl s (k + 1)]
   refine Le.ite (Le.ite (Le.bind (ih.bin 2 _) fun a s1 => Le.refl _) (Le.bind (ih.bin 3 s) fun a s1 => Le.ite (Le.bind (ih.bin 3 _) fun b s2 => Le.refl _) (Le.refl _))) (Le.ite (ih.unary s) (Le.bind (ih.bin (lvl + 1) s) fun a s1 => ih.left lvl a s1))
  ·intro lvl a s
   rw [left.eq_2 lvl a s k, left.eq_2 lvl a s (k + 1)]
   exact Le.ite (Le.bind (ih.bin (lvl + 1) _) fun b s1 => ih.left lvl _ s1) (Le.refl _)
  ·intro s
   rw [unary.eq_2 s k, unary.eq_2 s (k + 1)]
   exact Le.ite (Le.bind (ih.unary _) fun a s1 => Le.refl _) (Le.ite (Le.ite (Le.refl _) (Le.bind (ih.unary _) fun a s1 => Le.refl _)) (Le.bind (ih.primary s) fun a s1 => ih.whens a s1))
  ·intro a s
   rw [whens.eq_2 a s k, whens.eq_2 a s (k + 1)]
   exact Le.ite (Le.bind' _ fun m s2 => ih.whens _ s2) (Le.refl _)
  ·intro s
   rw [exprs.eq_2 s k, exprs.eq_2 s (k + 1)]
   exact Le.bind (ih.expr s) fun e s1 => Le.ite (Le.bind (ih.exprs _) fun l s2 => Le.refl _) (Le.refl _)
  ·intro m a s
   rw [call.eq_2 m a s k, call.eq_2 m a s (k + 1)]
   exact Le.bind' _ fun _ s1 => Le.ite (Le.refl _) (Le.bind (ih.exprs _) fun l s2 => Le.refl _)
  ·intro s
   rw [primary.eq_2 s k, primary.eq_2 s (k + 1)]
   refine Le.ite (Le.refl _) (Le.ite (Le.ite (ih.call _ _ _) (Le.refl _)) (Le.ite (Le.ite ?_ (Le.ite ?_ (Le.ite ?_ (Le.refl _)))) (Le.refl _)))
   ·exact Le.bind' _ fun m s1 => Le.bind' _ fun _ s2 => Le.bind (ih.expr _) fun a s3 => Le.bind' _ fun _ s4 => Le.bind' _ fun _ s5 => Le.bind (ih.expr _) fun b s6 => Le.refl _
   ·exact Le.bind' _ fun m s1 => Le.ite (Le.bind' _ fun _ s2 => Le.bind (Le.lits k _) fun l s3 => Le.refl _) (Le.refl _)
   ·exact Le.bind (ih.expr _) fun e s1 => Le.refl _
theorem Le.trans {α : Type} {a b c : Res α} (h : Le a b) (h2 : Le b c) : Le a c := fun ho => by
 have h3 := h ho
 have h4 : b.isOut = false := by rw [h3]; exact ho
 exact (h2 h4).trans h3
theorem Le.upto {α : Type} {f : Nat → Res α} (h : ∀ k, Le (f k) (f (k + 1))) (k d : Nat) : Le (f k) (f (k + d)) := by
 induction d with
 | zero => exact Le.refl _
 | succ d ih => exact ih.trans (h (k + d))
def Evr {α : Type} (f : Nat → Res α) (r : Res α) : Prop := ∃ k0, ∀ k, k0 ≤ k → f k = r
theorem Evr.of {α : Type} {f : Nat → Res α} (h : ∀ k, Le (f k) (f (k + 1))) {r : Res α} (hr : r.isOut = false) {k : Nat} (hk : f k = r) : Evr f r :=
 ⟨k, fun j hj => by
  obtain ⟨d, rfl⟩ : ∃ d, j = k + d := ⟨j - k, by omega⟩
  rw [Le.upto h k d (by rw [hk]; exact hr), hk]⟩
theorem Evr.at_ {α : Type} {f : Nat → Res α} {r : Res α} (h : Evr f r) (hm : ∀ k, Le (f k) (f (k + 1))) {k : Nat} (hk : (f k).isOut = false) : f k = r := by
 obtain ⟨k0, h0⟩ := h
 have h1 := Le.upto hm k k0 hk
 rw [← h1, h0 _ (by omega)]
end PX
end Go.Proofs.YtjafllnbgfcchaaDoor
end
section
/- The canonical tokens of an expression are read as it, but for the places. -/
namespace Go.Proofs.YtjafllnbgfcchaaDoor
set_option linter.unusedVariables false
set_option linter.unusedSimpArgs false
namespace PX
mutual
def unp : Ex → Ex
 | .mk k _ n m o l => .mk k 0 n m o (unps l)
def unps : List Ex → List Ex
 | [] => []
 | e :: r => unp e :: unps r
end
theorem unps_eq (l : List Ex) : unps l = l.map unp := by
 induction l with
 | nil => rfl
 | cons e r ih => rw [unps, ih]; rfl
def signLevel (m : B) : Nat :=
 if m = [111, 114] ∨ m = [120, 111, 114] then 2 else if m = [97, 110, 100] then 3 else if m = [43] ∨ m = [45] then 6 else if m = [42] ∨ m = [47] ∨ m = [109, 111, 100] then 7 else 5
def lvl (k : Nat) (n : Int) (m : B) : Nat :=
 if k = 7 then 0 else if k = 8 ∨ k = 9 then 1 else if k = 5 then 4 else if k = 4 ∨ k = 10 then 8 else if k = 11 then 9 else if k = 6 then signLevel m
 else if k = 1 ∧ n < 0 then 8 else 10
def level (e : Ex) : Nat := lvl e.kind e.n e.name
structure Kt where
 lev : Nat
 kind : Nat
 toks : List T
def Kt.at_ (a : Kt) (least : Nat) : List T := if a.lev < least then par a.toks else a.toks
def signT (m : B) : T := if m = [111, 114] ∨ m = [120, 111, 114] ∨ m = [97, 110, 100] ∨ m = [109, 111, 100] then kwT m else sgT m
def asm (k : Nat) (n : Int) (m : B) (off : Bool) (l : List Kt) : List T :=
 if k = 1 then numT n
 else if k = 2 then [kwT (if n = 1 then [116, 114, 117, 101] else [102, 97, 108, 115, 101])]
 else if k = 3 then [nmT m]
 else if k = 13 then nmT m :: par (commas (l.map Kt.toks))
 else if k = 14 then kwT [97, 119, 97, 105, 116] :: nmT m :: (if l.isEmpty then [] else kwT [97, 102, 116, 101, 114] :: par (commas (l.map Kt.toks)))
 else match l with
  | [a] =>
   if k = 4 then sgT [45] :: (if a.kind = 1 ∨ (peek (a.at_ 8)).text = [45] then par a.toks else a.at_ 8)
   else if k = 5 then kwT [110, 111, 116] :: a.at_ 4
   else if k = 10 then kwT [112, 114, 101] :: a.at_ 8
   else if k = 11 then a.at_ 9 ++ kwT [119, 104, 101, 110] :: ((if off then [kwT [110, 111, 116]] else []) ++ [nmT m])
   else []
  | [a, b] =>
   if k = 6 then a.at_ (if signLevel m = 5 then 6 else signLevel m) ++ signT m :: b.at_ (signLevel m + 1)
   else if k = 8 then a.at_ 2 ++ sgT [45, 62] :: b.at_ 1
   else if k = 9 then a.toks ++ kwT [102, 98, 121] :: b.at_ 1
   else if k = 12 then kwT [109, 101, 114, 103, 101] :: nmT m :: (par a.toks ++ par b.toks)
   else []
  | [a, b, c] => if k = 7 then kwT [105, 102] :: (a.toks ++ kwT [116, 104, 101, 110] :: (b.toks ++ kwT [101, 108, 115, 101] :: c.toks)) else []
  | _ => []
mutual
def toksE : Ex → List T
 | .mk k _ n m o l => asm k n m o (ktsE l)
def ktsE : List Ex → List Kt
 | [] => []
 | e :: r => ⟨level e, e.kind, toksE e⟩ :: ktsE r
end
def ktE (e : Ex) : Kt := ⟨level e, e.kind, toksE e⟩
theorem ktsE_eq (l : List Ex) : ktsE l = l.map ktE := by
 induction l with
 | nil => rfl
 | cons e r ih => rw [ktsE, ih]; rfl
def allSigns : List B := [[43], [45], [42], [47], [109, 111, 100], [60], [60, 61], [62], [62, 61], [61], [60, 62], [97, 110, 100], [111, 114], [120, 111, 114]]
inductive Wf : Ex → Prop where
 | num (q n) : -9223372036854775808 ≤ n → n ≤ 9223372036854775807 → Wf (.mk 1 q n [] false [])
 | truth (q n) : n = 0 ∨ n = 1 → Wf (.mk 2 q n [] false [])
 | var (q m) : NameOk m → Wf (.mk 3 q 0 m false [])
 | neg (q a) : Wf a → Wf (.mk 4 q 0 [] false [a])
 | not_ (q a) : Wf a → Wf (.mk 5 q 0 [] false [a])
 | sign (q m a b) : m ∈ allSigns → Wf a → Wf b → Wf (.mk 6 q 0 m false [a, b])
 | if_ (q a b c) : Wf a → Wf b → Wf c → Wf (.mk 7 q 0 [] false [a, b, c])
 | arrow (q a b) : Wf a → Wf b → Wf (.mk 8 q 0 [] false [a, b])
 | fby (q a b) : isConst a = true → Wf a → Wf b → Wf (.mk 9 q 0 [] false [a, b])
 | pre (q a) : Wf a → Wf (.mk 10 q 0 [] false [a])
 | when_ (q m o a) : NameOk m → Wf a → Wf (.mk 11 q 0 m o [a])
 | merge (q m a b) : NameOk m → Wf a → Wf b → Wf (.mk 12 q 0 m false [a, b])
 | call (q m l) : NameOk m → (∀ x ∈ l, Wf x) → Wf (.mk 13 q 0 m false l)
 | await (q m l) : NameOk m → (∀ x ∈ l, Wf x) → (∀ x ∈ l, isConst x = true) → Wf (.mk 14 q 0 m false l)
def ops10 : List B := [[40], [97, 102, 116, 101, 114]]
def ops9 : List B := [119, 104, 101, 110] :: ops10
def ops7 : List B := [42] :: [47] :: [109, 111, 100] :: ops9
def ops6 : List B := [43] :: [45] :: ops7
def ops5 : List B := [61] :: [60, 62] :: [60] :: [60, 61] :: [62] :: [62, 61] :: ops6
def ops3 : List B := [97, 110, 100] :: ops5
def ops2 : List B := [111, 114] :: [120, 111, 114] :: ops3
def ops1 : List B := [45, 62] :: [102, 98, 121] :: ops2
def Stop (l : List B) (s : List T) : Prop := (peek s).text ∉ l
theorem Stop.sub {l l' : List B} {s : List T} (h : Stop l s) (hs : ∀ x ∈ l', x ∈ l) : Stop l' s := fun hx => h (hs _ hx)
theorem Stop.not {l l' : List B} {s : List T} (h : Stop l s) (hs : ∀ x ∈ l', x ∈ l) : is l' s = false := by
 unfold is
 rw [Bool.and_eq_false_iff]
 right
 rw [← Bool.not_eq_true, List.contains_iff_mem]
 exact h.sub hs
def Head (l : List B) (x : List T) : Prop := x ≠ [] ∧ ((peek x).kind = 3 ∨ (peek x).kind = 4 → (peek x).text ∉ l)
theorem Head.is {l l' : List B} {x : List T} (h : Head l x) (hs : ∀ y ∈ l', y ∈ l) (rest : List T) : PX.is l' (x ++ rest) = false := by
 cases x with
 | nil => exact absurd rfl h.1
 | cons t x =>
  unfold PX.is
  rw [Bool.and_eq_false_iff]
  show ((t.kind == 3 || t.kind == 4) = false) ∨ (l'.contains t.text = false)
  by_cases hk : t.kind = 3 ∨ t.kind = 4
  ·right
   rw [← Bool.not_eq_true, List.contains_iff_mem]
   exact fun hm => h.2 hk (hs _ hm)
  ·left
   simpa using hk
theorem Head.sub {l l' : List B} {x : List T} (h : Head l x) (hs : ∀ y ∈ l', y ∈ l) : Head l' x := ⟨h.1, fun hk hm => h.2 hk (hs _ hm)⟩
theorem Head.app {l : List B} {x : List T} (h : Head l x) (y : List T) : Head l (x ++ y) := by
 cases x with
 | nil => exact absurd rfl h.1
 | cons t x => exact ⟨by simp, h.2⟩
theorem Head.cons {l : List B} {t : T} (x : List T) (h : t.text ∉ l) : Head l (t :: x) := ⟨by simp, fun _ => h⟩
theorem Head.kind {l : List B} {t : T} (x : List T) (h : ¬ (t.kind = 3 ∨ t.kind = 4)) : Head l (t :: x) := ⟨by simp, fun k => absurd k h⟩
section
variable {α β : Type}
theorem Evr.step {f g : Nat → Res α} {r : Res α} (h : Evr g r) (e : ∀ k, f (k + 1) = g k) : Evr f r := by
 obtain ⟨k0, h⟩ := h
 refine ⟨k0 + 1, fun k hk => ?_⟩
 obtain ⟨j, rfl⟩ : ∃ j, k = j + 1 := ⟨k - 1, by omega⟩
 rw [e, h j (by omega)]
theorem Evr.bind {f : Nat → Res α} {g : Nat → α → List T → Res β} {a : α} {s : List T} {r : Res β} (h : Evr f (.ok a s)) (h2 : Evr (fun k => g k a s) r) : Evr (fun k => (f k).bind (g k)) r := by
 obtain ⟨k0, h⟩ := h
 obtain ⟨k1, h2⟩ := h2
 exact ⟨max k0 k1, fun k hk => by
  show (f k).bind (g k) = r
  rw [h k (by omega)]
  exact h2 k (by omega)⟩
theorem Evr.const (r : Res α) : Evr (fun _ => r) r := ⟨0, fun _ _ => rfl⟩
theorem Evr.wants {w : B} {t : T} {s : List T} {g : Nat → Unit → List T → Res β} {r : Res β} (ht : PX.is [w] (t :: s) = true) (h : Evr (fun k => g k () s) r) : Evr (fun k => (want w (t :: s)).bind (g k)) r := by
 have e : want w (t :: s) = .ok () s := by
  unfold want
  rw [if_pos ht]
  rfl
 exact Evr.bind (f := fun _ => want w (t :: s)) (by rw [e]; exact Evr.const _) h
theorem Evr.names {m : B} {s : List T} {g : Nat → B → List T → Res β} {r : Res β} (h : Evr (fun k => g k m s) r) : Evr (fun k => (name (nmT m :: s)).bind (g k)) r :=
 Evr.bind (f := fun _ => name (nmT m :: s)) (Evr.const _) h
end
theorem is_sg (w : B) (s : List T) : is [w] (sgT w :: s) = true := by unfold is; simp [peek, sgT]
theorem is_kw (w : B) (s : List T) : is [w] (kwT w :: s) = true := by unfold is; simp [peek, kwT]
def Sim (e' e : Ex) : Prop := unp e' = unp e
structure P10 (x : List T) (e : Ex) : Prop where
 hd : Head [[41], [97, 115, 121, 110, 99], [105, 102], [110, 111, 116], [112, 114, 101], [45]] x
 rd : ∀ rest, Stop ops10 rest → ∃ e', Sim e' e ∧ Evr (fun k => primary k (x ++ rest)) (.ok e' rest)
structure P9 (x : List T) (e : Ex) : Prop where
 hd : Head [[41], [97, 115, 121, 110, 99], [105, 102], [110, 111, 116], [112, 114, 101], [45]] x
 rd : ∀ rest, Stop ops10 rest → ∃ e', Sim e' e ∧ ∀ r, Evr (fun k => whens k e' rest) r → Evr (fun k => (primary k (x ++ rest)).bind fun a s1 => whens k a s1) r
structure P8 (x : List T) (e : Ex) : Prop where
 hd : Head [[41], [97, 115, 121, 110, 99], [105, 102], [110, 111, 116]] x
 rd : ∀ rest, Stop ops9 rest → ∃ e', Sim e' e ∧ Evr (fun k => unary k (x ++ rest)) (.ok e' rest)
structure P7 (x : List T) (e : Ex) : Prop where
 hd : Head [[41], [97, 115, 121, 110, 99], [105, 102], [110, 111, 116]] x
 rd : ∀ rest, Stop ops9 rest → ∃ e', Sim e' e ∧ ∀ r, Evr (fun k => left k 4 e' rest) r → Evr (fun k => bin k 4 (x ++ rest)) r
structure P6 (x : List T) (e : Ex) : Prop where
 hd : Head [[41], [97, 115, 121, 110, 99], [105, 102], [110, 111, 116]] x
 rd : ∀ rest, Stop ops7 rest → ∃ e', Sim e' e ∧ ∀ r, Evr (fun k => left k 3 e' rest) r → Evr (fun k => bin k 3 (x ++ rest)) r
structure P4 (x : List T) (e : Ex) : Prop where
 hd : Head [[41], [97, 115, 121, 110, 99], [105, 102]] x
 rd : ∀ rest, Stop ops5 rest → ∃ e', Sim e' e ∧ Evr (fun k => bin k 2 (x ++ rest)) (.ok e' rest)
structure P3 (x : List T) (e : Ex) : Prop where
 hd : Head [[41], [97, 115, 121, 110, 99], [105, 102]] x
 rd : ∀ rest, Stop ops5 rest → ∃ e', Sim e' e ∧ ∀ r, Evr (fun k => left k 1 e' rest) r → Evr (fun k => bin k 1 (x ++ rest)) r
structure P2 (x : List T) (e : Ex) : Prop where
 hd : Head [[41], [97, 115, 121, 110, 99], [105, 102]] x
 rd : ∀ rest, Stop ops3 rest → ∃ e', Sim e' e ∧ ∀ r, Evr (fun k => left k 0 e' rest) r → Evr (fun k => bin k 0 (x ++ rest)) r
structure P1 (x : List T) (e : Ex) : Prop where
 hd : Head [[41], [97, 115, 121, 110, 99], [105, 102]] x
 rd : ∀ rest, Stop ops1 rest → ∃ e', Sim e' e ∧ Evr (fun k => arrow k (x ++ rest)) (.ok e' rest)
structure P0 (x : List T) (e : Ex) : Prop where
 hd : Head [[41], [97, 115, 121, 110, 99]] x
 rd : ∀ rest, Stop ops1 rest → ∃ e', Sim e' e ∧ Evr (fun k => expr k (x ++ rest)) (.ok e' rest)
theorem left_stop (i : Nat) (e : Ex) {rest : List T} {l : List B} (h : Stop l rest) (hs : ∀ x ∈ levelSigns i, x ∈ l) : Evr (fun k => left k i e rest) (.ok e rest) :=
 Evr.step (g := fun _ => .ok e rest) (Evr.const _) fun k => by rw [left.eq_2, if_neg (by rw [h.not hs]; decide)]
theorem whens_stop (e : Ex) {rest : List T} (h : Stop ops9 rest) : Evr (fun k => whens k e rest) (.ok e rest) :=
 Evr.step (g := fun _ => .ok e rest) (Evr.const _) fun k => by rw [whens.eq_2, if_neg (by rw [h.not (l' := [[119, 104, 101, 110]]) (by decide)]; decide)]
section
variable {x : List T} {e : Ex}
theorem P10.to9 (h : P10 x e) : P9 x e := ⟨h.hd, fun rest hr => by
 obtain ⟨e', hs, hv⟩ := h.rd rest hr
 exact ⟨e', hs, fun r hw => Evr.bind (g := fun k a s1 => whens k a s1) hv hw⟩⟩
theorem P9.to8 (h : P9 x e) : P8 x e := ⟨h.hd.sub (by decide), fun rest hr => by
 obtain ⟨e', hs, hv⟩ := h.rd rest (hr.sub (by decide))
 refine ⟨e', hs, Evr.step (hv _ (whens_stop e' hr)) fun k => ?_⟩
 rw [unary.eq_2, if_neg (by rw [h.hd.is (by decide)]; decide), if_neg (by rw [h.hd.is (by decide)]; decide)]⟩
theorem P8.to7 (h : P8 x e) : P7 x e := ⟨h.hd, fun rest hr => by
 obtain ⟨e', hs, hv⟩ := h.rd rest hr
 refine ⟨e', hs, fun r hl => Evr.step (Evr.bind (f := fun k => bin k 5 (x ++ rest)) (g := fun k a s1 => left k 4 a s1) (Evr.step hv fun k => ?_) hl) fun k => ?_⟩
 ·rw [bin.eq_2, if_neg (by decide), if_pos rfl]
 ·rw [bin.eq_2, if_neg (by decide), if_neg (by decide)]⟩
theorem P7.to6 (h : P7 x e) : P6 x e := ⟨h.hd, fun rest hr => by
 obtain ⟨e', hs, hv⟩ := h.rd rest (hr.sub (by decide))
 refine ⟨e', hs, fun r hl => Evr.step (Evr.bind (g := fun k a s1 => left k 3 a s1) (hv _ (left_stop 4 e' hr (by decide))) hl) fun k => ?_⟩
 rw [bin.eq_2, if_neg (by decide), if_neg (by decide)]⟩
theorem P6.to4 (h : P6 x e) : P4 x e := ⟨h.hd.sub (by decide), fun rest hr => by
 obtain ⟨e', hs, hv⟩ := h.rd rest (hr.sub (by decide))
 refine ⟨e', hs, Evr.step (Evr.bind (g := fun k a s1 => if is compares s1 then (bin k 3 s1.tail).bind fun b s2 => .ok (.mk 6 s1.length 0 (peek s1).text false [a, b]) s2 else .ok a s1) (hv _ (left_stop 3 e' (hr.sub (l' := ops6) (by decide)) (by decide))) ?_) fun k => ?_⟩
 ·have hc : is compares rest = false := hr.not (by decide)
  simp only [hc, Bool.false_eq_true, if_false]
  exact Evr.const _
 ·rw [bin.eq_2, if_pos rfl, if_neg (by rw [h.hd.is (by decide)]; decide)]⟩
theorem P4.to3 (h : P4 x e) : P3 x e := ⟨h.hd, fun rest hr => by
 obtain ⟨e', hs, hv⟩ := h.rd rest hr
 refine ⟨e', hs, fun r hl => Evr.step (Evr.bind (g := fun k a s1 => left k 1 a s1) hv hl) fun k => ?_⟩
 rw [bin.eq_2, if_neg (by decide), if_neg (by decide)]⟩
theorem P3.to2 (h : P3 x e) : P2 x e := ⟨h.hd, fun rest hr => by
 obtain ⟨e', hs, hv⟩ := h.rd rest (hr.sub (by decide))
 refine ⟨e', hs, fun r hl => Evr.step (Evr.bind (g := fun k a s1 => left k 0 a s1) (hv _ (left_stop 1 e' hr (by decide))) hl) fun k => ?_⟩
 rw [bin.eq_2, if_neg (by decide), if_neg (by decide)]⟩
theorem P2.to1 (h : P2 x e) : P1 x e := ⟨h.hd, fun rest hr => by
 obtain ⟨e', hs, hv⟩ := h.rd rest (hr.sub (by decide))
 refine ⟨e', hs, Evr.step (Evr.bind (g := fun k a s1 => if is [[45, 62]] s1 then (arrow k s1.tail).bind fun b s2 => .ok (.mk 8 s1.length 0 [] false [a, b]) s2
  else if is [[102, 98, 121]] s1 then if isConst a then (arrow k s1.tail).bind fun b s2 => .ok (.mk 9 s1.length 0 [] false [a, b]) s2 else fail s1
  else .ok a s1) (hv _ (left_stop 0 e' (hr.sub (l' := ops2) (by decide)) (by decide))) ?_) fun k => ?_⟩
 ·have h1 : is [[45, 62]] rest = false := hr.not (by decide)
  have h2 : is [[102, 98, 121]] rest = false := hr.not (by decide)
  simp only [h1, h2, Bool.false_eq_true, if_false]
  exact Evr.const _
 ·rw [arrow.eq_2]⟩
theorem P1.to0 (h : P1 x e) : P0 x e := ⟨h.hd.sub (by decide), fun rest hr => by
 obtain ⟨e', hs, hv⟩ := h.rd rest hr
 refine ⟨e', hs, Evr.step hv fun k => ?_⟩
 rw [expr.eq_2, if_neg (by rw [h.hd.is (by decide)]; decide)]⟩
end
def PL : Nat → List T → Ex → Prop
 | 0 => P0
 | 1 => P1
 | 2 => P2
 | 3 => P3
 | 4 => P4
 | 5 => P4
 | 6 => P6
 | 7 => P7
 | 8 => P8
 | 9 => P9
 | _ => P10
theorem PL.down {x : List T} {e : Ex} {i : Nat} (h : PL (i + 1) x e) : PL i x e := by
 match i, h with
 | 0, h => exact P1.to0 h
 | 1, h => exact P2.to1 h
 | 2, h => exact P3.to2 h
 | 3, h => exact P4.to3 h
 | 4, h => exact h
 | 5, h => exact P6.to4 h
 | 6, h => exact P7.to6 h
 | 7, h => exact P8.to7 h
 | 8, h => exact P9.to8 h
 | 9, h => exact P10.to9 h
 | i + 10, h => exact h
theorem PL.le {x : List T} {e : Ex} {i j : Nat} (hij : i ≤ j) (h : PL j x e) : PL i x e := by
 obtain ⟨d, rfl⟩ : ∃ d, j = i + d := ⟨j - i, by omega⟩
 clear hij
 induction d with
 | zero => exact h
 | succ d ih => exact ih (PL.down h)
theorem PL.to0 {x : List T} {e : Ex} {i : Nat} (h : PL i x e) : P0 x e := PL.le (Nat.zero_le i) h
theorem P0.par {x : List T} {e : Ex} (h : P0 x e) : P10 (par x) e := by
 refine ⟨Head.cons _ (by decide), fun rest hr => ?_⟩
 obtain ⟨e', hs, hv⟩ := h.rd (sgT [41] :: rest) (by show [41] ∉ ops1; decide)
 have hx : PX.par x ++ rest = sgT [40] :: (x ++ sgT [41] :: rest) := by simp [PX.par]
 refine ⟨e', hs, ?_⟩
 rw [hx]
 refine Evr.step (g := fun k => (expr k (x ++ sgT [41] :: rest)).bind fun e s1 => (want [41] s1).bind fun _ s2 => .ok e s2) ?_ fun k => ?_
 ·refine Evr.bind (g := fun k e s1 => (want [41] s1).bind fun _ s2 => .ok e s2) hv ?_
  exact Evr.wants (is_sg _ _) (Evr.const _)
 ·rw [primary.eq_2]
  rfl
theorem PL.at_ {e : Ex} (h : PL (level e) (toksE e) e) (least : Nat) (hl : least ≤ 10) : PL least ((ktE e).at_ least) e := by
 unfold Kt.at_
 split
 ·exact PL.le (j := 10) hl (P0.par (PL.to0 h))
 ·rename_i hn
  exact PL.le (by show least ≤ level e; have : ¬ (level e < least) := hn; omega) h
theorem sim_mk {k q q' : Nat} {n : Int} {m : B} {o : Bool} {l l' : List Ex} (h : unps l' = unps l) : Sim (.mk k q' n m o l') (.mk k q n m o l) := by
 unfold Sim
 rw [unp, unp, h]
theorem sim1 {a a' : Ex} (h : Sim a' a) : unps [a'] = unps [a] := by rw [unps_eq, unps_eq]; simp only [List.map]; rw [h]
theorem sim2 {a a' b b' : Ex} (h : Sim a' a) (h2 : Sim b' b) : unps [a', b'] = unps [a, b] := by rw [unps_eq, unps_eq]; simp only [List.map]; rw [h, h2]
theorem sim3 {a a' b b' c c' : Ex} (h : Sim a' a) (h2 : Sim b' b) (h3 : Sim c' c) : unps [a', b', c'] = unps [a, b, c] := by rw [unps_eq, unps_eq]; simp only [List.map]; rw [h, h2, h3]
end PX
end Go.Proofs.YtjafllnbgfcchaaDoor
end
section
/- The canonical tokens of an expression are read as it, but for the places: each kind. -/
namespace Go.Proofs.YtjafllnbgfcchaaDoor
set_option linter.unusedVariables false
set_option linter.unusedSimpArgs false
namespace PX
section
variable {X1 X2 X3 : List T} {a b c : Ex}
theorem Evr.ofStep {α : Type} {f : Nat → Res α} {r : Res α} (e : ∀ k, f (k + 1) = r) : Evr f r := Evr.step (g := fun _ => r) (Evr.const _) e
theorem isT {t : T} {l : List PX.B} (s : List T) (hk : t.kind = 3 ∨ t.kind = 4) (hm : t.text ∈ l) : is l (t :: s) = true := by
 unfold is
 show ((t.kind == 3 || t.kind == 4) && l.contains t.text) = true
 rw [List.contains_iff_mem.2 hm, Bool.and_true]
 simpa using hk
theorem bin_step {i : Nat} (hi : i < 5) (h2 : i ≠ 2) {t : T} (hk : t.kind = 3 ∨ t.kind = 4) (hm : t.text ∈ levelSigns i) {rest : List T} {a' b' : Ex} (hb : Evr (fun k => bin k (i + 1) (X2 ++ rest)) (.ok b' rest)) (q : Nat) (hq : q = (t :: (X2 ++ rest)).length) :
  ∀ r, Evr (fun k => left k i (Ex.mk 6 q 0 t.text false [a', b']) rest) r → Evr (fun k => left k i a' (t :: (X2 ++ rest))) r := by
 intro r h
 subst hq
 refine Evr.step (g := fun k => (bin k (i + 1) (X2 ++ rest)).bind fun b s1 => left k i (Ex.mk 6 (t :: (X2 ++ rest)).length 0 t.text false [a', b]) s1) (Evr.bind (g := fun k b s1 => left k i (Ex.mk 6 (t :: (X2 ++ rest)).length 0 t.text false [a', b]) s1) hb h) fun k => ?_
 rw [left.eq_2, if_pos (isT _ hk hm)]
 rfl
theorem P2.sign (ha : P2 X1 a) (hb : P3 X2 b) {t : T} (hk : t.kind = 3 ∨ t.kind = 4) (hm : t.text ∈ levelSigns 0) (q : Nat) : P2 (X1 ++ t :: X2) (Ex.mk 6 q 0 t.text false [a, b]) := by
 refine ⟨ha.hd.app _, fun rest hr => ?_⟩
 obtain ⟨a', hs, hv⟩ := ha.rd (t :: (X2 ++ rest)) (by
  show t.text ∉ ops3
  have : ∀ x ∈ levelSigns 0, x ∉ ops3 := by decide
  exact this _ hm)
 obtain ⟨b', hs2, hv2⟩ := hb.rd rest (hr.sub (by decide))
 refine ⟨_, sim_mk (q' := (t :: (X2 ++ rest)).length) (sim2 hs hs2), fun (r : Res Ex) h => ?_⟩
 rw [List.append_assoc]
 exact hv _ (bin_step (by decide) (by decide) hk hm (hv2 _ (left_stop 1 b' hr (by decide))) _ rfl r h)
theorem P3.sign (ha : P3 X1 a) (hb : P4 X2 b) {t : T} (hk : t.kind = 3 ∨ t.kind = 4) (hm : t.text ∈ levelSigns 1) (q : Nat) : P3 (X1 ++ t :: X2) (Ex.mk 6 q 0 t.text false [a, b]) := by
 refine ⟨ha.hd.app _, fun rest hr => ?_⟩
 obtain ⟨a', hs, hv⟩ := ha.rd (t :: (X2 ++ rest)) (by
  show t.text ∉ ops5
  have : ∀ x ∈ levelSigns 1, x ∉ ops5 := by decide
  exact this _ hm)
 obtain ⟨b', hs2, hv2⟩ := hb.rd rest hr
 refine ⟨_, sim_mk (q' := (t :: (X2 ++ rest)).length) (sim2 hs hs2), fun (r : Res Ex) h => ?_⟩
 rw [List.append_assoc]
 exact hv _ (bin_step (by decide) (by decide) hk hm hv2 _ rfl r h)
theorem P6.sign (ha : P6 X1 a) (hb : P7 X2 b) {t : T} (hk : t.kind = 3 ∨ t.kind = 4) (hm : t.text ∈ levelSigns 3) (q : Nat) : P6 (X1 ++ t :: X2) (Ex.mk 6 q 0 t.text false [a, b]) := by
 refine ⟨ha.hd.app _, fun rest hr => ?_⟩
 obtain ⟨a', hs, hv⟩ := ha.rd (t :: (X2 ++ rest)) (by
  show t.text ∉ ops7
  have : ∀ x ∈ levelSigns 3, x ∉ ops7 := by decide
  exact this _ hm)
 obtain ⟨b', hs2, hv2⟩ := hb.rd rest (hr.sub (by decide))
 refine ⟨_, sim_mk (q' := (t :: (X2 ++ rest)).length) (sim2 hs hs2), fun (r : Res Ex) h => ?_⟩
 rw [List.append_assoc]
 exact hv _ (bin_step (by decide) (by decide) hk hm (hv2 _ (left_stop 4 b' hr (by decide))) _ rfl r h)
theorem P7.sign (ha : P7 X1 a) (hb : P8 X2 b) {t : T} (hk : t.kind = 3 ∨ t.kind = 4) (hm : t.text ∈ levelSigns 4) (q : Nat) : P7 (X1 ++ t :: X2) (Ex.mk 6 q 0 t.text false [a, b]) := by
 refine ⟨ha.hd.app _, fun rest hr => ?_⟩
 obtain ⟨a', hs, hv⟩ := ha.rd (t :: (X2 ++ rest)) (by
  show t.text ∉ ops9
  have : ∀ x ∈ levelSigns 4, x ∉ ops9 := by decide
  exact this _ hm)
 obtain ⟨b', hs2, hv2⟩ := hb.rd rest hr
 refine ⟨_, sim_mk (q' := (t :: (X2 ++ rest)).length) (sim2 hs hs2), fun (r : Res Ex) h => ?_⟩
 rw [List.append_assoc]
 exact hv _ (bin_step (by decide) (by decide) hk hm (Evr.step hv2 fun k => by rw [bin.eq_2, if_neg (by decide), if_pos rfl]) _ rfl r h)
theorem P4.cmp (ha : P6 X1 a) (hb : P6 X2 b) {t : T} (hk : t.kind = 3 ∨ t.kind = 4) (hm : t.text ∈ compares) (q : Nat) : P4 (X1 ++ t :: X2) (Ex.mk 6 q 0 t.text false [a, b]) := by
 refine ⟨(ha.hd.sub (by decide)).app _, fun rest hr => ?_⟩
 have hn : t.text ∉ ops6 := by
  have : ∀ x ∈ compares, x ∉ ops6 := by decide
  exact this _ hm
 have hst : Stop ops6 (t :: (X2 ++ rest)) := hn
 obtain ⟨a', hs, hv⟩ := ha.rd (t :: (X2 ++ rest)) (hst.sub (by decide))
 obtain ⟨b', hs2, hv2⟩ := hb.rd rest (hr.sub (by decide))
 refine ⟨_, sim_mk (q' := (t :: (X2 ++ rest)).length) (sim2 hs hs2), ?_⟩
 rw [List.append_assoc]
 refine Evr.step (Evr.bind (g := fun k a s1 => if is compares s1 then (bin k 3 s1.tail).bind fun b s2 => .ok (Ex.mk 6 s1.length 0 (peek s1).text false [a, b]) s2 else .ok a s1) (hv _ (left_stop 3 a' hst (by decide))) ?_) fun k => ?_
 ·show Evr (fun k => if is compares (t :: (X2 ++ rest)) then (bin k 3 (X2 ++ rest)).bind fun b s2 => .ok (Ex.mk 6 (t :: (X2 ++ rest)).length 0 t.text false [a', b]) s2 else .ok a' (t :: (X2 ++ rest))) _
  have h9 := isT (l := compares) (X2 ++ rest) hk hm
  simp only [h9, if_true]
  exact Evr.bind (g := fun k b s2 => .ok (Ex.mk 6 (t :: (X2 ++ rest)).length 0 t.text false [a', b]) s2) (hv2 _ (left_stop 3 b' (hr.sub (l' := ops6) (by decide)) (by decide))) (Evr.const _)
 ·rw [bin.eq_2, if_pos rfl, if_neg (by rw [show X1 ++ ((t :: X2) ++ rest) = X1 ++ (t :: X2 ++ rest) from rfl, ha.hd.is (by decide)]; decide)]
  rfl
theorem P4.not (ha : P4 X1 a) (q : Nat) : P4 (kwT [110, 111, 116] :: X1) (Ex.mk 5 q 0 [] false [a]) := by
 refine ⟨Head.cons _ (by decide), fun rest hr => ?_⟩
 obtain ⟨a', hs, hv⟩ := ha.rd rest hr
 refine ⟨_, sim_mk (q' := (kwT [110, 111, 116] :: (X1 ++ rest)).length) (sim1 hs), ?_⟩
 refine Evr.step (Evr.bind (g := fun k a s1 => .ok (Ex.mk 5 (kwT [110, 111, 116] :: (X1 ++ rest)).length 0 [] false [a]) s1) hv (Evr.const _)) fun k => ?_
 show bin (k + 1) 2 (kwT [110, 111, 116] :: (X1 ++ rest)) = _
 rw [bin.eq_2, if_pos rfl, if_pos (is_kw _ _)]
 rfl
theorem P0.if_ (ha : P0 X1 a) (hb : P0 X2 b) (hc : P0 X3 c) (q : Nat) : P0 (kwT [105, 102] :: (X1 ++ kwT [116, 104, 101, 110] :: (X2 ++ kwT [101, 108, 115, 101] :: X3))) (Ex.mk 7 q 0 [] false [a, b, c]) := by
 refine ⟨Head.cons _ (by decide), fun rest hr => ?_⟩
 obtain ⟨a', hs1, hv1⟩ := ha.rd (kwT [116, 104, 101, 110] :: (X2 ++ kwT [101, 108, 115, 101] :: (X3 ++ rest))) (by show [116, 104, 101, 110] ∉ ops1; decide)
 obtain ⟨b', hs2, hv2⟩ := hb.rd (kwT [101, 108, 115, 101] :: (X3 ++ rest)) (by show [101, 108, 115, 101] ∉ ops1; decide)
 obtain ⟨c', hs3, hv3⟩ := hc.rd rest hr
 have hx : (kwT [105, 102] :: (X1 ++ kwT [116, 104, 101, 110] :: (X2 ++ kwT [101, 108, 115, 101] :: X3))) ++ rest = kwT [105, 102] :: (X1 ++ kwT [116, 104, 101, 110] :: (X2 ++ kwT [101, 108, 115, 101] :: (X3 ++ rest))) := by simp
 rw [hx]
 obtain ⟨Q, hQ⟩ : ∃ Q, Q = (kwT [105, 102] :: (X1 ++ kwT [116, 104, 101, 110] :: (X2 ++ kwT [101, 108, 115, 101] :: (X3 ++ rest)))).length := ⟨_, rfl⟩
 refine ⟨_, sim_mk (q' := Q) (sim3 hs1 hs2 hs3), ?_⟩
 refine Evr.step (g := fun k => (expr k (X1 ++ kwT [116, 104, 101, 110] :: (X2 ++ kwT [101, 108, 115, 101] :: (X3 ++ rest)))).bind fun a s1 => (want [116, 104, 101, 110] s1).bind fun _ s2 => (expr k s2).bind fun b s3 => (want [101, 108, 115, 101] s3).bind fun _ s4 =>
    (expr k s4).bind fun c s5 => .ok (Ex.mk 7 Q 0 [] false [a, b, c]) s5) ?_ fun k => ?_
 ·refine Evr.bind (g := fun k a s1 => (want [116, 104, 101, 110] s1).bind fun _ s2 => (expr k s2).bind fun b s3 => (want [101, 108, 115, 101] s3).bind fun _ s4 => (expr k s4).bind fun c s5 => .ok (Ex.mk 7 Q 0 [] false [a, b, c]) s5) hv1 ?_
  refine Evr.wants (g := fun k _ s2 => (expr k s2).bind fun b s3 => (want [101, 108, 115, 101] s3).bind fun _ s4 => (expr k s4).bind fun c s5 => .ok (Ex.mk 7 Q 0 [] false [a', b, c]) s5) (is_kw _ _) ?_
  refine Evr.bind (g := fun k b s3 => (want [101, 108, 115, 101] s3).bind fun _ s4 => (expr k s4).bind fun c s5 => .ok (Ex.mk 7 Q 0 [] false [a', b, c]) s5) hv2 ?_
  refine Evr.wants (g := fun k _ s4 => (expr k s4).bind fun c s5 => .ok (Ex.mk 7 Q 0 [] false [a', b', c]) s5) (is_kw _ _) ?_
  exact Evr.bind (g := fun k c s5 => .ok (Ex.mk 7 Q 0 [] false [a', b', c]) s5) hv3 (Evr.const _)
 ·rw [expr.eq_2, if_pos (is_kw _ _), hQ]
  rfl
theorem P1.arrow (ha : P2 X1 a) (hb : P1 X2 b) (q : Nat) : P1 (X1 ++ sgT [45, 62] :: X2) (Ex.mk 8 q 0 [] false [a, b]) := by
 refine ⟨ha.hd.app _, fun rest hr => ?_⟩
 have hst : Stop ops2 (sgT [45, 62] :: (X2 ++ rest)) := by show [45, 62] ∉ ops2; decide
 obtain ⟨a', hs, hv⟩ := ha.rd (sgT [45, 62] :: (X2 ++ rest)) (hst.sub (by decide))
 obtain ⟨b', hs2, hv2⟩ := hb.rd rest hr
 rw [List.append_assoc]
 obtain ⟨Q, hQ⟩ : ∃ Q, Q = (sgT [45, 62] :: (X2 ++ rest)).length := ⟨_, rfl⟩
 refine ⟨_, sim_mk (q' := Q) (sim2 hs hs2), ?_⟩
 refine Evr.step (Evr.bind (g := fun k a s1 => if is [[45, 62]] s1 then (PX.arrow k s1.tail).bind fun b s2 => .ok (Ex.mk 8 s1.length 0 [] false [a, b]) s2
  else if is [[102, 98, 121]] s1 then if isConst a then (PX.arrow k s1.tail).bind fun b s2 => .ok (Ex.mk 9 s1.length 0 [] false [a, b]) s2 else fail s1
  else .ok a s1) (hv _ (left_stop 0 a' hst (by decide))) ?_) fun k => ?_
 ·simp only [is_sg, if_true, List.tail_cons, ← hQ]
  exact Evr.bind (g := fun k b s2 => .ok (Ex.mk 8 Q 0 [] false [a', b]) s2) hv2 (Evr.const _)
 ·rw [arrow.eq_2]
  rfl
theorem const_sim {a a' : Ex} (h : Sim a' a) : isConst a' = isConst a := by
 cases a; cases a'
 unfold Sim at h
 rw [unp, unp] at h
 injection h with h1
 unfold isConst
 simp only [Ex.kind, h1]
theorem P1.fby (ha : P2 X1 a) (hc : isConst a = true) (hb : P1 X2 b) (q : Nat) : P1 (X1 ++ kwT [102, 98, 121] :: X2) (Ex.mk 9 q 0 [] false [a, b]) := by
 refine ⟨ha.hd.app _, fun rest hr => ?_⟩
 have hst : Stop ops2 (kwT [102, 98, 121] :: (X2 ++ rest)) := by show [102, 98, 121] ∉ ops2; decide
 obtain ⟨a', hs, hv⟩ := ha.rd (kwT [102, 98, 121] :: (X2 ++ rest)) (hst.sub (by decide))
 obtain ⟨b', hs2, hv2⟩ := hb.rd rest hr
 rw [List.append_assoc]
 obtain ⟨Q, hQ⟩ : ∃ Q, Q = (kwT [102, 98, 121] :: (X2 ++ rest)).length := ⟨_, rfl⟩
 refine ⟨_, sim_mk (q' := Q) (sim2 hs hs2), ?_⟩
 refine Evr.step (Evr.bind (g := fun k a s1 => if is [[45, 62]] s1 then (PX.arrow k s1.tail).bind fun b s2 => .ok (Ex.mk 8 s1.length 0 [] false [a, b]) s2
  else if is [[102, 98, 121]] s1 then if isConst a then (PX.arrow k s1.tail).bind fun b s2 => .ok (Ex.mk 9 s1.length 0 [] false [a, b]) s2 else fail s1
  else .ok a s1) (hv _ (left_stop 0 a' hst (by decide))) ?_) fun k => ?_
 ·have h1 : is [[45, 62]] (kwT [102, 98, 121] :: (X2 ++ rest)) = false := by unfold is; rfl
  simp only [h1, Bool.false_eq_true, if_false, is_kw, if_true, List.tail_cons, ← hQ, const_sim hs, hc]
  exact Evr.bind (g := fun k b s2 => .ok (Ex.mk 9 Q 0 [] false [a', b]) s2) hv2 (Evr.const _)
 ·rw [arrow.eq_2]
  rfl
theorem P8.pre (ha : P8 X1 a) (q : Nat) : P8 (kwT [112, 114, 101] :: X1) (Ex.mk 10 q 0 [] false [a]) := by
 refine ⟨Head.cons _ (by decide), fun rest hr => ?_⟩
 obtain ⟨a', hs, hv⟩ := ha.rd rest hr
 obtain ⟨Q, hQ⟩ : ∃ Q, Q = (kwT [112, 114, 101] :: (X1 ++ rest)).length := ⟨_, rfl⟩
 refine ⟨_, sim_mk (q' := Q) (sim1 hs), ?_⟩
 refine Evr.step (Evr.bind (g := fun k a s1 => .ok (Ex.mk 10 Q 0 [] false [a]) s1) hv (Evr.const _)) fun k => ?_
 show PX.unary (k + 1) (kwT [112, 114, 101] :: (X1 ++ rest)) = _
 rw [unary.eq_2, if_pos (is_kw _ _), hQ]
 rfl
def Nh (k : Nat) (x : List T) : Prop := (peek x).kind = 2 → (k = 1 ∧ ∃ t, x = [t]) ∨ (x.tail ≠ [] ∧ (peek x.tail).text = [119, 104, 101, 110])
theorem is_pre_sg (s : List T) : is [[112, 114, 101]] (sgT [45] :: s) = false := rfl
theorem P8.neg (ha : P8 X1 a) (hn : (peek X1).kind = 2 → X1.tail ≠ [] ∧ (peek X1.tail).text = [119, 104, 101, 110]) (q : Nat) : P8 (sgT [45] :: X1) (Ex.mk 4 q 0 [] false [a]) := by
 refine ⟨Head.cons _ (by decide), fun rest hr => ?_⟩
 obtain ⟨a', hs, hv⟩ := ha.rd rest hr
 obtain ⟨Q, hQ⟩ : ∃ Q, Q = (sgT [45] :: (X1 ++ rest)).length := ⟨_, rfl⟩
 refine ⟨_, sim_mk (q' := Q) (sim1 hs), ?_⟩
 refine Evr.step (Evr.bind (g := fun k a s1 => .ok (Ex.mk 4 Q 0 [] false [a]) s1) hv (Evr.const _)) fun k => ?_
 show PX.unary (k + 1) (sgT [45] :: (X1 ++ rest)) = _
 have hb : ((peek (X1 ++ rest)).kind == 2 && (peek (X1 ++ rest).tail).text != [119, 104, 101, 110]) = false := by
  cases X1 with
  | nil => exact absurd rfl ha.hd.1
  | cons t X1 =>
   by_cases hk : t.kind = 2
   ·obtain ⟨h1, h2⟩ := hn hk
    cases X1 with
    | nil => exact absurd rfl h1
    | cons t2 X1 =>
     have h3 : t2.text = [119, 104, 101, 110] := h2
     rw [Bool.and_eq_false_iff]
     right
     show (t2.text != [119, 104, 101, 110]) = false
     rw [h3]
     decide
   ·rw [Bool.and_eq_false_iff]
    left
    show (t.kind == 2) = false
    simpa using hk
 rw [unary.eq_2, is_pre_sg, if_neg (by decide), if_pos (is_sg _ _)]
 show (if ((peek (X1 ++ rest)).kind == 2 && (peek (X1 ++ rest).tail).text != [119, 104, 101, 110]) = true then _ else _) = _
 rw [hb, if_neg (by decide), hQ]
 rfl
theorem P9.when (ha : P9 X1 a) (q : Nat) (m : PX.B) (o : Bool) : P9 (X1 ++ kwT [119, 104, 101, 110] :: ((if o then [kwT [110, 111, 116]] else []) ++ [nmT m])) (Ex.mk 11 q 0 m o [a]) := by
 refine ⟨ha.hd.app _, fun rest hr => ?_⟩
 obtain ⟨a', hs, hv⟩ := ha.rd (kwT [119, 104, 101, 110] :: ((if o then [kwT [110, 111, 116]] else []) ++ nmT m :: rest)) (by show [119, 104, 101, 110] ∉ ops10; decide)
 have hx : (X1 ++ kwT [119, 104, 101, 110] :: ((if o then [kwT [110, 111, 116]] else []) ++ [nmT m])) ++ rest = X1 ++ (kwT [119, 104, 101, 110] :: ((if o then [kwT [110, 111, 116]] else []) ++ nmT m :: rest)) := by simp
 rw [hx]
 obtain ⟨Q, hQ⟩ : ∃ Q, Q = (kwT [119, 104, 101, 110] :: ((if o then [kwT [110, 111, 116]] else []) ++ nmT m :: rest)).length := ⟨_, rfl⟩
 refine ⟨_, sim_mk (q' := Q) (sim1 hs), fun r h => hv _ ?_⟩
 refine Evr.step (g := fun k => whens k (Ex.mk 11 Q 0 m o [a']) rest) h fun k => ?_
 rw [whens.eq_2, if_pos (is_kw _ _), hQ]
 cases o <;> rfl
theorem P10.num (q : Nat) (n : Int) (h0 : ¬ n < 0) (h1 : n ≤ 9223372036854775807) : P10 (numT n) (Ex.mk 1 q n [] false []) := by
 unfold numT
 rw [if_neg h0]
 refine ⟨Head.kind _ (by show ¬ (2 = 3 ∨ 2 = 4); decide), fun rest hr => ?_⟩
 refine ⟨.mk 1 (⟨2, digits n.natAbs, n.natAbs⟩ :: rest : List T).length n [] false [], sim_mk rfl, Evr.ofStep fun k => ?_⟩
 show primary (k + 1) (⟨2, digits n.natAbs, n.natAbs⟩ :: rest) = _
 rw [primary.eq_2]
 show number _ _ _ = _
 unfold number
 have h2 : ¬ (n.natAbs > 9223372036854775807) := by omega
 show (if (!false && decide (n.natAbs > 9223372036854775807)) = true then _ else Res.ok (Ex.mk 1 _ (n.natAbs : Int) [] false []) rest) = _
 rw [if_neg (by simp only [h2]; decide), show (n.natAbs : Int) = n from by omega]
theorem P8.num (q : Nat) (n : Int) (h0 : n < 0) : P8 (numT n) (Ex.mk 1 q n [] false []) := by
 unfold numT
 rw [if_pos h0]
 refine ⟨Head.cons _ (by decide), fun rest hr => ?_⟩
 refine ⟨.mk 1 (sgT [45] :: ⟨2, digits n.natAbs, n.natAbs⟩ :: rest : List T).length n [] false [], sim_mk rfl, Evr.ofStep fun k => ?_⟩
 show unary (k + 1) (sgT [45] :: ⟨2, digits n.natAbs, n.natAbs⟩ :: rest) = _
 have hw : (peek rest).text ≠ [119, 104, 101, 110] := fun h => hr (by rw [h]; decide)
 rw [unary.eq_2, is_pre_sg, if_neg (by decide), if_pos (is_sg _ _), if_pos (by
  show (2 == 2 && (peek rest).text != [119, 104, 101, 110]) = true
  rw [Bool.and_eq_true]
  exact ⟨rfl, by simpa using hw⟩)]
 unfold number
 show (if (!true && _) = true then _ else Res.ok (Ex.mk 1 _ (-(n.natAbs : Int)) [] false []) rest) = _
 rw [if_neg (by rw [Bool.not_true, Bool.false_and]; decide), show (-(n.natAbs : Int)) = n from by omega]
theorem P10.truth (q : Nat) (n : Int) (h : n = 0 ∨ n = 1) : P10 [kwT (if n = 1 then [116, 114, 117, 101] else [102, 97, 108, 115, 101])] (Ex.mk 2 q n [] false []) := by
 rcases h with rfl | rfl
 ·refine ⟨Head.cons _ (by decide), fun rest hr => ⟨.mk 2 (kwT [102, 97, 108, 115, 101] :: rest).length 0 [] false [], sim_mk rfl, Evr.ofStep fun k => ?_⟩⟩
  show primary (k + 1) (kwT [102, 97, 108, 115, 101] :: rest) = _
  rw [primary.eq_2]
  rfl
 ·refine ⟨Head.cons _ (by decide), fun rest hr => ⟨.mk 2 (kwT [116, 114, 117, 101] :: rest).length 1 [] false [], sim_mk rfl, Evr.ofStep fun k => ?_⟩⟩
  show primary (k + 1) (kwT [116, 114, 117, 101] :: rest) = _
  rw [primary.eq_2]
  rfl
theorem P10.var (q : Nat) (m : PX.B) : P10 [nmT m] (Ex.mk 3 q 0 m false []) := by
 refine ⟨Head.kind _ (by show ¬ (1 = 3 ∨ 1 = 4); decide), fun rest hr => ⟨.mk 3 (nmT m :: rest).length 0 m false [], sim_mk rfl, Evr.ofStep fun k => ?_⟩⟩
 show primary (k + 1) (nmT m :: rest) = _
 rw [primary.eq_2]
 show (if is [[40]] rest = true then _ else _) = _
 rw [hr.not (by decide)]
 rfl
theorem P10.merge (ha : P0 X1 a) (hb : P0 X2 b) (q : Nat) (m : PX.B) : P10 (kwT [109, 101, 114, 103, 101] :: nmT m :: (par X1 ++ par X2)) (Ex.mk 12 q 0 m false [a, b]) := by
 refine ⟨Head.cons _ (by decide), fun rest hr => ?_⟩
 obtain ⟨a', hs, hv⟩ := ha.rd (sgT [41] :: sgT [40] :: (X2 ++ sgT [41] :: rest)) (by show [41] ∉ ops1; decide)
 obtain ⟨b', hs2, hv2⟩ := hb.rd (sgT [41] :: rest) (by show [41] ∉ ops1; decide)
 have hx : (kwT [109, 101, 114, 103, 101] :: nmT m :: (par X1 ++ par X2)) ++ rest = kwT [109, 101, 114, 103, 101] :: nmT m :: sgT [40] :: (X1 ++ sgT [41] :: sgT [40] :: (X2 ++ sgT [41] :: rest)) := by simp [par]
 rw [hx]
 obtain ⟨Q, hQ⟩ : ∃ Q, Q = (kwT [109, 101, 114, 103, 101] :: nmT m :: sgT [40] :: (X1 ++ sgT [41] :: sgT [40] :: (X2 ++ sgT [41] :: rest))).length := ⟨_, rfl⟩
 refine ⟨_, sim_mk (q' := Q) (sim2 hs hs2), ?_⟩
 refine Evr.step (g := fun k => (name (nmT m :: sgT [40] :: (X1 ++ sgT [41] :: sgT [40] :: (X2 ++ sgT [41] :: rest)))).bind fun m s1 => (want [40] s1).bind fun _ s2 => (expr k s2).bind fun a s3 => (want [41] s3).bind fun _ s4 =>
     (want [40] s4).bind fun _ s5 => (expr k s5).bind fun b s6 => (want [41] s6).bind fun _ s7 => .ok (Ex.mk 12 Q 0 m false [a, b]) s7) ?_ fun k => ?_
 ·refine Evr.names (g := fun k m s1 => (want [40] s1).bind fun _ s2 => (expr k s2).bind fun a s3 => (want [41] s3).bind fun _ s4 =>
     (want [40] s4).bind fun _ s5 => (expr k s5).bind fun b s6 => (want [41] s6).bind fun _ s7 => .ok (Ex.mk 12 Q 0 m false [a, b]) s7) ?_
  refine Evr.wants (g := fun k _ s2 => (expr k s2).bind fun a s3 => (want [41] s3).bind fun _ s4 =>
     (want [40] s4).bind fun _ s5 => (expr k s5).bind fun b s6 => (want [41] s6).bind fun _ s7 => .ok (Ex.mk 12 Q 0 m false [a, b]) s7) (is_sg _ _) ?_
  refine Evr.bind (g := fun k a s3 => (want [41] s3).bind fun _ s4 => (want [40] s4).bind fun _ s5 => (expr k s5).bind fun b s6 => (want [41] s6).bind fun _ s7 => .ok (Ex.mk 12 Q 0 m false [a, b]) s7) hv ?_
  refine Evr.wants (g := fun k _ s4 => (want [40] s4).bind fun _ s5 => (expr k s5).bind fun b s6 => (want [41] s6).bind fun _ s7 => .ok (Ex.mk 12 Q 0 m false [a', b]) s7) (is_sg _ _) ?_
  refine Evr.wants (g := fun k _ s5 => (expr k s5).bind fun b s6 => (want [41] s6).bind fun _ s7 => .ok (Ex.mk 12 Q 0 m false [a', b]) s7) (is_sg _ _) ?_
  refine Evr.bind (g := fun k b s6 => (want [41] s6).bind fun _ s7 => .ok (Ex.mk 12 Q 0 m false [a', b]) s7) hv2 ?_
  exact Evr.wants (g := fun k _ s7 => .ok (Ex.mk 12 Q 0 m false [a', b']) s7) (is_sg _ _) (Evr.const _)
 ·rw [primary.eq_2, hQ]
  rfl
end
theorem exprs_rd : ∀ (l : List Ex), l ≠ [] → (∀ x ∈ l, P0 (toksE x) x) → ∀ rest, ∃ l', unps l' = unps l ∧ Evr (fun k => exprs k (commas (l.map toksE) ++ sgT [41] :: rest)) (.ok l' rest)
 | [], h, _, _ => absurd rfl h
 | [x], _, h, rest => by
  obtain ⟨e', hs, hv⟩ := (h x (by simp)).rd (sgT [41] :: rest) (by show [41] ∉ ops1; decide)
  refine ⟨[e'], sim1 hs, Evr.step (Evr.bind (g := fun k e s1 => if is [[44]] s1 then (exprs k s1.tail).bind fun l s2 => .ok (e :: l) s2 else (want [41] s1).bind fun _ s2 => .ok [e] s2) hv ?_) fun k => ?_⟩
  ·exact Evr.const _
  ·rw [exprs.eq_2]
   rfl
 | x :: y :: r, _, h, rest => by
  obtain ⟨e', hs, hv⟩ := (h x (by simp)).rd (sgT [44] :: (commas ((y :: r).map toksE) ++ sgT [41] :: rest)) (by show [44] ∉ ops1; decide)
  obtain ⟨l', hl, hv2⟩ := exprs_rd (y :: r) (by simp) (fun z hz => h z (List.mem_cons_of_mem _ hz)) rest
  have hx : commas ((x :: y :: r).map toksE) ++ sgT [41] :: rest = toksE x ++ (sgT [44] :: (commas ((y :: r).map toksE) ++ sgT [41] :: rest)) := by
   show commas (toksE x :: toksE y :: r.map toksE) ++ _ = _
   rw [commas]
   ·simp
   ·simp
  rw [hx]
  refine ⟨e' :: l', by rw [unps, hl, hs]; rfl, Evr.step (Evr.bind (g := fun k e s1 => if is [[44]] s1 then (exprs k s1.tail).bind fun l s2 => .ok (e :: l) s2 else (want [41] s1).bind fun _ s2 => .ok [e] s2) hv ?_) fun k => ?_⟩
  ·simp only [is_sg, if_true, List.tail_cons]
   exact Evr.bind (g := fun k l s2 => .ok (e' :: l) s2) hv2 (Evr.const _)
  ·rw [exprs.eq_2]
theorem lit_rd {x : Ex} (h : Wf x) (hc : isConst x = true) (t : T) (rest : List T) : ∃ e', Sim e' x ∧ literal (toksE x ++ t :: rest) = .ok e' (t :: rest) := by
 cases h with
 | num q n h0 h1 =>
  rw [toksE]
  show ∃ e', Sim e' _ ∧ literal (numT n ++ t :: rest) = _
  unfold numT
  split
  ·rename_i hn
   refine ⟨.mk 1 (sgT [45] :: ⟨2, digits n.natAbs, n.natAbs⟩ :: t :: rest : List T).length n [] false [], sim_mk rfl, ?_⟩
   show number _ _ true = _
   unfold number
   show (if (!true && _) = true then _ else Res.ok (Ex.mk 1 _ (-(n.natAbs : Int)) [] false []) (t :: rest)) = _
   rw [if_neg (by rw [Bool.not_true, Bool.false_and]; decide), show (-(n.natAbs : Int)) = n from by omega]
   rfl
  ·rename_i hn
   refine ⟨.mk 1 (⟨2, digits n.natAbs, n.natAbs⟩ :: t :: rest : List T).length n [] false [], sim_mk rfl, ?_⟩
   show number _ _ false = _
   unfold number
   have h2 : ¬ (n.natAbs > 9223372036854775807) := by omega
   show (if (!false && decide (n.natAbs > 9223372036854775807)) = true then _ else Res.ok (Ex.mk 1 _ (n.natAbs : Int) [] false []) (t :: rest)) = _
   rw [if_neg (by simp only [h2]; decide), show (n.natAbs : Int) = n from by omega]
   rfl
 | truth q n h =>
  rcases h with rfl | rfl
  ·exact ⟨.mk 2 (kwT [102, 97, 108, 115, 101] :: t :: rest).length 0 [] false [], sim_mk rfl, rfl⟩
  ·exact ⟨.mk 2 (kwT [116, 114, 117, 101] :: t :: rest).length 1 [] false [], sim_mk rfl, rfl⟩
 | _ => exact absurd hc (by unfold isConst; simp [Ex.kind])
theorem lits_rd : ∀ (l : List Ex), l ≠ [] → (∀ x ∈ l, Wf x ∧ isConst x = true) → ∀ rest, ∃ l', unps l' = unps l ∧ Evr (fun k => lits k (commas (l.map toksE) ++ sgT [41] :: rest)) (.ok l' rest)
 | [], h, _, _ => absurd rfl h
 | [x], _, h, rest => by
  obtain ⟨e', hs, hv⟩ := lit_rd (h x (by simp)).1 (h x (by simp)).2 (sgT [41]) rest
  refine ⟨[e'], sim1 hs, Evr.ofStep fun k => ?_⟩
  rw [lits.eq_2]
  show (literal (toksE x ++ sgT [41] :: rest)).bind _ = _
  rw [hv]
  rfl
 | x :: y :: r, _, h, rest => by
  obtain ⟨e', hs, hv⟩ := lit_rd (h x (by simp)).1 (h x (by simp)).2 (sgT [44]) (commas ((y :: r).map toksE) ++ sgT [41] :: rest)
  obtain ⟨l', hl, hv2⟩ := lits_rd (y :: r) (by simp) (fun z hz => h z (List.mem_cons_of_mem _ hz)) rest
  have hx : commas ((x :: y :: r).map toksE) ++ sgT [41] :: rest = toksE x ++ (sgT [44] :: (commas ((y :: r).map toksE) ++ sgT [41] :: rest)) := by
   show commas (toksE x :: toksE y :: r.map toksE) ++ _ = _
   rw [commas]
   ·simp
   ·simp
  rw [hx]
  refine ⟨e' :: l', by rw [unps, hl, hs]; rfl, Evr.step (Evr.bind (g := fun k l s2 => .ok (e' :: l) s2) hv2 (Evr.const _)) fun k => ?_⟩
  rw [lits.eq_2, hv]
  rfl
theorem kts_toks (l : List Ex) : (ktsE l).map Kt.toks = l.map toksE := by rw [ktsE_eq, List.map_map]; rfl
theorem kts_empty (l : List Ex) : (ktsE l).isEmpty = l.isEmpty := by rw [ktsE_eq]; cases l <;> rfl
theorem call_rd (l : List Ex) (h : ∀ x ∈ l, P0 (toksE x) x) (m : B) (Q : Nat) (rest : List T) : ∃ l', unps l' = unps l ∧ Evr (fun k => PX.call k m Q (par (commas (l.map toksE)) ++ rest)) (.ok (Ex.mk 13 Q 0 m false l') rest) := by
 have hx : par (commas (l.map toksE)) ++ rest = sgT [40] :: (commas (l.map toksE) ++ sgT [41] :: rest) := by simp [par]
 rw [hx]
 have hc : ∀ k, PX.call (k + 1) m Q (sgT [40] :: (commas (l.map toksE) ++ sgT [41] :: rest)) = if is [[41]] (commas (l.map toksE) ++ sgT [41] :: rest) then .ok (Ex.mk 13 Q 0 m false []) (commas (l.map toksE) ++ sgT [41] :: rest).tail
   else (exprs k (commas (l.map toksE) ++ sgT [41] :: rest)).bind fun l s2 => .ok (Ex.mk 13 Q 0 m false l) s2 := fun k => by
  rw [call.eq_2]
  rfl
 by_cases hl : l = []
 ·subst hl
  refine ⟨[], rfl, Evr.ofStep fun k => ?_⟩
  rw [hc]
  rfl
 ·obtain ⟨l', hs, hv⟩ := exprs_rd l hl h rest
  refine ⟨l', hs, Evr.step (Evr.bind (g := fun k l s2 => .ok (Ex.mk 13 Q 0 m false l) s2) hv (Evr.const _)) fun k => ?_⟩
  rw [hc, if_neg]
  cases l with
  | nil => exact absurd rfl hl
  | cons x r =>
   have h0 := (h x (by simp)).hd
   have : ∃ y, commas ((x :: r).map toksE) ++ sgT [41] :: rest = toksE x ++ y := by
    cases r with
    | nil => exact ⟨_, rfl⟩
    | cons z r => exact ⟨sgT [44] :: (commas ((z :: r).map toksE) ++ sgT [41] :: rest), by
      show commas (toksE x :: toksE z :: r.map toksE) ++ _ = _
      rw [commas]
      ·simp
      ·simp⟩
   obtain ⟨y, hy⟩ := this
   rw [hy, h0.is (by decide)]
   decide
theorem P10.call (l : List Ex) (h : ∀ x ∈ l, P0 (toksE x) x) (q : Nat) (m : B) : P10 (nmT m :: par (commas (l.map toksE))) (Ex.mk 13 q 0 m false l) := by
 refine ⟨Head.kind _ (by show ¬ (1 = 3 ∨ 1 = 4); decide), fun rest hr => ?_⟩
 obtain ⟨Q, hQ⟩ : ∃ Q, Q = (nmT m :: (par (commas (l.map toksE)) ++ rest)).length := ⟨_, rfl⟩
 obtain ⟨l', hs, hv⟩ := call_rd l h m Q rest
 refine ⟨_, sim_mk hs, Evr.step hv fun k => ?_⟩
 show primary (k + 1) (nmT m :: (par (commas (l.map toksE)) ++ rest)) = _
 rw [primary.eq_2, hQ]
 rfl
theorem P10.await (l : List Ex) (h : ∀ x ∈ l, Wf x ∧ isConst x = true) (q : Nat) (m : B) : P10 (kwT [97, 119, 97, 105, 116] :: nmT m :: (if l.isEmpty then [] else kwT [97, 102, 116, 101, 114] :: par (commas (l.map toksE)))) (Ex.mk 14 q 0 m false l) := by
 refine ⟨Head.cons _ (by decide), fun rest hr => ?_⟩
 by_cases hl : l = []
 ·subst hl
  refine ⟨.mk 14 (kwT [97, 119, 97, 105, 116] :: nmT m :: rest).length 0 m false [], sim_mk rfl, Evr.ofStep fun k => ?_⟩
  show primary (k + 1) (kwT [97, 119, 97, 105, 116] :: nmT m :: rest) = _
  rw [primary.eq_2]
  show (if is [[97, 102, 116, 101, 114]] rest = true then _ else _) = _
  rw [hr.not (by decide)]
  rfl
 ·have he : l.isEmpty = false := by cases l with
   | nil => exact absurd rfl hl
   | cons _ _ => rfl
  rw [he]
  have hx : (kwT [97, 119, 97, 105, 116] :: nmT m :: (if false = true then [] else kwT [97, 102, 116, 101, 114] :: par (commas (l.map toksE)))) ++ rest = kwT [97, 119, 97, 105, 116] :: nmT m :: kwT [97, 102, 116, 101, 114] :: sgT [40] :: (commas (l.map toksE) ++ sgT [41] :: rest) := by simp [par]
  rw [hx]
  obtain ⟨Q, hQ⟩ : ∃ Q, Q = (kwT [97, 119, 97, 105, 116] :: nmT m :: kwT [97, 102, 116, 101, 114] :: sgT [40] :: (commas (l.map toksE) ++ sgT [41] :: rest)).length := ⟨_, rfl⟩
  obtain ⟨l', hs, hv⟩ := lits_rd l hl h rest
  refine ⟨.mk 14 Q 0 m false l', sim_mk hs, Evr.step (Evr.bind (g := fun k l s2 => .ok (Ex.mk 14 Q 0 m false l) s2) hv (Evr.const _)) fun k => ?_⟩
  rw [primary.eq_2, hQ]
  rfl
theorem lvl_const {a : Ex} (h : Wf a) (hc : isConst a = true) : 2 ≤ level a := by
 cases h with
 | num q n _ _ =>
  show 2 ≤ lvl 1 n []
  unfold lvl
  simp only [show ¬ (1 : Nat) = 7 from by decide, show ¬ ((1 : Nat) = 8 ∨ (1 : Nat) = 9) from by decide, show ¬ (1 : Nat) = 5 from by decide, show ¬ ((1 : Nat) = 4 ∨ (1 : Nat) = 10) from by decide, show ¬ (1 : Nat) = 11 from by decide, show ¬ (1 : Nat) = 6 from by decide, if_false]
  split <;> decide
 | truth q n _ => exact (by decide : 2 ≤ 10)
 | _ => exact absurd hc (by unfold isConst; simp [Ex.kind])
theorem nh_wf {a : Ex} (h : Wf a) : 8 ≤ level a → Nh a.kind (toksE a) := by
 induction h with
 | num q n _ _ =>
  intro _ hk
  rw [toksE] at hk ⊢
  show (1 = 1 ∧ ∃ t, numT n = [t]) ∨ _
  have hk : (peek (numT n)).kind = 2 := hk
  unfold numT at hk ⊢
  split
  ·rename_i hn
   rw [if_pos hn] at hk
   cases hk
  ·exact .inl ⟨rfl, _, rfl⟩
 | truth q n _ => intro _ hk; rw [toksE] at hk; cases hk
 | var q m _ => intro _ hk; rw [toksE] at hk; cases hk
 | neg q a _ _ => intro _ hk; rw [toksE] at hk; cases hk
 | not_ q a _ _ => intro _ hk; rw [toksE] at hk; cases hk
 | sign q m a b hm _ _ _ _ =>
  intro hl
  have : ∀ m ∈ allSigns, signLevel m < 8 := by decide
  have h9 : level (Ex.mk 6 q 0 m false [a, b]) = signLevel m := rfl
  have := this m hm
  omega
 | if_ q a b c _ _ _ _ _ _ => intro _ hk; rw [toksE] at hk; cases hk
 | arrow q a b _ _ _ _ => intro hl; exact absurd hl (by show ¬ 8 ≤ 1; decide)
 | fby q a b _ _ _ _ _ => intro hl; exact absurd hl (by show ¬ 8 ≤ 1; decide)
 | pre q a _ _ => intro _ hk; rw [toksE] at hk; cases hk
 | when_ q m o a _ ha ih =>
  intro _ hk
  rw [toksE] at hk ⊢
  right
  show (((ktE a).at_ 9 ++ kwT [119, 104, 101, 110] :: ((if o then [kwT [110, 111, 116]] else []) ++ [nmT m])).tail ≠ []) ∧ _
  have hk : (peek ((ktE a).at_ 9 ++ kwT [119, 104, 101, 110] :: ((if o then [kwT [110, 111, 116]] else []) ++ [nmT m]))).kind = 2 := hk
  show _ ∧ (peek ((ktE a).at_ 9 ++ kwT [119, 104, 101, 110] :: ((if o then [kwT [110, 111, 116]] else []) ++ [nmT m])).tail).text = _
  unfold Kt.at_ at hk ⊢
  split
  ·rename_i hl
   rw [if_pos hl] at hk
   cases hk
  ·rename_i hl
   rw [if_neg hl] at hk
   have hl8 : 8 ≤ level a := by have : ¬ (level a < 9) := hl; omega
   have hi := ih hl8
   show ((toksE a ++ _).tail ≠ []) ∧ (peek (toksE a ++ _).tail).text = _
   have hk : (peek (toksE a ++ kwT [119, 104, 101, 110] :: ((if o then [kwT [110, 111, 116]] else []) ++ [nmT m]))).kind = 2 := hk
   cases hx : toksE a with
   | nil => rw [hx] at hk; cases hk
   | cons t y =>
    rw [hx] at hk hi
    rcases hi hk with ⟨_, t', ht⟩ | ⟨h1, h2⟩
    ·cases ht
     exact ⟨by simp, rfl⟩
    ·cases y with
     | nil => exact absurd rfl h1
     | cons t2 y => exact ⟨by simp, h2⟩
 | merge q m a b _ _ _ _ _ => intro _ hk; rw [toksE] at hk; cases hk
 | call q m l _ _ _ => intro _ hk; rw [toksE] at hk; cases hk
 | await q m l _ _ _ _ => intro _ hk; rw [toksE] at hk; cases hk
theorem read_wf {e : Ex} (h : Wf e) : PL (level e) (toksE e) e := by
 induction h with
 | num q n h0 h1 =>
  by_cases hn : n < 0
  ·have hl : level (Ex.mk 1 q n [] false []) = 8 := by show lvl 1 n [] = 8; unfold lvl; simp [hn]
   rw [hl, toksE]
   exact P8.num q n hn
  ·have hl : level (Ex.mk 1 q n [] false []) = 10 := by show lvl 1 n [] = 10; unfold lvl; simp [hn]
   rw [hl, toksE]
   exact P10.num q n hn h1
 | truth q n h => rw [toksE]; exact P10.truth q n h
 | var q m _ => rw [toksE]; exact P10.var q m
 | neg q a ha ih =>
  rw [toksE]
  show P8 (sgT [45] :: (if (ktE a).kind = 1 ∨ (peek ((ktE a).at_ 8)).text = [45] then par (ktE a).toks else (ktE a).at_ 8)) _
  have h8 : P8 ((ktE a).at_ 8) a := PL.at_ ih 8 (by decide)
  split
  ·refine P8.neg (P9.to8 (P10.to9 (P0.par (PL.to0 ih)))) (fun hk => ?_) q
   cases hk
  ·rename_i hn
   refine P8.neg h8 (fun hk => ?_) q
   have hk1 : a.kind ≠ 1 := fun h => hn (.inl h)
   unfold Kt.at_ at hk ⊢
   split
   ·rename_i hl
    rw [if_pos hl] at hk
    cases hk
   ·rename_i hl
    rw [if_neg hl] at hk
    rcases nh_wf ha (by have : ¬ (level a < 8) := hl; omega) hk with ⟨h1, _⟩ | h2
    ·exact absurd h1 hk1
    ·exact h2
 | not_ q a ha ih => rw [toksE]; exact P4.not (PL.at_ ih 4 (by decide)) q
 | sign q m a b hm ha hb iha ihb =>
  rw [toksE]
  have hl : level (Ex.mk 6 q 0 m false [a, b]) = signLevel m := rfl
  rw [hl]
  show PL _ ((ktE a).at_ (if signLevel m = 5 then 6 else signLevel m) ++ signT m :: (ktE b).at_ (signLevel m + 1)) _
  have L := fun i h => PL.at_ iha i h
  have R := fun i h => PL.at_ ihb i h
  simp only [allSigns, List.mem_cons, List.not_mem_nil, or_false] at hm
  rcases hm with rfl | rfl | rfl | rfl | rfl | rfl | rfl | rfl | rfl | rfl | rfl | rfl | rfl | rfl
  ·exact P6.sign (t := sgT [43]) (L 6 (by decide)) (R 7 (by decide)) (by decide) (by decide) q
  ·exact P6.sign (t := sgT [45]) (L 6 (by decide)) (R 7 (by decide)) (by decide) (by decide) q
  ·exact P7.sign (t := sgT [42]) (L 7 (by decide)) (R 8 (by decide)) (by decide) (by decide) q
  ·exact P7.sign (t := sgT [47]) (L 7 (by decide)) (R 8 (by decide)) (by decide) (by decide) q
  ·exact P7.sign (t := kwT [109, 111, 100]) (L 7 (by decide)) (R 8 (by decide)) (by decide) (by decide) q
  ·exact P4.cmp (t := sgT [60]) (L 6 (by decide)) (R 6 (by decide)) (by decide) (by decide) q
  ·exact P4.cmp (t := sgT [60, 61]) (L 6 (by decide)) (R 6 (by decide)) (by decide) (by decide) q
  ·exact P4.cmp (t := sgT [62]) (L 6 (by decide)) (R 6 (by decide)) (by decide) (by decide) q
  ·exact P4.cmp (t := sgT [62, 61]) (L 6 (by decide)) (R 6 (by decide)) (by decide) (by decide) q
  ·exact P4.cmp (t := sgT [61]) (L 6 (by decide)) (R 6 (by decide)) (by decide) (by decide) q
  ·exact P4.cmp (t := sgT [60, 62]) (L 6 (by decide)) (R 6 (by decide)) (by decide) (by decide) q
  ·exact P3.sign (t := kwT [97, 110, 100]) (L 3 (by decide)) (R 4 (by decide)) (by decide) (by decide) q
  ·exact P2.sign (t := kwT [111, 114]) (L 2 (by decide)) (R 3 (by decide)) (by decide) (by decide) q
  ·exact P2.sign (t := kwT [120, 111, 114]) (L 2 (by decide)) (R 3 (by decide)) (by decide) (by decide) q
 | if_ q a b c ha hb hc iha ihb ihc => rw [toksE]; exact P0.if_ (PL.to0 iha) (PL.to0 ihb) (PL.to0 ihc) q
 | arrow q a b ha hb iha ihb => rw [toksE]; exact P1.arrow (PL.at_ iha 2 (by decide)) (PL.at_ ihb 1 (by decide)) q
 | fby q a b hc ha hb iha ihb => rw [toksE]; exact P1.fby (PL.le (lvl_const ha hc) iha) hc (PL.at_ ihb 1 (by decide)) q
 | pre q a ha ih => rw [toksE]; exact P8.pre (PL.at_ ih 8 (by decide)) q
 | when_ q m o a _ ha ih => rw [toksE]; exact P9.when (PL.at_ ih 9 (by decide)) q m o
 | merge q m a b _ ha hb iha ihb => rw [toksE]; exact P10.merge (PL.to0 iha) (PL.to0 ihb) q m
 | call q m l _ h ih =>
  rw [toksE]
  show P10 (nmT m :: par (commas ((ktsE l).map Kt.toks))) _
  rw [kts_toks]
  exact P10.call l (fun x hx => PL.to0 (ih x hx)) q m
 | await q m l _ hw hc _ =>
  have h : ∀ x ∈ l, Wf x ∧ isConst x = true := fun x hx => ⟨hw x hx, hc x hx⟩
  rw [toksE]
  show P10 (kwT [97, 119, 97, 105, 116] :: nmT m :: (if (ktsE l).isEmpty then [] else kwT [97, 102, 116, 101, 114] :: par (commas ((ktsE l).map Kt.toks)))) _
  rw [kts_toks, kts_empty]
  exact P10.await l h q m
theorem expr_wf {e : Ex} (h : Wf e) (rest : List T) (hr : Stop ops1 rest) : ∃ e', Sim e' e ∧ Evr (fun k => expr k (toksE e ++ rest)) (.ok e' rest) := (PL.to0 (read_wf h)).rd rest hr
end PX
end Go.Proofs.YtjafllnbgfcchaaDoor
end
section
/- The canonical tokens of nodes are read as them, but for the places. -/
namespace Go.Proofs.YtjafllnbgfcchaaDoor
set_option linter.unusedVariables false
set_option linter.unusedSimpArgs false
namespace PX
def clockT (d : Dc) : List T := if d.clock = [] then [] else kwT [119, 104, 101, 110] :: ((if d.off then [kwT [110, 111, 116]] else []) ++ [nmT d.clock])
def typeT (b f : Bool) : List T := (if f then [kwT [102, 117, 116, 117, 114, 101]] else []) ++ [kwT (if b then [98, 111, 111, 108] else [105, 110, 116])]
def declT (d : Dc) : List T := nmT d.name :: sgT [58] :: (typeT d.bool d.future ++ clockT d)
def declsT (l : List Dc) : List T := par (commas (l.map declT))
def semis : List Dc → List T
 | [] => []
 | d :: r => declT d ++ sgT [59] :: semis r
def varsT (l : List Dc) : List T := if l.isEmpty then [] else kwT [118, 97, 114] :: semis l
def leftT (l : List Lf) : List T := commas (l.map fun x => [nmT x.name])
def leftsT (l : List Lf) : List T := if 1 < l.length then par (leftT l) else leftT l
def eqT (q : Eq) : List T := leftsT q.left ++ sgT [61] :: ((if q.async then [kwT [97, 115, 121, 110, 99]] else []) ++ (toksE q.e ++ [sgT [59]]))
def eqsT : List Eq → List T
 | [] => []
 | q :: r => eqT q ++ eqsT r
def nodeT (n : Nd) : List T := kwT [110, 111, 100, 101] :: nmT n.name :: (declsT n.ins ++ kwT [114, 101, 116, 117, 114, 110, 115] :: (declsT n.outs ++ (varsT n.vars ++ kwT [108, 101, 116] :: (eqsT n.eqs ++ [kwT [116, 101, 108]]))))
def nodesT : List Nd → List T
 | [] => []
 | n :: r => nodeT n ++ nodesT r
structure WfD (d : Dc) : Prop where
 name : NameOk d.name
 clock : d.clock = [] ∨ NameOk d.clock
 off : d.clock = [] → d.off = false
structure WfQ (q : Eq) : Prop where
 left : q.left ≠ []
 names : ∀ x ∈ q.left, NameOk x.name
 e : Wf q.e
 async : q.async = true → q.e.kind = 13
 deep : deep q.e ≤ 40
structure WfN (n : Nd) : Prop where
 name : NameOk n.name
 ins : ∀ d ∈ n.ins, WfD d ∧ d.clock = []
 outs : ∀ d ∈ n.outs, WfD d ∧ d.clock = []
 vars : ∀ d ∈ n.vars, WfD d
 eqs : ∀ q ∈ n.eqs, WfQ q
def unpD (d : Dc) : Dc := ⟨d.name, 0, d.bool, d.future, d.clock, d.off⟩
def unpL (x : Lf) : Lf := ⟨x.name, 0⟩
def unpQ (q : Eq) : Eq := ⟨q.left.map unpL, q.async, unp q.e⟩
def unpN (n : Nd) : Nd := ⟨n.name, 0, n.ins.map unpD, n.outs.map unpD, n.vars.map unpD, n.eqs.map unpQ⟩
theorem ok_bind {α β : Type} (a : α) (s : List T) (f : α → List T → Res β) : (Res.ok a s).bind f = f a s := rfl
theorem want_cons {w : B} {t : T} (s : List T) (h : is [w] (t :: s) = true) : want w (t :: s) = .ok () s := by
 unfold want
 rw [if_pos h]
 rfl
theorem decl_rd (d : Dc) (rest : List T) : decl (nmT d.name :: sgT [58] :: (typeT d.bool d.future ++ rest)) = .ok ⟨d.name, (nmT d.name :: sgT [58] :: (typeT d.bool d.future ++ rest)).length, d.bool, d.future, [], false⟩ rest := by
 obtain ⟨m, q, b, f, c, o⟩ := d
 cases b <;> cases f <;> rfl
theorem declsL_rd : ∀ (l : List Dc), l ≠ [] → (∀ d ∈ l, WfD d ∧ d.clock = []) → ∀ rest, ∃ l', l'.map unpD = l.map unpD ∧ Evr (fun k => declsL k (commas (l.map declT) ++ sgT [41] :: rest)) (.ok l' rest)
 | [], h, _, _ => absurd rfl h
 | [d], _, h, rest => by
  have hd := h d (by simp)
  have hc : clockT d = [] := by unfold clockT; rw [if_pos hd.2]
  have hx : commas ([d].map declT) ++ sgT [41] :: rest = nmT d.name :: sgT [58] :: (typeT d.bool d.future ++ sgT [41] :: rest) := by simp [commas, declT, hc]
  rw [hx]
  refine ⟨[⟨d.name, (nmT d.name :: sgT [58] :: (typeT d.bool d.future ++ sgT [41] :: rest)).length, d.bool, d.future, [], false⟩], ?_, Evr.ofStep fun k => ?_⟩
  rotate_left
  ·rw [declsL, decl_rd]
   rfl
  ·simp [unpD, hd.2, hd.1.off hd.2]
 | d :: y :: r, _, h, rest => by
  have hd := h d (by simp)
  have hc : clockT d = [] := by unfold clockT; rw [if_pos hd.2]
  obtain ⟨l', hl, hv⟩ := declsL_rd (y :: r) (by simp) (fun z hz => h z (List.mem_cons_of_mem _ hz)) rest
  have hx : commas ((d :: y :: r).map declT) ++ sgT [41] :: rest = nmT d.name :: sgT [58] :: (typeT d.bool d.future ++ sgT [44] :: (commas ((y :: r).map declT) ++ sgT [41] :: rest)) := by
   show commas (declT d :: declT y :: r.map declT) ++ _ = _
   rw [commas]
   ·simp [declT, hc]
   ·simp
  rw [hx]
  refine ⟨⟨d.name, (nmT d.name :: sgT [58] :: (typeT d.bool d.future ++ sgT [44] :: (commas ((y :: r).map declT) ++ sgT [41] :: rest))).length, d.bool, d.future, [], false⟩ :: l', ?_, Evr.step (Evr.bind (g := fun k l s2 => .ok (⟨d.name, (nmT d.name :: sgT [58] :: (typeT d.bool d.future ++ sgT [44] :: (commas ((y :: r).map declT) ++ sgT [41] :: rest))).length, d.bool, d.future, [], false⟩ :: l) s2) hv (Evr.const _)) fun k => ?_⟩
  rotate_left
  ·rw [declsL, decl_rd]
   rfl
  ·rw [List.map_cons, hl]
   simp [unpD, hd.2, hd.1.off hd.2]
theorem decls_rd (l : List Dc) (h : ∀ d ∈ l, WfD d ∧ d.clock = []) (rest : List T) : ∃ l', l'.map unpD = l.map unpD ∧ Evr (fun k => decls k (declsT l ++ rest)) (.ok l' rest) := by
 have hx : declsT l ++ rest = sgT [40] :: (commas (l.map declT) ++ sgT [41] :: rest) := by simp [declsT, par]
 rw [hx]
 have hc : ∀ k, decls k (sgT [40] :: (commas (l.map declT) ++ sgT [41] :: rest)) = if is [[41]] (commas (l.map declT) ++ sgT [41] :: rest) then .ok [] (commas (l.map declT) ++ sgT [41] :: rest).tail else declsL k (commas (l.map declT) ++ sgT [41] :: rest) := fun k => by
  unfold decls
  rw [want_cons _ (is_sg _ _)]
  rfl
 by_cases hl : l = []
 ·subst hl
  exact ⟨[], rfl, ⟨0, fun k _ => by
   show decls k _ = _
   rw [hc]; rfl⟩⟩
 ·obtain ⟨l', hs, ⟨k0, hv⟩⟩ := declsL_rd l hl h rest
  refine ⟨l', hs, ⟨k0, fun k hk => ?_⟩⟩
  show decls k _ = _
  rw [hc, if_neg]
  ·exact hv k hk
  cases l with
  | nil => exact absurd rfl hl
  | cons x r =>
   have : ∃ y, commas ((x :: r).map declT) ++ sgT [41] :: rest = nmT x.name :: y := by
    cases r with
    | nil => exact ⟨_, rfl⟩
    | cons z r => exact ⟨_, by
      show commas (declT x :: declT z :: r.map declT) ++ _ = _
      rw [commas]
      ·rfl
      ·simp⟩
   obtain ⟨y, hy⟩ := this
   rw [hy]
   exact fun h => absurd (show false = true from h) (by decide)
theorem clock_rd (d : Dc) (h : WfD d) (q : Nat) (rest : List T) (hr : is [[119, 104, 101, 110]] rest = false) : clockOf ⟨d.name, q, d.bool, d.future, [], false⟩ (clockT d ++ rest) = .ok ⟨d.name, q, d.bool, d.future, d.clock, d.off⟩ rest := by
 unfold clockT
 split
 ·rename_i hc
  unfold clockOf
  rw [show ([] : List T) ++ rest = rest from rfl, hr, hc, h.off hc]
  rfl
 ·unfold clockOf
  rw [show (kwT [119, 104, 101, 110] :: ((if d.off then [kwT [110, 111, 116]] else []) ++ [nmT d.clock])) ++ rest = kwT [119, 104, 101, 110] :: ((if d.off then [kwT [110, 111, 116]] else []) ++ nmT d.clock :: rest) from by simp, is_kw, if_pos rfl]
  cases d.off <;> rfl
theorem varsL_rd : ∀ (l : List Dc), l ≠ [] → (∀ d ∈ l, WfD d) → ∀ rest, ∃ l', l'.map unpD = l.map unpD ∧ Evr (fun k => varsL k (semis l ++ kwT [108, 101, 116] :: rest)) (.ok l' (kwT [108, 101, 116] :: rest))
 | [], h, _, _ => absurd rfl h
 | d :: r, _, h, rest => by
  have hd := h d (by simp)
  have hx : semis (d :: r) ++ kwT [108, 101, 116] :: rest = nmT d.name :: sgT [58] :: (typeT d.bool d.future ++ (clockT d ++ sgT [59] :: (semis r ++ kwT [108, 101, 116] :: rest))) := by simp [semis, declT]
  rw [hx]
  obtain ⟨Q, hQ⟩ : ∃ Q, Q = (nmT d.name :: sgT [58] :: (typeT d.bool d.future ++ (clockT d ++ sgT [59] :: (semis r ++ kwT [108, 101, 116] :: rest)))).length := ⟨_, rfl⟩
  have hstep : ∀ k, varsL (k + 1) (nmT d.name :: sgT [58] :: (typeT d.bool d.future ++ (clockT d ++ sgT [59] :: (semis r ++ kwT [108, 101, 116] :: rest)))) = if is [[108, 101, 116]] (semis r ++ kwT [108, 101, 116] :: rest) then .ok [⟨d.name, Q, d.bool, d.future, d.clock, d.off⟩] (semis r ++ kwT [108, 101, 116] :: rest) else (varsL k (semis r ++ kwT [108, 101, 116] :: rest)).bind fun l s4 => .ok (⟨d.name, Q, d.bool, d.future, d.clock, d.off⟩ :: l) s4 := fun k => by
   rw [varsL, decl_rd, ← hQ]
   show (clockOf ⟨d.name, Q, d.bool, d.future, [], false⟩ (clockT d ++ sgT [59] :: (semis r ++ kwT [108, 101, 116] :: rest))).bind _ = _
   rw [clock_rd d hd Q _ rfl]
   rw [ok_bind, want_cons _ (is_sg _ _)]
   rfl
  cases r with
  | nil =>
   refine ⟨[⟨d.name, Q, d.bool, d.future, d.clock, d.off⟩], ?_, Evr.ofStep fun k => ?_⟩
   rotate_left
   ·rw [hstep]
    show (if is [[108, 101, 116]] (kwT [108, 101, 116] :: rest) = true then _ else _) = _
    rw [is_kw, if_pos rfl]
    rfl
   ·rfl
  | cons y r =>
   obtain ⟨l', hl, hv⟩ := varsL_rd (y :: r) (by simp) (fun z hz => h z (List.mem_cons_of_mem _ hz)) rest
   refine ⟨⟨d.name, Q, d.bool, d.future, d.clock, d.off⟩ :: l', ?_, Evr.step (Evr.bind (g := fun k l s2 => .ok (⟨d.name, Q, d.bool, d.future, d.clock, d.off⟩ :: l) s2) hv (Evr.const _)) fun k => ?_⟩
   ·rw [List.map_cons, hl]
    rfl
   ·rw [hstep, if_neg]
    exact fun h => absurd (show false = true from h) (by decide)
theorem vars_rd (l : List Dc) (h : ∀ d ∈ l, WfD d) (rest : List T) : ∃ l', l'.map unpD = l.map unpD ∧ Evr (fun k => vars k (varsT l ++ kwT [108, 101, 116] :: rest)) (.ok l' (kwT [108, 101, 116] :: rest)) := by
 cases l with
 | nil => exact ⟨[], rfl, ⟨0, fun k _ => rfl⟩⟩
 | cons d r =>
  obtain ⟨l', hl, ⟨k0, hv⟩⟩ := varsL_rd (d :: r) (by simp) h rest
  refine ⟨l', hl, ⟨k0, fun k hk => ?_⟩⟩
  show vars k (kwT [118, 97, 114] :: (semis (d :: r) ++ kwT [108, 101, 116] :: rest)) = _
  unfold vars
  rw [is_kw, if_pos rfl]
  exact hv k hk
theorem leftsL_rd : ∀ (l : List Lf) (rest : List T), ∃ l', l'.map unpL = l.map unpL ∧ Evr (fun k => leftsL k ((l.map fun x => [sgT [44], nmT x.name]).flatten ++ sgT [41] :: rest)) (.ok l' (sgT [41] :: rest))
 | [], rest => ⟨[], rfl, Evr.ofStep fun k => rfl⟩
 | x :: r, rest => by
  obtain ⟨l', hl, hv⟩ := leftsL_rd r rest
  refine ⟨⟨x.name, (nmT x.name :: ((r.map fun x => [sgT [44], nmT x.name]).flatten ++ sgT [41] :: rest)).length⟩ :: l', by rw [List.map_cons, hl]; rfl, Evr.step (Evr.bind (g := fun k l s2 => .ok (⟨x.name, (nmT x.name :: ((r.map fun x => [sgT [44], nmT x.name]).flatten ++ sgT [41] :: rest)).length⟩ :: l) s2) hv (Evr.const _)) fun k => ?_⟩
  show leftsL (k + 1) (sgT [44] :: nmT x.name :: ((r.map fun x => [sgT [44], nmT x.name]).flatten ++ sgT [41] :: rest)) = _
  rw [leftsL, is_sg, if_pos rfl]
  rfl
theorem left_flat : ∀ (x : Lf) (r : List Lf), leftT (x :: r) = nmT x.name :: (r.map fun x => [sgT [44], nmT x.name]).flatten
 | x, [] => rfl
 | x, y :: r => by
  show commas ([nmT x.name] :: [nmT y.name] :: r.map _) = _
  rw [commas]
  ·have := left_flat y r
   unfold leftT at this
   rw [List.map_cons] at this
   rw [this]
   rfl
  ·simp
theorem lefts_rd (l : List Lf) (hl : l ≠ []) (rest : List T) : ∃ l', l'.map unpL = l.map unpL ∧ Evr (fun k => lefts k (leftsT l ++ rest)) (.ok l' rest) := by
 unfold leftsT
 cases l with
 | nil => exact absurd rfl hl
 | cons x r =>
  cases r with
  | nil => exact ⟨[⟨x.name, (nmT x.name :: rest).length⟩], rfl, ⟨0, fun k _ => rfl⟩⟩
  | cons y r =>
   rw [if_pos (by simp)]
   obtain ⟨l', hs, ⟨k0, hv⟩⟩ := leftsL_rd r rest
   have hx : par (leftT (x :: y :: r)) ++ rest = sgT [40] :: nmT x.name :: sgT [44] :: nmT y.name :: ((r.map fun x => [sgT [44], nmT x.name]).flatten ++ sgT [41] :: rest) := by
    rw [left_flat]
    simp [par]
   rw [hx]
   refine ⟨⟨x.name, (nmT x.name :: sgT [44] :: nmT y.name :: ((r.map fun x => [sgT [44], nmT x.name]).flatten ++ sgT [41] :: rest)).length⟩ :: ⟨y.name, (nmT y.name :: ((r.map fun x => [sgT [44], nmT x.name]).flatten ++ sgT [41] :: rest)).length⟩ :: l', ?_, ⟨k0, fun k hk => ?_⟩⟩
   rotate_left
   ·show lefts k _ = _
    unfold lefts
    rw [is_sg, if_pos rfl]
    show (leftsL k ((r.map fun x => [sgT [44], nmT x.name]).flatten ++ sgT [41] :: rest)).bind _ = _
    rw [show leftsL k ((r.map fun x => [sgT [44], nmT x.name]).flatten ++ sgT [41] :: rest) = _ from hv k hk]
    rfl
   ·rw [List.map_cons, List.map_cons, hs]
    rfl
mutual
theorem deepE_unp : ∀ e : Ex, deepE (unp e) = deepE e
 | .mk k q n m o l => by rw [unp, deepE, deepE, deeps_unp l]
theorem deeps_unp : ∀ l : List Ex, deeps (unps l) = deeps l
 | [] => rfl
 | e :: r => by rw [unps, deeps, deeps, deepE_unp e, deeps_unp r]
end
theorem deep_unp (e : Ex) : deep (unp e) = deep e := by
 cases e with
 | mk k q n m o l =>
  unfold deep
  rw [unp]
  show deeps (unps l) + 1 = deeps l + 1
  rw [deeps_unp]
theorem deep_sim {e e' : Ex} (h : Sim e' e) : deep e' = deep e := by rw [← deep_unp e', ← deep_unp e, h]
theorem right_rd (q : Eq) (h : WfQ q) (rest : List T) : ∃ e', Sim e' q.e ∧ Evr (fun k => right k ((if q.async then [kwT [97, 115, 121, 110, 99]] else []) ++ (toksE q.e ++ sgT [59] :: rest))) (.ok (q.async, e') (sgT [59] :: rest)) := by
 cases ha : q.async with
 | false =>
  obtain ⟨e', hs, hv⟩ := expr_wf h.e (sgT [59] :: rest) (by show [59] ∉ ops1; decide)
  obtain ⟨k0, hv⟩ := hv
  refine ⟨e', hs, ⟨k0, fun k hk => ?_⟩⟩
  show right k (toksE q.e ++ sgT [59] :: rest) = _
  unfold right
  have hn : is [[97, 115, 121, 110, 99]] (toksE q.e ++ sgT [59] :: rest) = false := (PL.to0 (read_wf h.e)).hd.is (by decide) _
  rw [hn, if_neg (by decide), show expr k (toksE q.e ++ sgT [59] :: rest) = _ from hv k hk]
  rfl
 | true =>
  have hk := h.async ha
  have he := h.e
  cases hq : q.e with
  | mk k q0 n m o l =>
   rw [hq] at hk he
   have hk : k = 13 := hk
   subst hk
   cases he with
   | call _ _ _ hm hl =>
    rw [toksE]
    show ∃ e', _ ∧ Evr (fun k => right k (kwT [97, 115, 121, 110, 99] :: nmT m :: (par (commas ((ktsE l).map Kt.toks)) ++ sgT [59] :: rest))) _
    rw [kts_toks]
    obtain ⟨l', hs, ⟨k0, hv⟩⟩ := call_rd l (fun x hx => PL.to0 (read_wf (hl x hx))) m (nmT m :: (par (commas (l.map toksE)) ++ sgT [59] :: rest)).length (sgT [59] :: rest)
    refine ⟨_, sim_mk (q' := (nmT m :: (par (commas (l.map toksE)) ++ sgT [59] :: rest)).length) hs, ⟨k0, fun k hk => ?_⟩⟩
    show right k _ = _
    unfold right
    rw [is_kw, if_pos rfl]
    show (PX.call k m (nmT m :: (par (commas (l.map toksE)) ++ sgT [59] :: rest)).length (par (commas (l.map toksE)) ++ sgT [59] :: rest)).bind _ = _
    rw [show PX.call k m (nmT m :: (par (commas (l.map toksE)) ++ sgT [59] :: rest)).length (par (commas (l.map toksE)) ++ sgT [59] :: rest) = _ from hv k hk]
    rfl
theorem eq_rd (q : Eq) (h : WfQ q) (rest : List T) : ∃ q', unpQ q' = unpQ q ∧ Evr (fun k => eq k (eqT q ++ rest)) (.ok q' rest) := by
 have hx : eqT q ++ rest = leftsT q.left ++ sgT [61] :: ((if q.async then [kwT [97, 115, 121, 110, 99]] else []) ++ (toksE q.e ++ sgT [59] :: rest)) := by simp [eqT]
 rw [hx]
 obtain ⟨l', hl, hv1⟩ := lefts_rd q.left h.left (sgT [61] :: ((if q.async then [kwT [97, 115, 121, 110, 99]] else []) ++ (toksE q.e ++ sgT [59] :: rest)))
 obtain ⟨e', hs, hv2⟩ := right_rd q h rest
 refine ⟨⟨l', q.async, e'⟩, ?_, ?_⟩
 ·show (⟨l'.map unpL, q.async, unp e'⟩ : Eq) = _
  rw [hl, show unp e' = unp q.e from hs]
  rfl
 refine Evr.bind (g := fun K l s1 => (want [61] s1).bind fun _ s2 => (right K s2).bind fun q s3 => (shallow q.2 s3).bind fun _ s4 => (want [59] s4).bind fun _ s5 => .ok (Eq.mk l q.1 q.2) s5) hv1 ?_
 refine Evr.wants (g := fun K _ s2 => (right K s2).bind fun q s3 => (shallow q.2 s3).bind fun _ s4 => (want [59] s4).bind fun _ s5 => .ok (Eq.mk l' q.1 q.2) s5) (is_sg _ _) ?_
 refine Evr.bind (g := fun K q s3 => (shallow q.2 s3).bind fun _ s4 => (want [59] s4).bind fun _ s5 => .ok (Eq.mk l' q.1 q.2) s5) hv2 ?_
 have hd : shallow e' (sgT [59] :: rest) = .ok () (sgT [59] :: rest) := by
  unfold shallow
  rw [if_neg (by rw [deep_sim hs]; have := h.deep; omega)]
 show Evr (fun _ => (shallow e' (sgT [59] :: rest)).bind fun _ s4 => (want [59] s4).bind fun _ s5 => .ok (Eq.mk l' q.async e') s5) _
 rw [hd]
 show Evr (fun _ => (want [59] (sgT [59] :: rest)).bind fun _ s5 => .ok (Eq.mk l' q.async e') s5) _
 exact Evr.wants (g := fun _ _ s5 => .ok (Eq.mk l' q.async e') s5) (is_sg _ _) (Evr.const _)
def Ev2 {α : Type} (f : Nat → Nat → Res α) (r : Res α) : Prop := ∃ k0, ∀ K n, k0 ≤ K → k0 ≤ n → f K n = r
theorem Ev2.step {α β : Type} {f g : Nat → Nat → Res β} {h : Nat → Res α} {r : Res β} {a : α} {s : List T} {F : α → List T → Nat → Nat → Res β} (h1 : Evr h (.ok a s)) (h2 : Ev2 (F a s) r) (e : ∀ K n, f K (n + 1) = (h K).bind fun a s => F a s K n) : Ev2 f r := by
 obtain ⟨k0, h1⟩ := h1
 obtain ⟨k1, h2⟩ := h2
 refine ⟨max k0 k1 + 1, fun K n hK hn => ?_⟩
 obtain ⟨j, rfl⟩ : ∃ j, n = j + 1 := ⟨n - 1, by omega⟩
 rw [e, h1 K (by omega)]
 exact h2 K j (by omega) (by omega)
theorem lefts_head (l : List Lf) (hl : l ≠ []) (rest : List T) : is [[116, 101, 108]] (leftsT l ++ rest) = false := by
 cases l with
 | nil => exact absurd rfl hl
 | cons x r =>
  unfold leftsT
  split
  ·rfl
  ·rw [left_flat]
   rfl
theorem eqs_rd : ∀ (l : List Eq), (∀ q ∈ l, WfQ q) → ∀ rest, ∃ l', l'.map unpQ = l.map unpQ ∧ Ev2 (fun K n => eqs K n (eqsT l ++ kwT [116, 101, 108] :: rest)) (.ok l' (kwT [116, 101, 108] :: rest))
 | [], h, rest => ⟨[], rfl, ⟨1, fun K n _ hn => by
   obtain ⟨j, rfl⟩ : ∃ j, n = j + 1 := ⟨n - 1, by omega⟩
   rfl⟩⟩
 | q :: r, h, rest => by
  have hq := h q (by simp)
  obtain ⟨l', hl, hv⟩ := eqs_rd r (fun z hz => h z (List.mem_cons_of_mem _ hz)) rest
  obtain ⟨q', hs, hv1⟩ := eq_rd q hq (eqsT r ++ kwT [116, 101, 108] :: rest)
  have hx : eqsT (q :: r) ++ kwT [116, 101, 108] :: rest = eqT q ++ (eqsT r ++ kwT [116, 101, 108] :: rest) := by simp [eqsT]
  rw [hx]
  refine ⟨q' :: l', by rw [List.map_cons, List.map_cons, hs, hl], ?_⟩
  refine Ev2.step (g := fun _ _ => .out) (F := fun a s K n => (eqs K n s).bind fun l s2 => .ok (a :: l) s2) hv1 ?_ fun K n => ?_
  ·obtain ⟨k0, hv⟩ := hv
   exact ⟨k0, fun K n hK hn => by
    show (eqs K n (eqsT r ++ kwT [116, 101, 108] :: rest)).bind _ = _
    rw [show eqs K n (eqsT r ++ kwT [116, 101, 108] :: rest) = _ from hv K n hK hn]
    rfl⟩
  ·have hh : is [[116, 101, 108]] (eqT q ++ (eqsT r ++ kwT [116, 101, 108] :: rest)) = false := by
    unfold eqT
    rw [List.append_assoc]
    exact lefts_head _ hq.left _
   show eqs K (n + 1) _ = _
   rw [eqs, hh, if_neg (by decide)]
theorem node_rd (n : Nd) (h : WfN n) (rest : List T) : ∃ n', unpN n' = unpN n ∧ Evr (fun k => node k (nodeT n ++ rest)) (.ok n' rest) := by
 obtain ⟨li, hi, hvi⟩ := decls_rd n.ins h.ins (kwT [114, 101, 116, 117, 114, 110, 115] :: (declsT n.outs ++ (varsT n.vars ++ kwT [108, 101, 116] :: (eqsT n.eqs ++ kwT [116, 101, 108] :: rest))))
 obtain ⟨lo, ho, hvo⟩ := decls_rd n.outs h.outs (varsT n.vars ++ kwT [108, 101, 116] :: (eqsT n.eqs ++ kwT [116, 101, 108] :: rest))
 obtain ⟨lv, hv, hvv⟩ := vars_rd n.vars h.vars (eqsT n.eqs ++ kwT [116, 101, 108] :: rest)
 obtain ⟨lq, hq, ⟨kq, hvq⟩⟩ := eqs_rd n.eqs h.eqs rest
 have hx : nodeT n ++ rest = kwT [110, 111, 100, 101] :: nmT n.name :: (declsT n.ins ++ kwT [114, 101, 116, 117, 114, 110, 115] :: (declsT n.outs ++ (varsT n.vars ++ kwT [108, 101, 116] :: (eqsT n.eqs ++ kwT [116, 101, 108] :: rest)))) := by simp [nodeT]
 rw [hx]
 obtain ⟨Q, hQ⟩ : ∃ Q, Q = (nmT n.name :: (declsT n.ins ++ kwT [114, 101, 116, 117, 114, 110, 115] :: (declsT n.outs ++ (varsT n.vars ++ kwT [108, 101, 116] :: (eqsT n.eqs ++ kwT [116, 101, 108] :: rest))))).length := ⟨_, rfl⟩
 refine ⟨⟨n.name, Q, li, lo, lv, lq⟩, by simp only [unpN, hi, ho, hv, hq], ?_⟩
 refine Evr.wants (g := fun K _ s1 => (name s1).bind fun m s2 => (decls K s2).bind fun ins s3 => (want [114, 101, 116, 117, 114, 110, 115] s3).bind fun _ s4 =>
  (decls K s4).bind fun outs s5 => (vars K s5).bind fun vs s6 => (want [108, 101, 116] s6).bind fun _ s7 => (eqs K K s7).bind fun qs s8 =>
   (want [116, 101, 108] s8).bind fun _ s9 => .ok (Nd.mk m s1.length ins outs vs qs) s9) (is_kw _ _) ?_
 refine Evr.names (g := fun K m s2 => (decls K s2).bind fun ins s3 => (want [114, 101, 116, 117, 114, 110, 115] s3).bind fun _ s4 =>
  (decls K s4).bind fun outs s5 => (vars K s5).bind fun vs s6 => (want [108, 101, 116] s6).bind fun _ s7 => (eqs K K s7).bind fun qs s8 =>
   (want [116, 101, 108] s8).bind fun _ s9 => .ok (Nd.mk m _ ins outs vs qs) s9) ?_
 rw [← hQ]
 refine Evr.bind (g := fun K ins s3 => (want [114, 101, 116, 117, 114, 110, 115] s3).bind fun _ s4 =>
  (decls K s4).bind fun outs s5 => (vars K s5).bind fun vs s6 => (want [108, 101, 116] s6).bind fun _ s7 => (eqs K K s7).bind fun qs s8 =>
   (want [116, 101, 108] s8).bind fun _ s9 => .ok (Nd.mk n.name Q ins outs vs qs) s9) hvi ?_
 refine Evr.wants (g := fun K _ s4 => (decls K s4).bind fun outs s5 => (vars K s5).bind fun vs s6 => (want [108, 101, 116] s6).bind fun _ s7 => (eqs K K s7).bind fun qs s8 =>
   (want [116, 101, 108] s8).bind fun _ s9 => .ok (Nd.mk n.name Q li outs vs qs) s9) (is_kw _ _) ?_
 refine Evr.bind (g := fun K outs s5 => (vars K s5).bind fun vs s6 => (want [108, 101, 116] s6).bind fun _ s7 => (eqs K K s7).bind fun qs s8 =>
   (want [116, 101, 108] s8).bind fun _ s9 => .ok (Nd.mk n.name Q li outs vs qs) s9) hvo ?_
 refine Evr.bind (g := fun K vs s6 => (want [108, 101, 116] s6).bind fun _ s7 => (eqs K K s7).bind fun qs s8 =>
   (want [116, 101, 108] s8).bind fun _ s9 => .ok (Nd.mk n.name Q li lo vs qs) s9) hvv ?_
 refine Evr.wants (g := fun K _ s7 => (eqs K K s7).bind fun qs s8 => (want [116, 101, 108] s8).bind fun _ s9 => .ok (Nd.mk n.name Q li lo lv qs) s9) (is_kw _ _) ?_
 refine Evr.bind (f := fun K => eqs K K (eqsT n.eqs ++ kwT [116, 101, 108] :: rest)) (g := fun K qs s8 => (want [116, 101, 108] s8).bind fun _ s9 => .ok (Nd.mk n.name Q li lo lv qs) s9) ⟨kq, fun K hK => hvq K K hK hK⟩ ?_
 exact Evr.wants (g := fun K _ s9 => .ok (Nd.mk n.name Q li lo lv lq) s9) (is_kw _ _) (Evr.const _)
theorem nodesL_rd : ∀ (l : List Nd), (∀ n ∈ l, WfN n) → ∃ l', l'.map unpN = l.map unpN ∧ Ev2 (fun K n => nodesL K n (nodesT l ++ [endT])) (.ok l' [endT])
 | [], h => ⟨[], rfl, ⟨1, fun K n _ hn => by
   obtain ⟨j, rfl⟩ : ∃ j, n = j + 1 := ⟨n - 1, by omega⟩
   rfl⟩⟩
 | q :: r, h => by
  obtain ⟨l', hl, hv⟩ := nodesL_rd r (fun z hz => h z (List.mem_cons_of_mem _ hz))
  obtain ⟨q', hs, hv1⟩ := node_rd q (h q (by simp)) (nodesT r ++ [endT])
  have hx : nodesT (q :: r) ++ [endT] = nodeT q ++ (nodesT r ++ [endT]) := by simp [nodesT]
  rw [hx]
  refine ⟨q' :: l', by rw [List.map_cons, List.map_cons, hs, hl], ?_⟩
  refine Ev2.step (g := fun _ _ => .out) (F := fun a s K n => (nodesL K n s).bind fun l s2 => .ok (a :: l) s2) hv1 ?_ fun K n => ?_
  ·obtain ⟨k0, hv⟩ := hv
   exact ⟨k0, fun K n hK hn => by
    show (nodesL K n (nodesT r ++ [endT])).bind _ = _
    rw [show nodesL K n (nodesT r ++ [endT]) = _ from hv K n hK hn]
    rfl⟩
  ·show nodesL K (n + 1) _ = _
   rw [nodesL, if_neg]
   exact fun h => absurd (show false = true from h) (by decide)
theorem program_rd (l : List Nd) (hl : l ≠ []) (h : ∀ n ∈ l, WfN n) : ∃ l', l'.map unpN = l.map unpN ∧ Evr (fun k => program k (nodesT l ++ [endT])) (.ok l' [endT]) := by
 cases l with
 | nil => exact absurd rfl hl
 | cons n r =>
  obtain ⟨l', hl', ⟨k0, hv⟩⟩ := nodesL_rd r (fun z hz => h z (List.mem_cons_of_mem _ hz))
  obtain ⟨n', hs, ⟨k1, hv1⟩⟩ := node_rd n (h n (by simp)) (nodesT r ++ [endT])
  have hx : nodesT (n :: r) ++ [endT] = nodeT n ++ (nodesT r ++ [endT]) := by simp [nodesT]
  rw [hx]
  refine ⟨n' :: l', by rw [List.map_cons, List.map_cons, hs, hl'], ⟨max k0 k1, fun k hk => ?_⟩⟩
  show program k _ = _
  unfold program nodes
  rw [show node k (nodeT n ++ (nodesT r ++ [endT])) = _ from hv1 k (by omega)]
  show (((nodesL k k (nodesT r ++ [endT])).bind _).bind _) = _
  rw [show nodesL k k (nodesT r ++ [endT]) = _ from hv k k (by omega) (by omega)]
  rfl
end PX
end Go.Proofs.YtjafllnbgfcchaaDoor
end
section
/- More rounds give the same nodes; a text whose tokens are canonical is read as what they say. -/
namespace Go.Proofs.YtjafllnbgfcchaaDoor
set_option linter.unusedVariables false
set_option linter.unusedSimpArgs false
namespace PX
theorem Le.declsL : ∀ n s, Le (declsL n s) (declsL (n + 1) s)
 | 0, s => Le.out _
 | n + 1, s => by
  rw [declsL.eq_2 s n, declsL.eq_2 s (n + 1)]
  exact Le.bind' _ fun d s1 => Le.ite (Le.bind (Le.declsL n _) fun l s2 => Le.refl _) (Le.refl _)
theorem Le.decls (n : Nat) (s : List T) : Le (decls n s) (decls (n + 1) s) := Le.bind' _ fun _ s1 => Le.ite (Le.refl _) (Le.declsL n s1)
theorem Le.varsL : ∀ n s, Le (varsL n s) (varsL (n + 1) s)
 | 0, s => Le.out _
 | n + 1, s => by
  rw [varsL.eq_2 s n, varsL.eq_2 s (n + 1)]
  exact Le.bind' _ fun d s1 => Le.bind' _ fun c s2 => Le.bind' _ fun _ s3 => Le.ite (Le.refl _) (Le.bind (Le.varsL n _) fun l s4 => Le.refl _)
theorem Le.vars (n : Nat) (s : List T) : Le (vars n s) (vars (n + 1) s) := Le.ite (Le.varsL n _) (Le.refl _)
theorem Le.leftsL : ∀ n s, Le (leftsL n s) (leftsL (n + 1) s)
 | 0, s => Le.out _
 | n + 1, s => by
  rw [leftsL.eq_2 s n, leftsL.eq_2 s (n + 1)]
  exact Le.ite (Le.bind' _ fun d s1 => Le.bind (Le.leftsL n _) fun l s2 => Le.refl _) (Le.refl _)
theorem Le.lefts (n : Nat) (s : List T) : Le (lefts n s) (lefts (n + 1) s) :=
 Le.ite (Le.bind' _ fun d s1 => Le.bind' _ fun _ s2 => Le.bind' _ fun m s3 => Le.bind (Le.leftsL n _) fun l s4 => Le.refl _) (Le.refl _)
theorem Le.right (K : Nat) (s : List T) : Le (right K s) (right (K + 1) s) :=
 Le.ite (Le.bind' _ fun m s1 => Le.bind ((monos K).call _ _ _) fun e s2 => Le.refl _) (Le.bind ((monos K).expr _) fun e s2 => Le.refl _)
theorem Le.eqn (K : Nat) (s : List T) : Le (eq K s) (eq (K + 1) s) :=
 Le.bind (Le.lefts K s) fun l s1 => Le.bind' _ fun _ s2 => Le.bind (Le.right K s2) fun q s3 => Le.refl _
theorem Le.eqs (K : Nat) : ∀ n s, Le (eqs K n s) (eqs (K + 1) (n + 1) s)
 | 0, s => Le.out _
 | n + 1, s => by
  rw [eqs.eq_2 K s n, eqs.eq_2 (K + 1) s (n + 1)]
  exact Le.ite (Le.refl _) (Le.bind (Le.eqn K s) fun q s1 => Le.bind (Le.eqs K n s1) fun l s2 => Le.refl _)
theorem Le.node (K : Nat) (s : List T) : Le (node K s) (node (K + 1) s) :=
 Le.bind' _ fun _ s1 => Le.bind' _ fun m s2 => Le.bind (Le.decls K s2) fun i s3 => Le.bind' _ fun _ s4 => Le.bind (Le.decls K s4) fun o s5 => Le.bind (Le.vars K s5) fun v s6 => Le.bind' _ fun _ s7 =>
  Le.bind (Le.eqs K K s7) fun q s8 => Le.refl _
theorem Le.nodesL (K : Nat) : ∀ n s, Le (nodesL K n s) (nodesL (K + 1) (n + 1) s)
 | 0, s => Le.out _
 | n + 1, s => by
  rw [nodesL.eq_2 K s n, nodesL.eq_2 (K + 1) s (n + 1)]
  exact Le.ite (Le.refl _) (Le.bind (Le.node K s) fun q s1 => Le.bind (Le.nodesL K n s1) fun l s2 => Le.refl _)
theorem Le.program (K : Nat) (s : List T) : Le (program K s) (program (K + 1) s) :=
 Le.bind (Le.bind (Le.node K s) fun x s1 => Le.bind (Le.nodesL K K s1) fun l s2 => Le.refl _) fun l s1 => Le.refl _
theorem Le.exprOf (K : Nat) (s : List T) : Le (exprOf K s) (exprOf (K + 1) s) := Le.bind ((monos K).expr s) fun e s1 => Le.refl _
theorem goes_out {α : Type} {r : Res α} {n : Nat} (h : Goes r n) : r.isOut = false := by
 cases r <;> first | rfl | exact h.elim
theorem read_canon {s : B} {l : List Nd} (hs : s.length ≤ 4000) (hx : Lexes s (nodesT l ++ [endT])) (hl : l ≠ []) (h : ∀ n ∈ l, WfN n) :
  ∃ toks l', LX.all s = .ok toks ∧ program (12 * toks.length + 10) (toks.map tkp) = .ok l' [endT] ∧ l'.map unpN = l.map unpN := by
 obtain ⟨toks, h1, h2⟩ := hx.all hs
 obtain ⟨l', h3, h4⟩ := program_rd l hl h
 rw [← h2] at h4
 refine ⟨toks, l', h1, h4.at_ (fun k => Le.program k _) (goes_out (Goes.program (all_ok h1).1.good (by rw [List.length_map]; exact Nat.le_refl _))), h3⟩
end PX
end Go.Proofs.YtjafllnbgfcchaaDoor
end
section
/- A text whose tokens are canonical: what the parser reads of it, and what the checker of types tells of that, told by nodes without places. -/
namespace Go.Proofs.YtjafllnbgfcchaaDoor.Ct
set_option linter.unusedVariables false
open Go Go.RowKit Go.Proofs.YtjafllnbgfcchaaDoor.XK
mutual
theorem rE0_unp : ∀ e, rE0 (PX.unp e) = rE0 e
 | .mk k q n m o l => by rw [PX.unp, rE0, rE0, rEs0_unp l]
theorem rEs0_unp : ∀ l, rEs0 (PX.unps l) = rEs0 l
 | [] => rfl
 | e :: r => by rw [PX.unps, rEs0, rEs0, rE0_unp e, rEs0_unp r]
end
theorem rN0_unp (n : PX.Nd) : rN0 (PX.unpN n) = rN0 n := by
 unfold rN0 PX.unpN
 simp only [List.map_map]
 congr 1
 refine List.map_congr_left fun q _ => ?_
 show rQ0 (PX.unpQ q) = rQ0 q
 unfold rQ0 PX.unpQ
 rw [rE0_unp, List.map_map]
 rfl
theorem reals_sim {toks : List LX.Tok} {l l' : List PX.Nd} (h : l'.map PX.unpN = l.map PX.unpN) : (l'.map (Px.realN toks)).map eN = l.map rN0 := by
 rw [List.map_map]
 have e1 : l'.map (eN ∘ Px.realN toks) = l'.map rN0 := List.map_congr_left fun n _ => eN_real toks n
 have e2 : ∀ l : List PX.Nd, l.map rN0 = (l.map PX.unpN).map rN0 := fun l => by
  rw [List.map_map]
  exact List.map_congr_left fun n _ => (rN0_unp n).symm
 rw [e1, e2 l', h, ← e2]
theorem canon {s : PX.B} {l : List PX.Nd} {k : Nat} {f : F} (hs : s.length ≤ 4000) (hx : PX.Lexes s (PX.nodesT l ++ [PX.endT])) (hl : l ≠ []) (h : ∀ n ∈ l, PX.WfN n) (hc : check k (l.map rN0) = some f) :
  ∃ toks l' rest r, LX.all s = .ok toks ∧ PX.program (Px.rounds toks) (toks.map Px.tk) = .ok l' rest ∧ check k (l'.map (Px.realN toks)) = some r ∧ (r.1 == 0 && r.2 == 0) = (f.2 == 0) := by
 obtain ⟨toks, l', h1, h2, h3⟩ := PX.read_canon hs hx hl h
 rw [← reals_sim (toks := toks) h3] at hc
 obtain ⟨r, h4, h5, h6⟩ := check_told hc
 refine ⟨toks, l', _, r, h1, h2, h4, ?_⟩
 rw [← h5]
 by_cases h0 : r.2 = 0
 ·rw [h0, h6 h0]
  rfl
 ·have : (r.2 == 0) = false := by simpa using h0
  rw [this, Bool.and_false]
end Go.Proofs.YtjafllnbgfcchaaDoor.Ct
end
section
/- The law TypesCalls over numbers: a call fits just if each thing that it is handed is of the kind that the node takes. -/
namespace Go.Proofs.YtjafllnbgfcchaaDoor.Tc
set_option linter.unusedVariables false
set_option linter.unusedSimpArgs false
open Go Go.RowKit Go.Proofs.YtjafllnbgfcchaaDoor.XK Go.Proofs.YtjafllnbgfcchaaDoor.XTB
def ps1 : List PX.Pc := [.kw [110, 111, 100, 101], .sp 32, .nm [102], .sg [40], .nm [97], .sg [58], .sp 32, .kw [105, 110, 116], .sg [44], .sp 32, .nm [98], .sg [58], .sp 32, .kw [98, 111, 111, 108], .sg [41], .sp 32, .kw [114, 101, 116, 117, 114, 110, 115], .sp 32, .sg [40], .nm [121], .sg [58], .sp 32, .kw [105, 110, 116], .sg [41], .sp 32, .kw [118, 97, 114], .sp 32, .nm [117], .sg [58], .sp 32, .kw [102, 117, 116, 117, 114, 101], .sp 32, .kw [105, 110, 116], .sg [59], .sp 32, .nm [118], .sg [58], .sp 32, .kw [102, 117, 116, 117, 114, 101], .sp 32, .kw [98, 111, 111, 108], .sg [59], .sp 32, .kw [108, 101, 116], .sp 32, .nm [117], .sp 32, .sg [61], .sp 32, .kw [97, 115, 121, 110, 99], .sp 32, .nm [103], .sg [40], .nm [97], .sg [41], .sg [59], .sp 32, .nm [118], .sp 32, .sg [61], .sp 32, .kw [97, 115, 121, 110, 99], .sp 32, .nm [104], .sg [40], .nm [98], .sg [41], .sg [59], .sp 32, .nm [121], .sp 32, .sg [61], .sp 32, .nm [107], .sg [40]]
def ps2 : List PX.Pc := [.sg [41], .sg [59], .sp 32, .kw [116, 101, 108], .sp 32, .kw [110, 111, 100, 101], .sp 32, .nm [103], .sg [40], .nm [97], .sg [58], .sp 32, .kw [105, 110, 116], .sg [41], .sp 32, .kw [114, 101, 116, 117, 114, 110, 115], .sp 32, .sg [40], .nm [99], .sg [58], .sp 32, .kw [105, 110, 116], .sg [41], .sp 32, .kw [108, 101, 116], .sp 32, .nm [99], .sp 32, .sg [61], .sp 32, .nm [97], .sg [59], .sp 32, .kw [116, 101, 108], .sp 32, .kw [110, 111, 100, 101], .sp 32, .nm [104], .sg [40], .nm [97], .sg [58], .sp 32, .kw [98, 111, 111, 108], .sg [41], .sp 32, .kw [114, 101, 116, 117, 114, 110, 115], .sp 32, .sg [40], .nm [99], .sg [58], .sp 32, .kw [98, 111, 111, 108], .sg [41], .sp 32, .kw [108, 101, 116], .sp 32, .nm [99], .sp 32, .sg [61], .sp 32, .nm [97], .sg [59], .sp 32, .kw [116, 101, 108], .sp 32, .kw [110, 111, 100, 101], .sp 32, .nm [107], .sg [40]]
def ps3 : List PX.Pc := [.sg [41], .sp 32, .kw [114, 101, 116, 117, 114, 110, 115], .sp 32, .sg [40], .nm [121], .sg [58], .sp 32, .kw [105, 110, 116], .sg [41], .sp 32, .kw [108, 101, 116], .sp 32, .nm [121], .sp 32, .sg [61], .sp 32, .nu 1, .sg [59], .sp 32, .kw [116, 101, 108]]
def wordP : Nat → List PX.Pc
 | 0 => [.kw [105, 110, 116]]
 | 1 => [.kw [98, 111, 111, 108]]
 | 2 => [.kw [102, 117, 116, 117, 114, 101], .sp 32, .kw [105, 110, 116]]
 | _ => [.kw [102, 117, 116, 117, 114, 101], .sp 32, .kw [98, 111, 111, 108]]
def argsP : List Nat → Nat → List PX.Pc
 | [], _ => []
 | t :: r, i => (if i = 0 then [] else [.sg [44], .sp 32]) ++ [.nm (name t)] ++ argsP r (i + 1)
def insP : List Nat → Nat → List PX.Pc
 | [], _ => []
 | t :: r, i => (if i = 0 then [] else [.sg [44], .sp 32]) ++ ([.nm [112, 48 + i.toUInt8], .sg [58], .sp 32] ++ wordP t) ++ insP r (i + 1)
def nF (gs : List Nat) : PX.Nd := ⟨[102], 0, [⟨[97], 0, false, false, [], false⟩, ⟨[98], 0, true, false, [], false⟩], [⟨[121], 0, false, false, [], false⟩], [⟨[117], 0, false, true, [], false⟩, ⟨[118], 0, true, true, [], false⟩],
 [⟨[⟨[117], 0⟩], true, .mk 13 0 0 [103] false [.mk 3 0 0 [97] false []]⟩, ⟨[⟨[118], 0⟩], true, .mk 13 0 0 [104] false [.mk 3 0 0 [98] false []]⟩, ⟨[⟨[121], 0⟩], false, .mk 13 0 0 [107] false (gs.map fun g => .mk 3 0 0 (name g) false [])⟩]⟩
def nG : PX.Nd := ⟨[103], 0, [⟨[97], 0, false, false, [], false⟩], [⟨[99], 0, false, false, [], false⟩], [], [⟨[⟨[99], 0⟩], false, .mk 3 0 0 [97] false []⟩]⟩
def nH : PX.Nd := ⟨[104], 0, [⟨[97], 0, true, false, [], false⟩], [⟨[99], 0, true, false, [], false⟩], [], [⟨[⟨[99], 0⟩], false, .mk 3 0 0 [97] false []⟩]⟩
def dcl (t i : Nat) : PX.Dc := ⟨[112, 48 + i.toUInt8], 0, t == 1 || t == 3, t == 2 || t == 3, [], false⟩
def dcls : List Nat → Nat → List PX.Dc
 | [], _ => []
 | t :: r, i => dcl t i :: dcls r (i + 1)
def nK (ts : List Nat) : PX.Nd := ⟨[107], 0, dcls ts 0, [⟨[121], 0, false, false, [], false⟩], [], [⟨[⟨[121], 0⟩], false, .mk 1 0 1 [] false []⟩]⟩
abbrev l4 (a b c d : Fin 4) : List Nat := [a.val, b.val, c.val, d.val]
def fend : List PX.T := [PX.sgT [41], PX.sgT [59], PX.kwT [116, 101, 108]]
def gh : List PX.T := PX.nodeT nG ++ PX.nodeT nH
def kpre (ts : List Nat) : List PX.T := PX.kwT [110, 111, 100, 101] :: PX.nmT [107] :: PX.sgT [40] :: PX.toks (insP ts 0)
theorem a_txt : ∀ a b c d : Fin 4, PX.txts (ps1 ++ argsP (l4 a b c d) 0) = [110, 111, 100, 101, 32, 102, 40, 97, 58, 32, 105, 110, 116, 44, 32, 98, 58, 32, 98, 111, 111, 108, 41, 32, 114, 101, 116, 117, 114, 110, 115, 32, 40, 121, 58, 32, 105, 110, 116, 41, 32, 118, 97, 114, 32, 117, 58, 32, 102, 117, 116, 117, 114, 101, 32, 105, 110, 116, 59, 32, 118, 58, 32, 102, 117, 116, 117, 114, 101, 32, 98, 111, 111, 108, 59, 32, 108, 101, 116, 32, 117, 32, 61, 32, 97, 115, 121, 110, 99, 32, 103, 40, 97, 41, 59, 32, 118, 32, 61, 32, 97, 115, 121, 110, 99, 32, 104, 40, 98, 41, 59, 32, 121, 32, 61, 32, 107, 40] ++ argsB (l4 a b c d) 0 := by decide +kernel
theorem a_seg : ∀ a b c d : Fin 4, PX.segs (ps1 ++ argsP (l4 a b c d) 0) = true := by decide +kernel
theorem b_txt : ∀ a b c d : Fin 4, PX.txts (ps2 ++ insP (l4 a b c d) 0) = [41, 59, 32, 116, 101, 108, 32, 110, 111, 100, 101, 32, 103, 40, 97, 58, 32, 105, 110, 116, 41, 32, 114, 101, 116, 117, 114, 110, 115, 32, 40, 99, 58, 32, 105, 110, 116, 41, 32, 108, 101, 116, 32, 99, 32, 61, 32, 97, 59, 32, 116, 101, 108, 32, 110, 111, 100, 101, 32, 104, 40, 97, 58, 32, 98, 111, 111, 108, 41, 32, 114, 101, 116, 117, 114, 110, 115, 32, 40, 99, 58, 32, 98, 111, 111, 108, 41, 32, 108, 101, 116, 32, 99, 32, 61, 32, 97, 59, 32, 116, 101, 108, 32, 110, 111, 100, 101, 32, 107, 40] ++ insB (l4 a b c d) 0 := by decide +kernel
theorem b_seg : ∀ a b c d : Fin 4, PX.segs (ps2 ++ insP (l4 a b c d) 0) = true := by decide +kernel
theorem c_txt : PX.txts ps3 = [41, 32, 114, 101, 116, 117, 114, 110, 115, 32, 40, 121, 58, 32, 105, 110, 116, 41, 32, 108, 101, 116, 32, 121, 32, 61, 32, 49, 59, 32, 116, 101, 108] := by decide +kernel
theorem c_seg : PX.segs ps3 = true := by decide +kernel
theorem a_tok : ∀ a b c d : Fin 4, PX.toks (ps1 ++ argsP (l4 a b c d) 0) ++ fend = PX.nodeT (nF (l4 a b c d)) := by decide +kernel
theorem b_tok : ∀ a b c d : Fin 4, PX.toks (ps2 ++ insP (l4 a b c d) 0) = fend ++ (gh ++ kpre (l4 a b c d)) := by decide +kernel
theorem k_tok : ∀ a b c d : Fin 4, kpre (l4 a b c d) ++ PX.toks ps3 = PX.nodeT (nK (l4 a b c d)) := by decide +kernel
def text (ts gs : List Nat) : List UInt8 := [110, 111, 100, 101, 32, 102, 40, 97, 58, 32, 105, 110, 116, 44, 32, 98, 58, 32, 98, 111, 111, 108, 41, 32, 114, 101, 116, 117, 114, 110, 115, 32, 40, 121, 58, 32, 105, 110, 116, 41, 32, 118, 97, 114, 32, 117, 58, 32, 102, 117, 116, 117, 114, 101, 32, 105, 110, 116, 59, 32, 118, 58, 32, 102, 117, 116, 117, 114, 101, 32, 98, 111, 111, 108, 59, 32, 108, 101, 116, 32, 117, 32, 61, 32, 97, 115, 121, 110, 99, 32, 103, 40, 97, 41, 59, 32, 118, 32, 61, 32, 97, 115, 121, 110, 99, 32, 104, 40, 98, 41, 59, 32, 121, 32, 61, 32, 107, 40] ++ argsB gs 0 ++ ([41, 59, 32, 116, 101, 108, 32, 110, 111, 100, 101, 32, 103, 40, 97, 58, 32, 105, 110, 116, 41, 32, 114, 101, 116, 117, 114, 110, 115, 32, 40, 99, 58, 32, 105, 110, 116, 41, 32, 108, 101, 116, 32, 99, 32, 61, 32, 97, 59, 32, 116, 101, 108, 32, 110, 111, 100, 101, 32, 104, 40, 97, 58, 32, 98, 111, 111, 108, 41, 32, 114, 101, 116, 117, 114, 110, 115, 32, 40, 99, 58, 32, 98, 111, 111, 108, 41, 32, 108, 101, 116, 32, 99, 32, 61, 32, 97, 59, 32, 116, 101, 108, 32, 110, 111, 100, 101, 32, 107, 40] ++ insB ts 0 ++ [41, 32, 114, 101, 116, 117, 114, 110, 115, 32, 40, 121, 58, 32, 105, 110, 116, 41, 32, 108, 101, 116, 32, 121, 32, 61, 32, 49, 59, 32, 116, 101, 108])
theorem text_lx (a b c d a' b' c' d' : Fin 4) : PX.Lexes (text (l4 a b c d) (l4 a' b' c' d')) (PX.nodesT [nF (l4 a' b' c' d'), nG, nH, nK (l4 a b c d)] ++ [PX.endT]) := by
 have h3 : PX.Lexes ([41, 32, 114, 101, 116, 117, 114, 110, 115, 32, 40, 121, 58, 32, 105, 110, 116, 41, 32, 108, 101, 116, 32, 121, 32, 61, 32, 49, 59, 32, 116, 101, 108]) (PX.toks ps3 ++ [PX.endT]) := c_txt ▸ PX.Lexes.whole c_seg
 have h2 := PX.Lexes.segs _ (b_seg a b c d) _ _ (PX.Soft.cons _ (by decide)) h3
 rw [b_txt] at h2
 have h1 := PX.Lexes.segs _ (a_seg a' b' c' d') _ _ (PX.Soft.cons _ (by decide)) h2
 rw [a_txt, b_tok] at h1
 have e : PX.nodesT [nF (l4 a' b' c' d'), nG, nH, nK (l4 a b c d)] ++ [PX.endT] = PX.toks (ps1 ++ argsP (l4 a' b' c' d') 0) ++ (fend ++ (gh ++ kpre (l4 a b c d)) ++ (PX.toks ps3 ++ [PX.endT])) := by
  show (PX.nodeT _ ++ (PX.nodeT _ ++ (PX.nodeT _ ++ (PX.nodeT _ ++ [])))) ++ [PX.endT] = _
  rw [← a_tok, ← k_tok]
  simp [gh]
 rw [e]
 exact h1
end Go.Proofs.YtjafllnbgfcchaaDoor.Tc
end
section
/- The law TypesCalls: what the checker of types tells of the nodes. -/
namespace Go.Proofs.YtjafllnbgfcchaaDoor.Tc
set_option linter.unusedVariables false
set_option linter.unusedSimpArgs false
open Go Go.RowKit Go.Proofs.YtjafllnbgfcchaaDoor.XK Go.Proofs.YtjafllnbgfcchaaDoor.XTB
theorem name_ok : ∀ g : Fin 4, PX.nameB (name g.val) = true := by decide
theorem wfs (a b c d a' b' c' d' : Fin 4) : ∀ n ∈ [nF (l4 a' b' c' d'), nG, nH, nK (l4 a b c d)], PX.WfN n := by
 have d0 : ∀ (m : PX.B) (b f : Bool), PX.nameB m = true → PX.WfD ⟨m, 0, b, f, [], false⟩ := fun m b f h => ⟨PX.nameB_ok h, .inl rfl, fun _ => rfl⟩
 have l0 : ∀ (m : PX.B), PX.nameB m = true → ∀ x ∈ ([⟨m, 0⟩] : List PX.Lf), PX.NameOk x.name := fun m h x hx => by
  rw [List.mem_singleton.1 hx]
  exact PX.nameB_ok h
 have v0 : ∀ (m : PX.B), PX.nameB m = true → PX.Wf (.mk 3 0 0 m false []) := fun m h => .var 0 m (PX.nameB_ok h)
 have e1 : ∀ (x m : PX.B), PX.nameB x = true → PX.nameB m = true → PX.WfQ ⟨[⟨x, 0⟩], false, .mk 3 0 0 m false []⟩ := fun x m hx h => ⟨by simp, l0 x hx, v0 m h, (fun h => by cases h), (by show PX.deeps [] + 1 ≤ 40; decide)⟩
 have s1 : ∀ (d e : PX.Dc), (PX.WfD e ∧ e.clock = []) → d ∈ [e] → PX.WfD d ∧ d.clock = [] := fun d e h hd => by
  rw [List.mem_singleton.1 hd]
  exact h
 intro n hn
 simp only [List.mem_cons, List.not_mem_nil, or_false] at hn
 rcases hn with rfl | rfl | rfl | rfl
 ·refine ⟨PX.nameB_ok (m := [102]) (by decide), fun d hd => ?_, fun d hd => s1 d _ ⟨d0 [121] _ _ (by decide), rfl⟩ hd, fun d hd => ?_, fun q hq => ?_⟩
  ·have hd : d ∈ ([⟨[97], 0, false, false, [], false⟩, ⟨[98], 0, true, false, [], false⟩] : List PX.Dc) := hd
   simp only [List.mem_cons, List.not_mem_nil, or_false] at hd
   rcases hd with rfl | rfl
   ·exact ⟨d0 [97] _ _ (by decide), rfl⟩
   ·exact ⟨d0 [98] _ _ (by decide), rfl⟩
  ·have hd : d ∈ ([⟨[117], 0, false, true, [], false⟩, ⟨[118], 0, true, true, [], false⟩] : List PX.Dc) := hd
   simp only [List.mem_cons, List.not_mem_nil, or_false] at hd
   rcases hd with rfl | rfl
   ·exact d0 [117] _ _ (by decide)
   ·exact d0 [118] _ _ (by decide)
  ·have hq : q ∈ ([⟨[⟨[117], 0⟩], true, .mk 13 0 0 [103] false [.mk 3 0 0 [97] false []]⟩, ⟨[⟨[118], 0⟩], true, .mk 13 0 0 [104] false [.mk 3 0 0 [98] false []]⟩, ⟨[⟨[121], 0⟩], false, .mk 13 0 0 [107] false ((l4 a' b' c' d').map fun g => .mk 3 0 0 (name g) false [])⟩] : List PX.Eq) := hq
   simp only [List.mem_cons, List.not_mem_nil, or_false] at hq
   rcases hq with rfl | rfl | rfl
   ·exact ⟨by simp, l0 [117] (by decide), .call 0 [103] _ (PX.nameB_ok (by decide)) (fun x hx => by rw [List.mem_singleton.1 hx]; exact v0 [97] (by decide)), fun _ => rfl, by decide⟩
   ·exact ⟨by simp, l0 [118] (by decide), .call 0 [104] _ (PX.nameB_ok (by decide)) (fun x hx => by rw [List.mem_singleton.1 hx]; exact v0 [98] (by decide)), fun _ => rfl, by decide⟩
   ·refine ⟨by simp, l0 [121] (by decide), .call 0 [107] _ (PX.nameB_ok (by decide)) (fun x hx => ?_), (fun h => by cases h), ?_⟩
    ·have hx : x ∈ ([.mk 3 0 0 (name a'.val) false [], .mk 3 0 0 (name b'.val) false [], .mk 3 0 0 (name c'.val) false [], .mk 3 0 0 (name d'.val) false []] : List PX.Ex) := hx
     simp only [List.mem_cons, List.not_mem_nil, or_false] at hx
     rcases hx with rfl | rfl | rfl | rfl <;> exact v0 _ (name_ok _)
    ·show PX.deeps [PX.Ex.mk 3 0 0 (name a'.val) false [], PX.Ex.mk 3 0 0 (name b'.val) false [], PX.Ex.mk 3 0 0 (name c'.val) false [], PX.Ex.mk 3 0 0 (name d'.val) false []] + 1 ≤ 40
     simp only [PX.deeps, PX.deepE]
     omega
 ·refine ⟨PX.nameB_ok (m := [103]) (by decide), fun d hd => s1 d _ ⟨d0 [97] _ _ (by decide), rfl⟩ hd, fun d hd => s1 d _ ⟨d0 [99] _ _ (by decide), rfl⟩ hd, fun d hd => absurd hd (by simp [nG]), fun q hq => ?_⟩
  rw [List.mem_singleton.1 hq]
  exact e1 [99] [97] (by decide) (by decide)
 ·refine ⟨PX.nameB_ok (m := [104]) (by decide), fun d hd => s1 d _ ⟨d0 [97] _ _ (by decide), rfl⟩ hd, fun d hd => s1 d _ ⟨d0 [99] _ _ (by decide), rfl⟩ hd, fun d hd => absurd hd (by simp [nH]), fun q hq => ?_⟩
  rw [List.mem_singleton.1 hq]
  exact e1 [99] [97] (by decide) (by decide)
 ·refine ⟨PX.nameB_ok (m := [107]) (by decide), fun x hx => ?_, fun d hd => s1 d _ ⟨d0 [121] _ _ (by decide), rfl⟩ hd, fun d hd => absurd hd (by simp [nK]), fun q hq => ?_⟩
  ·have hx : x ∈ [dcl a.val 0, dcl b.val 1, dcl c.val 2, dcl d.val 3] := hx
   simp only [List.mem_cons, List.not_mem_nil, or_false] at hx
   rcases hx with rfl | rfl | rfl | rfl
   ·exact ⟨d0 [112, 48] _ _ (by decide), rfl⟩
   ·exact ⟨d0 [112, 49] _ _ (by decide), rfl⟩
   ·exact ⟨d0 [112, 50] _ _ (by decide), rfl⟩
   ·exact ⟨d0 [112, 51] _ _ (by decide), rfl⟩
  ·rw [List.mem_singleton.1 hq]
   exact ⟨by simp, l0 [121] (by decide), .num 0 1 (by decide) (by decide), (fun h => by cases h), by decide⟩
abbrev LS (ts gs : List Nat) : List Ct.N := [nF gs, nG, nH, nK ts].map Ct.rN0
abbrev NS (gs : List Nat) : Ct.N := Ct.rN0 (nF gs)
def vS (g : Nat) : Ct.E := ⟨3, 0, 0, ⟨(name g).toArray⟩, false, []⟩
def dS (m : ByteArray) (t : Nat) : Ct.D := ⟨m, 0, ⟨t == 1 || t == 3, t == 2 || t == 3⟩, ⟨#[]⟩, false⟩
theorem bad_bad (a e : Int) (f : Ct.F) (he : e ≠ 0) : Ct.bad a e (Ct.bad a e f) = Ct.bad a e f := by
 unfold Ct.bad
 by_cases h : (f.2 == 0) = true
 ·rw [if_pos h, if_neg (by simpa using he)]
 ·rw [if_neg h, if_neg h]
theorem o00 (ts gs : List Nat) (m : ByteArray) (f : Ct.F) : Ct.inOne (Ct.of 100 (LS ts gs) (NS gs)) (NS gs) (dS m 0) (vS 0) f = some f := by kernel_rfl
theorem o01 (ts gs : List Nat) (m : ByteArray) (f : Ct.F) : Ct.inOne (Ct.of 100 (LS ts gs) (NS gs)) (NS gs) (dS m 0) (vS 1) f = some (Ct.bad 0 7 f) := by kernel_rfl
theorem o02 (ts gs : List Nat) (m : ByteArray) (f : Ct.F) : Ct.inOne (Ct.of 100 (LS ts gs) (NS gs)) (NS gs) (dS m 0) (vS 2) f = some (Ct.bad 0 7 f) := by kernel_rfl
theorem o03 (ts gs : List Nat) (m : ByteArray) (f : Ct.F) : Ct.inOne (Ct.of 100 (LS ts gs) (NS gs)) (NS gs) (dS m 0) (vS 3) f = some (Ct.bad 0 7 (Ct.bad 0 7 f)) := by kernel_rfl
theorem o10 (ts gs : List Nat) (m : ByteArray) (f : Ct.F) : Ct.inOne (Ct.of 100 (LS ts gs) (NS gs)) (NS gs) (dS m 1) (vS 0) f = some (Ct.bad 0 7 f) := by kernel_rfl
theorem o11 (ts gs : List Nat) (m : ByteArray) (f : Ct.F) : Ct.inOne (Ct.of 100 (LS ts gs) (NS gs)) (NS gs) (dS m 1) (vS 1) f = some f := by kernel_rfl
theorem o12 (ts gs : List Nat) (m : ByteArray) (f : Ct.F) : Ct.inOne (Ct.of 100 (LS ts gs) (NS gs)) (NS gs) (dS m 1) (vS 2) f = some (Ct.bad 0 7 (Ct.bad 0 7 f)) := by kernel_rfl
theorem o13 (ts gs : List Nat) (m : ByteArray) (f : Ct.F) : Ct.inOne (Ct.of 100 (LS ts gs) (NS gs)) (NS gs) (dS m 1) (vS 3) f = some (Ct.bad 0 7 f) := by kernel_rfl
theorem o20 (ts gs : List Nat) (m : ByteArray) (f : Ct.F) : Ct.inOne (Ct.of 100 (LS ts gs) (NS gs)) (NS gs) (dS m 2) (vS 0) f = some (Ct.bad 0 7 f) := by kernel_rfl
theorem o21 (ts gs : List Nat) (m : ByteArray) (f : Ct.F) : Ct.inOne (Ct.of 100 (LS ts gs) (NS gs)) (NS gs) (dS m 2) (vS 1) f = some (Ct.bad 0 7 f) := by kernel_rfl
theorem o22 (ts gs : List Nat) (m : ByteArray) (f : Ct.F) : Ct.inOne (Ct.of 100 (LS ts gs) (NS gs)) (NS gs) (dS m 2) (vS 2) f = some f := by kernel_rfl
theorem o23 (ts gs : List Nat) (m : ByteArray) (f : Ct.F) : Ct.inOne (Ct.of 100 (LS ts gs) (NS gs)) (NS gs) (dS m 2) (vS 3) f = some (Ct.bad 0 7 f) := by kernel_rfl
theorem o30 (ts gs : List Nat) (m : ByteArray) (f : Ct.F) : Ct.inOne (Ct.of 100 (LS ts gs) (NS gs)) (NS gs) (dS m 3) (vS 0) f = some (Ct.bad 0 7 f) := by kernel_rfl
theorem o31 (ts gs : List Nat) (m : ByteArray) (f : Ct.F) : Ct.inOne (Ct.of 100 (LS ts gs) (NS gs)) (NS gs) (dS m 3) (vS 1) f = some (Ct.bad 0 7 f) := by kernel_rfl
theorem o32 (ts gs : List Nat) (m : ByteArray) (f : Ct.F) : Ct.inOne (Ct.of 100 (LS ts gs) (NS gs)) (NS gs) (dS m 3) (vS 2) f = some (Ct.bad 0 7 f) := by kernel_rfl
theorem o33 (ts gs : List Nat) (m : ByteArray) (f : Ct.F) : Ct.inOne (Ct.of 100 (LS ts gs) (NS gs)) (NS gs) (dS m 3) (vS 3) f = some f := by kernel_rfl
theorem one_ok (ts gs : List Nat) (m : ByteArray) (f : Ct.F) : ∀ t g : Fin 4, Ct.inOne (Ct.of 100 (LS ts gs) (NS gs)) (NS gs) (dS m t.val) (vS g.val) f = some (if t.val == g.val then f else Ct.bad 0 7 f) := by
 intro t g
 match t, g with
 | ⟨0, _⟩, ⟨0, _⟩ => exact (o00 ts gs m f)
 | ⟨0, _⟩, ⟨1, _⟩ => exact (o01 ts gs m f)
 | ⟨0, _⟩, ⟨2, _⟩ => exact (o02 ts gs m f)
 | ⟨0, _⟩, ⟨3, _⟩ => exact (o03 ts gs m f).trans (congrArg some (bad_bad 0 7 f (by decide)))
 | ⟨1, _⟩, ⟨0, _⟩ => exact (o10 ts gs m f)
 | ⟨1, _⟩, ⟨1, _⟩ => exact (o11 ts gs m f)
 | ⟨1, _⟩, ⟨2, _⟩ => exact (o12 ts gs m f).trans (congrArg some (bad_bad 0 7 f (by decide)))
 | ⟨1, _⟩, ⟨3, _⟩ => exact (o13 ts gs m f)
 | ⟨2, _⟩, ⟨0, _⟩ => exact (o20 ts gs m f)
 | ⟨2, _⟩, ⟨1, _⟩ => exact (o21 ts gs m f)
 | ⟨2, _⟩, ⟨2, _⟩ => exact (o22 ts gs m f)
 | ⟨2, _⟩, ⟨3, _⟩ => exact (o23 ts gs m f)
 | ⟨3, _⟩, ⟨0, _⟩ => exact (o30 ts gs m f)
 | ⟨3, _⟩, ⟨1, _⟩ => exact (o31 ts gs m f)
 | ⟨3, _⟩, ⟨2, _⟩ => exact (o32 ts gs m f)
 | ⟨3, _⟩, ⟨3, _⟩ => exact (o33 ts gs m f)
theorem ins_ok (a b c d a' b' c' d' : Fin 4) : ∃ f, Ct.insL (Ct.of 100 (LS (l4 a b c d) (l4 a' b' c' d')) (NS (l4 a' b' c' d'))) (NS (l4 a' b' c' d')) ((dcls (l4 a b c d) 0).map Ct.rD0) ((l4 a' b' c' d').map vS) (0, 0) = some f ∧ (f.2 == 0) = eqs (l4 a b c d) (l4 a' b' c' d') := by
 show ∃ f, ((Ct.inOne _ _ (dS ⟨#[112, 48]⟩ a.val) (vS a'.val) (0, 0)).bind fun f1 => (Ct.inOne _ _ (dS ⟨#[112, 49]⟩ b.val) (vS b'.val) f1).bind fun f1 => (Ct.inOne _ _ (dS ⟨#[112, 50]⟩ c.val) (vS c'.val) f1).bind fun f1 => (Ct.inOne _ _ (dS ⟨#[112, 51]⟩ d.val) (vS d'.val) f1).bind fun f1 => some f1) = some f ∧ _
 simp only [one_ok, Option.bind_some]
 refine ⟨_, rfl, ?_⟩
 show _ = ((a.val == a'.val) && ((b.val == b'.val) && ((c.val == c'.val) && ((d.val == d'.val) && true))))
 cases (a.val == a'.val) <;> cases (b.val == b'.val) <;> cases (c.val == c'.val) <;> cases (d.val == d'.val) <;> rfl
theorem node_f (t0 t1 t2 t3 g0 g1 g2 g3 : Nat) (f : Ct.F) (h : Ct.insL (Ct.of 100 (LS [t0, t1, t2, t3] [g0, g1, g2, g3]) (NS [g0, g1, g2, g3])) (NS [g0, g1, g2, g3]) ((dcls [t0, t1, t2, t3] 0).map Ct.rD0) ([g0, g1, g2, g3].map vS) (0, 0) = some f) :
  Ct.node 100 (LS [t0, t1, t2, t3] [g0, g1, g2, g3]) (NS [g0, g1, g2, g3]) true (0, 0) = some f := by
 have hv : Ct.varsB (NS [g0, g1, g2, g3]) (NS [g0, g1, g2, g3]).f4 (Ct.insB (NS [g0, g1, g2, g3]).f3 (Ct.insB (NS [g0, g1, g2, g3]).f2 (0, 0))) = (0, 0) := by kernel_rfl
 unfold Ct.node
 rw [if_neg (by show ¬ (1000000 < 2 + 1 + 2); decide), if_pos rfl, hv]
 have g1' : Ct.gives (Ct.of 100 (LS [t0, t1, t2, t3] [g0, g1, g2, g3]) (NS [g0, g1, g2, g3])) (LS [t0, t1, t2, t3] [g0, g1, g2, g3]) (NS [g0, g1, g2, g3]) (Ct.rQ0 ⟨[⟨[117], 0⟩], true, .mk 13 0 0 [103] false [.mk 3 0 0 [97] false []]⟩) (0, 0) = some ([(false, true)], (0, 0)) := by kernel_rfl
 have g2' : Ct.gives (Ct.of 100 (LS [t0, t1, t2, t3] [g0, g1, g2, g3]) (NS [g0, g1, g2, g3])) (LS [t0, t1, t2, t3] [g0, g1, g2, g3]) (NS [g0, g1, g2, g3]) (Ct.rQ0 ⟨[⟨[118], 0⟩], true, .mk 13 0 0 [104] false [.mk 3 0 0 [98] false []]⟩) (0, 0) = some ([(true, true)], (0, 0)) := by kernel_rfl
 have l1 : Ct.leftB (NS [g0, g1, g2, g3]) [(false, true)] [Ct.rL0 ⟨[117], 0⟩] (0, 0) = some (0, 0) := by kernel_rfl
 have l2 : Ct.leftB (NS [g0, g1, g2, g3]) [(true, true)] [Ct.rL0 ⟨[118], 0⟩] (0, 0) = some (0, 0) := by kernel_rfl
 have l3 : Ct.leftB (NS [g0, g1, g2, g3]) [(false, false)] [Ct.rL0 ⟨[121], 0⟩] f = some f := by kernel_rfl
 have hc : Ct.callee (LS [t0, t1, t2, t3] [g0, g1, g2, g3]) ⟨#[107]⟩ = Ct.rN0 (nK [t0, t1, t2, t3]) := by kernel_rfl
 have g3' : Ct.gives (Ct.of 100 (LS [t0, t1, t2, t3] [g0, g1, g2, g3]) (NS [g0, g1, g2, g3])) (LS [t0, t1, t2, t3] [g0, g1, g2, g3]) (NS [g0, g1, g2, g3]) (Ct.rQ0 ⟨[⟨[121], 0⟩], false, .mk 13 0 0 [107] false ([g0, g1, g2, g3].map fun g => .mk 3 0 0 (name g) false [])⟩) (0, 0) = some ([(false, false)], f) := by
  unfold Ct.gives
  refine (if_pos (show (Ct.rQ0 ⟨[⟨[121], 0⟩], false, .mk 13 0 0 [107] false ([g0, g1, g2, g3].map fun g => .mk 3 0 0 (name g) false [])⟩).f2.f0 = 13 from rfl)).trans ?_
  show (if 1000000 < (Ct.callee (LS [t0, t1, t2, t3] [g0, g1, g2, g3]) ⟨#[107]⟩).f3.length then none else (Ct.insL _ _ (Ct.callee (LS [t0, t1, t2, t3] [g0, g1, g2, g3]) ⟨#[107]⟩).f2 ([g0, g1, g2, g3].map vS) (0, 0)).bind fun f1 => some ((Ct.callee (LS [t0, t1, t2, t3] [g0, g1, g2, g3]) ⟨#[107]⟩).f3.map fun d => (d.f2.f0, false), if (false && _) = true then _ else f1)) = _
  rw [hc, if_neg (by show ¬ (1000000 < 1); decide), show (Ct.rN0 (nK [t0, t1, t2, t3])).f2 = (dcls [t0, t1, t2, t3] 0).map Ct.rD0 from rfl, h, Option.bind_some]
  rfl
 show ((Ct.gives _ _ _ (Ct.rQ0 ⟨[⟨[117], 0⟩], true, .mk 13 0 0 [103] false [.mk 3 0 0 [97] false []]⟩) (0, 0)).bind fun g => (Ct.leftB _ g.1 [Ct.rL0 ⟨[117], 0⟩] g.2).bind fun f1 => ((Ct.gives _ _ _ (Ct.rQ0 ⟨[⟨[118], 0⟩], true, .mk 13 0 0 [104] false [.mk 3 0 0 [98] false []]⟩) f1).bind fun g => (Ct.leftB _ g.1 [Ct.rL0 ⟨[118], 0⟩] g.2).bind fun f1 =>
  ((Ct.gives _ _ _ (Ct.rQ0 ⟨[⟨[121], 0⟩], false, .mk 13 0 0 [107] false ([g0, g1, g2, g3].map fun g => .mk 3 0 0 (name g) false [])⟩) f1).bind fun g => (Ct.leftB _ g.1 [Ct.rL0 ⟨[121], 0⟩] g.2).bind fun f1 => some f1))) = some f
 rw [g1', Option.bind_some, l1, Option.bind_some, g2', Option.bind_some, l2, Option.bind_some, g3', Option.bind_some, l3, Option.bind_some]
theorem node_rest (t0 t1 t2 t3 g0 g1 g2 g3 : Nat) (f : Ct.F) : Ct.nodesB 100 (LS [t0, t1, t2, t3] [g0, g1, g2, g3]) [Ct.rN0 nG, Ct.rN0 nH, Ct.rN0 (nK [t0, t1, t2, t3])] false f = some f := by kernel_rfl
theorem check_ok (a b c d a' b' c' d' : Fin 4) : ∃ f, Ct.check 100 (LS (l4 a b c d) (l4 a' b' c' d')) = some f ∧ (f.2 == 0) = eqs (l4 a b c d) (l4 a' b' c' d') := by
 obtain ⟨f, h1, h2⟩ := ins_ok a b c d a' b' c' d'
 refine ⟨f, ?_, h2⟩
 show ((Ct.node 100 _ (NS (l4 a' b' c' d')) true (0, 0)).bind fun f1 => Ct.nodesB 100 _ [Ct.rN0 nG, Ct.rN0 nH, Ct.rN0 (nK (l4 a b c d))] false f1) = some f
 rw [node_f a.val b.val c.val d.val a'.val b'.val c'.val d'.val f h1, Option.bind_some]
 exact node_rest a.val b.val c.val d.val a'.val b'.val c'.val d'.val f
theorem text_len (a b c d a' b' c' d' : Fin 4) : (text (l4 a b c d) (l4 a' b' c' d')).length ≤ 4000 := by
 have h1 := ins_len (l4 a b c d) 0
 have h2 := args_len (l4 a' b' c' d') 0
 unfold text
 simp only [List.length_append, List.length_cons, List.length_nil] at h1 h2 ⊢
 omega
theorem plain (a b c d a' b' c' d' : Fin 4) : ∃ ns r, parse_Program.f (ba (text (l4 a b c d) (l4 a' b' c' d'))) = some (ns, 0, 0) ∧ types_Check.f ns = some r ∧ (r.1 == 0 && r.2 == 0) = eqs (l4 a b c d) (l4 a' b' c' d') := by
 obtain ⟨f, hf, he⟩ := check_ok a b c d a' b' c' d'
 obtain ⟨toks, l', rest, r, h1, h2, h3, h4⟩ := Ct.canon (text_len a b c d a' b' c' d') (text_lx a b c d a' b' c' d') (by simp) (wfs a b c d a' b' c' d') hf
 refine ⟨l'.map (Px.realN toks), r, ?_, h3, h4.trans he⟩
 unfold parse_Program.f
 rw [if_pos (by rw [ba_size]; exact text_len a b c d a' b' c' d'), show (ba (text (l4 a b c d) (l4 a' b' c' d'))).data.toList = text (l4 a b c d) (l4 a' b' c' d') from by simp [ba], h1]
 dsimp only
 rw [h2]
end Go.Proofs.YtjafllnbgfcchaaDoor.Tc
end
section
/- The law TypesCalls: arrays of four ints opened and shut; the walk and the plain law together. -/
namespace Go.Proofs.YtjafllnbgfcchaaDoor.Tc
set_option linter.unusedVariables false
set_option linter.unusedSimpArgs false
open Go Go.RowKit Go.WideShapes Go.ChangeShapes
section
variable {H : Type} {enc : TypeId × Value → H} {P : Program} {w : World} {base : Nat} {spare : Nat → Bool} {held : Bool}
theorem arr4 {α : Type} {cs : Array α} (h : cs.size = 4) : ∃ c0 c1 c2 c3, cs = #[c0, c1, c2, c3] := by
 obtain ⟨l⟩ := cs
 match l, h with
 | [c0, c1, c2, c3], _ => exact ⟨c0, c1, c2, c3, rfl⟩
theorem open_arr4 {r : Reach} {b0 : Nat} {t e : TypeId} {v : Value} {d : DataW H} {p : List MemPlace} (hs : P.underlying t = some (.array 4 e)) (he : P.underlying e = some (.int .i64)) (hC : P.cellsOf t = 4) (hce : P.cellsOf e = 1)
  (hv : Value.okWide P w r b0 t v) (h : DataW.Trod enc P w base spare held t v d p) :
  ∃ n0 n1 n2 n3 : Int, v = .agg #[.int .i64 n0, .int .i64 n1, .int .i64 n2, .int .i64 n3] ∧ d = .agg [.lit (.int .i64 n0), .lit (.int .i64 n1), .lit (.int .i64 n2), .lit (.int .i64 n3)] ∧ p = [] ∧
   (Lit.int .i64 n0).wf = true ∧ (Lit.int .i64 n1).wf = true ∧ (Lit.int .i64 n2).wf = true ∧ (Lit.int .i64 n3).wf = true := by
 have hv2 : ∃ cs, v = .agg cs ∧ cs.size = P.cellsOf t := by
  simp only [Value.okWide, hs] at hv
  obtain ⟨cs, h1, h2, _⟩ := hv
  exact ⟨cs, h1, h2⟩
 obtain ⟨cs, rfl, hsz⟩ := hv2
 obtain ⟨c0, c1, c2, c3, rfl⟩ := arr4 (hsz.trans hC)
 obtain ⟨fuel, hf⟩ := h
 obtain ⟨y0, y1, y2, y3, n, hx, h0, h1, h2, h3⟩ := trod_array4 hs hce (by simpa [Value.cells] using hf)
 obtain ⟨n0, e0, rfl, s0⟩ := Go.DataW.trod_int he h0
 obtain ⟨n1, e1, rfl, s1⟩ := Go.DataW.trod_int he h1
 obtain ⟨n2, e2, rfl, s2⟩ := Go.DataW.trod_int he h2
 obtain ⟨n3, e3, rfl, s3⟩ := Go.DataW.trod_int he h3
 simp at e0 e1 e2 e3
 subst e0 e1 e2 e3
 simp only [Prod.mk.injEq] at hx
 exact ⟨n0, n1, n2, n3, rfl, hx.1, by simpa using hx.2, s0, s1, s2, s3⟩
theorem shut_arr4 {t e : TypeId} {n0 n1 n2 n3 : Int} (hs : P.underlying t = some (.array 4 e)) (he : P.underlying e = some (.int .i64)) (hC : P.cellsOf t = 4) (hce : P.cellsOf e = 1)
  (s0 : (Lit.int .i64 n0).wf = true) (s1 : (Lit.int .i64 n1).wf = true) (s2 : (Lit.int .i64 n2).wf = true) (s3 : (Lit.int .i64 n3).wf = true) :
  DataW.Trod enc P w base spare held t (.agg #[.int .i64 n0, .int .i64 n1, .int .i64 n2, .int .i64 n3]) (.agg [.lit (.int .i64 n0), .lit (.int .i64 n1), .lit (.int .i64 n2), .lit (.int .i64 n3)]) [] :=
 ⟨2, by simp [DataW.trod, hs, he, hC, hce, s0, s1, s2, s3, List.range, List.range.loop, Value.cells]⟩
end
open Go.Proofs.YtjafllnbgfcchaaDoor.XTB
theorem awake_ok : girandolelaw05_awake.f = some true := by decide +kernel
theorem law_walk (t0 t1 t2 t3 g0 g1 g2 g3 : Int) (w : World) (hT : XTB.Tabs w) :
  Calls Tryd.prog 9 #[.agg #[.int .i64 t0, .int .i64 t1, .int .i64 t2, .int .i64 t3], .agg #[.int .i64 g0, .int .i64 g1, .int .i64 g2, .int .i64 g3]] w fun e w' => e = .returned (.bool true) ∧ Below w.heap.size w w' := by
 obtain ⟨ns, r, h1, h2, h3⟩ := plain ⟨T t0, T_lt t0⟩ ⟨T t1, T_lt t1⟩ ⟨T t2, T_lt t2⟩ ⟨T t3, T_lt t3⟩ ⟨T g0, T_lt g0⟩ ⟨T g1, T_lt g1⟩ ⟨T g2, T_lt g2⟩ ⟨T g3, T_lt g3⟩
 refine calls_walk t0 t1 t2 t3 g0 g1 g2 g3 w hT awake_ok ns r ⟨?_, h2, h3⟩
 refine Eq.trans (congrArg parse_Program.f ?_) h1
 show (((ba _ ++ ba (argsB (ts g0 g1 g2 g3) 0)) ++ ba _) ++ ba (insB (ts t0 t1 t2 t3) 0)) ++ ba _ = ba _
 rw [ba_append, ba_append, ba_append, ba_append]
 unfold text
 simp only [List.append_assoc]
 rfl
end Go.Proofs.YtjafllnbgfcchaaDoor.Tc
end
