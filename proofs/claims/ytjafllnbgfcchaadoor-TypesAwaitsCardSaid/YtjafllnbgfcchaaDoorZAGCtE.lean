/- Joined of: CtE, PBase, PLx, PSeg, CtR, AwDef. -/
import Derived.Test.YtjafllnbgfcchaaDoorZAGCtP
import Derived.Test.YtjafllnbgfcchaaDoorZAPurP
import Derived.Test.YtjafllnbgfcchaaDoorZALexPure
import Derived.Test.YtjafllnbgfcchaaDoorZAGPCaught
import Derived.Test.YtjafllnbgfcchaaDoorZAPNdL
import Derived.Test.YtjafllnbgfcchaaDoorZAPExprT
section
/- The checker of types does not hang on places: which fault it tells is the same of nodes without them. -/
namespace Go.Proofs.YtjafllnbgfcchaaDoor.Ct
set_option linter.unusedVariables false
set_option linter.unusedSimpArgs false
open Go Go.RowKit Go.Proofs.YtjafllnbgfcchaaDoor.XK
mutual
def eE : E → E
 | ⟨k, _, n, m, o, l⟩ => ⟨k, 0, n, m, o, eEs l⟩
def eEs : List E → List E
 | [] => []
 | e :: r => eE e :: eEs r
end
def eD (d : D) : D := ⟨d.f0, 0, d.f2, d.f3, d.f4⟩
def eL (x : S47) : S47 := ⟨x.f0, 0⟩
def eQ (q : Q) : Q := ⟨q.f0.map eL, q.f1, eE q.f2⟩
def eN (n : N) : N := ⟨n.f0, 0, n.f2.map eD, n.f3.map eD, n.f4.map eD, n.f5.map eQ⟩
theorem eE_f0 (e : E) : (eE e).f0 = e.f0 := by cases e; rfl
theorem eE_f2 (e : E) : (eE e).f2 = e.f2 := by cases e; rfl
theorem eE_f3 (e : E) : (eE e).f3 = e.f3 := by cases e; rfl
theorem eE_f5 (e : E) : (eE e).f5 = eEs e.f5 := by cases e; rfl
theorem eEs_len (l : List E) : (eEs l).length = l.length := by
 induction l with
 | nil => rfl
 | cons e r ih => rw [eEs, List.length_cons, ih, List.length_cons]
theorem find_e (m : ByteArray) : ∀ l, find m (l.map eD) = (find m l).map eD
 | [] => rfl
 | d :: r => by
  rw [List.map_cons, find, find, find_e m r]
  show (if Fnd.sameB d.f0 m = true then _ else _) = _
  split <;> rfl
theorem named_e (n : N) (m : ByteArray) : named (eN n) m = (named n m).map eD := by
 unfold named
 rw [← find_e, List.map_append, List.map_append]
 rfl
theorem namedD_e (n : N) (m : ByteArray) : namedD (eN n) m = eD (namedD n m) := by
 unfold namedD
 rw [named_e]
 cases named n m <;> rfl
theorem findN_e (m : ByteArray) : ∀ l, Fnd.findN (l.map eN) m = (Fnd.findN l m).map eN
 | [] => rfl
 | d :: r => by
  rw [List.map_cons, Fnd.findN, Fnd.findN, findN_e m r]
  show (if Fnd.sameB d.f0 m = true then _ else _) = _
  split <;> rfl
theorem callee_e (l : List N) (m : ByteArray) : callee (l.map eN) m = eN (callee l m) := by
 unfold callee
 rw [findN_e]
 cases Fnd.findN l m <;> rfl
inductive OR {α : Type} (R : α → α → Prop) : Option α → Option α → Prop
 | none : OR R none none
 | some (a b : α) : R a b → OR R (some a) (some b)
theorem OR.bind {α β : Type} {R : α → α → Prop} {S : β → β → Prop} {a b : Option α} {g g' : α → Option β} (h : OR R a b) (hg : ∀ x y, R x y → OR S (g x) (g' y)) : OR S (a.bind g) (b.bind g') := by
 cases h with
 | none => exact .none
 | some x y h => exact hg x y h
theorem OR.ite {α : Type} {R : α → α → Prop} {c : Prop} [Decidable c] {a b a' b' : Option α} (h1 : OR R a a') (h2 : OR R b b') : OR R (if c then a else b) (if c then a' else b') := by
 by_cases h : c
 ·rw [if_pos h, if_pos h]; exact h1
 ·rw [if_neg h, if_neg h]; exact h2
def Rf (f f' : F) : Prop := f.2 = f'.2 ∧ (f.2 = 0 → f.1 = 0)
def Rq (x y : Bool × F) : Prop := x.1 = y.1 ∧ Rf x.2 y.2
theorem bad_r {a a' e : Int} {f f' : F} (h : Rf f f') (he : e ≠ 0 := by decide) : Rf (bad a e f) (bad a' e f') := by
 unfold bad
 rw [← h.1]
 split
 ·exact ⟨rfl, fun h => absurd h he⟩
 ·exact h
theorem ite_r {c : Prop} [Decidable c] {f f' g g' : F} (h : Rf f f') (h2 : Rf g g') : Rf (if c then f else g) (if c then f' else g') := by
 split
 ·exact h
 ·exact h2
theorem plain_r (n : N) (m : ByteArray) (a a' : Int) {f f' : F} (h : Rf f f') : Rq (plain n m a f) (plain (eN n) m a' f') := by
 unfold plain
 rw [namedD_e]
 exact ⟨rfl, ite_r (bad_r h) h⟩
def OfR (o o' : Of) : Prop := ∀ e f f', Rf f f' → OR Rq (o e f) (o' (eE e) f')
section
variable {o o' : Of} (ho : OfR o o')
include ho
theorem want_r (e : E) (t : Bool) {f f' : F} (h : Rf f f') : OR Rf (want o e t f) (want o' (eE e) t f') :=
 OR.bind (ho e f f' h) fun x y hxy => .some _ _ (by
  rw [hxy.1]
  exact ite_r (bad_r hxy.2) hxy.2)
theorem same_r (a b : E) {f f' : F} (h : Rf f f') : OR Rq (same o a b f) (same o' (eE a) (eE b) f') :=
 OR.bind (ho a f f' h) fun x y hxy => by
  rw [hxy.1]
  exact OR.bind (want_r ho b _ hxy.2) fun f1 f2 h1 => .some _ _ ⟨rfl, h1⟩
theorem both_r (a b : E) (t : Bool) {f f' : F} (h : Rf f f') : OR Rf (both o a b t f) (both o' (eE a) (eE b) t f') :=
 OR.bind (want_r ho a t h) fun f1 f2 h1 => want_r ho b t h1
theorem binary_r (e : E) {f f' : F} (h : Rf f f') : OR Rq (binary o e f) (binary o' (eE e) f') := by
 unfold binary
 rw [eE_f5, eE_f3]
 match e.f5 with
 | [] => exact .none
 | [a] => exact .none
 | a :: b :: r =>
  show OR Rq (if _ then _ else _) (if _ then _ else _)
  split
  ·exact OR.bind (both_r ho a b true h) fun f1 f2 h1 => .some _ _ ⟨rfl, h1⟩
  ·split
   ·exact OR.bind (same_r ho a b h) fun x y h1 => .some _ _ ⟨rfl, h1.2⟩
   ·refine OR.bind (both_r ho a b false h) fun f1 f2 h1 => ?_
    split
    ·rw [eE_f0, eE_f2]
     exact .some _ _ ⟨rfl, ite_r (bad_r h1) h1⟩
    ·exact .some _ _ ⟨rfl, h1⟩
theorem inOne_r (n : N) (d : D) (k : E) {f f' : F} (h : Rf f f') : OR Rf (inOne o n d k f) (inOne o' (eN n) (eD d) (eE k) f') := by
 unfold inOne
 show OR Rf (if d.f2.f1 then _ else _) (if d.f2.f1 then _ else _)
 split
 ·refine .some _ _ ?_
  rw [eE_f3, named_e, eE_f0]
  cases named n k.f3 with
  | none => exact bad_r h
  | some x => exact ite_r (bad_r h) h
 ·exact want_r ho k _ h
theorem insL_r (n : N) : ∀ (l : List D) (ks : List E) {f f' : F}, Rf f f' → OR Rf (insL o n l ks f) (insL o' (eN n) (l.map eD) (eEs ks) f')
 | [], _, f, f', h => .some _ _ h
 | _ :: _, [], _, _, _ => .none
 | d :: r, k :: ks, f, f', h => OR.bind (inOne_r ho n d k h) fun f1 f2 h1 => insL_r n r ks h1
theorem call_r (l : List N) (n : N) (e : E) {f f' : F} (h : Rf f f') : OR Rf (call o l n e f) (call o' (l.map eN) (eN n) (eE e) f') := by
 unfold call
 rw [eE_f3, callee_e, eE_f5]
 exact insL_r ho n _ _ h
theorem wants_r (t : Bool) : ∀ (ks : List E) {f f' : F}, Rf f f' → OR Rf (wants o t ks f) (wants o' t (eEs ks) f')
 | [], _, _, h => .some _ _ h
 | k :: r, _, _, h => OR.bind (want_r ho k t h) fun f1 f2 h1 => wants_r t r h1
theorem await_r (n : N) (e : E) {f f' : F} (h : Rf f f') : OR Rq (await o n e f) (await o' (eN n) (eE e) f') := by
 unfold await
 rw [eE_f3, namedD_e, eE_f5, eEs_len]
 exact OR.bind (wants_r ho _ _ (ite_r (bad_r (ite_r h (bad_r h))) (ite_r h (bad_r h)))) fun f1 f2 h1 => .some _ _ ⟨rfl, h1⟩
theorem ofK_r (l : List N) (n : N) : OfR (ofK o l n) (ofK o' (l.map eN) (eN n)) := by
 intro e f f' h
 unfold ofK
 rw [eE_f0, eE_f5, eE_f3]
 refine OR.ite (.some _ _ ⟨rfl, h⟩) ?_
 refine OR.ite (.some _ _ ⟨rfl, h⟩) ?_
 refine OR.ite (.some _ _ (plain_r n _ _ _ h)) ?_
 refine OR.ite ?_ ?_
 ·match e.f5 with
  | [] => exact .none
  | a :: r => exact OR.bind (want_r ho a _ h) fun f1 f2 h1 => .some _ _ ⟨rfl, h1⟩
 refine OR.ite ?_ ?_
 ·match e.f5 with
  | [] => exact .none
  | a :: r => exact OR.bind (want_r ho a _ h) fun f1 f2 h1 => .some _ _ ⟨rfl, h1⟩
 refine OR.ite (binary_r ho e h) ?_
 refine OR.ite ?_ ?_
 ·match e.f5 with
  | [] => exact .none
  | [a] => exact .none
  | [a, b] => exact .none
  | a :: b :: c :: r => exact OR.bind (want_r ho a _ h) fun f1 f2 h1 => same_r ho b c h1
 refine OR.ite ?_ ?_
 ·match e.f5 with
  | [] => exact .none
  | [a] => exact .none
  | a :: b :: r => exact same_r ho a b h
 refine OR.ite ?_ ?_
 ·match e.f5 with
  | [] => exact .none
  | a :: r => exact ho a _ _ h
 refine OR.ite ?_ ?_
 ·have hp := plain_r n e.f3 e.f1 (eE e).f1 h
  have h1 : Rf (if (plain n e.f3 e.f1 f).1 then (plain n e.f3 e.f1 f).2 else bad e.f1 7 (plain n e.f3 e.f1 f).2) (if (plain (eN n) e.f3 (eE e).f1 f').1 then (plain (eN n) e.f3 (eE e).f1 f').2 else bad (eE e).f1 7 (plain (eN n) e.f3 (eE e).f1 f').2) := by
   rw [← hp.1]
   exact ite_r hp.2 (bad_r hp.2)
  refine OR.ite ?_ ?_
  ·match e.f5 with
   | [] => exact .none
   | a :: r => exact ho a _ _ h1
  ·match e.f5 with
   | [] => exact .none
   | [a] => exact .none
   | a :: b :: r => exact same_r ho a b h1
 refine OR.ite (await_r ho n e h) ?_
 refine OR.bind (call_r ho l n e h) fun f1 f2 h1 => ?_
 rw [callee_e]
 show OR Rq (match (callee l e.f3).f3 with | d :: _ => _ | [] => _) (match (callee l e.f3).f3.map eD with | d :: _ => _ | [] => _)
 cases (callee l e.f3).f3 with
 | nil => exact .none
 | cons d r => exact .some _ _ ⟨rfl, h1⟩
end
theorem of_r (l : List N) (n : N) : ∀ k, OfR (of k l n) (of k (l.map eN) (eN n))
 | 0 => fun _ _ _ _ => .none
 | k + 1 => ofK_r (of_r l n k) l n
def Rg (x y : List (Bool × Bool) × F) : Prop := x.1 = y.1 ∧ Rf x.2 y.2
theorem gives_r {o o' : Of} (ho : OfR o o') (l : List N) (n : N) (q : Q) {f f' : F} (h : Rf f f') : OR Rg (gives o l n q f) (gives o' (l.map eN) (eN n) (eQ q) f') := by
 unfold gives
 show OR Rg (if q.f2.f0 = 13 then _ else _) (if (eE q.f2).f0 = 13 then _ else _)
 rw [eE_f0]
 split
 ·show OR Rg (if 1000000 < (callee l q.f2.f3).f3.length then _ else _) (if 1000000 < (callee (l.map eN) (eE q.f2).f3).f3.length then _ else _)
  rw [eE_f3, callee_e, show (eN (callee l q.f2.f3)).f3 = (callee l q.f2.f3).f3.map eD from rfl, List.length_map]
  split
  ·exact .none
  ·refine OR.bind (call_r ho l n q.f2 h) fun f1 f2 h1 => .some _ _ ⟨?_, ?_⟩
   ·dsimp only
    rw [show (eQ q).f2.f3 = (eE q.f2).f3 from rfl, eE_f3, callee_e, show (eN (callee l q.f2.f3)).f3 = (callee l q.f2.f3).f3.map eD from rfl, List.map_map]
    rfl
   ·dsimp only
    rw [show (eQ q).f2.f3 = (eE q.f2).f3 from rfl, eE_f3, callee_e, show (eN (callee l q.f2.f3)).f3 = (callee l q.f2.f3).f3.map eD from rfl, show (eQ q).f1 = q.f1 from rfl, List.length_map, List.length_map, List.length_map]
    exact ite_r (bad_r h1) h1
 ·exact OR.bind (ho q.f2 f f' h) fun x y hxy => .some _ _ ⟨by rw [hxy.1], hxy.2⟩
theorem insB_r : ∀ (l : List D) {f f' : F}, Rf f f' → Rf (insB l f) (insB (l.map eD) f')
 | [], _, _, h => h
 | d :: r, _, _, h => insB_r r (ite_r (bad_r h) h)
theorem varsB_r (n : N) : ∀ (l : List D) {f f' : F}, Rf f f' → Rf (varsB n l f) (varsB (eN n) (l.map eD) f')
 | [], _, _, h => h
 | d :: r, _, _, h => by
  rw [List.map_cons, varsB, varsB]
  refine varsB_r n r ?_
  rw [show (eD d).f3 = d.f3 from rfl, namedD_e]
  exact ite_r h (ite_r (bad_r h) h)
theorem leftB_r (n : N) : ∀ (ts : List (Bool × Bool)) (l : List S47) {f f' : F}, Rf f f' → OR Rf (leftB n ts l f) (leftB (eN n) ts (l.map eL) f')
 | [], _, _, _, h => .some _ _ h
 | _ :: _, [], _, _, _ => .none
 | t :: r, x :: xs, _, _, h => by
  rw [List.map_cons, leftB, leftB]
  refine leftB_r n r xs ?_
  rw [show (eL x).f0 = x.f0 from rfl, namedD_e]
  exact ite_r h (bad_r h)
theorem eqsB_r {o o' : Of} (ho : OfR o o') (l : List N) (n : N) : ∀ (qs : List Q) {f f' : F}, Rf f f' → OR Rf (eqsB o l n qs f) (eqsB o' (l.map eN) (eN n) (qs.map eQ) f')
 | [], _, _, h => .some _ _ h
 | q :: r, _, _, h => OR.bind (gives_r ho l n q h) fun x y hxy => by
  rw [hxy.1]
  exact OR.bind (leftB_r n y.1 q.f0 hxy.2) fun f1 f2 h1 => eqsB_r ho l n r h1
theorem node_r (k : Nat) (l : List N) (n : N) (first : Bool) {f f' : F} (h : Rf f f') : OR Rf (node k l n first f) (node k (l.map eN) (eN n) first f') := by
 unfold node
 rw [show (eN n).f2 = n.f2.map eD from rfl, show (eN n).f3 = n.f3.map eD from rfl, show (eN n).f4 = n.f4.map eD from rfl, show (eN n).f5 = n.f5.map eQ from rfl, List.length_map, List.length_map, List.length_map]
 split
 ·exact .none
 ·exact eqsB_r (of_r l n k) l n n.f5 (varsB_r n _ (insB_r _ (ite_r (insB_r _ h) h)))
theorem nodesB_r (k : Nat) (l : List N) : ∀ (ns : List N) (first : Bool) {f f' : F}, Rf f f' → OR Rf (nodesB k l ns first f) (nodesB k (l.map eN) (ns.map eN) first f')
 | [], _, _, _, h => .some _ _ h
 | n :: r, first, _, _, h => OR.bind (node_r k l n first h) fun f1 f2 h1 => nodesB_r k l r false h1
theorem check_r (k : Nat) (l : List N) : OR Rf (check k l) (check k (l.map eN)) := nodesB_r k l l true ⟨rfl, fun _ => rfl⟩
theorem check_told {k : Nat} {l : List N} {f : F} (h : check k (l.map eN) = some f) : ∃ r : F, check k l = some r ∧ r.2 = f.2 ∧ (r.2 = 0 → r.1 = 0) := by
 have h1 := check_r k l
 rw [h] at h1
 cases hc : check k l with
 | none => rw [hc] at h1; cases h1
 | some r =>
  rw [hc] at h1
  cases h1 with
  | some _ _ h2 => exact ⟨r, rfl, h2.1, h2.2⟩
end Go.Proofs.YtjafllnbgfcchaaDoor.Ct
end
section
/- Canonical tokens, and texts of numbers. -/
namespace Go.Proofs.YtjafllnbgfcchaaDoor
set_option linter.unusedVariables false
set_option linter.unusedSimpArgs false
namespace PX
def kwT (w : B) : T := ⟨3, w, 0⟩
def sgT (w : B) : T := ⟨4, w, 0⟩
def nmT (w : B) : T := ⟨1, w, 0⟩
def digs : Nat → Nat → B
 | 0, _ => []
 | k + 1, n => if n < 10 then [48 + n.toUInt8] else digs k (n / 10) ++ [48 + (n % 10).toUInt8]
def digits (n : Nat) : B := digs 20 n
def numT (n : Int) : List T := if n < 0 then [sgT [45], ⟨2, digits n.natAbs, n.natAbs⟩] else [⟨2, digits n.natAbs, n.natAbs⟩]
def par (x : List T) : List T := sgT [40] :: (x ++ [sgT [41]])
def commas : List (List T) → List T
 | [] => []
 | [x] => x
 | x :: r => x ++ sgT [44] :: commas r
def NameOk (m : B) : Prop := (∃ c r, m = c :: r ∧ LX.letter c = true) ∧ m.all LX.word = true ∧ LX.words.contains m = false ∧ m.length ≤ 30
def parB (x : B) : B := 40 :: (x ++ [41])
def commasB : List B → B
 | [] => []
 | [x] => x
 | x :: r => x ++ 44 :: 32 :: commasB r
def numB (n : Int) : B := if n < 0 then 45 :: digits n.natAbs else digits n.natAbs
end PX
end Go.Proofs.YtjafllnbgfcchaaDoor
end
section
/- Texts that are parted into tokens. -/
namespace Go.Proofs.YtjafllnbgfcchaaDoor
set_option linter.unusedVariables false
set_option linter.unusedSimpArgs false
namespace PX
def Lexes (s : B) (ts : List T) : Prop := ∀ total k, s.length < k → ∃ r, LX.go total k s = .ok r ∧ r.map tkp = ts
def Sp (s : B) : Prop := ∀ c r, s = c :: r → LX.word c = false
theorem Sp.nil : Sp [] := fun c r h => by cases h
theorem Sp.cons {c : UInt8} (r : B) (h : LX.word c = false) : Sp (c :: r) := fun c' r' e => by
 injection e with e1 e2
 subst e1
 exact h
theorem Lexes.nil : Lexes [] [endT] := fun total k hk => by
 obtain ⟨j, rfl⟩ : ∃ j, k = j + 1 := ⟨k - 1, by simp at hk; omega⟩
 exact ⟨_, rfl, rfl⟩
theorem Lexes.blank {s : B} {ts : List T} (c : UInt8) (hc : LX.blank c = true) (h : Lexes s ts) : Lexes (c :: s) ts := fun total k hk => by
 obtain ⟨j, rfl⟩ : ∃ j, k = j + 1 := ⟨k - 1, by simp at hk; omega⟩
 obtain ⟨r, h1, h2⟩ := h total (j + 1) (by simp at hk; omega)
 refine ⟨r, ?_, h2⟩
 rw [LX.go] at h1 ⊢
 rw [LX.skip_blank c s hc]
 exact h1
theorem Lexes.tok {t s : B} {ts : List T} {kind n : Nat} (ht : t ≠ []) (hs : LX.skip false (t ++ s) = t ++ s) (h1 : LX.one (t ++ s) = .ok (kind, t, n)) (h : Lexes s ts) : Lexes (t ++ s) (⟨kind, t, n⟩ :: ts) := fun total k hk => by
 obtain ⟨j, rfl⟩ : ∃ j, k = j + 1 := ⟨k - 1, by rw [List.length_append] at hk; omega⟩
 have hl : 1 ≤ t.length := by cases t with
  | nil => exact absurd rfl ht
  | cons _ _ => simp
 obtain ⟨r, h2, h3⟩ := h total j (by rw [List.length_append] at hk; omega)
 have he : (t ++ s).isEmpty = false := by cases t with
  | nil => exact absurd rfl ht
  | cons _ _ => rfl
 refine ⟨⟨kind, total - (t ++ s).length, t, n⟩ :: r, ?_, by rw [List.map_cons, h3]; rfl⟩
 rw [LX.go, hs]
 simp only [he, h1, List.drop_left, h2, Bool.false_eq_true, if_false]
theorem takeWhile_all (p : UInt8 → Bool) : ∀ (t s : B), t.all p = true → (∀ c r, s = c :: r → p c = false) → (t ++ s).takeWhile p = t
 | [], s, _, hs => by
  cases s with
  | nil => rfl
  | cons c r => rw [List.nil_append, List.takeWhile_cons, hs c r rfl]; rfl
 | a :: t, s, h, hs => by
  rw [List.all_cons, Bool.and_eq_true] at h
  rw [List.cons_append, List.takeWhile_cons, h.1, if_pos rfl, takeWhile_all p t s h.2 hs]
theorem letter_not {c : UInt8} (h : LX.letter c = true) : LX.blank c = false ∧ c ≠ 45 := by
 constructor
 ·cases hb : LX.blank c with
  | false => rfl
  | true =>
   unfold LX.blank at hb
   simp only [Bool.or_eq_true, beq_iff_eq] at hb
   rcases hb with (rfl | rfl) | rfl <;> exact absurd h (by decide)
 ·rintro rfl
  exact absurd h (by decide)
theorem skip_id {c : UInt8} (r : B) (hb : LX.blank c = false) (h : c ≠ 45) : LX.skip false (c :: r) = c :: r :=
 LX.skip_other _ (fun c' r' e => by
  injection e with e1
  subst e1
  exact hb) (by
  cases r with
  | nil => simp [List.isPrefixOf]
  | cons d r =>
   have : (45 == c) = false := beq_eq_false_iff_ne.2 fun e => h e.symm
   simp [List.isPrefixOf, this])
theorem Lexes.name {m s : B} {ts : List T} (hm : NameOk m) (hs : Sp s) (h : Lexes s ts) : Lexes (m ++ s) (nmT m :: ts) := by
 obtain ⟨⟨c, r, rfl, hc⟩, ha, hw, hl⟩ := hm
 have hn := letter_not hc
 refine Lexes.tok (by simp) (skip_id _ hn.1 hn.2) ?_ h
 show LX.one (c :: (r ++ s)) = _
 unfold LX.one
 simp only [hc, if_true]
 rw [show c :: (r ++ s) = (c :: r) ++ s from rfl, takeWhile_all LX.word (c :: r) s ha hs]
 simp only [hw, Bool.false_eq_true, if_false]
 rw [if_neg (by omega)]
theorem Lexes.kw {m s : B} {ts : List T} (hm : m ∈ LX.words) (hs : Sp s) (h : Lexes s ts) : Lexes (m ++ s) (kwT m :: ts) := by
 have key : ∀ x ∈ LX.words, x.all LX.word = true ∧ (match x with | [] => false | c :: _ => LX.letter c) = true := by decide
 obtain ⟨ha, hc⟩ := key m hm
 cases m with
 | nil => cases hc
 | cons c r =>
  have hc : LX.letter c = true := hc
  have hn := letter_not hc
  refine Lexes.tok (by simp) (skip_id _ hn.1 hn.2) ?_ h
  show LX.one (c :: (r ++ s)) = _
  unfold LX.one
  simp only [hc, if_true]
  rw [show c :: (r ++ s) = (c :: r) ++ s from rfl, takeWhile_all LX.word (c :: r) s ha hs]
  rw [List.contains_iff_mem.2 hm]
  rfl
theorem numGo_app : ∀ (x y : B) (a : Nat), LX.numGo a (x ++ y) = (LX.numGo a x).bind fun b => LX.numGo b y
 | [], y, a => rfl
 | c :: x, y, a => by
  rw [List.cons_append, LX.numGo, LX.numGo]
  split
  ·rfl
  ·exact numGo_app x y _
theorem dig_nat (d : Nat) (h : d < 10) : (48 + d.toUInt8).toNat = 48 + d ∧ LX.digit (48 + d.toUInt8) = true ∧ (48 + d.toUInt8 = 48 → d = 0) := by
 have key : ∀ d : Fin 10, (48 + (d.val).toUInt8).toNat = 48 + d.val ∧ LX.digit (48 + (d.val).toUInt8) = true ∧ (48 + (d.val).toUInt8 = 48 → d.val = 0) := by decide
 exact key ⟨d, h⟩
theorem digs_ok : ∀ (k n : Nat), n < 10 ^ k → n ≤ 9223372036854775808 → 1 ≤ k → LX.numGo 0 (digs k n) = some n ∧ (digs k n).all LX.digit = true ∧ (digs k n) ≠ [] ∧ (0 < n → (digs k n).head? ≠ some 48) ∧ (n < 10 → (digs k n).length = 1)
 | 0, n, _, _, h1 => by omega
 | k + 1, n, hk, hn, _ => by
  rw [digs]
  split
  ·rename_i h10
   obtain ⟨e1, e2, e3⟩ := dig_nat n h10
   refine ⟨?_, by simp [e2], by simp, fun h0 he => ?_, fun _ => rfl⟩
   ·rw [LX.numGo, e1]
    rw [if_neg (by omega), LX.numGo]
    congr 1
    omega
   ·simp only [List.head?_cons, Option.some.injEq] at he
    have := e3 he
    omega
  ·rename_i h10
   have hk1 : 1 ≤ k := by
    rcases Nat.eq_zero_or_pos k with rfl | h
    ·simp at hk; omega
    ·exact h
   obtain ⟨i1, i2, i3, i4, i5⟩ := digs_ok k (n / 10) (by rw [Nat.pow_succ] at hk; omega) (by omega) hk1
   obtain ⟨e1, e2, e3⟩ := dig_nat (n % 10) (by omega)
   refine ⟨?_, by rw [List.all_append, i2]; simp [e2], by simp, fun h0 => ?_, fun h => absurd h h10⟩
   ·rw [numGo_app, i1, Option.bind_some, LX.numGo, e1, if_neg (by omega), LX.numGo]
    congr 1
    omega
   ·cases hx : digs k (n / 10) with
    | nil => exact absurd hx i3
    | cons a y =>
     have := i4 (by omega)
     rw [hx] at this
     exact this
theorem digits_ok {n : Nat} (hn : n ≤ 9223372036854775808) : LX.numGo 0 (digits n) = some n ∧ (digits n).all LX.digit = true ∧ (digits n) ≠ [] ∧ ((digits n).head? = some 48 → (digits n).length = 1) := by
 obtain ⟨h1, h2, h3, h4, h5⟩ := digs_ok 20 n (Nat.lt_of_le_of_lt hn (by decide)) hn (by decide)
 refine ⟨h1, h2, h3, fun h => h5 ?_⟩
 rcases Nat.eq_zero_or_pos n with h0 | h0
 ·omega
 ·exact absurd h (h4 h0)
theorem digit_not {c : UInt8} (h : LX.digit c = true) : LX.blank c = false ∧ c ≠ 45 ∧ LX.letter c = false := by
 have key : ∀ c : Fin 256, LX.digit (UInt8.ofNat c.val) = true → LX.blank (UInt8.ofNat c.val) = false ∧ UInt8.ofNat c.val ≠ 45 ∧ LX.letter (UInt8.ofNat c.val) = false := by decide +kernel
 have e : UInt8.ofNat c.toNat = c := by simp
 have := key ⟨c.toNat, c.toNat_lt⟩
 simp only [e] at this
 exact this h
theorem Lexes.num {n : Nat} {s : B} {ts : List T} (hn : n ≤ 9223372036854775808) (hs : Sp s) (h : Lexes s ts) : Lexes (digits n ++ s) (⟨2, digits n, n⟩ :: ts) := by
 obtain ⟨h1, h2, h3, h4⟩ := digits_ok hn
 cases hd : digits n with
 | nil => exact absurd hd h3
 | cons c r =>
  rw [hd] at h1 h2 h4
  have hc : LX.digit c = true := by rw [List.all_cons, Bool.and_eq_true] at h2; exact h2.1
  obtain ⟨n1, n2, n3⟩ := digit_not hc
  refine Lexes.tok (by simp) (skip_id _ n1 n2) ?_ h
  show LX.one (c :: (r ++ s)) = _
  unfold LX.one
  simp only [n3, hc, Bool.false_eq_true, if_false, if_true]
  rw [show c :: (r ++ s) = (c :: r) ++ s from rfl, takeWhile_all LX.digit (c :: r) s h2 (fun c' r' e => by
   have := hs c' r' e
   unfold LX.word at this
   rw [Bool.or_eq_false_iff] at this
   exact this.2)]
  rw [h1, if_neg]
  intro hb
  simp only [Bool.and_eq_true, beq_iff_eq, decide_eq_true_eq] at hb
  have := h4 (by rw [hb.1]; rfl)
  omega
def SgSp (g s : B) : Prop := g ∈ [[60, 62], [60, 61], [62, 61], [45, 62], [40], [41], [44], [59], [58], [61], [43], [42], [47]] ∨ g ∈ [[60], [62], [45]] ∧ ∀ c r, s = c :: r → c ≠ 61 ∧ c ≠ 62 ∧ c ≠ 45
theorem Lexes.sg {g s : B} {ts : List T} (hg : SgSp g s) (h : Lexes s ts) : Lexes (g ++ s) (sgT g :: ts) := by
 have key : LX.skip false (g ++ s) = g ++ s ∧ LX.one (g ++ s) = .ok (4, g, 0) ∧ g ≠ [] := by
  rcases hg with hg | ⟨hg, hs⟩
  ·simp only [List.mem_cons, List.not_mem_nil, or_false] at hg
   rcases hg with rfl | rfl | rfl | rfl | rfl | rfl | rfl | rfl | rfl | rfl | rfl | rfl | rfl <;> refine ⟨?_, ?_, by simp⟩ <;> first
    | exact skip_id _ (by decide) (by decide)
    | (simp [LX.skip, LX.blank]; done)
    | (simp [LX.one, LX.letter, LX.digit, LX.signs, List.find?, List.isPrefixOf]; done)
  ·have hcase : s = [] ∨ ∃ c r, s = c :: r := by cases s with
    | nil => exact .inl rfl
    | cons c r => exact .inr ⟨c, r, rfl⟩
   simp only [List.mem_cons, List.not_mem_nil, or_false] at hg
   rcases hcase with rfl | ⟨c, r, rfl⟩
   ·rcases hg with rfl | rfl | rfl <;> refine ⟨?_, ?_, by simp⟩ <;> first
     | exact skip_id _ (by decide) (by decide)
     | (simp [LX.skip, LX.blank]; done)
     | (simp [LX.one, LX.letter, LX.digit, LX.signs, List.find?, List.isPrefixOf]; done)
   ·obtain ⟨h1, h2, h3⟩ := hs c r rfl
    have b1 : (61 == c) = false := beq_eq_false_iff_ne.2 fun e => h1 e.symm
    have b2 : (62 == c) = false := beq_eq_false_iff_ne.2 fun e => h2 e.symm
    have b3 : (c == 45) = false := beq_eq_false_iff_ne.2 h3
    rcases hg with rfl | rfl | rfl <;> refine ⟨?_, ?_, by simp⟩ <;> first
     | exact skip_id _ (by decide) (by decide)
     | (simp [LX.skip, LX.blank, b3, h3]; done)
     | (simp [LX.one, LX.letter, LX.digit, LX.signs, List.find?, List.isPrefixOf, b1, b2]; done)
 exact Lexes.tok key.2.2 key.1 key.2.1 h
def LxP (tx : B) (x : List T) : Prop := ∀ rest ts, Sp rest → Lexes rest ts → Lexes (tx ++ rest) (x ++ ts)
theorem LxP.sp {tx : B} {x : List T} (h : LxP tx x) {rest : B} {ts : List T} (c : UInt8) (hc : LX.word c = false) (hr : Lexes (c :: rest) ts) : Lexes (tx ++ c :: rest) (x ++ ts) := h _ _ (Sp.cons _ hc) hr
theorem LxP.par {tx : B} {x : List T} (h : LxP tx x) : LxP (parB tx) (par x) := fun rest ts hs hr => by
 have e1 : parB tx ++ rest = [40] ++ (tx ++ 41 :: rest) := by simp [parB]
 have e2 : PX.par x ++ ts = sgT [40] :: (x ++ sgT [41] :: ts) := by simp [PX.par]
 rw [e1, e2]
 exact Lexes.sg (.inl (by decide)) (h.sp 41 (by decide) (Lexes.sg (g := [41]) (.inl (by decide)) hr))
theorem LxP.commas : ∀ (l : List (B × List T)), (∀ q ∈ l, LxP q.1 q.2) → LxP (commasB (l.map (·.1))) (PX.commas (l.map (·.2)))
 | [], _ => fun rest ts _ hr => hr
 | [q], h => h q (by simp)
 | q :: y :: r, h => fun rest ts hs hr => by
  have e1 : commasB ((q :: y :: r).map (·.1)) ++ rest = q.1 ++ 44 :: (32 :: (commasB ((y :: r).map (·.1)) ++ rest)) := by
   show commasB (q.1 :: y.1 :: r.map _) ++ rest = _
   rw [commasB]
   ·simp
   ·simp
  have e2 : PX.commas ((q :: y :: r).map (·.2)) ++ ts = q.2 ++ sgT [44] :: (PX.commas ((y :: r).map (·.2)) ++ ts) := by
   show PX.commas (q.2 :: y.2 :: r.map _) ++ ts = _
   rw [PX.commas]
   ·simp
   ·simp
  rw [e1, e2]
  exact (h q (by simp)).sp 44 (by decide) (Lexes.sg (g := [44]) (.inl (by decide)) (Lexes.blank 32 (by decide) (LxP.commas (y :: r) (fun z hz => h z (List.mem_cons_of_mem _ hz)) rest ts hs hr)))
theorem LxP.name {m : B} (h : NameOk m) : LxP m [nmT m] := fun rest ts hs hr => Lexes.name h hs hr
theorem LxP.kw {m : B} (h : m ∈ LX.words) : LxP m [kwT m] := fun rest ts hs hr => Lexes.kw h hs hr
theorem LxP.numT {n : Int} (h0 : -9223372036854775808 ≤ n) (h1 : n ≤ 9223372036854775807) : LxP (numB n) (numT n) := fun rest ts hs hr => by
 unfold numB PX.numT
 have hn : n.natAbs ≤ 9223372036854775808 := by omega
 split
 ·have h2 := Lexes.num hn hs hr
  refine Lexes.sg (g := [45]) (.inr ⟨by decide, fun c r e => ?_⟩) h2
  obtain ⟨_, d2, d3, _⟩ := digits_ok hn
  cases hd : digits n.natAbs with
  | nil => exact absurd hd d3
  | cons a y =>
   rw [hd] at e d2
   injection e with e1
   subst e1
   rw [List.all_cons, Bool.and_eq_true] at d2
   refine ⟨?_, ?_, ?_⟩ <;> (rintro rfl; exact absurd d2.1 (by decide))
 ·exact Lexes.num hn hs hr
theorem LxP.kwSp {m tx : B} {x : List T} (hm : m ∈ LX.words) (h : LxP tx x) : LxP (m ++ 32 :: tx) (kwT m :: x) := fun rest ts hs hr => by
 rw [List.append_assoc]
 exact Lexes.kw hm (Sp.cons _ (by decide)) (Lexes.blank 32 (by decide) (h rest ts hs hr))
theorem LxP.mid {m tx ty : B} {x y : List T} (hm : m ∈ LX.words) (h : LxP tx x) (h2 : LxP ty y) : LxP (tx ++ 32 :: (m ++ 32 :: ty)) (x ++ kwT m :: y) := fun rest ts hs hr => by
 rw [List.append_assoc, List.append_assoc]
 exact h.sp 32 (by decide) (Lexes.blank 32 (by decide) (LxP.kwSp hm h2 rest ts hs hr))
theorem Lexes.all {s : B} {ts : List T} (h : Lexes s ts) (hs : s.length ≤ 4000) : ∃ toks, LX.all s = .ok toks ∧ toks.map tkp = ts := by
 unfold LX.all
 rw [if_neg (by omega)]
 exact h s.length (s.length + 1) (Nat.lt_succ_self _)
end PX
end Go.Proofs.YtjafllnbgfcchaaDoor
end
section
/- Texts told in pieces: blanks, names, words, signs, numbers; their tokens. -/
namespace Go.Proofs.YtjafllnbgfcchaaDoor
set_option linter.unusedVariables false
set_option linter.unusedSimpArgs false
namespace PX
inductive Pc where
 | sp (c : UInt8)
 | nm (m : B)
 | kw (m : B)
 | sg (g : B)
 | nu (n : Nat)
def Pc.txt : Pc → B
 | .sp c => [c]
 | .nm m => m
 | .kw m => m
 | .sg g => g
 | .nu n => digits n
def Pc.tok : Pc → List T
 | .sp _ => []
 | .nm m => [nmT m]
 | .kw m => [kwT m]
 | .sg g => [sgT g]
 | .nu n => [⟨2, digits n, n⟩]
def txts : List Pc → B
 | [] => []
 | p :: r => p.txt ++ txts r
def toks : List Pc → List T
 | [] => []
 | p :: r => p.tok ++ toks r
def soft (c : UInt8) : Bool := !LX.word c && c != 61 && c != 62 && c != 45
def Soft (s : B) : Prop := ∀ c r, s = c :: r → soft c = true
def nameB (m : B) : Bool := (match m with | [] => false | c :: _ => LX.letter c) && m.all LX.word && !LX.words.contains m && decide (m.length ≤ 30)
theorem nameB_ok {m : B} (h : nameB m = true) : NameOk m := by
 unfold nameB at h
 simp only [Bool.and_eq_true, Bool.not_eq_true', decide_eq_true_eq] at h
 obtain ⟨⟨⟨h1, h2⟩, h3⟩, h4⟩ := h
 cases m with
 | nil => cases h1
 | cons c r => exact ⟨⟨c, r, rfl, h1⟩, h2, h3, h4⟩
def sgA : List B := [[60, 62], [60, 61], [62, 61], [45, 62], [40], [41], [44], [59], [58], [61], [43], [42], [47]]
def sgB : List B := [[60], [62], [45]]
def Pc.fine : Pc → Bool
 | .sp c => LX.blank c
 | .nm m => nameB m
 | .kw m => LX.words.contains m
 | .sg g => sgA.contains g || sgB.contains g
 | .nu n => decide (n ≤ 9223372036854775808)
def Pc.ahead (p : Pc) (c : UInt8) : Bool :=
 match p with
 | .sp _ => true
 | .nm _ => !LX.word c
 | .kw _ => !LX.word c
 | .nu _ => !LX.word c
 | .sg g => sgA.contains g || (c != 61 && c != 62 && c != 45)
def segs : List Pc → Bool
 | [] => true
 | p :: r => p.fine && segs r && (match txts r with | c :: _ => p.ahead c | [] => true)
theorem soft_ahead {c : UInt8} (h : soft c = true) (p : Pc) : p.ahead c = true := by
 unfold soft at h
 simp only [Bool.and_eq_true] at h
 obtain ⟨⟨⟨h1, h2⟩, h3⟩, h4⟩ := h
 cases p with
 | sp _ => rfl
 | nm _ => exact h1
 | kw _ => exact h1
 | nu _ => exact h1
 | sg g =>
  show (sgA.contains g || (c != 61 && c != 62 && c != 45)) = true
  rw [h2, h3, h4]
  simp
theorem Lexes.pc {p : Pc} {s : B} {ts : List T} (hp : p.fine = true) (ha : ∀ c r, s = c :: r → p.ahead c = true) (h : Lexes s ts) : Lexes (p.txt ++ s) (p.tok ++ ts) := by
 cases p with
 | sp c => exact Lexes.blank c hp h
 | nm m => exact Lexes.name (nameB_ok hp) (fun c r e => by have := ha c r e; simpa [Pc.ahead] using this) h
 | kw m => exact Lexes.kw (List.contains_iff_mem.1 hp) (fun c r e => by have := ha c r e; simpa [Pc.ahead] using this) h
 | nu n => exact Lexes.num (of_decide_eq_true hp) (fun c r e => by have := ha c r e; simpa [Pc.ahead] using this) h
 | sg g =>
  refine Lexes.sg ?_ h
  have hp : (sgA.contains g || sgB.contains g) = true := hp
  by_cases hA : sgA.contains g = true
  ·exact .inl (List.contains_iff_mem.1 hA)
  ·have hB : sgB.contains g = true := by
    rw [Bool.or_eq_true] at hp
    exact hp.resolve_left hA
   refine .inr ⟨List.contains_iff_mem.1 hB, fun c r e => ?_⟩
   have := ha c r e
   unfold Pc.ahead at this
   dsimp only at this
   rw [Bool.or_eq_true] at this
   have := this.resolve_left hA
   simp only [Bool.and_eq_true, bne_iff_ne] at this
   exact ⟨this.1.1, this.1.2, this.2⟩
theorem Lexes.segs : ∀ (ps : List Pc), segs ps = true → ∀ rest ts, Soft rest → Lexes rest ts → Lexes (txts ps ++ rest) (toks ps ++ ts)
 | [], _, rest, ts, _, h => h
 | p :: r, hp, rest, ts, hs, h => by
  unfold PX.segs at hp
  simp only [Bool.and_eq_true] at hp
  obtain ⟨⟨h1, h2⟩, h3⟩ := hp
  have ih := Lexes.segs r h2 rest ts hs h
  rw [txts, PX.toks, List.append_assoc, List.append_assoc]
  refine Lexes.pc h1 (fun c y e => ?_) ih
  cases ht : txts r with
  | nil =>
   rw [ht] at e
   exact soft_ahead (hs c y e) p
  | cons c' y' =>
   rw [ht] at e h3
   injection e with e1
   subst e1
   exact h3
theorem Soft.nil : Soft [] := fun c r e => by cases e
theorem Soft.cons {c : UInt8} (r : B) (h : soft c = true) : Soft (c :: r) := fun c' r' e => by
 injection e with e1
 subst e1
 exact h
theorem Lexes.whole {ps : List Pc} (h : PX.segs ps = true) : Lexes (txts ps) (PX.toks ps ++ [endT]) := by
 have := Lexes.segs ps h [] [endT] Soft.nil Lexes.nil
 rwa [List.append_nil] at this
end PX
end Go.Proofs.YtjafllnbgfcchaaDoor
end
section
/- Real nodes without places; what is told of a text, by reckoning the parser's answer on its tokens. -/
namespace Go.Proofs.YtjafllnbgfcchaaDoor.Ct
set_option linter.unusedVariables false
set_option linter.unusedSimpArgs false
open Go Go.RowKit Go.Proofs.YtjafllnbgfcchaaDoor.XK
mutual
def rE0 : PX.Ex → E
 | .mk k _ n m o l => ⟨k, 0, n, ⟨m.toArray⟩, o, rEs0 l⟩
def rEs0 : List PX.Ex → List E
 | [] => []
 | e :: r => rE0 e :: rEs0 r
end
def rD0 (d : PX.Dc) : D := ⟨⟨d.name.toArray⟩, 0, ⟨d.bool, d.future⟩, ⟨d.clock.toArray⟩, d.off⟩
def rL0 (x : PX.Lf) : S47 := ⟨⟨x.name.toArray⟩, 0⟩
def rQ0 (q : PX.Eq) : Q := ⟨q.left.map rL0, q.async, rE0 q.e⟩
def rN0 (n : PX.Nd) : N := ⟨⟨n.name.toArray⟩, 0, n.ins.map rD0, n.outs.map rD0, n.vars.map rD0, n.eqs.map rQ0⟩
mutual
theorem eE_real (toks : List LX.Tok) : ∀ e, eE (Px.real toks e) = rE0 e
 | .mk k q n m o l => by rw [Px.real, eE, rE0, eEs_real toks l]
theorem eEs_real (toks : List LX.Tok) : ∀ l, eEs (Px.reals toks l) = rEs0 l
 | [] => rfl
 | e :: r => by rw [Px.reals, eEs, rEs0, eE_real toks e, eEs_real toks r]
end
theorem eQ_real (toks : List LX.Tok) (q : PX.Eq) : eQ (Px.realQ toks q) = rQ0 q := by
 unfold eQ Px.realQ rQ0
 rw [eE_real, List.map_map]
 rfl
theorem eN_real (toks : List LX.Tok) (n : PX.Nd) : eN (Px.realN toks n) = rN0 n := by
 unfold eN Px.realN rN0
 simp only [List.map_map]
 congr 1
 exact List.map_congr_left fun q _ => eQ_real toks q
theorem canon2 {s : PX.B} {ts : List PX.T} {l : List PX.Nd} {rest : List PX.T} {k : Nat} {f : F} (hs : s.length ≤ 4000) (hx : PX.Lexes s ts) (hp : PX.program (12 * ts.length + 10) ts = .ok l rest) (hc : check k (l.map rN0) = some f) :
  ∃ toks r, LX.all s = .ok toks ∧ PX.program (Px.rounds toks) (toks.map Px.tk) = .ok l rest ∧ check k (l.map (Px.realN toks)) = some r ∧ (r.1 == 0 && r.2 == 0) = (f.2 == 0) := by
 obtain ⟨toks, h1, h2⟩ := hx.all hs
 have e : ((l.map (Px.realN toks)).map eN) = l.map rN0 := by
  rw [List.map_map]
  exact List.map_congr_left fun n _ => eN_real toks n
 rw [← e] at hc
 obtain ⟨r, h4, h5, h6⟩ := check_told hc
 refine ⟨toks, r, h1, ?_, h4, ?_⟩
 ·have e2 : Px.rounds toks = 12 * ts.length + 10 := by rw [← h2, List.length_map]; rfl
  rw [e2]
  exact (congrArg (PX.program _) h2).trans hp
 ·rw [← h5]
  by_cases h0 : r.2 = 0
  ·rw [h0, h6 h0]
   rfl
  ·have : (r.2 == 0) = false := by simpa using h0
   rw [this, Bool.and_false]
end Go.Proofs.YtjafllnbgfcchaaDoor.Ct
end
section
/- The texts of TypesAwaits, their tokens; what the parser and the checker of types say of them. -/
namespace Go.Proofs.YtjafllnbgfcchaaDoor.Pure
set_option linter.unusedVariables false
set_option linter.unusedSimpArgs false
open Go Go.RowKit Go.Proofs.YtjafllnbgfcchaaDoor.XK
def ba (l : List UInt8) : ByteArray := ⟨l.toArray⟩
theorem ba_append (a b : List UInt8) : ba a ++ ba b = ba (a ++ b) := by
 apply ByteArray.ext
 rw [ByteArray.data_append]
 simp [ba]
theorem ba_size (a : List UInt8) : (ba a).size = a.length := by
 show (ba a).data.size = _
 simp [ba]
def wP (b : Bool) : PX.Pc := if b then .kw [98, 111, 111, 108] else .kw [105, 110, 116]
def wB (b : Bool) : PX.B := if b then [98, 111, 111, 108] else [105, 110, 116]
def ps1 (a0 a1 : Bool) : List PX.Pc := [.kw [110, 111, 100, 101], .sp 32, .nm [102], .sg [40], .sg [41], .sp 32, .kw [114, 101, 116, 117, 114, 110, 115], .sp 32, .sg [40], .nm [121], .sg [58], .sp 32] ++ [wP a1] ++ [.sg [41], .sp 32, .kw [118, 97, 114], .sp 32, .nm [117], .sg [58], .sp 32, .kw [102, 117, 116, 117, 114, 101], .sp 32] ++ [wP a0] ++ [.sg [59], .sp 32, .kw [108, 101, 116], .sp 32, .nm [117], .sp 32, .sg [61], .sp 32, .kw [97, 115, 121, 110, 99], .sp 32, .nm [103], .sg [40], .sg [41], .sg [59], .sp 32, .nm [121], .sp 32, .sg [61], .sp 32, .kw [97, 119, 97, 105, 116], .sp 32, .nm [117]]
def ps2 (a0 : Bool) : List PX.Pc := [.sg [59], .sp 32, .kw [116, 101, 108], .sp 32, .kw [110, 111, 100, 101], .sp 32, .nm [103], .sg [40], .sg [41], .sp 32, .kw [114, 101, 116, 117, 114, 110, 115], .sp 32, .sg [40], .nm [120], .sg [58], .sp 32] ++ [wP a0] ++ [.sg [41], .sp 32, .kw [108, 101, 116], .sp 32, .nm [120], .sp 32, .sg [61], .sp 32, .nu 0, .sp 32, .sg [60], .sp 32, .nu 1, .sg [59], .sp 32, .kw [116, 101, 108]]
def tx1 (a0 a1 : Bool) : PX.B := [110, 111, 100, 101, 32, 102, 40, 41, 32, 114, 101, 116, 117, 114, 110, 115, 32, 40, 121, 58, 32] ++ (wB a1) ++ [41, 32, 118, 97, 114, 32, 117, 58, 32, 102, 117, 116, 117, 114, 101, 32] ++ (wB a0) ++ [59, 32, 108, 101, 116, 32, 117, 32, 61, 32, 97, 115, 121, 110, 99, 32, 103, 40, 41, 59, 32, 121, 32, 61, 32, 97, 119, 97, 105, 116, 32, 117]
def tx2 (a0 : Bool) : PX.B := [59, 32, 116, 101, 108, 32, 110, 111, 100, 101, 32, 103, 40, 41, 32, 114, 101, 116, 117, 114, 110, 115, 32, 40, 120, 58, 32] ++ (wB a0) ++ [41, 32, 108, 101, 116, 32, 120, 32, 61, 32, 48, 32, 60, 32, 49, 59, 32, 116, 101, 108]

def litT (t : Bool) : PX.T := if t then PX.kwT [116, 114, 117, 101] else ⟨2, PX.digits 7, 7⟩
def litB (t : Bool) : PX.B := if t then [116, 114, 117, 101] else [55]
def aft (ts : List Bool) : PX.B := if ts.isEmpty then [] else 32 :: ([97, 102, 116, 101, 114] ++ 32 :: PX.parB (PX.commasB (ts.map litB)))
def aftT (ts : List Bool) : List PX.T := if ts.isEmpty then [] else PX.kwT [97, 102, 116, 101, 114] :: PX.par (PX.commas (ts.map fun t => [litT t]))
def text (a0 a1 : Bool) (ts : List Bool) : PX.B := tx1 a0 a1 ++ (aft ts ++ tx2 a0)
def textT (a0 a1 : Bool) (ts : List Bool) : List PX.T := PX.toks (ps1 a0 a1) ++ (aftT ts ++ (PX.toks (ps2 a0) ++ [PX.endT]))
theorem tx1_ps : ∀ a0 a1, PX.txts (ps1 a0 a1) = tx1 a0 a1 := by decide +kernel
theorem tx2_ps : ∀ a0, PX.txts (ps2 a0) = tx2 a0 := by decide +kernel
theorem segs1 : ∀ a0 a1, PX.segs (ps1 a0 a1) = true := by decide +kernel
theorem segs2 : ∀ a0, PX.segs (ps2 a0) = true := by decide +kernel
theorem lit_lx (t : Bool) : PX.LxP (litB t) [litT t] := by
 cases t
 ·exact fun rest ts hs h => PX.Lexes.num (n := 7) (by decide) hs h
 ·exact PX.LxP.kw (m := [116, 114, 117, 101]) (by decide)
theorem aft_lx (ts : List Bool) : PX.LxP (aft ts) (aftT ts) := by
 unfold aft aftT
 cases ts with
 | nil => exact fun rest tx _ h => h
 | cons t r =>
  have hl := PX.LxP.commas ((t :: r).map fun b => (litB b, [litT b])) (fun q hq => by
   obtain ⟨b, _, rfl⟩ := List.mem_map.1 hq
   exact lit_lx b)
  rw [List.map_map, List.map_map] at hl
  intro rest tx hs h
  exact PX.Lexes.blank 32 (by decide) (PX.LxP.kwSp (m := [97, 102, 116, 101, 114]) (by decide) (PX.LxP.par hl) rest tx hs h)
theorem aft_head (ts : List Bool) (r : PX.B) : PX.Soft (aft ts ++ 59 :: r) := by
 unfold aft
 cases ts with
 | nil => exact PX.Soft.cons _ (by decide)
 | cons t y => exact PX.Soft.cons _ (by decide)
theorem tx2_head (a0 : Bool) : ∃ r, tx2 a0 = 59 :: r := ⟨_, rfl⟩
theorem text_lx (a0 a1 : Bool) (ts : List Bool) : PX.Lexes (text a0 a1 ts) (textT a0 a1 ts) := by
 have h2 : PX.Lexes (tx2 a0) (PX.toks (ps2 a0) ++ [PX.endT]) := tx2_ps a0 ▸ PX.Lexes.whole (segs2 a0)
 obtain ⟨r, hr⟩ := tx2_head a0
 have h3 : PX.Lexes (aft ts ++ tx2 a0) (aftT ts ++ (PX.toks (ps2 a0) ++ [PX.endT])) := aft_lx ts _ _ (by rw [hr]; exact PX.Sp.cons _ (by decide)) h2
 have h4 := PX.Lexes.segs (ps1 a0 a1) (segs1 a0 a1) _ _ (by rw [hr]; exact aft_head ts r) h3
 rw [tx1_ps] at h4
 exact h4
def bls : Nat → Nat → List Bool
 | 0, _ => []
 | n + 1, m => (m % 2 == 1) :: bls n (m / 2)
def code : List Bool → Nat
 | [] => 0
 | b :: r => (if b then 1 else 0) + 2 * code r
theorem bls_code : ∀ l : List Bool, bls l.length (code l) = l ∧ code l < 2 ^ l.length
 | [] => ⟨rfl, by decide⟩
 | b :: r => by
  have ih := bls_code r
  rw [List.length_cons, code, bls, Nat.pow_succ]
  have h1 : ((if b then 1 else 0) + 2 * code r) / 2 = code r := by cases b <;> simp <;> omega
  have h2 : (((if b then 1 else 0) + 2 * code r) % 2 == 1) = b := by cases b <;> simp <;> omega
  rw [h1, h2, ih.1]
  exact ⟨rfl, by cases b <;> simp <;> omega⟩
def fits (a0 a1 : Bool) (ts : List Bool) : Bool := (a0 == a1) && decide (ts.length ≤ 8) && ts.all (· == a0)
def told (a0 a1 : Bool) (ts : List Bool) : Bool := match PX.program (12 * (textT a0 a1 ts).length + 10) (textT a0 a1 ts) with
 | .ok l _ => (match Ct.check 100 (l.map Ct.rN0) with
  | some f => (f.2 == 0) == (fits a0 a1 ts && a0)
  | none => false)
 | _ => false
end Go.Proofs.YtjafllnbgfcchaaDoor.Pure
end
