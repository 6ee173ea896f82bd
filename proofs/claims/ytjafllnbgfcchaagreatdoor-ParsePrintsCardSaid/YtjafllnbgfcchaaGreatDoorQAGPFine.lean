/- Joined of: PFine, PMono, PGram, PSize, PSzN, PErr. -/
import Derived.Test.YtjafllnbgfcchaaGreatDoorQAPurP
section
/- The plain parser of programs comes to an end. -/
namespace Go.Proofs.YtjafllnbgfcchaaGreatDoor
namespace PX
def Goes {α : Type} (r : Res α) (n : Nat) : Prop :=
 match r with
 | .ok _ rest => Good rest ∧ rest.length < n
 | .bad _ _ => True
 | .out => False
theorem Fine.goes {α : Type} {r : Res α} {n m : Nat} (h : Fine r n) (hm : n < m) : Goes r m := by
 cases r with
 | ok a rest => exact ⟨h.1, Nat.lt_of_le_of_lt h.2 hm⟩
 | bad p e => trivial
 | out => exact h.elim
theorem Goes.bind {α β : Type} {r : Res α} {f : α → List T → Res β} {n m : Nat} (h : Goes r m) (hf : ∀ a rest, Good rest → rest.length < m → Goes (f a rest) n) : Goes (r.bind f) n := by
 cases r with
 | ok a rest => exact hf a rest h.1 h.2
 | bad p e => trivial
 | out => exact h.elim
theorem Goes.mono {α : Type} {r : Res α} {n m : Nat} (h : Goes r n) (hm : n ≤ m) : Goes r m := by
 cases r with
 | ok a rest => exact ⟨h.1, Nat.lt_of_lt_of_le h.2 hm⟩
 | bad p e => trivial
 | out => exact h.elim
theorem Goes.isOut {α : Type} {r : Res α} {n : Nat} (h : Goes r n) : r.isOut = false := by
 cases r <;> first | rfl | exact h.elim
theorem Goes.fail {α : Type} {s : List T} {n : Nat} : Goes (fail (α := α) s) n := trivial
theorem Goes.want {s : List T} (h : Good s) (w : B) : Goes (want w s) s.length := by
 unfold PX.want
 split
 ·rename_i hi
  have := h.is_tail hi
  exact ⟨this.1, by omega⟩
 ·exact Goes.fail
theorem Goes.name {s : List T} (h : Good s) : Goes (name s) s.length := by
 unfold PX.name
 split
 ·rename_i hi
  have := h.tail (by simp at hi; omega)
  exact ⟨this.1, by omega⟩
 ·exact Goes.fail
theorem Good.skip {s : List T} (h : Good s) (l : List B) : Good (if is l s then s.tail else s) ∧ (if is l s then s.tail else s).length ≤ s.length := by
 split
 ·rename_i hi
  have := h.is_tail hi
  exact ⟨this.1, by omega⟩
 ·exact ⟨h, Nat.le_refl _⟩
theorem Goes.decl {s : List T} (h : Good s) : Goes (decl s) s.length := by
 unfold PX.decl
 refine Goes.bind (Goes.name h) fun m s1 h1 l1 => ?_
 refine Goes.bind (Goes.want h1 _) fun _ s2 h2 l2 => ?_
 have h3 := h2.skip [[102, 117, 116, 117, 114, 101]]
 dsimp only
 generalize (if is [[102, 117, 116, 117, 114, 101]] s2 = true then s2.tail else s2) = s3 at h3 ⊢
 split
 ·rename_i hi
  have := h3.1.is_tail hi
  exact ⟨this.1, by omega⟩
 ·exact Goes.fail
theorem Goes.declsL : ∀ (n : Nat) {s : List T}, Good s → s.length < n → Goes (declsL n s) s.length
 | 0, s, h, hn => by omega
 | n + 1, s, h, hn => by
  unfold PX.declsL
  refine Goes.bind (Goes.decl h) fun d s1 h1 l1 => ?_
  split
  ·rename_i hi
   have ht := h1.is_tail hi
   exact Goes.bind (Goes.declsL n ht.1 (by omega)) fun l s2 h2 l2 => ⟨h2, by omega⟩
  ·exact Goes.bind (Goes.want h1 _) fun _ s2 h2 l2 => ⟨h2, by omega⟩
theorem Goes.decls {n : Nat} {s : List T} (h : Good s) (hn : s.length < n) : Goes (decls n s) s.length := by
 unfold PX.decls
 refine Goes.bind (Goes.want h _) fun _ s1 h1 l1 => ?_
 split
 ·rename_i hi
  have ht := h1.is_tail hi
  exact ⟨ht.1, by omega⟩
 ·exact (Goes.declsL n h1 (by omega)).mono (by omega)
theorem Goes.clockOf {d : Dc} {s : List T} (h : Good s) : Goes (clockOf d s) (s.length + 1) := by
 unfold PX.clockOf
 split
 ·rename_i hi
  have ht := h.is_tail hi
  dsimp only
  have h2 : Good (if is [[110, 111, 116]] s.tail = true then s.tail.tail else s.tail) ∧ (if is [[110, 111, 116]] s.tail = true then s.tail.tail else s.tail).length ≤ s.tail.length := ht.1.skip _
  exact Goes.bind (Goes.name h2.1) fun m s2 h3 l3 => ⟨h3, by omega⟩
 ·exact ⟨h, by omega⟩
theorem Goes.varsL : ∀ (n : Nat) {s : List T}, Good s → s.length < n → Goes (varsL n s) s.length
 | 0, s, h, hn => by omega
 | n + 1, s, h, hn => by
  unfold PX.varsL
  refine Goes.bind (Goes.decl h) fun d0 s1 h1 l1 => ?_
  refine Goes.bind (Goes.clockOf h1) fun d s2 h2 l2 => ?_
  refine Goes.bind (Goes.want h2 _) fun _ s3 h3 l3 => ?_
  split
  ·exact ⟨h3, by omega⟩
  ·exact Goes.bind (Goes.varsL n h3 (by omega)) fun l s4 h4 l4 => ⟨h4, by omega⟩
theorem Goes.vars {n : Nat} {s : List T} (h : Good s) (hn : s.length < n) : Goes (vars n s) (s.length + 1) := by
 unfold PX.vars
 split
 ·rename_i hi
  have ht := h.is_tail hi
  exact (Goes.varsL n ht.1 (by omega)).mono (by omega)
 ·exact ⟨h, by omega⟩
theorem Goes.leftsL : ∀ (n : Nat) {s : List T}, Good s → s.length < n → Goes (leftsL n s) (s.length + 1)
 | 0, s, h, hn => by omega
 | n + 1, s, h, hn => by
  unfold PX.leftsL
  split
  ·rename_i hi
   have ht := h.is_tail hi
   refine Goes.bind (Goes.name ht.1) fun m s1 h1 l1 => ?_
   exact Goes.bind (Goes.leftsL n h1 (by omega)) fun l s2 h2 l2 => ⟨h2, by omega⟩
  ·exact ⟨h, by omega⟩
theorem Goes.lefts {n : Nat} {s : List T} (h : Good s) (hn : s.length < n) : Goes (lefts n s) s.length := by
 unfold PX.lefts
 split
 ·rename_i hi
  have ht := h.is_tail hi
  refine Goes.bind (Goes.name ht.1) fun m s1 h1 l1 => ?_
  refine Goes.bind (Goes.want h1 _) fun _ s2 h2 l2 => ?_
  refine Goes.bind (Goes.name h2) fun m2 s3 h3 l3 => ?_
  refine Goes.bind (Goes.leftsL n h3 (by omega)) fun l s4 h4 l4 => ?_
  exact Goes.bind (Goes.want h4 _) fun _ s5 h5 l5 => ⟨h5, by omega⟩
 ·exact Goes.bind (Goes.name h) fun m s1 h1 l1 => ⟨h1, by omega⟩
theorem Goes.right {K : Nat} {s : List T} (h : Good s) (hK : 12 * s.length + 10 ≤ K) : Goes (right K s) (s.length + 1) := by
 unfold PX.right
 split
 ·rename_i hi
  have ht := h.is_tail hi
  refine Goes.bind (Goes.name ht.1) fun m s1 h1 l1 => ?_
  exact Goes.bind (((enough K).call m _ s1 h1 (by omega)).goes (Nat.lt_succ_self _)) fun e s2 h2 l2 => ⟨h2, by omega⟩
 ·exact Goes.bind (((enough K).expr s h hK).goes (Nat.lt_succ_self _)) fun e s2 h2 l2 => ⟨h2, by omega⟩
theorem Goes.shallow {e : Ex} {s : List T} (h : Good s) : Goes (shallow e s) (s.length + 1) := by
 unfold PX.shallow
 split
 ·trivial
 ·exact ⟨h, by omega⟩
theorem Goes.eq {K : Nat} {s : List T} (h : Good s) (hK : 12 * s.length + 10 ≤ K) : Goes (eq K s) s.length := by
 unfold PX.eq
 refine Goes.bind (Goes.lefts h (by omega)) fun l s1 h1 l1 => ?_
 refine Goes.bind (Goes.want h1 _) fun _ s2 h2 l2 => ?_
 refine Goes.bind (Goes.right h2 (by omega)) fun q s3 h3 l3 => ?_
 refine Goes.bind (Goes.shallow h3) fun _ s4 h4 l4 => ?_
 exact Goes.bind (Goes.want h4 _) fun _ s5 h5 l5 => ⟨h5, by omega⟩
theorem Goes.eqs {K : Nat} : ∀ (n : Nat) {s : List T}, Good s → s.length < n → 12 * s.length + 10 ≤ K → Goes (eqs K n s) (s.length + 1)
 | 0, s, h, hn, hK => by omega
 | n + 1, s, h, hn, hK => by
  unfold PX.eqs
  split
  ·exact ⟨h, by omega⟩
  ·refine Goes.bind (Goes.eq h hK) fun q s1 h1 l1 => ?_
   exact Goes.bind (Goes.eqs n h1 (by omega) (by omega)) fun l s2 h2 l2 => ⟨h2, by omega⟩
theorem Goes.node {K : Nat} {s : List T} (h : Good s) (hK : 12 * s.length + 10 ≤ K) : Goes (node K s) s.length := by
 unfold PX.node
 refine Goes.bind (Goes.want h _) fun _ s1 h1 l1 => ?_
 refine Goes.bind (Goes.name h1) fun m s2 h2 l2 => ?_
 refine Goes.bind (Goes.decls h2 (by omega)) fun ins s3 h3 l3 => ?_
 refine Goes.bind (Goes.want h3 _) fun _ s4 h4 l4 => ?_
 refine Goes.bind (Goes.decls h4 (by omega)) fun outs s5 h5 l5 => ?_
 refine Goes.bind (Goes.vars h5 (by omega)) fun vs s6 h6 l6 => ?_
 refine Goes.bind (Goes.want h6 _) fun _ s7 h7 l7 => ?_
 refine Goes.bind (Goes.eqs K h7 (by omega) (by omega)) fun qs s8 h8 l8 => ?_
 exact Goes.bind (Goes.want h8 _) fun _ s9 h9 l9 => ⟨h9, by omega⟩
theorem Goes.nodesL {K : Nat} : ∀ (n : Nat) {s : List T}, Good s → s.length < n → 12 * s.length + 10 ≤ K → Goes (nodesL K n s) (s.length + 1)
 | 0, s, h, hn, hK => by omega
 | n + 1, s, h, hn, hK => by
  unfold PX.nodesL
  split
  ·exact ⟨h, by omega⟩
  ·refine Goes.bind (Goes.node h hK) fun q s1 h1 l1 => ?_
   exact Goes.bind (Goes.nodesL n h1 (by omega) (by omega)) fun l s2 h2 l2 => ⟨h2, by omega⟩
theorem Goes.nodes {K : Nat} {s : List T} (h : Good s) (hK : 12 * s.length + 10 ≤ K) : Goes (nodes K s) s.length := by
 unfold PX.nodes
 refine Goes.bind (Goes.node h hK) fun x s1 h1 l1 => ?_
 exact Goes.bind (Goes.nodesL K h1 (by omega) (by omega)) fun l s2 h2 l2 => ⟨h2, by omega⟩
theorem Goes.atEnd {s : List T} (h : Good s) : Goes (atEnd s) (s.length + 1) := by
 unfold PX.atEnd
 split
 ·exact ⟨h, by omega⟩
 ·exact Goes.fail
theorem Goes.program {K : Nat} {s : List T} (h : Good s) (hK : 12 * s.length + 10 ≤ K) : Goes (program K s) s.length := by
 unfold PX.program
 refine Goes.bind (Goes.nodes h hK) fun l s1 h1 l1 => ?_
 exact Goes.bind (Goes.atEnd h1) fun _ s2 h2 l2 => ⟨h2, by omega⟩
theorem Goes.exprOf {K : Nat} {s : List T} (h : Good s) (hK : 12 * s.length + 10 ≤ K) : Goes (exprOf K s) (s.length + 1) := by
 unfold PX.exprOf
 refine Goes.bind (((enough K).expr s h hK).goes (Nat.lt_succ_self _)) fun e s1 h1 l1 => ?_
 refine Goes.bind (Goes.shallow h1) fun _ s2 h2 l2 => ?_
 exact Goes.bind (Goes.atEnd h2) fun _ s3 h3 l3 => ⟨h3, by omega⟩
end PX
end Go.Proofs.YtjafllnbgfcchaaGreatDoor
end
section
/- More rounds give the plain parser's same answer. -/
namespace Go.Proofs.YtjafllnbgfcchaaGreatDoor
namespace PX
def Le {α : Type} (r r' : Res α) : Prop := r.isOut = false → r' = r
theorem Le.refl {α : Type} (r : Res α) : Le r r := fun _ => rfl
theorem Le.out {α : Type} (r : Res α) : Le .out r := fun h => by cases h
theorem Le.bind {α β : Type} {r r' : Res α} {f f' : α → List T → Res β} (h : Le r r') (hf : ∀ a s, Le (f a s) (f' a s)) : Le (r.bind f) (r'.bind f') := by
 intro ho
 have h1 := Res.isOut_bind ho
 rw [h h1]
 cases r with
 | ok a s => exact hf a s ho
 | bad p e => rfl
 | out => rfl
theorem Le.bind' {α β : Type} (r : Res α) {f f' : α → List T → Res β} (hf : ∀ a s, Le (f a s) (f' a s)) : Le (r.bind f) (r.bind f') := Le.bind (Le.refl r) hf
theorem Le.ite {α : Type} {c : Prop} [Decidable c] {a a' b b' : Res α} (h1 : Le a a') (h2 : Le b b') : Le (if c then a else b) (if c then a' else b') := by
 split
 ·exact h1
 ·exact h2
theorem Le.lits : ∀ k s, Le (lits k s) (lits (k + 1) s)
 | 0, s => by rw [lits.eq_1]; exact Le.out _
 | k + 1, s => by
  rw [lits.eq_2 s k, lits.eq_2 s (k + 1)]
  exact Le.bind' _ fun e s1 => Le.ite (Le.bind (Le.lits k _) fun l s2 => Le.refl _) (Le.refl _)
structure Mono (k : Nat) : Prop where
 expr : ∀ s, Le (expr k s) (expr (k + 1) s)
 arrow : ∀ s, Le (arrow k s) (arrow (k + 1) s)
 bin : ∀ lvl s, Le (bin k lvl s) (bin (k + 1) lvl s)
 left : ∀ lvl a s, Le (left k lvl a s) (left (k + 1) lvl a s)
 unary : ∀ s, Le (unary k s) (unary (k + 1) s)
 whens : ∀ a s, Le (whens k a s) (whens (k + 1) a s)
 exprs : ∀ s, Le (exprs k s) (exprs (k + 1) s)
 call : ∀ m a s, Le (call k m a s) (call (k + 1) m a s)
 primary : ∀ s, Le (primary k s) (primary (k + 1) s)
theorem monos : ∀ k, Mono k
 | 0 => by constructor <;> intros <;> first | (rw [expr.eq_1]; exact Le.out _) | (rw [arrow.eq_1]; exact Le.out _) | (rw [bin.eq_1]; exact Le.out _) | (rw [left.eq_1]; exact Le.out _) | (rw [unary.eq_1]; exact Le.out _) | (rw [whens.eq_1]; exact Le.out _) | (rw [exprs.eq_1]; exact Le.out _) | (rw [call.eq_1]; exact Le.out _) | (rw [primary.eq_1]; exact Le.out _)
 | k + 1 => by
  have ih := monos k
  constructor
  ·intro s
   rw [expr.eq_2 s k, expr.eq_2 s (k + 1)]
   refine Le.ite ?_ (ih.arrow s)
   refine Le.bind (ih.expr _) fun a s1 => Le.bind' _ fun _ s2 => Le.bind (ih.expr _) fun b s3 => Le.bind' _ fun _ s4 => Le.bind (ih.expr _) fun c s5 => Le.refl _
  ·intro s
   rw [arrow.eq_2 s k, arrow.eq_2 s (k + 1)]
   refine Le.bind (ih.bin 0 s) fun a s1 => Le.ite (Le.bind (ih.arrow _) fun b s2 => Le.refl _) (Le.ite (Le.ite (Le.bind (ih.arrow _) fun b s2 => Le.refl _) (Le.refl _)) (Le.refl _))
  ·intro lvl s
   rw [bin.eq_2 lvl s k, bin.eq_2 lvl s (k + 1)]
   refine Le.ite (Le.ite (Le.bind (ih.bin 2 _) fun a s1 => Le.refl _) (Le.bind (ih.bin 3 s) fun a s1 => Le.ite (Le.bind (ih.bin 3 _) fun b s2 => Le.refl _) (Le.refl _))) (Le.ite (ih.unary s) (Le.bind (ih.bin (lvl + 1) s) fun a s1 => ih.left lvl a s1))
  ·intro lvl a s
   rw [left.eq_2 lvl a s k, left.eq_2 lvl a s (k + 1)]
   exact Le.ite (Le.bind (ih.bin (lvl + 1) _) fun b s1 => ih.left lvl _ s1) (Le.refl _)
  ·intro s
   rw [unary.eq_2 s k, unary.eq_2 s (k + 1)]
   exact Le.ite (Le.bind (ih.unary _) fun a s1 => Le.refl _) (Le.ite (Le.ite (Le.refl _) (Le.bind (ih.unary _) fun a s1 => Le.refl _)) (Le.bind (ih.primary s) fun a s1 => ih.whens a s1))
  ·intro a s
   rw [whens.eq_2 a s k, whens.eq_2 a s (k + 1)]
   exact Le.ite (Le.bind' _ fun m s2 => ih.whens _ s2) (Le.refl _)
  ·intro s
   rw [exprs.eq_2 s k, exprs.eq_2 s (k + 1)]
   exact Le.bind (ih.expr s) fun e s1 => Le.ite (Le.bind (ih.exprs _) fun l s2 => Le.refl _) (Le.refl _)
  ·intro m a s
   rw [call.eq_2 m a s k, call.eq_2 m a s (k + 1)]
   exact Le.bind' _ fun _ s1 => Le.ite (Le.refl _) (Le.bind (ih.exprs _) fun l s2 => Le.refl _)
  ·intro s
   rw [primary.eq_2 s k, primary.eq_2 s (k + 1)]
   refine Le.ite (Le.refl _) (Le.ite (Le.ite (ih.call _ _ _) (Le.refl _)) (Le.ite (Le.ite ?_ (Le.ite ?_ (Le.ite ?_ (Le.refl _)))) (Le.refl _)))
   ·exact Le.bind' _ fun m s1 => Le.bind' _ fun _ s2 => Le.bind (ih.expr _) fun a s3 => Le.bind' _ fun _ s4 => Le.bind' _ fun _ s5 => Le.bind (ih.expr _) fun b s6 => Le.refl _
   ·exact Le.bind' _ fun m s1 => Le.ite (Le.bind' _ fun _ s2 => Le.bind (Le.lits k _) fun l s3 => Le.refl _) (Le.refl _)
   ·exact Le.bind (ih.expr _) fun e s1 => Le.refl _
theorem Le.trans {α : Type} {a b c : Res α} (h : Le a b) (h2 : Le b c) : Le a c := fun ho => by
 have h3 := h ho
 have h4 : b.isOut = false := by rw [h3]; exact ho
 exact (h2 h4).trans h3
theorem Le.upto {α : Type} {f : Nat → Res α} (h : ∀ k, Le (f k) (f (k + 1))) (k d : Nat) : Le (f k) (f (k + d)) := by
 induction d with
 | zero => exact Le.refl _
 | succ d ih => exact ih.trans (h (k + d))
def Evr {α : Type} (f : Nat → Res α) (r : Res α) : Prop := ∃ k0, ∀ k, k0 ≤ k → f k = r
theorem Evr.of {α : Type} {f : Nat → Res α} (h : ∀ k, Le (f k) (f (k + 1))) {r : Res α} (hr : r.isOut = false) {k : Nat} (hk : f k = r) : Evr f r :=
 ⟨k, fun j hj => by
  obtain ⟨d, rfl⟩ : ∃ d, j = k + d := ⟨j - k, by omega⟩
  rw [Le.upto h k d (by rw [hk]; exact hr), hk]⟩
theorem Evr.at_ {α : Type} {f : Nat → Res α} {r : Res α} (h : Evr f r) (hm : ∀ k, Le (f k) (f (k + 1))) {k : Nat} (hk : (f k).isOut = false) : f k = r := by
 obtain ⟨k0, h0⟩ := h
 have h1 := Le.upto hm k k0 hk
 rw [← h1, h0 _ (by omega)]
end PX
end Go.Proofs.YtjafllnbgfcchaaGreatDoor
end
section
/- What the plain parser reads is made by its rules alone: a law for any property that the rules keep. -/
namespace Go.Proofs.YtjafllnbgfcchaaGreatDoor
namespace PX
def Suf (toks s : List T) : Prop := ∃ k, k ≤ toks.length ∧ s = toks.drop k
def Here (toks : List T) (q : Nat) : Prop := 1 ≤ q ∧ q ≤ toks.length
def tokAt (toks : List T) (q : Nat) : T := peek (toks.drop (toks.length - q))
def WordAt (toks : List T) (q : Nat) (l : List B) : Prop := Here toks q ∧ ((tokAt toks q).kind = 3 ∨ (tokAt toks q).kind = 4) ∧ (tokAt toks q).text ∈ l
def NameAt (toks : List T) (q : Nat) (m : B) : Prop := Here toks q ∧ (tokAt toks q).kind = 1 ∧ (tokAt toks q).text = m
section
variable {toks : List T}
theorem Suf.refl : Suf toks toks := ⟨0, Nat.zero_le _, rfl⟩
theorem Suf.tail {s : List T} (h : Suf toks s) (hg : Good s) : Suf toks s.tail := by
 obtain ⟨k, hk, rfl⟩ := h
 have h1 := hg.pos
 rw [List.length_drop] at h1
 exact ⟨k + 1, by omega, by rw [List.tail_drop]⟩
theorem Suf.here {s : List T} (h : Suf toks s) (hg : Good s) : Here toks s.length := by
 obtain ⟨k, hk, rfl⟩ := h
 have h1 := hg.pos
 rw [List.length_drop] at h1 ⊢
 exact ⟨h1, by omega⟩
theorem Suf.tok {s : List T} (h : Suf toks s) : tokAt toks s.length = peek s := by
 obtain ⟨k, hk, rfl⟩ := h
 unfold tokAt
 rw [List.length_drop, show toks.length - (toks.length - k) = k from by omega]
theorem Suf.word {s : List T} (h : Suf toks s) (hg : Good s) {l : List B} (hi : is l s = true) : WordAt toks s.length l := by
 refine ⟨h.here hg, ?_⟩
 rw [h.tok]
 unfold is at hi
 rw [Bool.and_eq_true, Bool.or_eq_true, List.contains_iff_mem] at hi
 exact ⟨hi.1.imp (fun h => eq_of_beq h) (fun h => eq_of_beq h), hi.2⟩
theorem Suf.nameAt {s : List T} (h : Suf toks s) (hg : Good s) (hk : (peek s).kind = 1) : NameAt toks s.length (peek s).text := by
 refine ⟨h.here hg, ?_⟩
 rw [h.tok]
 exact ⟨hk, rfl⟩
theorem Suf.mem {s : List T} (h : Suf toks s) (hg : Good s) : peek s ∈ toks := by
 obtain ⟨k, hk, rfl⟩ := h
 have h1 := hg.pos
 cases h2 : toks.drop k with
 | nil => rw [h2] at h1; simp at h1
 | cons a l =>
  have : a ∈ toks.drop k := by rw [h2]; simp
  exact List.mem_of_mem_drop this
def Ok {α : Type} (toks : List T) (r : Res α) (P : α → Prop) : Prop := ∀ a rest, r = .ok a rest → P a ∧ Suf toks rest ∧ Good rest
theorem Ok.bind {α β : Type} {r : Res α} {f : α → List T → Res β} {P : α → Prop} {Q : β → Prop} (h : Ok toks r P) (hf : ∀ a rest, P a → Suf toks rest → Good rest → Ok toks (f a rest) Q) : Ok toks (r.bind f) Q := by
 cases r with
 | ok a rest =>
  obtain ⟨h1, h2, h3⟩ := h a rest rfl
  exact hf a rest h1 h2 h3
 | bad p e => intro a rest h; cases h
 | out => intro a rest h; cases h
theorem Ok.ok {α : Type} {a : α} {s : List T} {P : α → Prop} (hP : P a) (hs : Suf toks s) (hg : Good s) : Ok toks (.ok a s) P := by
 intro a' rest h
 cases h
 exact ⟨hP, hs, hg⟩
theorem Ok.bad {α : Type} {P : α → Prop} {p e : Nat} : Ok toks (.bad p e : Res α) P := by intro a rest h; cases h
theorem Ok.out {α : Type} {P : α → Prop} : Ok toks (.out : Res α) P := by intro a rest h; cases h
theorem Ok.fail {α : Type} {P : α → Prop} {s : List T} : Ok toks (fail s : Res α) P := Ok.bad
theorem Ok.want {s : List T} (h : Suf toks s) (hg : Good s) (x : B) : Ok toks (want x s) (fun _ => True) := by
 unfold PX.want
 split
 ·rename_i hi
  exact Ok.ok trivial (h.tail hg) (hg.is_tail hi).1
 ·exact Ok.fail
theorem Ok.name {s : List T} (h : Suf toks s) (hg : Good s) : Ok toks (name s) (fun m => NameAt toks s.length m) := by
 unfold PX.name
 split
 ·rename_i hi
  have hk : (peek s).kind = 1 := eq_of_beq hi
  exact Ok.ok (h.nameAt hg hk) (h.tail hg) (hg.tail (by omega)).1
 ·exact Ok.fail
theorem Ok.mono {α : Type} {r : Res α} {P Q : α → Prop} (h : Ok toks r P) (hq : ∀ a, P a → Q a) : Ok toks r Q := fun a rest he => ⟨hq a (h a rest he).1, (h a rest he).2⟩
end
structure Gram (toks : List T) (P : Ex → Prop) : Prop where
 num : ∀ q n, Here toks q → -9223372036854775808 ≤ n → n ≤ 9223372036854775807 → P (.mk 1 q n [] false [])
 truth : ∀ q n, Here toks q → (n = 0 ∨ n = 1) → P (.mk 2 q n [] false [])
 var : ∀ q m, NameAt toks q m → P (.mk 3 q 0 m false [])
 neg : ∀ q a, WordAt toks q [[45]] → P a → P (.mk 4 q 0 [] false [a])
 not_ : ∀ q a, WordAt toks q [[110, 111, 116]] → P a → P (.mk 5 q 0 [] false [a])
 sign : ∀ q l a b, WordAt toks q l → (l = levelSigns 0 ∨ l = levelSigns 1 ∨ l = compares ∨ l = levelSigns 3 ∨ l = levelSigns 4) → P a → P b → P (.mk 6 q 0 (tokAt toks q).text false [a, b])
 if_ : ∀ q a b c, WordAt toks q [[105, 102]] → P a → P b → P c → P (.mk 7 q 0 [] false [a, b, c])
 arrow : ∀ q a b, WordAt toks q [[45, 62]] → P a → P b → P (.mk 8 q 0 [] false [a, b])
 fby : ∀ q a b, WordAt toks q [[102, 98, 121]] → isConst a = true → P a → P b → P (.mk 9 q 0 [] false [a, b])
 pre : ∀ q a, WordAt toks q [[112, 114, 101]] → P a → P (.mk 10 q 0 [] false [a])
 when_ : ∀ q m q2 o a, WordAt toks q [[119, 104, 101, 110]] → NameAt toks q2 m → P a → P (.mk 11 q 0 m o [a])
 merge : ∀ q m q2 a b, WordAt toks q [[109, 101, 114, 103, 101]] → NameAt toks q2 m → P a → P b → P (.mk 12 q 0 m false [a, b])
 call : ∀ q m l, NameAt toks q m → (∀ x ∈ l, P x) → P (.mk 13 q 0 m false l)
 await : ∀ q m q2 l, WordAt toks q [[97, 119, 97, 105, 116]] → NameAt toks q2 m → (∀ x ∈ l, P x ∧ isConst x = true) → P (.mk 14 q 0 m false l)

section
variable {toks : List T} {P : Ex → Prop}
theorem Ok.number (G : Gram toks P) (hn : ∀ t ∈ toks, t.n ≤ 9223372036854775808) {s : List T} (h : Suf toks s) (hg : Good s) (hk : (peek s).kind = 2) {a : Nat} (ha : Here toks a) (b : Bool) : Ok toks (number s a b) (fun e => P e ∧ isConst e = true) := by
 unfold PX.number
 have h1 := hn _ (h.mem hg)
 simp only []
 split
 ·exact Ok.bad
 ·rename_i hb
  refine Ok.ok ⟨G.num a _ ha ?_ ?_, rfl⟩ (h.tail hg) (hg.tail (by omega)).1
  ·split <;> omega
  ·cases b
   ·simp at hb ⊢
    omega
   ·simp
    try omega
theorem Ok.truthE (G : Gram toks P) {s : List T} (h : Suf toks s) (hg : Good s) : P (truth s) ∧ isConst (truth s) = true := by
 unfold PX.truth
 refine ⟨G.truth _ _ (h.here hg) ?_, rfl⟩
 split
 ·exact .inr rfl
 ·exact .inl rfl
theorem Ok.literal (G : Gram toks P) (hn : ∀ t ∈ toks, t.n ≤ 9223372036854775808) {s : List T} (h : Suf toks s) (hg : Good s) : Ok toks (literal s) (fun e => P e ∧ isConst e = true) := by
 unfold PX.literal
 split
 ·rename_i hi
  exact Ok.ok (Ok.truthE G h hg) (h.tail hg) (hg.is_tail hi).1
 ·simp only []
  cases hb : is [[45]] s with
  | true =>
   simp only [if_true]
   split
   ·rename_i hk
    exact Ok.number G hn (h.tail hg) (hg.is_tail hb).1 (eq_of_beq hk) (h.here hg) _
   ·exact Ok.fail
  | false =>
   simp only [if_false, Bool.false_eq_true]
   split
   ·rename_i hk
    exact Ok.number G hn h hg (eq_of_beq hk) (h.here hg) _
   ·exact Ok.fail
theorem Ok.lits (G : Gram toks P) (hn : ∀ t ∈ toks, t.n ≤ 9223372036854775808) : ∀ (k : Nat) {s : List T}, Suf toks s → Good s → Ok toks (lits k s) (fun l => ∀ x ∈ l, P x ∧ isConst x = true)
 | 0, s, h, hg => Ok.out
 | k + 1, s, h, hg => by
  unfold PX.lits
  refine Ok.bind (Ok.literal G hn h hg) fun e s1 he h1 g1 => ?_
  split
  ·rename_i hi
   refine Ok.bind (Ok.lits G hn k (h1.tail g1) (g1.is_tail hi).1) fun l s2 hl h2 g2 => Ok.ok (fun x hx => ?_) h2 g2
   rcases List.mem_cons.1 hx with rfl | hx
   ·exact he
   ·exact hl x hx
  ·refine Ok.bind (Ok.want h1 g1 _) fun _ s2 _ h2 g2 => Ok.ok (fun x hx => ?_) h2 g2
   obtain rfl := List.mem_singleton.1 hx
   exact he
structure Oks (toks : List T) (P : Ex → Prop) (k : Nat) : Prop where
 expr : ∀ s, Suf toks s → Good s → Ok toks (expr k s) P
 arrow : ∀ s, Suf toks s → Good s → Ok toks (arrow k s) P
 bin : ∀ lvl s, lvl ≤ 5 → Suf toks s → Good s → Ok toks (bin k lvl s) P
 left : ∀ lvl a s, lvl ≤ 4 → lvl ≠ 2 → P a → Suf toks s → Good s → Ok toks (left k lvl a s) P
 unary : ∀ s, Suf toks s → Good s → Ok toks (unary k s) P
 whens : ∀ a s, P a → Suf toks s → Good s → Ok toks (whens k a s) P
 exprs : ∀ s, Suf toks s → Good s → Ok toks (exprs k s) (fun l => ∀ x ∈ l, P x)
 call : ∀ m a s, NameAt toks a m → Suf toks s → Good s → Ok toks (call k m a s) P
 primary : ∀ s, Suf toks s → Good s → Ok toks (primary k s) P
theorem level_of {lvl : Nat} (h : lvl ≤ 4) (h2 : lvl ≠ 2) : (levelSigns lvl = levelSigns 0 ∨ levelSigns lvl = levelSigns 1 ∨ levelSigns lvl = compares ∨ levelSigns lvl = levelSigns 3 ∨ levelSigns lvl = levelSigns 4) := by
 have : lvl = 0 ∨ lvl = 1 ∨ lvl = 3 ∨ lvl = 4 := by omega
 rcases this with rfl | rfl | rfl | rfl <;> simp
theorem oks (G : Gram toks P) (hn : ∀ t ∈ toks, t.n ≤ 9223372036854775808) : ∀ k, Oks toks P k
 | 0 => by constructor <;> intros <;> first | (rw [PX.expr]; exact Ok.out) | (rw [PX.arrow]; exact Ok.out) | (rw [PX.bin]; exact Ok.out) | (rw [PX.left]; exact Ok.out) | (rw [PX.unary]; exact Ok.out) | (rw [PX.whens]; exact Ok.out) | (rw [PX.exprs]; exact Ok.out) | (rw [PX.call]; exact Ok.out) | (rw [PX.primary]; exact Ok.out)
 | k + 1 => by
  have ih := oks G hn k
  constructor
  ·intro s h g
   unfold expr
   split
   ·rename_i hi
    refine Ok.bind (ih.expr _ (h.tail g) (g.is_tail hi).1) fun a s1 ha h1 g1 => ?_
    refine Ok.bind (Ok.want h1 g1 _) fun _ s2 _ h2 g2 => ?_
    refine Ok.bind (ih.expr _ h2 g2) fun b s3 hb h3 g3 => ?_
    refine Ok.bind (Ok.want h3 g3 _) fun _ s4 _ h4 g4 => ?_
    exact Ok.bind (ih.expr _ h4 g4) fun c s5 hc h5 g5 => Ok.ok (G.if_ _ a b c (h.word g hi) ha hb hc) h5 g5
   ·exact ih.arrow s h g
  ·intro s h g
   unfold arrow
   refine Ok.bind (ih.bin 0 s (by omega) h g) fun a s1 ha h1 g1 => ?_
   split
   ·rename_i hi
    exact Ok.bind (ih.arrow _ (h1.tail g1) (g1.is_tail hi).1) fun b s2 hb h2 g2 => Ok.ok (G.arrow _ a b (h1.word g1 hi) ha hb) h2 g2
   ·split
    ·rename_i hi
     split
     ·rename_i hc
      exact Ok.bind (ih.arrow _ (h1.tail g1) (g1.is_tail hi).1) fun b s2 hb h2 g2 => Ok.ok (G.fby _ a b (h1.word g1 hi) hc ha hb) h2 g2
     ·exact Ok.fail
    ·exact Ok.ok ha h1 g1
  ·intro lvl s hl h g
   unfold bin
   split
   ·subst lvl
    split
    ·rename_i hi
     exact Ok.bind (ih.bin 2 _ (by omega) (h.tail g) (g.is_tail hi).1) fun a s1 ha h1 g1 => Ok.ok (G.not_ _ a (h.word g hi) ha) h1 g1
    ·refine Ok.bind (ih.bin 3 _ (by omega) h g) fun a s1 ha h1 g1 => ?_
     split
     ·rename_i hi
      refine Ok.bind (ih.bin 3 _ (by omega) (h1.tail g1) (g1.is_tail hi).1) fun b s2 hb h2 g2 => Ok.ok ?_ h2 g2
      rw [← h1.tok]
      exact G.sign _ _ a b (h1.word g1 hi) (.inr (.inr (.inl rfl))) ha hb
     ·exact Ok.ok ha h1 g1
   ·split
    ·exact ih.unary s h g
    ·exact Ok.bind (ih.bin (lvl + 1) s (by omega) h g) fun a s1 ha h1 g1 => ih.left lvl a s1 (by omega) (by omega) ha h1 g1
  ·intro lvl a s hl hl2 ha h g
   unfold left
   split
   ·rename_i hi
    refine Ok.bind (ih.bin (lvl + 1) _ (by omega) (h.tail g) (g.is_tail hi).1) fun b s1 hb h1 g1 => ih.left lvl _ s1 hl hl2 ?_ h1 g1
    rw [← h.tok]
    exact G.sign _ _ a b (h.word g hi) (level_of hl hl2) ha hb
   ·exact Ok.ok ha h g
  ·intro s h g
   unfold unary
   split
   ·rename_i hi
    exact Ok.bind (ih.unary _ (h.tail g) (g.is_tail hi).1) fun a s1 ha h1 g1 => Ok.ok (G.pre _ a (h.word g hi) ha) h1 g1
   ·split
    ·rename_i hi
     split
     ·rename_i hk
      simp only [Bool.and_eq_true, beq_iff_eq] at hk
      exact (Ok.number G hn (h.tail g) (g.is_tail hi).1 hk.1 (h.here g) _).mono fun _ h => h.1
     ·exact Ok.bind (ih.unary _ (h.tail g) (g.is_tail hi).1) fun a s1 ha h1 g1 => Ok.ok (G.neg _ a (h.word g hi) ha) h1 g1
    ·exact Ok.bind (ih.primary s h g) fun a s1 ha h1 g1 => ih.whens a s1 ha h1 g1
  ·intro a s ha h g
   unfold whens
   split
   ·rename_i hi
    simp only []
    have h1 := h.tail g
    have g1 := (g.is_tail hi).1
    cases hb : is [[110, 111, 116]] s.tail with
    | true =>
     simp only [if_true]
     exact Ok.bind (Ok.name (h1.tail g1) (g1.is_tail hb).1) fun m s2 hm h2 g2 => ih.whens _ s2 (G.when_ _ m _ true a (h.word g hi) hm ha) h2 g2
    | false =>
     simp only [if_false, Bool.false_eq_true]
     exact Ok.bind (Ok.name h1 g1) fun m s2 hm h2 g2 => ih.whens _ s2 (G.when_ _ m _ false a (h.word g hi) hm ha) h2 g2
   ·exact Ok.ok ha h g
  ·intro s h g
   unfold exprs
   refine Ok.bind (ih.expr s h g) fun e s1 he h1 g1 => ?_
   split
   ·rename_i hi
    refine Ok.bind (ih.exprs _ (h1.tail g1) (g1.is_tail hi).1) fun l s2 hl h2 g2 => Ok.ok (fun x hx => ?_) h2 g2
    rcases List.mem_cons.1 hx with rfl | hx
    ·exact he
    ·exact hl x hx
   ·refine Ok.bind (Ok.want h1 g1 _) fun _ s2 _ h2 g2 => Ok.ok (fun x hx => ?_) h2 g2
    obtain rfl := List.mem_singleton.1 hx
    exact he
  ·intro m a s hm h g
   unfold call
   refine Ok.bind (Ok.want h g _) fun _ s1 _ h1 g1 => ?_
   split
   ·rename_i hi
    exact Ok.ok (G.call a m [] hm (fun x hx => by simp at hx)) (h1.tail g1) (g1.is_tail hi).1
   ·exact Ok.bind (ih.exprs _ h1 g1) fun l s2 hl h2 g2 => Ok.ok (G.call a m l hm hl) h2 g2
  ·intro s h g
   unfold primary
   simp only []
   split
   ·rename_i hk
    exact (Ok.number G hn h g (eq_of_beq hk) (h.here g) _).mono fun _ h => h.1
   ·split
    ·rename_i hk
     have hk : (peek s).kind = 1 := eq_of_beq hk
     have g1 := (g.tail (by omega)).1
     split
     ·exact ih.call _ _ _ (h.nameAt g hk) (h.tail g) g1
     ·exact Ok.ok (G.var _ _ (h.nameAt g hk)) (h.tail g) g1
    ·split
     ·rename_i hi
      have h1 := h.tail g
      have g1 := (g.is_tail hi).1
      have hw := h.word g hi
      split
      ·rename_i ht
       have ht := eq_of_beq ht
       refine Ok.bind (Ok.name h1 g1) fun m s1 hm h1 g1 => ?_
       refine Ok.bind (Ok.want h1 g1 _) fun _ s2 _ h2 g2 => ?_
       refine Ok.bind (ih.expr _ h2 g2) fun a s3 ha h3 g3 => ?_
       refine Ok.bind (Ok.want h3 g3 _) fun _ s4 _ h4 g4 => ?_
       refine Ok.bind (Ok.want h4 g4 _) fun _ s5 _ h5 g5 => ?_
       refine Ok.bind (ih.expr _ h5 g5) fun b s6 hb h6 g6 => ?_
       refine Ok.bind (Ok.want h6 g6 _) fun _ s7 _ h7 g7 => Ok.ok (G.merge _ m _ a b ⟨hw.1, hw.2.1, ?_⟩ hm ha hb) h7 g7
       rw [h.tok, ht]
       simp
      ·split
       ·rename_i ht
        have ht := eq_of_beq ht
        have hw2 : WordAt toks s.length [[97, 119, 97, 105, 116]] := ⟨hw.1, hw.2.1, by rw [h.tok, ht]; simp⟩
        refine Ok.bind (Ok.name h1 g1) fun m s1 hm h1 g1 => ?_
        split
        ·rename_i hi2
         refine Ok.bind (Ok.want (h1.tail g1) (g1.is_tail hi2).1 _) fun _ s2 _ h2 g2 => ?_
         exact Ok.bind (Ok.lits G hn k h2 g2) fun l s3 hl h3 g3 => Ok.ok (G.await _ m _ l hw2 hm hl) h3 g3
        ·exact Ok.ok (G.await _ m _ [] hw2 hm (fun x hx => by simp at hx)) h1 g1
       ·split
        ·refine Ok.bind (ih.expr _ h1 g1) fun e s1 he h1 g1 => ?_
         exact Ok.bind (Ok.want h1 g1 _) fun _ s2 _ h2 g2 => Ok.ok he h2 g2
        ·exact Ok.ok (Ok.truthE G h g).1 h1 g1
     ·exact Ok.fail
end
structure DcIs (toks : List T) (d : Dc) : Prop where
 name : NameAt toks d.place d.name
 clock : d.clock = [] ∧ d.off = false ∨ ∃ q, NameAt toks q d.clock
structure EqIs (toks : List T) (P : Ex → Prop) (q : Eq) : Prop where
 left : ∀ x ∈ q.left, NameAt toks x.place x.name
 some : q.left ≠ []
 e : P q.e
 call : q.async = true → q.e.kind = 13
 deep : deep q.e ≤ 40
structure NdIs (toks : List T) (P : Ex → Prop) (n : Nd) : Prop where
 name : NameAt toks n.place n.name
 ins : ∀ d ∈ n.ins, DcIs toks d ∧ d.clock = []
 outs : ∀ d ∈ n.outs, DcIs toks d ∧ d.clock = []
 vars : ∀ d ∈ n.vars, DcIs toks d
 eqs : ∀ q ∈ n.eqs, EqIs toks P q
section
variable {toks : List T} {P : Ex → Prop}
theorem Suf.skip {s : List T} (h : Suf toks s) (hg : Good s) (l : List B) : Suf toks (if is l s then s.tail else s) := by
 split
 ·exact h.tail hg
 ·exact h
theorem Ok.decl {s : List T} (h : Suf toks s) (hg : Good s) : Ok toks (decl s) (fun d => DcIs toks d ∧ d.clock = []) := by
 unfold PX.decl
 refine Ok.bind (Ok.name h hg) fun m s1 hm h1 g1 => ?_
 refine Ok.bind (Ok.want h1 g1 _) fun _ s2 _ h2 g2 => ?_
 have h3 := h2.skip g2 [[102, 117, 116, 117, 114, 101]]
 have g3 := (g2.skip [[102, 117, 116, 117, 114, 101]]).1
 dsimp only
 generalize (if is [[102, 117, 116, 117, 114, 101]] s2 = true then s2.tail else s2) = s3 at h3 g3 ⊢
 split
 ·rename_i hi
  exact Ok.ok ⟨⟨hm, .inl ⟨rfl, rfl⟩⟩, rfl⟩ (h3.tail g3) (g3.is_tail hi).1
 ·exact Ok.fail
theorem Ok.declsL : ∀ (n : Nat) {s : List T}, Suf toks s → Good s → Ok toks (declsL n s) (fun l => ∀ d ∈ l, DcIs toks d ∧ d.clock = [])
 | 0, s, h, g => Ok.out
 | n + 1, s, h, g => by
  unfold PX.declsL
  refine Ok.bind (Ok.decl h g) fun d s1 hd h1 g1 => ?_
  split
  ·rename_i hi
   refine Ok.bind (Ok.declsL n (h1.tail g1) (g1.is_tail hi).1) fun l s2 hl h2 g2 => Ok.ok (fun x hx => ?_) h2 g2
   rcases List.mem_cons.1 hx with rfl | hx
   ·exact hd
   ·exact hl x hx
  ·refine Ok.bind (Ok.want h1 g1 _) fun _ s2 _ h2 g2 => Ok.ok (fun x hx => ?_) h2 g2
   obtain rfl := List.mem_singleton.1 hx
   exact hd
theorem Ok.decls {n : Nat} {s : List T} (h : Suf toks s) (g : Good s) : Ok toks (decls n s) (fun l => ∀ d ∈ l, DcIs toks d ∧ d.clock = []) := by
 unfold PX.decls
 refine Ok.bind (Ok.want h g _) fun _ s1 _ h1 g1 => ?_
 split
 ·rename_i hi
  exact Ok.ok (fun x hx => by simp at hx) (h1.tail g1) (g1.is_tail hi).1
 ·exact Ok.declsL n h1 g1
theorem Ok.clockOf {d : Dc} {s : List T} (hd : DcIs toks d ∧ d.clock = []) (h : Suf toks s) (g : Good s) : Ok toks (clockOf d s) (DcIs toks) := by
 unfold PX.clockOf
 split
 ·rename_i hi
  have h1 := h.tail g
  have g1 := (g.is_tail hi).1
  dsimp only
  have h2 := h1.skip g1 [[110, 111, 116]]
  have g2 := (g1.skip [[110, 111, 116]]).1
  exact Ok.bind (Ok.name h2 g2) fun m s2 hm h3 g3 => Ok.ok ⟨hd.1.name, .inr ⟨_, hm⟩⟩ h3 g3
 ·exact Ok.ok hd.1 h g
theorem Ok.varsL : ∀ (n : Nat) {s : List T}, Suf toks s → Good s → Ok toks (varsL n s) (fun l => ∀ d ∈ l, DcIs toks d)
 | 0, s, h, g => Ok.out
 | n + 1, s, h, g => by
  unfold PX.varsL
  refine Ok.bind (Ok.decl h g) fun d0 s1 hd0 h1 g1 => ?_
  refine Ok.bind (Ok.clockOf hd0 h1 g1) fun d s2 hd h2 g2 => ?_
  refine Ok.bind (Ok.want h2 g2 _) fun _ s3 _ h3 g3 => ?_
  split
  ·refine Ok.ok (fun x hx => ?_) h3 g3
   obtain rfl := List.mem_singleton.1 hx
   exact hd
  ·refine Ok.bind (Ok.varsL n h3 g3) fun l s4 hl h4 g4 => Ok.ok (fun x hx => ?_) h4 g4
   rcases List.mem_cons.1 hx with rfl | hx
   ·exact hd
   ·exact hl x hx
theorem Ok.vars {n : Nat} {s : List T} (h : Suf toks s) (g : Good s) : Ok toks (vars n s) (fun l => ∀ d ∈ l, DcIs toks d) := by
 unfold PX.vars
 split
 ·rename_i hi
  exact Ok.varsL n (h.tail g) (g.is_tail hi).1
 ·exact Ok.ok (fun x hx => by simp at hx) h g
theorem Ok.leftsL : ∀ (n : Nat) {s : List T}, Suf toks s → Good s → Ok toks (leftsL n s) (fun l => ∀ x ∈ l, NameAt toks x.place x.name)
 | 0, s, h, g => Ok.out
 | n + 1, s, h, g => by
  unfold PX.leftsL
  split
  ·rename_i hi
   refine Ok.bind (Ok.name (h.tail g) (g.is_tail hi).1) fun m s1 hm h1 g1 => ?_
   refine Ok.bind (Ok.leftsL n h1 g1) fun l s2 hl h2 g2 => Ok.ok (fun x hx => ?_) h2 g2
   rcases List.mem_cons.1 hx with rfl | hx
   ·exact hm
   ·exact hl x hx
  ·exact Ok.ok (fun x hx => by simp at hx) h g
theorem Ok.lefts {n : Nat} {s : List T} (h : Suf toks s) (g : Good s) : Ok toks (lefts n s) (fun l => (∀ x ∈ l, NameAt toks x.place x.name) ∧ l ≠ []) := by
 unfold PX.lefts
 split
 ·rename_i hi
  refine Ok.bind (Ok.name (h.tail g) (g.is_tail hi).1) fun m s1 hm h1 g1 => ?_
  refine Ok.bind (Ok.want h1 g1 _) fun _ s2 _ h2 g2 => ?_
  refine Ok.bind (Ok.name h2 g2) fun m2 s3 hm2 h3 g3 => ?_
  refine Ok.bind (Ok.leftsL n h3 g3) fun l s4 hl h4 g4 => ?_
  refine Ok.bind (Ok.want h4 g4 _) fun _ s5 _ h5 g5 => Ok.ok ⟨fun x hx => ?_, by simp⟩ h5 g5
  rcases List.mem_cons.1 hx with rfl | hx
  ·exact hm
  rcases List.mem_cons.1 hx with rfl | hx
  ·exact hm2
  ·exact hl x hx
 ·refine Ok.bind (Ok.name h g) fun m s1 hm h1 g1 => Ok.ok ⟨fun x hx => ?_, by simp⟩ h1 g1
  obtain rfl := List.mem_singleton.1 hx
  exact hm
theorem call_kind {k : Nat} {m : B} {a : Nat} {s : List T} {e : Ex} {rest : List T} (h : call k m a s = .ok e rest) : e.kind = 13 := by
 cases k with
 | zero => rw [call] at h; cases h
 | succ k =>
  rw [call] at h
  cases h1 : want [40] s with
  | bad p e => rw [h1] at h; cases h
  | out => rw [h1] at h; cases h
  | ok u s1 =>
   rw [h1] at h
   simp only [Res.bind] at h
   split at h
   ·cases h; rfl
   ·cases h2 : exprs k s1 with
    | bad p e => rw [h2] at h; cases h
    | out => rw [h2] at h; cases h
    | ok l s2 => rw [h2] at h; cases h; rfl
theorem Ok.right (G : Gram toks P) (hn : ∀ t ∈ toks, t.n ≤ 9223372036854775808) {K : Nat} {s : List T} (h : Suf toks s) (g : Good s) : Ok toks (right K s) (fun q => P q.2 ∧ (q.1 = true → q.2.kind = 13)) := by
 unfold PX.right
 split
 ·rename_i hi
  refine Ok.bind (Ok.name (h.tail g) (g.is_tail hi).1) fun m s1 hm h1 g1 => ?_
  refine Ok.bind (P := fun e => P e ∧ e.kind = 13) (fun a rest he => ?_) fun e s2 he h2 g2 => Ok.ok ⟨he.1, fun _ => he.2⟩ h2 g2
  have h3 := (oks G hn K).call m _ s1 hm h1 g1 a rest he
  exact ⟨⟨h3.1, call_kind he⟩, h3.2⟩
 ·exact Ok.bind ((oks G hn K).expr s h g) fun e s1 he h1 g1 => Ok.ok ⟨he, fun h => by cases h⟩ h1 g1
theorem Ok.shallow {e : Ex} {s : List T} (h : Suf toks s) (g : Good s) : Ok toks (shallow e s) (fun _ => deep e ≤ 40) := by
 unfold PX.shallow
 split
 ·exact Ok.bad
 ·exact Ok.ok (by omega) h g
theorem Ok.eq (G : Gram toks P) (hn : ∀ t ∈ toks, t.n ≤ 9223372036854775808) {K : Nat} {s : List T} (h : Suf toks s) (g : Good s) : Ok toks (eq K s) (EqIs toks P) := by
 unfold PX.eq
 refine Ok.bind (Ok.lefts h g) fun l s1 hl h1 g1 => ?_
 refine Ok.bind (Ok.want h1 g1 _) fun _ s2 _ h2 g2 => ?_
 refine Ok.bind (Ok.right G hn h2 g2) fun q s3 hq h3 g3 => ?_
 refine Ok.bind (Ok.shallow h3 g3) fun _ s4 hd h4 g4 => ?_
 exact Ok.bind (Ok.want h4 g4 _) fun _ s5 _ h5 g5 => Ok.ok ⟨hl.1, hl.2, hq.1, hq.2, hd⟩ h5 g5
theorem Ok.eqs (G : Gram toks P) (hn : ∀ t ∈ toks, t.n ≤ 9223372036854775808) {K : Nat} : ∀ (n : Nat) {s : List T}, Suf toks s → Good s → Ok toks (eqs K n s) (fun l => ∀ q ∈ l, EqIs toks P q)
 | 0, s, h, g => Ok.out
 | n + 1, s, h, g => by
  unfold PX.eqs
  split
  ·exact Ok.ok (fun x hx => by simp at hx) h g
  ·refine Ok.bind (Ok.eq G hn h g) fun q s1 hq h1 g1 => ?_
   refine Ok.bind (Ok.eqs G hn n h1 g1) fun l s2 hl h2 g2 => Ok.ok (fun x hx => ?_) h2 g2
   rcases List.mem_cons.1 hx with rfl | hx
   ·exact hq
   ·exact hl x hx
theorem Ok.node (G : Gram toks P) (hn : ∀ t ∈ toks, t.n ≤ 9223372036854775808) {K : Nat} {s : List T} (h : Suf toks s) (g : Good s) : Ok toks (node K s) (NdIs toks P) := by
 unfold PX.node
 refine Ok.bind (Ok.want h g _) fun _ s1 _ h1 g1 => ?_
 refine Ok.bind (Ok.name h1 g1) fun m s2 hm h2 g2 => ?_
 refine Ok.bind (Ok.decls h2 g2) fun ins s3 hins h3 g3 => ?_
 refine Ok.bind (Ok.want h3 g3 _) fun _ s4 _ h4 g4 => ?_
 refine Ok.bind (Ok.decls h4 g4) fun outs s5 houts h5 g5 => ?_
 refine Ok.bind (Ok.vars h5 g5) fun vs s6 hvs h6 g6 => ?_
 refine Ok.bind (Ok.want h6 g6 _) fun _ s7 _ h7 g7 => ?_
 refine Ok.bind (Ok.eqs G hn K h7 g7) fun qs s8 hqs h8 g8 => ?_
 exact Ok.bind (Ok.want h8 g8 _) fun _ s9 _ h9 g9 => Ok.ok ⟨hm, hins, houts, hvs, hqs⟩ h9 g9
theorem Ok.nodesL (G : Gram toks P) (hn : ∀ t ∈ toks, t.n ≤ 9223372036854775808) {K : Nat} : ∀ (n : Nat) {s : List T}, Suf toks s → Good s → Ok toks (nodesL K n s) (fun l => ∀ x ∈ l, NdIs toks P x)
 | 0, s, h, g => Ok.out
 | n + 1, s, h, g => by
  unfold PX.nodesL
  split
  ·exact Ok.ok (fun x hx => by simp at hx) h g
  ·refine Ok.bind (Ok.node G hn h g) fun q s1 hq h1 g1 => ?_
   refine Ok.bind (Ok.nodesL G hn n h1 g1) fun l s2 hl h2 g2 => Ok.ok (fun x hx => ?_) h2 g2
   rcases List.mem_cons.1 hx with rfl | hx
   ·exact hq
   ·exact hl x hx
theorem Ok.nodes (G : Gram toks P) (hn : ∀ t ∈ toks, t.n ≤ 9223372036854775808) {K : Nat} {s : List T} (h : Suf toks s) (g : Good s) : Ok toks (nodes K s) (fun l => (∀ x ∈ l, NdIs toks P x) ∧ l ≠ []) := by
 unfold PX.nodes
 refine Ok.bind (Ok.node G hn h g) fun q s1 hq h1 g1 => ?_
 refine Ok.bind (Ok.nodesL G hn K h1 g1) fun l s2 hl h2 g2 => Ok.ok ⟨fun x hx => ?_, by simp⟩ h2 g2
 rcases List.mem_cons.1 hx with rfl | hx
 ·exact hq
 ·exact hl x hx
theorem program_is (G : Gram toks P) (hn : ∀ t ∈ toks, t.n ≤ 9223372036854775808) (hg : Good toks) {K : Nat} {l : List Nd} {rest : List T} (h : program K toks = .ok l rest) : (∀ x ∈ l, NdIs toks P x) ∧ l ≠ [] := by
 have h1 : Ok toks (program K toks) (fun l => (∀ x ∈ l, NdIs toks P x) ∧ l ≠ []) := by
  unfold PX.program
  refine Ok.bind (Ok.nodes G hn Suf.refl hg) fun l s1 hl h1 g1 => ?_
  refine Ok.bind (P := fun _ => True) ?_ fun _ s2 _ h2 g2 => Ok.ok hl h2 g2
  unfold PX.atEnd
  split
  ·exact Ok.ok trivial h1 g1
  ·exact Ok.fail
 exact (h1 l rest h).1
end
end PX
end Go.Proofs.YtjafllnbgfcchaaGreatDoor
end
section
/- What the plain parser reads is no larger than what it was read of; how deep it is. -/
namespace Go.Proofs.YtjafllnbgfcchaaGreatDoor
namespace PX
mutual
def nsz : Ex → Nat
 | .mk _ _ _ _ _ l => nszs l + 1
def nszs : List Ex → Nat
 | [] => 0
 | e :: r => nsz e + nszs r
end
theorem nsz_pos (e : Ex) : 1 ≤ nsz e := by cases e; rw [nsz]; omega
theorem deeps_le : ∀ (n : Nat) (l : List Ex), nszs l ≤ n → deeps l ≤ nszs l
 | n, [], _ => by rw [deeps]; exact Nat.zero_le _
 | 0, e :: r, h => by rw [nszs] at h; have := nsz_pos e; omega
 | n + 1, .mk k a m s o l :: r, h => by
  rw [nszs, nsz] at h
  rw [deeps, deepE, nszs, nsz]
  have h1 := deeps_le n l (by omega)
  have h2 := deeps_le n r (by omega)
  omega
def Sz {α : Type} (f : α → Nat) (r : Res α) (n : Nat) : Prop := ∀ a rest, r = .ok a rest → f a + rest.length ≤ n
theorem Sz.bind {α β : Type} {f : α → Nat} {g : β → Nat} {r : Res α} {h : α → List T → Res β} {m n : Nat} (h1 : Sz f r m) (h2 : ∀ a rest, f a + rest.length ≤ m → Sz g (h a rest) n) : Sz g (r.bind h) n := by
 cases r with
 | ok a rest => exact h2 a rest (h1 a rest rfl)
 | bad p e => intro a rest h; cases h
 | out => intro a rest h; cases h
theorem Sz.ok {α : Type} {f : α → Nat} {a : α} {s : List T} {n : Nat} (h : f a + s.length ≤ n) : Sz f (.ok a s) n := by
 intro a' rest e
 cases e
 exact h
theorem Sz.bad {α : Type} {f : α → Nat} {p e n : Nat} : Sz f (.bad p e) n := by intro a rest h; cases h
theorem Sz.out {α : Type} {f : α → Nat} {n : Nat} : Sz f .out n := by intro a rest h; cases h
theorem Sz.fail {α : Type} {f : α → Nat} {s : List T} {n : Nat} : Sz f (fail s) n := Sz.bad
theorem Sz.mono {α : Type} {f : α → Nat} {r : Res α} {n m : Nat} (h : Sz f r n) (hm : n ≤ m) : Sz f r m := fun a rest e => Nat.le_trans (h a rest e) hm
theorem kind_len {s : List T} (h : (peek s).kind ≠ 5) : s.tail.length + 1 = s.length := by
 cases s with
 | nil => exact absurd rfl h
 | cons a s => simp
theorem is_len {l : List B} {s : List T} (h : is l s = true) : s.tail.length + 1 = s.length := kind_len (is_kind h)
theorem Sz.want {s : List T} {w : B} : Sz (fun _ => 1) (want w s) s.length := by
 unfold PX.want
 split
 ·rename_i hi
  have := is_len hi
  exact Sz.ok (by omega)
 ·exact Sz.fail
theorem Sz.name {s : List T} : Sz (fun _ => 1) (name s) s.length := by
 unfold PX.name
 split
 ·rename_i hi
  have := kind_len (s := s) (by simp at hi; omega)
  exact Sz.ok (by omega)
 ·exact Sz.fail
theorem Sz.number {s : List T} (hk : (peek s).kind = 2) {a : Nat} {b : Bool} : Sz nsz (number s a b) s.length := by
 unfold PX.number
 have := kind_len (s := s) (by omega)
 simp only []
 split
 ·exact Sz.bad
 ·exact Sz.ok (by rw [nsz, nszs]; omega)
theorem Sz.literal {s : List T} : Sz nsz (literal s) s.length := by
 unfold PX.literal
 split
 ·rename_i hi
  have := is_len hi
  exact Sz.ok (by unfold truth; rw [nsz, nszs]; omega)
 ·simp only []
  cases hb : is [[45]] s with
  | true =>
   have := is_len hb
   simp only [if_true]
   split
   ·rename_i hk
    exact (Sz.number (eq_of_beq hk)).mono (by omega)
   ·exact Sz.fail
  | false =>
   simp only [if_false, Bool.false_eq_true]
   split
   ·rename_i hk
    exact Sz.number (eq_of_beq hk)
   ·exact Sz.fail
theorem Sz.lits : ∀ (k : Nat) {s : List T}, Sz nszs (lits k s) s.length
 | 0, s => Sz.out
 | k + 1, s => by
  unfold PX.lits
  refine Sz.bind Sz.literal fun e s1 h1 => ?_
  split
  ·rename_i hi
   have := is_len hi
   exact Sz.bind (Sz.lits k) fun l s2 h2 => Sz.ok (by rw [nszs]; omega)
  ·exact Sz.bind Sz.want fun _ s2 h2 => Sz.ok (by rw [nszs, nszs]; omega)
structure Szs (k : Nat) : Prop where
 expr : ∀ s, Sz nsz (expr k s) s.length
 arrow : ∀ s, Sz nsz (arrow k s) s.length
 bin : ∀ lvl s, Sz nsz (bin k lvl s) s.length
 left : ∀ lvl a s, Sz nsz (left k lvl a s) (nsz a + s.length)
 unary : ∀ s, Sz nsz (unary k s) s.length
 whens : ∀ a s, Sz nsz (whens k a s) (nsz a + s.length)
 exprs : ∀ s, Sz nszs (exprs k s) s.length
 call : ∀ m a s, Sz nsz (call k m a s) (s.length + 1)
 primary : ∀ s, Sz nsz (primary k s) s.length
theorem szs : ∀ k, Szs k
 | 0 => by constructor <;> intros <;> first | (rw [expr.eq_1]; exact Sz.out) | (rw [arrow.eq_1]; exact Sz.out) | (rw [bin.eq_1]; exact Sz.out) | (rw [left.eq_1]; exact Sz.out) | (rw [unary.eq_1]; exact Sz.out) | (rw [whens.eq_1]; exact Sz.out) | (rw [exprs.eq_1]; exact Sz.out) | (rw [call.eq_1]; exact Sz.out) | (rw [primary.eq_1]; exact Sz.out)
 | k + 1 => by
  have ih := szs k
  constructor
  ·intro s
   unfold expr
   split
   ·rename_i hi
    have := is_len hi
    refine Sz.bind (ih.expr _) fun a s1 h1 => Sz.bind Sz.want fun _ s2 h2 => Sz.bind (ih.expr _) fun b s3 h3 => Sz.bind Sz.want fun _ s4 h4 => Sz.bind (ih.expr _) fun c s5 h5 => Sz.ok ?_
    simp only [nsz, nszs]
    omega
   ·exact ih.arrow s
  ·intro s
   unfold arrow
   refine Sz.bind (ih.bin 0 s) fun a s1 h1 => ?_
   split
   ·rename_i hi
    have := is_len hi
    refine Sz.bind (ih.arrow _) fun b s2 h2 => Sz.ok ?_
    simp only [nsz, nszs]
    omega
   ·split
    ·rename_i hi
     have := is_len hi
     split
     ·refine Sz.bind (ih.arrow _) fun b s2 h2 => Sz.ok ?_
      simp only [nsz, nszs]
      omega
     ·exact Sz.fail
    ·exact Sz.ok h1
  ·intro lvl s
   unfold bin
   split
   ·split
    ·rename_i hi
     have := is_len hi
     refine Sz.bind (ih.bin 2 _) fun a s1 h1 => Sz.ok ?_
     simp only [nsz, nszs]
     omega
    ·refine Sz.bind (ih.bin 3 s) fun a s1 h1 => ?_
     split
     ·rename_i hi
      have := is_len hi
      refine Sz.bind (ih.bin 3 _) fun b s2 h2 => Sz.ok ?_
      simp only [nsz, nszs]
      omega
     ·exact Sz.ok h1
   ·split
    ·exact ih.unary s
    ·exact Sz.bind (ih.bin (lvl + 1) s) fun a s1 h1 => (ih.left lvl a s1).mono h1
  ·intro lvl a s
   unfold left
   split
   ·rename_i hi
    have := is_len hi
    refine Sz.bind (ih.bin (lvl + 1) _) fun b s1 h1 => (ih.left lvl _ s1).mono ?_
    simp only [nsz, nszs]
    omega
   ·exact Sz.ok (Nat.le_refl _)
  ·intro s
   unfold unary
   split
   ·rename_i hi
    have := is_len hi
    refine Sz.bind (ih.unary _) fun a s1 h1 => Sz.ok ?_
    simp only [nsz, nszs]
    omega
   ·split
    ·rename_i hi
     have := is_len hi
     split
     ·rename_i hk
      simp only [Bool.and_eq_true, beq_iff_eq] at hk
      exact (Sz.number hk.1).mono (by omega)
     ·refine Sz.bind (ih.unary _) fun a s1 h1 => Sz.ok ?_
      simp only [nsz, nszs]
      omega
    ·exact Sz.bind (ih.primary s) fun a s1 h1 => (ih.whens a s1).mono h1
  ·intro a s
   unfold whens
   split
   ·rename_i hi
    have h0 := is_len hi
    simp only []
    cases hb : is [[110, 111, 116]] s.tail with
    | true =>
     have := is_len hb
     simp only [if_true]
     refine Sz.bind Sz.name fun m s2 h2 => (ih.whens _ s2).mono ?_
     simp only [nsz, nszs]
     omega
    | false =>
     simp only [if_false, Bool.false_eq_true]
     refine Sz.bind Sz.name fun m s2 h2 => (ih.whens _ s2).mono ?_
     simp only [nsz, nszs]
     omega
   ·exact Sz.ok (Nat.le_refl _)
  ·intro s
   unfold exprs
   refine Sz.bind (ih.expr s) fun e s1 h1 => ?_
   split
   ·rename_i hi
    have := is_len hi
    exact Sz.bind (ih.exprs _) fun l s2 h2 => Sz.ok (by rw [nszs]; omega)
   ·exact Sz.bind Sz.want fun _ s2 h2 => Sz.ok (by rw [nszs, nszs]; omega)
  ·intro m a s
   unfold call
   refine Sz.bind Sz.want fun _ s1 h1 => ?_
   split
   ·rename_i hi
    have := is_len hi
    exact Sz.ok (by rw [nsz, nszs]; omega)
   ·exact Sz.bind (ih.exprs _) fun l s2 h2 => Sz.ok (by rw [nsz]; omega)
  ·intro s
   unfold primary
   simp only []
   split
   ·rename_i hk
    exact Sz.number (eq_of_beq hk)
   ·split
    ·rename_i hk
     have := kind_len (s := s) (by have := eq_of_beq hk; omega)
     split
     ·exact (ih.call _ _ _).mono (by omega)
     ·exact Sz.ok (by rw [nsz, nszs]; omega)
    ·split
     ·rename_i hi
      have := is_len hi
      split
      ·refine Sz.bind Sz.name fun m s1 h1 => Sz.bind Sz.want fun _ s2 h2 => Sz.bind (ih.expr _) fun a s3 h3 => Sz.bind Sz.want fun _ s4 h4 => Sz.bind Sz.want fun _ s5 h5 => Sz.bind (ih.expr _) fun b s6 h6 => Sz.bind Sz.want fun _ s7 h7 => Sz.ok ?_
       simp only [nsz, nszs]
       omega
      ·split
       ·refine Sz.bind Sz.name fun m s1 h1 => ?_
        split
        ·rename_i hi2
         have := is_len hi2
         refine Sz.bind Sz.want fun _ s2 h2 => Sz.bind (Sz.lits k) fun l s3 h3 => Sz.ok ?_
         rw [nsz]
         omega
        ·exact Sz.ok (by rw [nsz, nszs]; omega)
       ·split
        ·exact Sz.bind (ih.expr _) fun e s1 h1 => Sz.bind Sz.want fun _ s2 h2 => Sz.ok (by omega)
        ·exact Sz.ok (by unfold truth; rw [nsz, nszs]; omega)
     ·exact Sz.fail
end PX
end Go.Proofs.YtjafllnbgfcchaaGreatDoor
end
section
/- What the plain parser reads of nodes is no larger than what it was read of. -/
namespace Go.Proofs.YtjafllnbgfcchaaGreatDoor
set_option linter.unusedVariables false
set_option linter.unusedSimpArgs false
namespace PX
def szQ (q : Eq) : Nat := 1 + q.left.length + nsz q.e
def szN (n : Nd) : Nat := 1 + n.ins.length + n.outs.length + n.vars.length + (n.eqs.map szQ).sum
theorem Sz.skip {α : Type} {f : α → Nat} {c : Bool} {s : List T} {l : List B} {r : List T → Res α} {n : Nat} (h : ∀ s', s'.length ≤ s.length → Sz f (r s') n) : Sz f (r (if is l s then s.tail else s)) n := by
 split
 ·rename_i hi
  exact h _ (by have := is_len hi; omega)
 ·exact h _ (Nat.le_refl _)
theorem Sz.decl {s : List T} : Sz (fun _ => 1) (decl s) s.length := by
 unfold PX.decl
 refine Sz.bind Sz.name fun m s1 h1 => Sz.bind (Sz.want.mono (Nat.le_refl _)) fun _ s2 h2 => ?_
 try dsimp only at h1 h2 ⊢
 have key : ∀ s3 : List T, s3.length ≤ s2.length → Sz (fun _ => 1) (if is [[105, 110, 116], [98, 111, 111, 108]] s3 then (Res.ok (⟨m, s.length, (peek s3).text == [98, 111, 111, 108], is [[102, 117, 116, 117, 114, 101]] s2, [], false⟩ : Dc) s3.tail) else PX.fail s3) s.length := by
  intro s3 h3
  split
  ·rename_i hi
   have := is_len hi
   exact Sz.ok (by (try dsimp only); omega)
  ·exact Sz.fail
 cases hf : is [[102, 117, 116, 117, 114, 101]] s2 with
 | true =>
  have := is_len hf
  rw [hf] at key
  exact key s2.tail (by omega)
 | false =>
  rw [hf] at key
  exact key s2 (Nat.le_refl _)
theorem Sz.declsL : ∀ (k : Nat) {s : List T}, Sz List.length (declsL k s) s.length
 | 0, s => Sz.out
 | k + 1, s => by
  unfold PX.declsL
  refine Sz.bind Sz.decl fun d s1 h1 => ?_
  try dsimp only at h1
  split
  ·rename_i hi
   have := is_len hi
   exact Sz.bind (Sz.declsL k) fun l s2 h2 => Sz.ok (by rw [List.length_cons]; omega)
  ·exact Sz.bind Sz.want fun _ s2 h2 => Sz.ok (by simp only [List.length_cons, List.length_nil]; (try dsimp only at h2); omega)
theorem Sz.decls (k : Nat) {s : List T} : Sz List.length (decls k s) s.length := by
 unfold PX.decls
 refine Sz.bind Sz.want fun _ s1 h1 => ?_
 try dsimp only at h1
 split
 ·rename_i hi
  have := is_len hi
  exact Sz.ok (by simp only [List.length_nil]; omega)
 ·exact (Sz.declsL k).mono (by omega)
theorem Sz.clockOf (d : Dc) {s : List T} : Sz (fun _ => 0) (clockOf d s) s.length := by
 unfold PX.clockOf
 split
 ·rename_i hi
  have := is_len hi
  try dsimp only
  cases hn : is [[110, 111, 116]] s.tail with
  | true =>
   have := is_len hn
   simp only [if_true]
   exact Sz.bind Sz.name fun m s2 h2 => Sz.ok (by (try dsimp only at h2 ⊢); omega)
  | false =>
   simp only [if_false, Bool.false_eq_true]
   exact Sz.bind Sz.name fun m s2 h2 => Sz.ok (by (try dsimp only at h2 ⊢); omega)
 ·exact Sz.ok (by omega)
theorem Sz.varsL : ∀ (k : Nat) {s : List T}, Sz List.length (varsL k s) s.length
 | 0, s => Sz.out
 | k + 1, s => by
  unfold PX.varsL
  refine Sz.bind Sz.decl fun d0 s1 h1 => Sz.bind (Sz.clockOf d0) fun d s2 h2 => Sz.bind Sz.want fun _ s3 h3 => ?_
  try dsimp only at h1 h2 h3
  split
  ·exact Sz.ok (by simp only [List.length_cons, List.length_nil]; omega)
  ·exact Sz.bind (Sz.varsL k) fun l s4 h4 => Sz.ok (by rw [List.length_cons]; omega)
theorem Sz.vars (k : Nat) {s : List T} : Sz List.length (vars k s) s.length := by
 unfold PX.vars
 split
 ·rename_i hi
  have := is_len hi
  exact (Sz.varsL k).mono (by omega)
 ·exact Sz.ok (by simp)
theorem Sz.leftsL : ∀ (k : Nat) {s : List T}, Sz List.length (leftsL k s) s.length
 | 0, s => Sz.out
 | k + 1, s => by
  unfold PX.leftsL
  split
  ·rename_i hi
   have := is_len hi
   exact Sz.bind Sz.name fun m s1 h1 => Sz.bind (Sz.leftsL k) fun l s2 h2 => Sz.ok (by rw [List.length_cons]; (try dsimp only at h1); omega)
  ·exact Sz.ok (by simp)
theorem Sz.lefts (k : Nat) {s : List T} : Sz List.length (lefts k s) s.length := by
 unfold PX.lefts
 split
 ·rename_i hi
  have := is_len hi
  refine Sz.bind Sz.name fun m s1 h1 => Sz.bind Sz.want fun _ s2 h2 => Sz.bind Sz.name fun m2 s3 h3 => Sz.bind (Sz.leftsL k) fun l s4 h4 => Sz.bind Sz.want fun _ s5 h5 => Sz.ok ?_
  try dsimp only at h1 h2 h3 h5
  simp only [List.length_cons]
  omega
 ·exact Sz.bind Sz.name fun m s1 h1 => Sz.ok (by (try dsimp only at h1); simp only [List.length_cons, List.length_nil]; omega)
theorem Sz.right (K : Nat) {s : List T} : Sz (fun q : Bool × Ex => nsz q.2) (right K s) s.length := by
 unfold PX.right
 split
 ·rename_i hi
  have := is_len hi
  exact Sz.bind Sz.name fun m s1 h1 => Sz.bind ((szs K).call _ _ _) fun e s2 h2 => Sz.ok (by (try dsimp only at h1 ⊢); omega)
 ·exact Sz.bind ((szs K).expr s) fun e s1 h1 => Sz.ok h1
theorem Sz.shallow (e : Ex) {s : List T} : Sz (fun _ => 0) (shallow e s) s.length := by
 unfold PX.shallow
 split
 ·exact Sz.bad
 ·exact Sz.ok (by omega)
theorem Sz.eqn (K : Nat) {s : List T} : Sz szQ (eq K s) s.length := by
 unfold PX.eq
 refine Sz.bind (Sz.lefts K) fun l s1 h1 => Sz.bind Sz.want fun _ s2 h2 => Sz.bind (Sz.right K) fun q s3 h3 => Sz.bind (Sz.shallow _) fun _ s4 h4 => Sz.bind Sz.want fun _ s5 h5 => Sz.ok ?_
 try dsimp only at h2 h3 h4 h5
 unfold szQ
 try dsimp only
 omega
theorem Sz.eqs (K : Nat) : ∀ (k : Nat) {s : List T}, Sz (fun l : List Eq => (l.map szQ).sum) (eqs K k s) s.length
 | 0, s => Sz.out
 | k + 1, s => by
  unfold PX.eqs
  split
  ·exact Sz.ok (by simp)
  ·exact Sz.bind (Sz.eqn K) fun q s1 h1 => Sz.bind (Sz.eqs K k) fun l s2 h2 => Sz.ok (by simp only [List.map_cons, List.sum_cons]; (try dsimp only at h2); omega)
theorem Sz.node (K : Nat) {s : List T} : Sz szN (node K s) s.length := by
 unfold PX.node
 refine Sz.bind Sz.want fun _ s1 h1 => Sz.bind Sz.name fun m s2 h2 => Sz.bind (Sz.decls K) fun ins s3 h3 => Sz.bind Sz.want fun _ s4 h4 => Sz.bind (Sz.decls K) fun outs s5 h5 => Sz.bind (Sz.vars K) fun vs s6 h6 => Sz.bind Sz.want fun _ s7 h7 => Sz.bind (Sz.eqs K K) fun qs s8 h8 => Sz.bind Sz.want fun _ s9 h9 => Sz.ok ?_
 try dsimp only at h1 h2 h4 h7 h8 h9
 unfold szN
 try dsimp only
 omega
theorem Sz.nodesL (K : Nat) : ∀ (k : Nat) {s : List T}, Sz (fun l : List Nd => (l.map szN).sum) (nodesL K k s) s.length
 | 0, s => Sz.out
 | k + 1, s => by
  unfold PX.nodesL
  split
  ·exact Sz.ok (by simp)
  ·exact Sz.bind (Sz.node K) fun q s1 h1 => Sz.bind (Sz.nodesL K k) fun l s2 h2 => Sz.ok (by simp only [List.map_cons, List.sum_cons]; (try dsimp only at h2); omega)
theorem program_size {K : Nat} {s : List T} {l : List Nd} {rest : List T} (h : program K s = .ok l rest) : (l.map szN).sum ≤ s.length := by
 have h1 : Sz (fun l : List Nd => (l.map szN).sum) (program K s) s.length := by
  unfold PX.program PX.nodes
  refine Sz.bind (f := fun l : List Nd => (l.map szN).sum) (m := s.length) ?_ fun l s1 h1 => Sz.bind (f := fun _ => 0) (m := s1.length) ?_ fun _ s2 h2 => Sz.ok (by (try dsimp only at h1 h2); omega)
  ·exact Sz.bind (Sz.node K) fun x s1 h1 => Sz.bind (Sz.nodesL K K) fun l s2 h2 => Sz.ok (by simp only [List.map_cons, List.sum_cons]; (try dsimp only at h2); omega)
  ·unfold PX.atEnd
   split
   ·exact Sz.ok (by omega)
   ·exact Sz.fail
 have := h1 l rest h
 try dsimp only at this
 omega
end PX
end Go.Proofs.YtjafllnbgfcchaaGreatDoor
end
section
/- The numbers of the plain parser's faults. -/
namespace Go.Proofs.YtjafllnbgfcchaaGreatDoor
namespace PX
def Errs {α : Type} (r : Res α) : Prop := ∀ q e, r = .bad q e → e = 1 ∨ e = 2 ∨ e = 3
theorem Errs.ok {α : Type} {a : α} {s : List T} : Errs (.ok a s) := by intro q e h; cases h
theorem Errs.out {α : Type} : Errs (.out : Res α) := by intro q e h; cases h
theorem Errs.bad3 {α : Type} {p : Nat} : Errs (.bad p 3 : Res α) := by intro q e h; cases h; simp
theorem Errs.fail {α : Type} {s : List T} : Errs (fail s : Res α) := by
 intro q e h
 unfold PX.fail at h
 cases h
 split <;> simp
theorem Errs.bind {α β : Type} {r : Res α} {f : α → List T → Res β} (h : Errs r) (hf : ∀ a s, Errs (f a s)) : Errs (r.bind f) := by
 cases r with
 | ok a s => exact hf a s
 | bad p e => intro q e' he; cases he; exact h p e rfl
 | out => intro q e he; cases he
theorem Errs.want {s : List T} {w : B} : Errs (want w s) := by
 unfold PX.want
 split
 ·exact Errs.ok
 ·exact Errs.fail
theorem Errs.name {s : List T} : Errs (name s) := by
 unfold PX.name
 split
 ·exact Errs.ok
 ·exact Errs.fail
theorem Errs.number {s : List T} {a : Nat} {b : Bool} : Errs (number s a b) := by
 unfold PX.number
 simp only []
 split
 ·exact Errs.bad3
 ·exact Errs.ok
theorem Errs.literal {s : List T} : Errs (literal s) := by
 unfold PX.literal
 simp only []
 repeat' (first | exact Errs.ok | exact Errs.fail | exact Errs.number | split)
theorem Errs.lits : ∀ (k : Nat) {s : List T}, Errs (lits k s)
 | 0, s => Errs.out
 | k + 1, s => by
  unfold PX.lits
  repeat' (first | exact Errs.ok | exact Errs.want | exact Errs.literal | exact Errs.lits k | refine Errs.bind ?_ (fun _ _ => ?_) | split)
structure Errss (k : Nat) : Prop where
 expr : ∀ s, Errs (expr k s)
 arrow : ∀ s, Errs (arrow k s)
 bin : ∀ lvl s, Errs (bin k lvl s)
 left : ∀ lvl a s, Errs (left k lvl a s)
 unary : ∀ s, Errs (unary k s)
 whens : ∀ a s, Errs (whens k a s)
 exprs : ∀ s, Errs (exprs k s)
 call : ∀ m a s, Errs (call k m a s)
 primary : ∀ s, Errs (primary k s)
theorem errss : ∀ k, Errss k
 | 0 => by constructor <;> intros <;> first | (rw [expr.eq_1]; exact Errs.out) | (rw [arrow.eq_1]; exact Errs.out) | (rw [bin.eq_1]; exact Errs.out) | (rw [left.eq_1]; exact Errs.out) | (rw [unary.eq_1]; exact Errs.out) | (rw [whens.eq_1]; exact Errs.out) | (rw [exprs.eq_1]; exact Errs.out) | (rw [call.eq_1]; exact Errs.out) | (rw [primary.eq_1]; exact Errs.out)
 | k + 1 => by
  have ih := errss k
  constructor
  ·intro s
   unfold expr
   try simp only []
   repeat' (first | exact Errs.ok | exact Errs.fail | exact Errs.want | exact Errs.name | exact Errs.number | exact Errs.literal | exact Errs.lits k | exact Errs.bad3 | exact ih.expr _ | exact ih.arrow _ | exact ih.bin _ _ | exact ih.left _ _ _ | exact ih.unary _ | exact ih.whens _ _ | exact ih.exprs _ | exact ih.call _ _ _ | exact ih.primary _ | refine Errs.bind ?_ (fun _ _ => ?_) | split)
  ·intro s
   unfold arrow
   try simp only []
   repeat' (first | exact Errs.ok | exact Errs.fail | exact Errs.want | exact Errs.name | exact Errs.number | exact Errs.literal | exact Errs.lits k | exact Errs.bad3 | exact ih.expr _ | exact ih.arrow _ | exact ih.bin _ _ | exact ih.left _ _ _ | exact ih.unary _ | exact ih.whens _ _ | exact ih.exprs _ | exact ih.call _ _ _ | exact ih.primary _ | refine Errs.bind ?_ (fun _ _ => ?_) | split)
  ·intro lvl s
   unfold bin
   try simp only []
   repeat' (first | exact Errs.ok | exact Errs.fail | exact Errs.want | exact Errs.name | exact Errs.number | exact Errs.literal | exact Errs.lits k | exact Errs.bad3 | exact ih.expr _ | exact ih.arrow _ | exact ih.bin _ _ | exact ih.left _ _ _ | exact ih.unary _ | exact ih.whens _ _ | exact ih.exprs _ | exact ih.call _ _ _ | exact ih.primary _ | refine Errs.bind ?_ (fun _ _ => ?_) | split)
  ·intro lvl a s
   unfold left
   try simp only []
   repeat' (first | exact Errs.ok | exact Errs.fail | exact Errs.want | exact Errs.name | exact Errs.number | exact Errs.literal | exact Errs.lits k | exact Errs.bad3 | exact ih.expr _ | exact ih.arrow _ | exact ih.bin _ _ | exact ih.left _ _ _ | exact ih.unary _ | exact ih.whens _ _ | exact ih.exprs _ | exact ih.call _ _ _ | exact ih.primary _ | refine Errs.bind ?_ (fun _ _ => ?_) | split)
  ·intro s
   unfold unary
   try simp only []
   repeat' (first | exact Errs.ok | exact Errs.fail | exact Errs.want | exact Errs.name | exact Errs.number | exact Errs.literal | exact Errs.lits k | exact Errs.bad3 | exact ih.expr _ | exact ih.arrow _ | exact ih.bin _ _ | exact ih.left _ _ _ | exact ih.unary _ | exact ih.whens _ _ | exact ih.exprs _ | exact ih.call _ _ _ | exact ih.primary _ | refine Errs.bind ?_ (fun _ _ => ?_) | split)
  ·intro a s
   unfold whens
   try simp only []
   repeat' (first | exact Errs.ok | exact Errs.fail | exact Errs.want | exact Errs.name | exact Errs.number | exact Errs.literal | exact Errs.lits k | exact Errs.bad3 | exact ih.expr _ | exact ih.arrow _ | exact ih.bin _ _ | exact ih.left _ _ _ | exact ih.unary _ | exact ih.whens _ _ | exact ih.exprs _ | exact ih.call _ _ _ | exact ih.primary _ | refine Errs.bind ?_ (fun _ _ => ?_) | split)
  ·intro s
   unfold exprs
   try simp only []
   repeat' (first | exact Errs.ok | exact Errs.fail | exact Errs.want | exact Errs.name | exact Errs.number | exact Errs.literal | exact Errs.lits k | exact Errs.bad3 | exact ih.expr _ | exact ih.arrow _ | exact ih.bin _ _ | exact ih.left _ _ _ | exact ih.unary _ | exact ih.whens _ _ | exact ih.exprs _ | exact ih.call _ _ _ | exact ih.primary _ | refine Errs.bind ?_ (fun _ _ => ?_) | split)
  ·intro m a s
   unfold call
   try simp only []
   repeat' (first | exact Errs.ok | exact Errs.fail | exact Errs.want | exact Errs.name | exact Errs.number | exact Errs.literal | exact Errs.lits k | exact Errs.bad3 | exact ih.expr _ | exact ih.arrow _ | exact ih.bin _ _ | exact ih.left _ _ _ | exact ih.unary _ | exact ih.whens _ _ | exact ih.exprs _ | exact ih.call _ _ _ | exact ih.primary _ | refine Errs.bind ?_ (fun _ _ => ?_) | split)
  ·intro s
   unfold primary
   try simp only []
   repeat' (first | exact Errs.ok | exact Errs.fail | exact Errs.want | exact Errs.name | exact Errs.number | exact Errs.literal | exact Errs.lits k | exact Errs.bad3 | exact ih.expr _ | exact ih.arrow _ | exact ih.bin _ _ | exact ih.left _ _ _ | exact ih.unary _ | exact ih.whens _ _ | exact ih.exprs _ | exact ih.call _ _ _ | exact ih.primary _ | refine Errs.bind ?_ (fun _ _ => ?_) | split)
theorem Errs.decl {s : List T} : Errs (decl s) := by
 unfold PX.decl
 simp only []
 repeat' (first | exact Errs.ok | exact Errs.fail | exact Errs.want | exact Errs.name | refine Errs.bind ?_ (fun _ _ => ?_) | split)
theorem Errs.declsL : ∀ (k : Nat) {s : List T}, Errs (declsL k s)
 | 0, s => Errs.out
 | k + 1, s => by
  unfold PX.declsL
  repeat' (first | exact Errs.ok | exact Errs.want | exact Errs.decl | exact Errs.declsL k | refine Errs.bind ?_ (fun _ _ => ?_) | split)
theorem Errs.decls {k : Nat} {s : List T} : Errs (decls k s) := by
 unfold PX.decls
 repeat' (first | exact Errs.ok | exact Errs.want | exact Errs.declsL k | refine Errs.bind ?_ (fun _ _ => ?_) | split)
theorem Errs.clockOf {d : Dc} {s : List T} : Errs (clockOf d s) := by
 unfold PX.clockOf
 simp only []
 repeat' (first | exact Errs.ok | exact Errs.name | refine Errs.bind ?_ (fun _ _ => ?_) | split)
theorem Errs.varsL : ∀ (k : Nat) {s : List T}, Errs (varsL k s)
 | 0, s => Errs.out
 | k + 1, s => by
  unfold PX.varsL
  repeat' (first | exact Errs.ok | exact Errs.want | exact Errs.decl | exact Errs.clockOf | exact Errs.varsL k | refine Errs.bind ?_ (fun _ _ => ?_) | split)
theorem Errs.vars {k : Nat} {s : List T} : Errs (vars k s) := by
 unfold PX.vars
 repeat' (first | exact Errs.ok | exact Errs.varsL k | split)
theorem Errs.leftsL : ∀ (k : Nat) {s : List T}, Errs (leftsL k s)
 | 0, s => Errs.out
 | k + 1, s => by
  unfold PX.leftsL
  repeat' (first | exact Errs.ok | exact Errs.name | exact Errs.leftsL k | refine Errs.bind ?_ (fun _ _ => ?_) | split)
theorem Errs.lefts {k : Nat} {s : List T} : Errs (lefts k s) := by
 unfold PX.lefts
 repeat' (first | exact Errs.ok | exact Errs.name | exact Errs.want | exact Errs.leftsL k | refine Errs.bind ?_ (fun _ _ => ?_) | split)
theorem Errs.shallow {e : Ex} {s : List T} : Errs (shallow e s) := by
 unfold PX.shallow
 repeat' (first | exact Errs.ok | exact Errs.bad3 | split)
theorem Errs.right {k : Nat} {s : List T} : Errs (right k s) := by
 unfold PX.right
 repeat' (first | exact Errs.ok | exact Errs.name | exact (errss k).call _ _ _ | exact (errss k).expr _ | refine Errs.bind ?_ (fun _ _ => ?_) | split)
theorem Errs.eq {k : Nat} {s : List T} : Errs (eq k s) := by
 unfold PX.eq
 repeat' (first | exact Errs.ok | exact Errs.want | exact Errs.lefts | exact Errs.right | exact Errs.shallow | refine Errs.bind ?_ (fun _ _ => ?_) | split)
theorem Errs.eqs {K : Nat} : ∀ (k : Nat) {s : List T}, Errs (eqs K k s)
 | 0, s => Errs.out
 | k + 1, s => by
  unfold PX.eqs
  repeat' (first | exact Errs.ok | exact Errs.eq | exact Errs.eqs k | refine Errs.bind ?_ (fun _ _ => ?_) | split)
theorem Errs.node {K : Nat} {s : List T} : Errs (node K s) := by
 unfold PX.node
 repeat' (first | exact Errs.ok | exact Errs.want | exact Errs.name | exact Errs.decls | exact Errs.vars | exact Errs.eqs K | refine Errs.bind ?_ (fun _ _ => ?_) | split)
theorem Errs.nodesL {K : Nat} : ∀ (k : Nat) {s : List T}, Errs (nodesL K k s)
 | 0, s => Errs.out
 | k + 1, s => by
  unfold PX.nodesL
  repeat' (first | exact Errs.ok | exact Errs.node | exact Errs.nodesL k | refine Errs.bind ?_ (fun _ _ => ?_) | split)
theorem Errs.atEnd {s : List T} : Errs (atEnd s) := by
 unfold PX.atEnd
 repeat' (first | exact Errs.ok | exact Errs.fail | split)
theorem Errs.program {K : Nat} {s : List T} : Errs (program K s) := by
 unfold PX.program PX.nodes
 repeat' (first | exact Errs.ok | exact Errs.node | exact Errs.nodesL K | exact Errs.atEnd | refine Errs.bind ?_ (fun _ _ => ?_) | split)
theorem Errs.exprOf {K : Nat} {s : List T} : Errs (exprOf K s) := by
 unfold PX.exprOf
 repeat' (first | exact Errs.ok | exact (errss K).expr _ | exact Errs.shallow | exact Errs.atEnd | refine Errs.bind ?_ (fun _ _ => ?_) | split)
end PX
end Go.Proofs.YtjafllnbgfcchaaGreatDoor
end
