/- Joined of: PFine, PSize, PErr. -/
import Derived.Test.YtjafllnbgfcchaaDoorZEPurP
section
/- The plain parser of programs comes to an end. -/
namespace Go.Proofs.YtjafllnbgfcchaaDoor
namespace PX
def Goes {α : Type} (r : Res α) (n : Nat) : Prop :=
 match r with
 | .ok _ rest => Good rest ∧ rest.length < n
 | .bad _ _ => True
 | .out => False
theorem Fine.goes {α : Type} {r : Res α} {n m : Nat} (h : Fine r n) (hm : n < m) : Goes r m := by
 cases r with
 | ok a rest => exact ⟨h.1, Nat.lt_of_le_of_lt h.2 hm⟩
 | bad p e => trivial
 | out => exact h.elim
theorem Goes.bind {α β : Type} {r : Res α} {f : α → List T → Res β} {n m : Nat} (h : Goes r m) (hf : ∀ a rest, Good rest → rest.length < m → Goes (f a rest) n) : Goes (r.bind f) n := by
 cases r with
 | ok a rest => exact hf a rest h.1 h.2
 | bad p e => trivial
 | out => exact h.elim
theorem Goes.mono {α : Type} {r : Res α} {n m : Nat} (h : Goes r n) (hm : n ≤ m) : Goes r m := by
 cases r with
 | ok a rest => exact ⟨h.1, Nat.lt_of_lt_of_le h.2 hm⟩
 | bad p e => trivial
 | out => exact h.elim
theorem Goes.isOut {α : Type} {r : Res α} {n : Nat} (h : Goes r n) : r.isOut = false := by
 cases r <;> first | rfl | exact h.elim
theorem Goes.fail {α : Type} {s : List T} {n : Nat} : Goes (fail (α := α) s) n := trivial
theorem Goes.want {s : List T} (h : Good s) (w : B) : Goes (want w s) s.length := by
 unfold PX.want
 split
 ·rename_i hi
  have := h.is_tail hi
  exact ⟨this.1, by omega⟩
 ·exact Goes.fail
theorem Goes.name {s : List T} (h : Good s) : Goes (name s) s.length := by
 unfold PX.name
 split
 ·rename_i hi
  have := h.tail (by simp at hi; omega)
  exact ⟨this.1, by omega⟩
 ·exact Goes.fail
theorem Good.skip {s : List T} (h : Good s) (l : List B) : Good (if is l s then s.tail else s) ∧ (if is l s then s.tail else s).length ≤ s.length := by
 split
 ·rename_i hi
  have := h.is_tail hi
  exact ⟨this.1, by omega⟩
 ·exact ⟨h, Nat.le_refl _⟩
theorem Goes.decl {s : List T} (h : Good s) : Goes (decl s) s.length := by
 unfold PX.decl
 refine Goes.bind (Goes.name h) fun m s1 h1 l1 => ?_
 refine Goes.bind (Goes.want h1 _) fun _ s2 h2 l2 => ?_
 have h3 := h2.skip [[102, 117, 116, 117, 114, 101]]
 dsimp only
 generalize (if is [[102, 117, 116, 117, 114, 101]] s2 = true then s2.tail else s2) = s3 at h3 ⊢
 split
 ·rename_i hi
  have := h3.1.is_tail hi
  exact ⟨this.1, by omega⟩
 ·exact Goes.fail
theorem Goes.declsL : ∀ (n : Nat) {s : List T}, Good s → s.length < n → Goes (declsL n s) s.length
 | 0, s, h, hn => by omega
 | n + 1, s, h, hn => by
  unfold PX.declsL
  refine Goes.bind (Goes.decl h) fun d s1 h1 l1 => ?_
  split
  ·rename_i hi
   have ht := h1.is_tail hi
   exact Goes.bind (Goes.declsL n ht.1 (by omega)) fun l s2 h2 l2 => ⟨h2, by omega⟩
  ·exact Goes.bind (Goes.want h1 _) fun _ s2 h2 l2 => ⟨h2, by omega⟩
theorem Goes.decls {n : Nat} {s : List T} (h : Good s) (hn : s.length < n) : Goes (decls n s) s.length := by
 unfold PX.decls
 refine Goes.bind (Goes.want h _) fun _ s1 h1 l1 => ?_
 split
 ·rename_i hi
  have ht := h1.is_tail hi
  exact ⟨ht.1, by omega⟩
 ·exact (Goes.declsL n h1 (by omega)).mono (by omega)
theorem Goes.clockOf {d : Dc} {s : List T} (h : Good s) : Goes (clockOf d s) (s.length + 1) := by
 unfold PX.clockOf
 split
 ·rename_i hi
  have ht := h.is_tail hi
  dsimp only
  have h2 : Good (if is [[110, 111, 116]] s.tail = true then s.tail.tail else s.tail) ∧ (if is [[110, 111, 116]] s.tail = true then s.tail.tail else s.tail).length ≤ s.tail.length := ht.1.skip _
  exact Goes.bind (Goes.name h2.1) fun m s2 h3 l3 => ⟨h3, by omega⟩
 ·exact ⟨h, by omega⟩
theorem Goes.varsL : ∀ (n : Nat) {s : List T}, Good s → s.length < n → Goes (varsL n s) s.length
 | 0, s, h, hn => by omega
 | n + 1, s, h, hn => by
  unfold PX.varsL
  refine Goes.bind (Goes.decl h) fun d0 s1 h1 l1 => ?_
  refine Goes.bind (Goes.clockOf h1) fun d s2 h2 l2 => ?_
  refine Goes.bind (Goes.want h2 _) fun _ s3 h3 l3 => ?_
  split
  ·exact ⟨h3, by omega⟩
  ·exact Goes.bind (Goes.varsL n h3 (by omega)) fun l s4 h4 l4 => ⟨h4, by omega⟩
theorem Goes.vars {n : Nat} {s : List T} (h : Good s) (hn : s.length < n) : Goes (vars n s) (s.length + 1) := by
 unfold PX.vars
 split
 ·rename_i hi
  have ht := h.is_tail hi
  exact (Goes.varsL n ht.1 (by omega)).mono (by omega)
 ·exact ⟨h, by omega⟩
theorem Goes.leftsL : ∀ (n : Nat) {s : List T}, Good s → s.length < n → Goes (leftsL n s) (s.length + 1)
 | 0, s, h, hn => by omega
 | n + 1, s, h, hn => by
  unfold PX.leftsL
  split
  ·rename_i hi
   have ht := h.is_tail hi
   refine Goes.bind (Goes.name ht.1) fun m s1 h1 l1 => ?_
   exact Goes.bind (Goes.leftsL n h1 (by omega)) fun l s2 h2 l2 => ⟨h2, by omega⟩
  ·exact ⟨h, by omega⟩
theorem Goes.lefts {n : Nat} {s : List T} (h : Good s) (hn : s.length < n) : Goes (lefts n s) s.length := by
 unfold PX.lefts
 split
 ·rename_i hi
  have ht := h.is_tail hi
  refine Goes.bind (Goes.name ht.1) fun m s1 h1 l1 => ?_
  refine Goes.bind (Goes.want h1 _) fun _ s2 h2 l2 => ?_
  refine Goes.bind (Goes.name h2) fun m2 s3 h3 l3 => ?_
  refine Goes.bind (Goes.leftsL n h3 (by omega)) fun l s4 h4 l4 => ?_
  exact Goes.bind (Goes.want h4 _) fun _ s5 h5 l5 => ⟨h5, by omega⟩
 ·exact Goes.bind (Goes.name h) fun m s1 h1 l1 => ⟨h1, by omega⟩
theorem Goes.right {K : Nat} {s : List T} (h : Good s) (hK : 12 * s.length + 10 ≤ K) : Goes (right K s) (s.length + 1) := by
 unfold PX.right
 split
 ·rename_i hi
  have ht := h.is_tail hi
  refine Goes.bind (Goes.name ht.1) fun m s1 h1 l1 => ?_
  exact Goes.bind (((enough K).call m _ s1 h1 (by omega)).goes (Nat.lt_succ_self _)) fun e s2 h2 l2 => ⟨h2, by omega⟩
 ·exact Goes.bind (((enough K).expr s h hK).goes (Nat.lt_succ_self _)) fun e s2 h2 l2 => ⟨h2, by omega⟩
theorem Goes.shallow {e : Ex} {s : List T} (h : Good s) : Goes (shallow e s) (s.length + 1) := by
 unfold PX.shallow
 split
 ·trivial
 ·exact ⟨h, by omega⟩
theorem Goes.eq {K : Nat} {s : List T} (h : Good s) (hK : 12 * s.length + 10 ≤ K) : Goes (eq K s) s.length := by
 unfold PX.eq
 refine Goes.bind (Goes.lefts h (by omega)) fun l s1 h1 l1 => ?_
 refine Goes.bind (Goes.want h1 _) fun _ s2 h2 l2 => ?_
 refine Goes.bind (Goes.right h2 (by omega)) fun q s3 h3 l3 => ?_
 refine Goes.bind (Goes.shallow h3) fun _ s4 h4 l4 => ?_
 exact Goes.bind (Goes.want h4 _) fun _ s5 h5 l5 => ⟨h5, by omega⟩
theorem Goes.eqs {K : Nat} : ∀ (n : Nat) {s : List T}, Good s → s.length < n → 12 * s.length + 10 ≤ K → Goes (eqs K n s) (s.length + 1)
 | 0, s, h, hn, hK => by omega
 | n + 1, s, h, hn, hK => by
  unfold PX.eqs
  split
  ·exact ⟨h, by omega⟩
  ·refine Goes.bind (Goes.eq h hK) fun q s1 h1 l1 => ?_
   exact Goes.bind (Goes.eqs n h1 (by omega) (by omega)) fun l s2 h2 l2 => ⟨h2, by omega⟩
theorem Goes.node {K : Nat} {s : List T} (h : Good s) (hK : 12 * s.length + 10 ≤ K) : Goes (node K s) s.length := by
 unfold PX.node
 refine Goes.bind (Goes.want h _) fun _ s1 h1 l1 => ?_
 refine Goes.bind (Goes.name h1) fun m s2 h2 l2 => ?_
 refine Goes.bind (Goes.decls h2 (by omega)) fun ins s3 h3 l3 => ?_
 refine Goes.bind (Goes.want h3 _) fun _ s4 h4 l4 => ?_
 refine Goes.bind (Goes.decls h4 (by omega)) fun outs s5 h5 l5 => ?_
 refine Goes.bind (Goes.vars h5 (by omega)) fun vs s6 h6 l6 => ?_
 refine Goes.bind (Goes.want h6 _) fun _ s7 h7 l7 => ?_
 refine Goes.bind (Goes.eqs K h7 (by omega) (by omega)) fun qs s8 h8 l8 => ?_
 exact Goes.bind (Goes.want h8 _) fun _ s9 h9 l9 => ⟨h9, by omega⟩
theorem Goes.nodesL {K : Nat} : ∀ (n : Nat) {s : List T}, Good s → s.length < n → 12 * s.length + 10 ≤ K → Goes (nodesL K n s) (s.length + 1)
 | 0, s, h, hn, hK => by omega
 | n + 1, s, h, hn, hK => by
  unfold PX.nodesL
  split
  ·exact ⟨h, by omega⟩
  ·refine Goes.bind (Goes.node h hK) fun q s1 h1 l1 => ?_
   exact Goes.bind (Goes.nodesL n h1 (by omega) (by omega)) fun l s2 h2 l2 => ⟨h2, by omega⟩
theorem Goes.nodes {K : Nat} {s : List T} (h : Good s) (hK : 12 * s.length + 10 ≤ K) : Goes (nodes K s) s.length := by
 unfold PX.nodes
 refine Goes.bind (Goes.node h hK) fun x s1 h1 l1 => ?_
 exact Goes.bind (Goes.nodesL K h1 (by omega) (by omega)) fun l s2 h2 l2 => ⟨h2, by omega⟩
theorem Goes.atEnd {s : List T} (h : Good s) : Goes (atEnd s) (s.length + 1) := by
 unfold PX.atEnd
 split
 ·exact ⟨h, by omega⟩
 ·exact Goes.fail
theorem Goes.program {K : Nat} {s : List T} (h : Good s) (hK : 12 * s.length + 10 ≤ K) : Goes (program K s) s.length := by
 unfold PX.program
 refine Goes.bind (Goes.nodes h hK) fun l s1 h1 l1 => ?_
 exact Goes.bind (Goes.atEnd h1) fun _ s2 h2 l2 => ⟨h2, by omega⟩
theorem Goes.exprOf {K : Nat} {s : List T} (h : Good s) (hK : 12 * s.length + 10 ≤ K) : Goes (exprOf K s) (s.length + 1) := by
 unfold PX.exprOf
 refine Goes.bind (((enough K).expr s h hK).goes (Nat.lt_succ_self _)) fun e s1 h1 l1 => ?_
 refine Goes.bind (Goes.shallow h1) fun _ s2 h2 l2 => ?_
 exact Goes.bind (Goes.atEnd h2) fun _ s3 h3 l3 => ⟨h3, by omega⟩
end PX
end Go.Proofs.YtjafllnbgfcchaaDoor
end
section
/- What the plain parser reads is no larger than what it was read of; how deep it is. -/
namespace Go.Proofs.YtjafllnbgfcchaaDoor
namespace PX
mutual
def nsz : Ex → Nat
 | .mk _ _ _ _ _ l => nszs l + 1
def nszs : List Ex → Nat
 | [] => 0
 | e :: r => nsz e + nszs r
end
theorem nsz_pos (e : Ex) : 1 ≤ nsz e := by cases e; rw [nsz]; omega
theorem deeps_le : ∀ (n : Nat) (l : List Ex), nszs l ≤ n → deeps l ≤ nszs l
 | n, [], _ => by rw [deeps]; exact Nat.zero_le _
 | 0, e :: r, h => by rw [nszs] at h; have := nsz_pos e; omega
 | n + 1, .mk k a m s o l :: r, h => by
  rw [nszs, nsz] at h
  rw [deeps, deepE, nszs, nsz]
  have h1 := deeps_le n l (by omega)
  have h2 := deeps_le n r (by omega)
  omega
def Sz {α : Type} (f : α → Nat) (r : Res α) (n : Nat) : Prop := ∀ a rest, r = .ok a rest → f a + rest.length ≤ n
theorem Sz.bind {α β : Type} {f : α → Nat} {g : β → Nat} {r : Res α} {h : α → List T → Res β} {m n : Nat} (h1 : Sz f r m) (h2 : ∀ a rest, f a + rest.length ≤ m → Sz g (h a rest) n) : Sz g (r.bind h) n := by
 cases r with
 | ok a rest => exact h2 a rest (h1 a rest rfl)
 | bad p e => intro a rest h; cases h
 | out => intro a rest h; cases h
theorem Sz.ok {α : Type} {f : α → Nat} {a : α} {s : List T} {n : Nat} (h : f a + s.length ≤ n) : Sz f (.ok a s) n := by
 intro a' rest e
 cases e
 exact h
theorem Sz.bad {α : Type} {f : α → Nat} {p e n : Nat} : Sz f (.bad p e) n := by intro a rest h; cases h
theorem Sz.out {α : Type} {f : α → Nat} {n : Nat} : Sz f .out n := by intro a rest h; cases h
theorem Sz.fail {α : Type} {f : α → Nat} {s : List T} {n : Nat} : Sz f (fail s) n := Sz.bad
theorem Sz.mono {α : Type} {f : α → Nat} {r : Res α} {n m : Nat} (h : Sz f r n) (hm : n ≤ m) : Sz f r m := fun a rest e => Nat.le_trans (h a rest e) hm
theorem kind_len {s : List T} (h : (peek s).kind ≠ 5) : s.tail.length + 1 = s.length := by
 cases s with
 | nil => exact absurd rfl h
 | cons a s => simp
theorem is_len {l : List B} {s : List T} (h : is l s = true) : s.tail.length + 1 = s.length := kind_len (is_kind h)
theorem Sz.want {s : List T} {w : B} : Sz (fun _ => 1) (want w s) s.length := by
 unfold PX.want
 split
 ·rename_i hi
  have := is_len hi
  exact Sz.ok (by omega)
 ·exact Sz.fail
theorem Sz.name {s : List T} : Sz (fun _ => 1) (name s) s.length := by
 unfold PX.name
 split
 ·rename_i hi
  have := kind_len (s := s) (by simp at hi; omega)
  exact Sz.ok (by omega)
 ·exact Sz.fail
theorem Sz.number {s : List T} (hk : (peek s).kind = 2) {a : Nat} {b : Bool} : Sz nsz (number s a b) s.length := by
 unfold PX.number
 have := kind_len (s := s) (by omega)
 simp only []
 split
 ·exact Sz.bad
 ·exact Sz.ok (by rw [nsz, nszs]; omega)
theorem Sz.literal {s : List T} : Sz nsz (literal s) s.length := by
 unfold PX.literal
 split
 ·rename_i hi
  have := is_len hi
  exact Sz.ok (by unfold truth; rw [nsz, nszs]; omega)
 ·simp only []
  cases hb : is [[45]] s with
  | true =>
   have := is_len hb
   simp only [if_true]
   split
   ·rename_i hk
    exact (Sz.number (eq_of_beq hk)).mono (by omega)
   ·exact Sz.fail
  | false =>
   simp only [if_false, Bool.false_eq_true]
   split
   ·rename_i hk
    exact Sz.number (eq_of_beq hk)
   ·exact Sz.fail
theorem Sz.lits : ∀ (k : Nat) {s : List T}, Sz nszs (lits k s) s.length
 | 0, s => Sz.out
 | k + 1, s => by
  unfold PX.lits
  refine Sz.bind Sz.literal fun e s1 h1 => ?_
  split
  ·rename_i hi
   have := is_len hi
   exact Sz.bind (Sz.lits k) fun l s2 h2 => Sz.ok (by rw [nszs]; omega)
  ·exact Sz.bind Sz.want fun _ s2 h2 => Sz.ok (by rw [nszs, nszs]; omega)
structure Szs (k : Nat) : Prop where
 expr : ∀ s, Sz nsz (expr k s) s.length
 arrow : ∀ s, Sz nsz (arrow k s) s.length
 bin : ∀ lvl s, Sz nsz (bin k lvl s) s.length
 left : ∀ lvl a s, Sz nsz (left k lvl a s) (nsz a + s.length)
 unary : ∀ s, Sz nsz (unary k s) s.length
 whens : ∀ a s, Sz nsz (whens k a s) (nsz a + s.length)
 exprs : ∀ s, Sz nszs (exprs k s) s.length
 call : ∀ m a s, Sz nsz (call k m a s) (s.length + 1)
 primary : ∀ s, Sz nsz (primary k s) s.length
theorem szs : ∀ k, Szs k
 | 0 => by constructor <;> intros <;> first | (rw [expr.eq_1]; exact Sz.out) | (rw [arrow.eq_1]; exact Sz.out) | (rw [bin.eq_1]; exact Sz.out) | (rw [left.eq_1]; exact Sz.out) | (rw [unary.eq_1]; exact Sz.out) | (rw [whens.eq_1]; exact Sz.out) | (rw [exprs.eq_1]; exact Sz.out) | (rw [call.eq_1]; exact Sz.out) | (rw [primary.eq_1]; exact Sz.out)
 | k + 1 => by
  have ih := szs k
  constructor
  ·intro s
   unfold expr
   split
   ·rename_i hi
    have := is_len hi
    refine Sz.bind (ih.expr _) fun a s1 h1 => Sz.bind Sz.want fun _ s2 h2 => Sz.bind (ih.expr _) fun b s3 h3 => Sz.bind Sz.want fun _ s4 h4 => Sz.bind (ih.expr _) fun c s5 h5 => Sz.ok ?_
    simp only [nsz, nszs]
    omega
   ·exact ih.arrow s
  ·intro s
   unfold arrow
   refine Sz.bind (ih.bin 0 s) fun a s1 h1 => ?_
   split
   ·rename_i hi
    have := is_len hi
    refine Sz.bind (ih.arrow _) fun b s2 h2 => Sz.ok ?_
    simp only [nsz, nszs]
    omega
   ·split
    ·rename_i hi
     have := is_len hi
     split
     ·refine Sz.bind (ih.arrow _) fun b s2 h2 => Sz.ok ?_
      simp only [nsz, nszs]
      omega
     ·exact Sz.fail
    ·exact Sz.ok h1
  ·intro lvl s
   unfold bin
   split
   ·split
    ·rename_i hi
     have := is_len hi
     refine Sz.bind (ih.bin 2 _) fun a s1 h1 => Sz.ok ?_
     simp only [nsz, nszs]
     omega
    ·refine Sz.bind (ih.bin 3 s) fun a s1 h1 => ?_
     split
     ·rename_i hi
      have := is_len hi
      refine Sz.bind (ih.bin 3 _) fun b s2 h2 => Sz.ok ?_
      simp only [nsz, nszs]
      omega
     ·exact Sz.ok h1
   ·split
    ·exact ih.unary s
    ·exact Sz.bind (ih.bin (lvl + 1) s) fun a s1 h1 => (ih.left lvl a s1).mono h1
  ·intro lvl a s
   unfold left
   split
   ·rename_i hi
    have := is_len hi
    refine Sz.bind (ih.bin (lvl + 1) _) fun b s1 h1 => (ih.left lvl _ s1).mono ?_
    simp only [nsz, nszs]
    omega
   ·exact Sz.ok (Nat.le_refl _)
  ·intro s
   unfold unary
   split
   ·rename_i hi
    have := is_len hi
    refine Sz.bind (ih.unary _) fun a s1 h1 => Sz.ok ?_
    simp only [nsz, nszs]
    omega
   ·split
    ·rename_i hi
     have := is_len hi
     split
     ·rename_i hk
      simp only [Bool.and_eq_true, beq_iff_eq] at hk
      exact (Sz.number hk.1).mono (by omega)
     ·refine Sz.bind (ih.unary _) fun a s1 h1 => Sz.ok ?_
      simp only [nsz, nszs]
      omega
    ·exact Sz.bind (ih.primary s) fun a s1 h1 => (ih.whens a s1).mono h1
  ·intro a s
   unfold whens
   split
   ·rename_i hi
    have h0 := is_len hi
    simp only []
    cases hb : is [[110, 111, 116]] s.tail with
    | true =>
     have := is_len hb
     simp only [if_true]
     refine Sz.bind Sz.name fun m s2 h2 => (ih.whens _ s2).mono ?_
     simp only [nsz, nszs]
     omega
    | false =>
     simp only [if_false, Bool.false_eq_true]
     refine Sz.bind Sz.name fun m s2 h2 => (ih.whens _ s2).mono ?_
     simp only [nsz, nszs]
     omega
   ·exact Sz.ok (Nat.le_refl _)
  ·intro s
   unfold exprs
   refine Sz.bind (ih.expr s) fun e s1 h1 => ?_
   split
   ·rename_i hi
    have := is_len hi
    exact Sz.bind (ih.exprs _) fun l s2 h2 => Sz.ok (by rw [nszs]; omega)
   ·exact Sz.bind Sz.want fun _ s2 h2 => Sz.ok (by rw [nszs, nszs]; omega)
  ·intro m a s
   unfold call
   refine Sz.bind Sz.want fun _ s1 h1 => ?_
   split
   ·rename_i hi
    have := is_len hi
    exact Sz.ok (by rw [nsz, nszs]; omega)
   ·exact Sz.bind (ih.exprs _) fun l s2 h2 => Sz.ok (by rw [nsz]; omega)
  ·intro s
   unfold primary
   simp only []
   split
   ·rename_i hk
    exact Sz.number (eq_of_beq hk)
   ·split
    ·rename_i hk
     have := kind_len (s := s) (by have := eq_of_beq hk; omega)
     split
     ·exact (ih.call _ _ _).mono (by omega)
     ·exact Sz.ok (by rw [nsz, nszs]; omega)
    ·split
     ·rename_i hi
      have := is_len hi
      split
      ·refine Sz.bind Sz.name fun m s1 h1 => Sz.bind Sz.want fun _ s2 h2 => Sz.bind (ih.expr _) fun a s3 h3 => Sz.bind Sz.want fun _ s4 h4 => Sz.bind Sz.want fun _ s5 h5 => Sz.bind (ih.expr _) fun b s6 h6 => Sz.bind Sz.want fun _ s7 h7 => Sz.ok ?_
       simp only [nsz, nszs]
       omega
      ·split
       ·refine Sz.bind Sz.name fun m s1 h1 => ?_
        split
        ·rename_i hi2
         have := is_len hi2
         refine Sz.bind Sz.want fun _ s2 h2 => Sz.bind (Sz.lits k) fun l s3 h3 => Sz.ok ?_
         rw [nsz]
         omega
        ·exact Sz.ok (by rw [nsz, nszs]; omega)
       ·split
        ·exact Sz.bind (ih.expr _) fun e s1 h1 => Sz.bind Sz.want fun _ s2 h2 => Sz.ok (by omega)
        ·exact Sz.ok (by unfold truth; rw [nsz, nszs]; omega)
     ·exact Sz.fail
end PX
end Go.Proofs.YtjafllnbgfcchaaDoor
end
section
/- The numbers of the plain parser's faults. -/
namespace Go.Proofs.YtjafllnbgfcchaaDoor
namespace PX
def Errs {α : Type} (r : Res α) : Prop := ∀ q e, r = .bad q e → e = 1 ∨ e = 2 ∨ e = 3
theorem Errs.ok {α : Type} {a : α} {s : List T} : Errs (.ok a s) := by intro q e h; cases h
theorem Errs.out {α : Type} : Errs (.out : Res α) := by intro q e h; cases h
theorem Errs.bad3 {α : Type} {p : Nat} : Errs (.bad p 3 : Res α) := by intro q e h; cases h; simp
theorem Errs.fail {α : Type} {s : List T} : Errs (fail s : Res α) := by
 intro q e h
 unfold PX.fail at h
 cases h
 split <;> simp
theorem Errs.bind {α β : Type} {r : Res α} {f : α → List T → Res β} (h : Errs r) (hf : ∀ a s, Errs (f a s)) : Errs (r.bind f) := by
 cases r with
 | ok a s => exact hf a s
 | bad p e => intro q e' he; cases he; exact h p e rfl
 | out => intro q e he; cases he
theorem Errs.want {s : List T} {w : B} : Errs (want w s) := by
 unfold PX.want
 split
 ·exact Errs.ok
 ·exact Errs.fail
theorem Errs.name {s : List T} : Errs (name s) := by
 unfold PX.name
 split
 ·exact Errs.ok
 ·exact Errs.fail
theorem Errs.number {s : List T} {a : Nat} {b : Bool} : Errs (number s a b) := by
 unfold PX.number
 simp only []
 split
 ·exact Errs.bad3
 ·exact Errs.ok
theorem Errs.literal {s : List T} : Errs (literal s) := by
 unfold PX.literal
 simp only []
 repeat' (first | exact Errs.ok | exact Errs.fail | exact Errs.number | split)
theorem Errs.lits : ∀ (k : Nat) {s : List T}, Errs (lits k s)
 | 0, s => Errs.out
 | k + 1, s => by
  unfold PX.lits
  repeat' (first | exact Errs.ok | exact Errs.want | exact Errs.literal | exact Errs.lits k | refine Errs.bind ?_ (fun _ _ => ?_) | split)
structure Errss (k : Nat) : Prop where
 expr : ∀ s, Errs (expr k s)
 arrow : ∀ s, Errs (arrow k s)
 bin : ∀ lvl s, Errs (bin k lvl s)
 left : ∀ lvl a s, Errs (left k lvl a s)
 unary : ∀ s, Errs (unary k s)
 whens : ∀ a s, Errs (whens k a s)
 exprs : ∀ s, Errs (exprs k s)
 call : ∀ m a s, Errs (call k m a s)
 primary : ∀ s, Errs (primary k s)
theorem errss : ∀ k, Errss k
 | 0 => by constructor <;> intros <;> first | (rw [expr.eq_1]; exact Errs.out) | (rw [arrow.eq_1]; exact Errs.out) | (rw [bin.eq_1]; exact Errs.out) | (rw [left.eq_1]; exact Errs.out) | (rw [unary.eq_1]; exact Errs.out) | (rw [whens.eq_1]; exact Errs.out) | (rw [exprs.eq_1]; exact Errs.out) | (rw [call.eq_1]; exact Errs.out) | (rw [primary.eq_1]; exact Errs.out)
 | k + 1 => by
  have ih := errss k
  constructor
  ·intro s
   unfold expr
   try simp only []
   repeat' (first | exact Errs.ok | exact Errs.fail | exact Errs.want | exact Errs.name | exact Errs.number | exact Errs.literal | exact Errs.lits k | exact Errs.bad3 | exact ih.expr _ | exact ih.arrow _ | exact ih.bin _ _ | exact ih.left _ _ _ | exact ih.unary _ | exact ih.whens _ _ | exact ih.exprs _ | exact ih.call _ _ _ | exact ih.primary _ | refine Errs.bind ?_ (fun _ _ => ?_) | split)
  ·intro s
   unfold arrow
   try simp only []
   repeat' (first | exact Errs.ok | exact Errs.fail | exact Errs.want | exact Errs.name | exact Errs.number | exact Errs.literal | exact Errs.lits k | exact Errs.bad3 | exact ih.expr _ | exact ih.arrow _ | exact ih.bin _ _ | exact ih.left _ _ _ | exact ih.unary _ | exact ih.whens _ _ | exact ih.exprs _ | exact ih.call _ _ _ | exact ih.primary _ | refine Errs.bind ?_ (fun _ _ => ?_) | split)
  ·intro lvl s
   unfold bin
   try simp only []
   repeat' (first | exact Errs.ok | exact Errs.fail | exact Errs.want | exact Errs.name | exact Errs.number | exact Errs.literal | exact Errs.lits k | exact Errs.bad3 | exact ih.expr _ | exact ih.arrow _ | exact ih.bin _ _ | exact ih.left _ _ _ | exact ih.unary _ | exact ih.whens _ _ | exact ih.exprs _ | exact ih.call _ _ _ | exact ih.primary _ | refine Errs.bind ?_ (fun _ _ => ?_) | split)
  ·intro lvl a s
   unfold left
   try simp only []
   repeat' (first | exact Errs.ok | exact Errs.fail | exact Errs.want | exact Errs.name | exact Errs.number | exact Errs.literal | exact Errs.lits k | exact Errs.bad3 | exact ih.expr _ | exact ih.arrow _ | exact ih.bin _ _ | exact ih.left _ _ _ | exact ih.unary _ | exact ih.whens _ _ | exact ih.exprs _ | exact ih.call _ _ _ | exact ih.primary _ | refine Errs.bind ?_ (fun _ _ => ?_) | split)
  ·intro s
   unfold unary
   try simp only []
   repeat' (first | exact Errs.ok | exact Errs.fail | exact Errs.want | exact Errs.name | exact Errs.number | exact Errs.literal | exact Errs.lits k | exact Errs.bad3 | exact ih.expr _ | exact ih.arrow _ | exact ih.bin _ _ | exact ih.left _ _ _ | exact ih.unary _ | exact ih.whens _ _ | exact ih.exprs _ | exact ih.call _ _ _ | exact ih.primary _ | refine Errs.bind ?_ (fun _ _ => ?_) | split)
  ·intro a s
   unfold whens
   try simp only []
   repeat' (first | exact Errs.ok | exact Errs.fail | exact Errs.want | exact Errs.name | exact Errs.number | exact Errs.literal | exact Errs.lits k | exact Errs.bad3 | exact ih.expr _ | exact ih.arrow _ | exact ih.bin _ _ | exact ih.left _ _ _ | exact ih.unary _ | exact ih.whens _ _ | exact ih.exprs _ | exact ih.call _ _ _ | exact ih.primary _ | refine Errs.bind ?_ (fun _ _ => ?_) | split)
  ·intro s
   unfold exprs
   try simp only []
   repeat' (first | exact Errs.ok | exact Errs.fail | exact Errs.want | exact Errs.name | exact Errs.number | exact Errs.literal | exact Errs.lits k | exact Errs.bad3 | exact ih.expr _ | exact ih.arrow _ | exact ih.bin _ _ | exact ih.left _ _ _ | exact ih.unary _ | exact ih.whens _ _ | exact ih.exprs _ | exact ih.call _ _ _ | exact ih.primary _ | refine Errs.bind ?_ (fun _ _ => ?_) | split)
  ·intro m a s
   unfold call
   try simp only []
   repeat' (first | exact Errs.ok | exact Errs.fail | exact Errs.want | exact Errs.name | exact Errs.number | exact Errs.literal | exact Errs.lits k | exact Errs.bad3 | exact ih.expr _ | exact ih.arrow _ | exact ih.bin _ _ | exact ih.left _ _ _ | exact ih.unary _ | exact ih.whens _ _ | exact ih.exprs _ | exact ih.call _ _ _ | exact ih.primary _ | refine Errs.bind ?_ (fun _ _ => ?_) | split)
  ·intro s
   unfold primary
   try simp only []
   repeat' (first | exact Errs.ok | exact Errs.fail | exact Errs.want | exact Errs.name | exact Errs.number | exact Errs.literal | exact Errs.lits k | exact Errs.bad3 | exact ih.expr _ | exact ih.arrow _ | exact ih.bin _ _ | exact ih.left _ _ _ | exact ih.unary _ | exact ih.whens _ _ | exact ih.exprs _ | exact ih.call _ _ _ | exact ih.primary _ | refine Errs.bind ?_ (fun _ _ => ?_) | split)
theorem Errs.decl {s : List T} : Errs (decl s) := by
 unfold PX.decl
 simp only []
 repeat' (first | exact Errs.ok | exact Errs.fail | exact Errs.want | exact Errs.name | refine Errs.bind ?_ (fun _ _ => ?_) | split)
theorem Errs.declsL : ∀ (k : Nat) {s : List T}, Errs (declsL k s)
 | 0, s => Errs.out
 | k + 1, s => by
  unfold PX.declsL
  repeat' (first | exact Errs.ok | exact Errs.want | exact Errs.decl | exact Errs.declsL k | refine Errs.bind ?_ (fun _ _ => ?_) | split)
theorem Errs.decls {k : Nat} {s : List T} : Errs (decls k s) := by
 unfold PX.decls
 repeat' (first | exact Errs.ok | exact Errs.want | exact Errs.declsL k | refine Errs.bind ?_ (fun _ _ => ?_) | split)
theorem Errs.clockOf {d : Dc} {s : List T} : Errs (clockOf d s) := by
 unfold PX.clockOf
 simp only []
 repeat' (first | exact Errs.ok | exact Errs.name | refine Errs.bind ?_ (fun _ _ => ?_) | split)
theorem Errs.varsL : ∀ (k : Nat) {s : List T}, Errs (varsL k s)
 | 0, s => Errs.out
 | k + 1, s => by
  unfold PX.varsL
  repeat' (first | exact Errs.ok | exact Errs.want | exact Errs.decl | exact Errs.clockOf | exact Errs.varsL k | refine Errs.bind ?_ (fun _ _ => ?_) | split)
theorem Errs.vars {k : Nat} {s : List T} : Errs (vars k s) := by
 unfold PX.vars
 repeat' (first | exact Errs.ok | exact Errs.varsL k | split)
theorem Errs.leftsL : ∀ (k : Nat) {s : List T}, Errs (leftsL k s)
 | 0, s => Errs.out
 | k + 1, s => by
  unfold PX.leftsL
  repeat' (first | exact Errs.ok | exact Errs.name | exact Errs.leftsL k | refine Errs.bind ?_ (fun _ _ => ?_) | split)
theorem Errs.lefts {k : Nat} {s : List T} : Errs (lefts k s) := by
 unfold PX.lefts
 repeat' (first | exact Errs.ok | exact Errs.name | exact Errs.want | exact Errs.leftsL k | refine Errs.bind ?_ (fun _ _ => ?_) | split)
theorem Errs.shallow {e : Ex} {s : List T} : Errs (shallow e s) := by
 unfold PX.shallow
 repeat' (first | exact Errs.ok | exact Errs.bad3 | split)
theorem Errs.right {k : Nat} {s : List T} : Errs (right k s) := by
 unfold PX.right
 repeat' (first | exact Errs.ok | exact Errs.name | exact (errss k).call _ _ _ | exact (errss k).expr _ | refine Errs.bind ?_ (fun _ _ => ?_) | split)
theorem Errs.eq {k : Nat} {s : List T} : Errs (eq k s) := by
 unfold PX.eq
 repeat' (first | exact Errs.ok | exact Errs.want | exact Errs.lefts | exact Errs.right | exact Errs.shallow | refine Errs.bind ?_ (fun _ _ => ?_) | split)
theorem Errs.eqs {K : Nat} : ∀ (k : Nat) {s : List T}, Errs (eqs K k s)
 | 0, s => Errs.out
 | k + 1, s => by
  unfold PX.eqs
  repeat' (first | exact Errs.ok | exact Errs.eq | exact Errs.eqs k | refine Errs.bind ?_ (fun _ _ => ?_) | split)
theorem Errs.node {K : Nat} {s : List T} : Errs (node K s) := by
 unfold PX.node
 repeat' (first | exact Errs.ok | exact Errs.want | exact Errs.name | exact Errs.decls | exact Errs.vars | exact Errs.eqs K | refine Errs.bind ?_ (fun _ _ => ?_) | split)
theorem Errs.nodesL {K : Nat} : ∀ (k : Nat) {s : List T}, Errs (nodesL K k s)
 | 0, s => Errs.out
 | k + 1, s => by
  unfold PX.nodesL
  repeat' (first | exact Errs.ok | exact Errs.node | exact Errs.nodesL k | refine Errs.bind ?_ (fun _ _ => ?_) | split)
theorem Errs.atEnd {s : List T} : Errs (atEnd s) := by
 unfold PX.atEnd
 repeat' (first | exact Errs.ok | exact Errs.fail | split)
theorem Errs.program {K : Nat} {s : List T} : Errs (program K s) := by
 unfold PX.program PX.nodes
 repeat' (first | exact Errs.ok | exact Errs.node | exact Errs.nodesL K | exact Errs.atEnd | refine Errs.bind ?_ (fun _ _ => ?_) | split)
theorem Errs.exprOf {K : Nat} {s : List T} : Errs (exprOf K s) := by
 unfold PX.exprOf
 repeat' (first | exact Errs.ok | exact (errss K).expr _ | exact Errs.shallow | exact Errs.atEnd | refine Errs.bind ?_ (fun _ _ => ?_) | split)
end PX
end Go.Proofs.YtjafllnbgfcchaaDoor
end
