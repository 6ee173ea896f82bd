/- The plain parser of programs comes to an end. -/
import Derived.Test.YtjafllnbgfcchaaDoorZPurP
namespace Go.Proofs.YtjafllnbgfcchaaDoor
namespace PX
/-- What a reader's answer owes: it has come to an end, and less than n is left. -/
def Goes {α : Type} (r : Res α) (n : Nat) : Prop :=
  match r with
  | .ok _ rest => Good rest ∧ rest.length < n
  | .bad _ _ => True
  | .out => False
theorem Fine.goes {α : Type} {r : Res α} {n m : Nat} (h : Fine r n) (hm : n < m) : Goes r m := by
  cases r with
  | ok a rest => exact ⟨h.1, Nat.lt_of_le_of_lt h.2 hm⟩
  | bad p e => trivial
  | out => exact h.elim
theorem Goes.bind {α β : Type} {r : Res α} {f : α → List T → Res β} {n m : Nat} (h : Goes r m) (hf : ∀ a rest, Good rest → rest.length < m → Goes (f a rest) n) : Goes (r.bind f) n := by
  cases r with
  | ok a rest => exact hf a rest h.1 h.2
  | bad p e => trivial
  | out => exact h.elim
theorem Goes.mono {α : Type} {r : Res α} {n m : Nat} (h : Goes r n) (hm : n ≤ m) : Goes r m := by
  cases r with
  | ok a rest => exact ⟨h.1, Nat.lt_of_lt_of_le h.2 hm⟩
  | bad p e => trivial
  | out => exact h.elim
theorem Goes.isOut {α : Type} {r : Res α} {n : Nat} (h : Goes r n) : r.isOut = false := by
  cases r <;> first | rfl | exact h.elim
theorem Goes.fail {α : Type} {s : List T} {n : Nat} : Goes (fail (α := α) s) n := trivial
theorem Goes.want {s : List T} (h : Good s) (w : B) : Goes (want w s) s.length := by
  unfold PX.want
  split
  · rename_i hi
    have := h.is_tail hi
    exact ⟨this.1, by omega⟩
  · exact Goes.fail
theorem Goes.name {s : List T} (h : Good s) : Goes (name s) s.length := by
  unfold PX.name
  split
  · rename_i hi
    have := h.tail (by simp at hi; omega)
    exact ⟨this.1, by omega⟩
  · exact Goes.fail
theorem Good.skip {s : List T} (h : Good s) (l : List B) : Good (if is l s then s.tail else s) ∧ (if is l s then s.tail else s).length ≤ s.length := by
  split
  · rename_i hi
    have := h.is_tail hi
    exact ⟨this.1, by omega⟩
  · exact ⟨h, Nat.le_refl _⟩
theorem Goes.decl {s : List T} (h : Good s) : Goes (decl s) s.length := by
  unfold PX.decl
  refine Goes.bind (Goes.name h) fun m s1 h1 l1 => ?_
  refine Goes.bind (Goes.want h1 _) fun _ s2 h2 l2 => ?_
  have h3 := h2.skip [[102, 117, 116, 117, 114, 101]]
  dsimp only
  generalize (if is [[102, 117, 116, 117, 114, 101]] s2 = true then s2.tail else s2) = s3 at h3 ⊢
  split
  · rename_i hi
    have := h3.1.is_tail hi
    exact ⟨this.1, by omega⟩
  · exact Goes.fail
theorem Goes.declsL : ∀ (n : Nat) {s : List T}, Good s → s.length < n → Goes (declsL n s) s.length
  | 0, s, h, hn => by omega
  | n + 1, s, h, hn => by
    unfold PX.declsL
    refine Goes.bind (Goes.decl h) fun d s1 h1 l1 => ?_
    split
    · rename_i hi
      have ht := h1.is_tail hi
      exact Goes.bind (Goes.declsL n ht.1 (by omega)) fun l s2 h2 l2 => ⟨h2, by omega⟩
    · exact Goes.bind (Goes.want h1 _) fun _ s2 h2 l2 => ⟨h2, by omega⟩
theorem Goes.decls {n : Nat} {s : List T} (h : Good s) (hn : s.length < n) : Goes (decls n s) s.length := by
  unfold PX.decls
  refine Goes.bind (Goes.want h _) fun _ s1 h1 l1 => ?_
  split
  · rename_i hi
    have ht := h1.is_tail hi
    exact ⟨ht.1, by omega⟩
  · exact (Goes.declsL n h1 (by omega)).mono (by omega)
theorem Goes.clockOf {d : Dc} {s : List T} (h : Good s) : Goes (clockOf d s) (s.length + 1) := by
  unfold PX.clockOf
  split
  · rename_i hi
    have ht := h.is_tail hi
    dsimp only
    have h2 : Good (if is [[110, 111, 116]] s.tail = true then s.tail.tail else s.tail) ∧ (if is [[110, 111, 116]] s.tail = true then s.tail.tail else s.tail).length ≤ s.tail.length := ht.1.skip _
    exact Goes.bind (Goes.name h2.1) fun m s2 h3 l3 => ⟨h3, by omega⟩
  · exact ⟨h, by omega⟩
theorem Goes.varsL : ∀ (n : Nat) {s : List T}, Good s → s.length < n → Goes (varsL n s) s.length
  | 0, s, h, hn => by omega
  | n + 1, s, h, hn => by
    unfold PX.varsL
    refine Goes.bind (Goes.decl h) fun d0 s1 h1 l1 => ?_
    refine Goes.bind (Goes.clockOf h1) fun d s2 h2 l2 => ?_
    refine Goes.bind (Goes.want h2 _) fun _ s3 h3 l3 => ?_
    split
    · exact ⟨h3, by omega⟩
    · exact Goes.bind (Goes.varsL n h3 (by omega)) fun l s4 h4 l4 => ⟨h4, by omega⟩
theorem Goes.vars {n : Nat} {s : List T} (h : Good s) (hn : s.length < n) : Goes (vars n s) (s.length + 1) := by
  unfold PX.vars
  split
  · rename_i hi
    have ht := h.is_tail hi
    exact (Goes.varsL n ht.1 (by omega)).mono (by omega)
  · exact ⟨h, by omega⟩
theorem Goes.leftsL : ∀ (n : Nat) {s : List T}, Good s → s.length < n → Goes (leftsL n s) (s.length + 1)
  | 0, s, h, hn => by omega
  | n + 1, s, h, hn => by
    unfold PX.leftsL
    split
    · rename_i hi
      have ht := h.is_tail hi
      refine Goes.bind (Goes.name ht.1) fun m s1 h1 l1 => ?_
      exact Goes.bind (Goes.leftsL n h1 (by omega)) fun l s2 h2 l2 => ⟨h2, by omega⟩
    · exact ⟨h, by omega⟩
theorem Goes.lefts {n : Nat} {s : List T} (h : Good s) (hn : s.length < n) : Goes (lefts n s) s.length := by
  unfold PX.lefts
  split
  · rename_i hi
    have ht := h.is_tail hi
    refine Goes.bind (Goes.name ht.1) fun m s1 h1 l1 => ?_
    refine Goes.bind (Goes.want h1 _) fun _ s2 h2 l2 => ?_
    refine Goes.bind (Goes.name h2) fun m2 s3 h3 l3 => ?_
    refine Goes.bind (Goes.leftsL n h3 (by omega)) fun l s4 h4 l4 => ?_
    exact Goes.bind (Goes.want h4 _) fun _ s5 h5 l5 => ⟨h5, by omega⟩
  · exact Goes.bind (Goes.name h) fun m s1 h1 l1 => ⟨h1, by omega⟩
theorem Goes.right {K : Nat} {s : List T} (h : Good s) (hK : 12 * s.length + 10 ≤ K) : Goes (right K s) (s.length + 1) := by
  unfold PX.right
  split
  · rename_i hi
    have ht := h.is_tail hi
    refine Goes.bind (Goes.name ht.1) fun m s1 h1 l1 => ?_
    exact Goes.bind (((enough K).call m _ s1 h1 (by omega)).goes (Nat.lt_succ_self _)) fun e s2 h2 l2 => ⟨h2, by omega⟩
  · exact Goes.bind (((enough K).expr s h hK).goes (Nat.lt_succ_self _)) fun e s2 h2 l2 => ⟨h2, by omega⟩
theorem Goes.shallow {e : Ex} {s : List T} (h : Good s) : Goes (shallow e s) (s.length + 1) := by
  unfold PX.shallow
  split
  · trivial
  · exact ⟨h, by omega⟩
theorem Goes.eq {K : Nat} {s : List T} (h : Good s) (hK : 12 * s.length + 10 ≤ K) : Goes (eq K s) s.length := by
  unfold PX.eq
  refine Goes.bind (Goes.lefts h (by omega)) fun l s1 h1 l1 => ?_
  refine Goes.bind (Goes.want h1 _) fun _ s2 h2 l2 => ?_
  refine Goes.bind (Goes.right h2 (by omega)) fun q s3 h3 l3 => ?_
  refine Goes.bind (Goes.shallow h3) fun _ s4 h4 l4 => ?_
  exact Goes.bind (Goes.want h4 _) fun _ s5 h5 l5 => ⟨h5, by omega⟩
theorem Goes.eqs {K : Nat} : ∀ (n : Nat) {s : List T}, Good s → s.length < n → 12 * s.length + 10 ≤ K → Goes (eqs K n s) (s.length + 1)
  | 0, s, h, hn, hK => by omega
  | n + 1, s, h, hn, hK => by
    unfold PX.eqs
    split
    · exact ⟨h, by omega⟩
    · refine Goes.bind (Goes.eq h hK) fun q s1 h1 l1 => ?_
      exact Goes.bind (Goes.eqs n h1 (by omega) (by omega)) fun l s2 h2 l2 => ⟨h2, by omega⟩
theorem Goes.node {K : Nat} {s : List T} (h : Good s) (hK : 12 * s.length + 10 ≤ K) : Goes (node K s) s.length := by
  unfold PX.node
  refine Goes.bind (Goes.want h _) fun _ s1 h1 l1 => ?_
  refine Goes.bind (Goes.name h1) fun m s2 h2 l2 => ?_
  refine Goes.bind (Goes.decls h2 (by omega)) fun ins s3 h3 l3 => ?_
  refine Goes.bind (Goes.want h3 _) fun _ s4 h4 l4 => ?_
  refine Goes.bind (Goes.decls h4 (by omega)) fun outs s5 h5 l5 => ?_
  refine Goes.bind (Goes.vars h5 (by omega)) fun vs s6 h6 l6 => ?_
  refine Goes.bind (Goes.want h6 _) fun _ s7 h7 l7 => ?_
  refine Goes.bind (Goes.eqs K h7 (by omega) (by omega)) fun qs s8 h8 l8 => ?_
  exact Goes.bind (Goes.want h8 _) fun _ s9 h9 l9 => ⟨h9, by omega⟩
theorem Goes.nodesL {K : Nat} : ∀ (n : Nat) {s : List T}, Good s → s.length < n → 12 * s.length + 10 ≤ K → Goes (nodesL K n s) (s.length + 1)
  | 0, s, h, hn, hK => by omega
  | n + 1, s, h, hn, hK => by
    unfold PX.nodesL
    split
    · exact ⟨h, by omega⟩
    · refine Goes.bind (Goes.node h hK) fun q s1 h1 l1 => ?_
      exact Goes.bind (Goes.nodesL n h1 (by omega) (by omega)) fun l s2 h2 l2 => ⟨h2, by omega⟩
theorem Goes.nodes {K : Nat} {s : List T} (h : Good s) (hK : 12 * s.length + 10 ≤ K) : Goes (nodes K s) s.length := by
  unfold PX.nodes
  refine Goes.bind (Goes.node h hK) fun x s1 h1 l1 => ?_
  exact Goes.bind (Goes.nodesL K h1 (by omega) (by omega)) fun l s2 h2 l2 => ⟨h2, by omega⟩
theorem Goes.atEnd {s : List T} (h : Good s) : Goes (atEnd s) (s.length + 1) := by
  unfold PX.atEnd
  split
  · exact ⟨h, by omega⟩
  · exact Goes.fail
theorem Goes.program {K : Nat} {s : List T} (h : Good s) (hK : 12 * s.length + 10 ≤ K) : Goes (program K s) s.length := by
  unfold PX.program
  refine Goes.bind (Goes.nodes h hK) fun l s1 h1 l1 => ?_
  exact Goes.bind (Goes.atEnd h1) fun _ s2 h2 l2 => ⟨h2, by omega⟩
theorem Goes.exprOf {K : Nat} {s : List T} (h : Good s) (hK : 12 * s.length + 10 ≤ K) : Goes (exprOf K s) (s.length + 1) := by
  unfold PX.exprOf
  refine Goes.bind (((enough K).expr s h hK).goes (Nat.lt_succ_self _)) fun e s1 h1 l1 => ?_
  refine Goes.bind (Goes.shallow h1) fun _ s2 h2 l2 => ?_
  exact Goes.bind (Goes.atEnd h2) fun _ s3 h3 l3 => ⟨h3, by omega⟩
end PX
end Go.Proofs.YtjafllnbgfcchaaDoor
