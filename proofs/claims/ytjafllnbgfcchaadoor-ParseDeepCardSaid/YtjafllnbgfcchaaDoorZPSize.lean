/- What the plain parser reads is no larger than what it was read of; how deep it is. -/
import Derived.Test.YtjafllnbgfcchaaDoorZPFine
namespace Go.Proofs.YtjafllnbgfcchaaDoor
namespace PX
mutual
/-- How many expressions. -/
def nsz : Ex → Nat
  | .mk _ _ _ _ _ l => nszs l + 1
def nszs : List Ex → Nat
  | [] => 0
  | e :: r => nsz e + nszs r
end
theorem nsz_pos (e : Ex) : 1 ≤ nsz e := by cases e; rw [nsz]; omega
theorem deeps_le : ∀ (n : Nat) (l : List Ex), nszs l ≤ n → deeps l ≤ nszs l
  | n, [], _ => by rw [deeps]; exact Nat.zero_le _
  | 0, e :: r, h => by rw [nszs] at h; have := nsz_pos e; omega
  | n + 1, .mk k a m s o l :: r, h => by
    rw [nszs, nsz] at h
    rw [deeps, deepE, nszs, nsz]
    have h1 := deeps_le n l (by omega)
    have h2 := deeps_le n r (by omega)
    omega
theorem deep_le (e : Ex) : deep e ≤ nsz e := by
  cases e with
  | mk k a m s o l =>
    have := deeps_le _ l (Nat.le_refl _)
    unfold deep
    rw [nsz]
    show deeps l + 1 ≤ _
    omega
/-- What was read, and what is left. -/
def Sz {α : Type} (f : α → Nat) (r : Res α) (n : Nat) : Prop := ∀ a rest, r = .ok a rest → f a + rest.length ≤ n
theorem Sz.bind {α β : Type} {f : α → Nat} {g : β → Nat} {r : Res α} {h : α → List T → Res β} {m n : Nat} (h1 : Sz f r m) (h2 : ∀ a rest, f a + rest.length ≤ m → Sz g (h a rest) n) : Sz g (r.bind h) n := by
  cases r with
  | ok a rest => exact h2 a rest (h1 a rest rfl)
  | bad p e => intro a rest h; cases h
  | out => intro a rest h; cases h
theorem Sz.ok {α : Type} {f : α → Nat} {a : α} {s : List T} {n : Nat} (h : f a + s.length ≤ n) : Sz f (.ok a s) n := by
  intro a' rest e
  cases e
  exact h
theorem Sz.bad {α : Type} {f : α → Nat} {p e n : Nat} : Sz f (.bad p e) n := by intro a rest h; cases h
theorem Sz.out {α : Type} {f : α → Nat} {n : Nat} : Sz f .out n := by intro a rest h; cases h
theorem Sz.fail {α : Type} {f : α → Nat} {s : List T} {n : Nat} : Sz f (fail s) n := Sz.bad
theorem Sz.mono {α : Type} {f : α → Nat} {r : Res α} {n m : Nat} (h : Sz f r n) (hm : n ≤ m) : Sz f r m := fun a rest e => Nat.le_trans (h a rest e) hm
theorem kind_len {s : List T} (h : (peek s).kind ≠ 5) : s.tail.length + 1 = s.length := by
  cases s with
  | nil => exact absurd rfl h
  | cons a s => simp
theorem is_len {l : List B} {s : List T} (h : is l s = true) : s.tail.length + 1 = s.length := kind_len (is_kind h)
theorem Sz.want {s : List T} {w : B} : Sz (fun _ => 1) (want w s) s.length := by
  unfold PX.want
  split
  · rename_i hi
    have := is_len hi
    exact Sz.ok (by omega)
  · exact Sz.fail
theorem Sz.name {s : List T} : Sz (fun _ => 1) (name s) s.length := by
  unfold PX.name
  split
  · rename_i hi
    have := kind_len (s := s) (by simp at hi; omega)
    exact Sz.ok (by omega)
  · exact Sz.fail
theorem Sz.number {s : List T} (hk : (peek s).kind = 2) {a : Nat} {b : Bool} : Sz nsz (number s a b) s.length := by
  unfold PX.number
  have := kind_len (s := s) (by omega)
  simp only []
  split
  · exact Sz.bad
  · exact Sz.ok (by rw [nsz, nszs]; omega)
theorem Sz.literal {s : List T} : Sz nsz (literal s) s.length := by
  unfold PX.literal
  split
  · rename_i hi
    have := is_len hi
    exact Sz.ok (by unfold truth; rw [nsz, nszs]; omega)
  · simp only []
    cases hb : is [[45]] s with
    | true =>
      have := is_len hb
      simp only [if_true]
      split
      · rename_i hk
        exact (Sz.number (eq_of_beq hk)).mono (by omega)
      · exact Sz.fail
    | false =>
      simp only [if_false, Bool.false_eq_true]
      split
      · rename_i hk
        exact Sz.number (eq_of_beq hk)
      · exact Sz.fail
theorem Sz.lits : ∀ (k : Nat) {s : List T}, Sz nszs (lits k s) s.length
  | 0, s => Sz.out
  | k + 1, s => by
    unfold PX.lits
    refine Sz.bind Sz.literal fun e s1 h1 => ?_
    split
    · rename_i hi
      have := is_len hi
      exact Sz.bind (Sz.lits k) fun l s2 h2 => Sz.ok (by rw [nszs]; omega)
    · exact Sz.bind Sz.want fun _ s2 h2 => Sz.ok (by rw [nszs, nszs]; omega)
structure Szs (k : Nat) : Prop where
  expr : ∀ s, Sz nsz (expr k s) s.length
  arrow : ∀ s, Sz nsz (arrow k s) s.length
  bin : ∀ lvl s, Sz nsz (bin k lvl s) s.length
  left : ∀ lvl a s, Sz nsz (left k lvl a s) (nsz a + s.length)
  unary : ∀ s, Sz nsz (unary k s) s.length
  whens : ∀ a s, Sz nsz (whens k a s) (nsz a + s.length)
  exprs : ∀ s, Sz nszs (exprs k s) s.length
  call : ∀ m a s, Sz nsz (call k m a s) (s.length + 1)
  primary : ∀ s, Sz nsz (primary k s) s.length
theorem szs : ∀ k, Szs k
  | 0 => by constructor <;> intros <;> first | (rw [expr.eq_1]; exact Sz.out) | (rw [arrow.eq_1]; exact Sz.out) | (rw [bin.eq_1]; exact Sz.out) | (rw [left.eq_1]; exact Sz.out) | (rw [unary.eq_1]; exact Sz.out) | (rw [whens.eq_1]; exact Sz.out) | (rw [exprs.eq_1]; exact Sz.out) | (rw [call.eq_1]; exact Sz.out) | (rw [primary.eq_1]; exact Sz.out)
  | k + 1 => by
    have ih := szs k
    constructor
    · intro s
      unfold expr
      split
      · rename_i hi
        have := is_len hi
        refine Sz.bind (ih.expr _) fun a s1 h1 => Sz.bind Sz.want fun _ s2 h2 => Sz.bind (ih.expr _) fun b s3 h3 => Sz.bind Sz.want fun _ s4 h4 => Sz.bind (ih.expr _) fun c s5 h5 => Sz.ok ?_
        simp only [nsz, nszs]
        omega
      · exact ih.arrow s
    · intro s
      unfold arrow
      refine Sz.bind (ih.bin 0 s) fun a s1 h1 => ?_
      split
      · rename_i hi
        have := is_len hi
        refine Sz.bind (ih.arrow _) fun b s2 h2 => Sz.ok ?_
        simp only [nsz, nszs]
        omega
      · split
        · rename_i hi
          have := is_len hi
          split
          · refine Sz.bind (ih.arrow _) fun b s2 h2 => Sz.ok ?_
            simp only [nsz, nszs]
            omega
          · exact Sz.fail
        · exact Sz.ok h1
    · intro lvl s
      unfold bin
      split
      · split
        · rename_i hi
          have := is_len hi
          refine Sz.bind (ih.bin 2 _) fun a s1 h1 => Sz.ok ?_
          simp only [nsz, nszs]
          omega
        · refine Sz.bind (ih.bin 3 s) fun a s1 h1 => ?_
          split
          · rename_i hi
            have := is_len hi
            refine Sz.bind (ih.bin 3 _) fun b s2 h2 => Sz.ok ?_
            simp only [nsz, nszs]
            omega
          · exact Sz.ok h1
      · split
        · exact ih.unary s
        · exact Sz.bind (ih.bin (lvl + 1) s) fun a s1 h1 => (ih.left lvl a s1).mono h1
    · intro lvl a s
      unfold left
      split
      · rename_i hi
        have := is_len hi
        refine Sz.bind (ih.bin (lvl + 1) _) fun b s1 h1 => (ih.left lvl _ s1).mono ?_
        simp only [nsz, nszs]
        omega
      · exact Sz.ok (Nat.le_refl _)
    · intro s
      unfold unary
      split
      · rename_i hi
        have := is_len hi
        refine Sz.bind (ih.unary _) fun a s1 h1 => Sz.ok ?_
        simp only [nsz, nszs]
        omega
      · split
        · rename_i hi
          have := is_len hi
          split
          · rename_i hk
            simp only [Bool.and_eq_true, beq_iff_eq] at hk
            exact (Sz.number hk.1).mono (by omega)
          · refine Sz.bind (ih.unary _) fun a s1 h1 => Sz.ok ?_
            simp only [nsz, nszs]
            omega
        · exact Sz.bind (ih.primary s) fun a s1 h1 => (ih.whens a s1).mono h1
    · intro a s
      unfold whens
      split
      · rename_i hi
        have h0 := is_len hi
        simp only []
        cases hb : is [[110, 111, 116]] s.tail with
        | true =>
          have := is_len hb
          simp only [if_true]
          refine Sz.bind Sz.name fun m s2 h2 => (ih.whens _ s2).mono ?_
          simp only [nsz, nszs]
          omega
        | false =>
          simp only [if_false, Bool.false_eq_true]
          refine Sz.bind Sz.name fun m s2 h2 => (ih.whens _ s2).mono ?_
          simp only [nsz, nszs]
          omega
      · exact Sz.ok (Nat.le_refl _)
    · intro s
      unfold exprs
      refine Sz.bind (ih.expr s) fun e s1 h1 => ?_
      split
      · rename_i hi
        have := is_len hi
        exact Sz.bind (ih.exprs _) fun l s2 h2 => Sz.ok (by rw [nszs]; omega)
      · exact Sz.bind Sz.want fun _ s2 h2 => Sz.ok (by rw [nszs, nszs]; omega)
    · intro m a s
      unfold call
      refine Sz.bind Sz.want fun _ s1 h1 => ?_
      split
      · rename_i hi
        have := is_len hi
        exact Sz.ok (by rw [nsz, nszs]; omega)
      · exact Sz.bind (ih.exprs _) fun l s2 h2 => Sz.ok (by rw [nsz]; omega)
    · intro s
      unfold primary
      simp only []
      split
      · rename_i hk
        exact Sz.number (eq_of_beq hk)
      · split
        · rename_i hk
          have := kind_len (s := s) (by have := eq_of_beq hk; omega)
          split
          · exact (ih.call _ _ _).mono (by omega)
          · exact Sz.ok (by rw [nsz, nszs]; omega)
        · split
          · rename_i hi
            have := is_len hi
            split
            · refine Sz.bind Sz.name fun m s1 h1 => Sz.bind Sz.want fun _ s2 h2 => Sz.bind (ih.expr _) fun a s3 h3 => Sz.bind Sz.want fun _ s4 h4 => Sz.bind Sz.want fun _ s5 h5 => Sz.bind (ih.expr _) fun b s6 h6 => Sz.bind Sz.want fun _ s7 h7 => Sz.ok ?_
              simp only [nsz, nszs]
              omega
            · split
              · refine Sz.bind Sz.name fun m s1 h1 => ?_
                split
                · rename_i hi2
                  have := is_len hi2
                  refine Sz.bind Sz.want fun _ s2 h2 => Sz.bind (Sz.lits k) fun l s3 h3 => Sz.ok ?_
                  rw [nsz]
                  omega
                · exact Sz.ok (by rw [nsz, nszs]; omega)
              · split
                · exact Sz.bind (ih.expr _) fun e s1 h1 => Sz.bind Sz.want fun _ s2 h2 => Sz.ok (by omega)
                · exact Sz.ok (by unfold truth; rw [nsz, nszs]; omega)
          · exact Sz.fail
end PX
end Go.Proofs.YtjafllnbgfcchaaDoor
