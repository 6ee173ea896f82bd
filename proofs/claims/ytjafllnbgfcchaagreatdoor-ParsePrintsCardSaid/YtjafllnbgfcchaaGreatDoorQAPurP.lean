/- The plain parser over lists of tokens, and that it comes to an end: no program in sight. A place is told by how many tokens were left where it stands. -/
import Derived.Lib.Bytealg
namespace Go.Proofs.YtjafllnbgfcchaaGreatDoor
namespace PX
abbrev B := List UInt8
structure T where
 kind : Nat
 text : B
 n : Nat
deriving DecidableEq, Inhabited

inductive Ex where
 | mk (kind : Nat) (at_ : Nat) (n : Int) (name : B) (off : Bool) (kids : List Ex)
deriving Inhabited

def Ex.kind : Ex → Nat | .mk k _ _ _ _ _ => k
def Ex.place : Ex → Nat | .mk _ a _ _ _ _ => a
def Ex.n : Ex → Int | .mk _ _ n _ _ _ => n
def Ex.name : Ex → B | .mk _ _ _ m _ _ => m
def Ex.off : Ex → Bool | .mk _ _ _ _ o _ => o
def Ex.kids : Ex → List Ex | .mk _ _ _ _ _ l => l

inductive Res (α : Type) where
 | ok (a : α) (rest : List T)
 | bad (rem : Nat) (err : Nat)
 | out

def Res.bind {α β : Type} (r : Res α) (f : α → List T → Res β) : Res β :=
 match r with
 | .ok a s => f a s
 | .bad p e => .bad p e
 | .out => .out

def Res.isOut {α : Type} : Res α → Bool
 | .out => true
 | _ => false

def endT : T := ⟨5, [], 0⟩
def peek (s : List T) : T := s.headD endT
def is (l : List B) (s : List T) : Bool := ((peek s).kind == 3 || (peek s).kind == 4) && l.contains (peek s).text
def fail {α : Type} (s : List T) : Res α := .bad s.length (if (peek s).kind == 5 then 2 else 1)
def want (w : B) (s : List T) : Res Unit := if is [w] s then .ok () s.tail else fail s
def name (s : List T) : Res B := if (peek s).kind == 1 then .ok (peek s).text s.tail else fail s
def number (s : List T) (at_ : Nat) (below : Bool) : Res Ex :=
 let t := peek s
 if !below && t.n > 9223372036854775807 then .bad s.length 3
 else .ok (.mk 1 at_ (if below then -(t.n : Int) else t.n) [] false []) s.tail

def truth (s : List T) : Ex := .mk 2 s.length (if (peek s).text == [116, 114, 117, 101] then 1 else 0) [] false []
def isConst (e : Ex) : Bool := e.kind == 1 || e.kind == 2

def literal (s : List T) : Res Ex :=
 if is [[116, 114, 117, 101], [102, 97, 108, 115, 101]] s then .ok (truth s) s.tail
 else
  let below := is [[45]] s
  let s1 := if below then s.tail else s
  if (peek s1).kind == 2 then number s1 (if below then s.length else s1.length) below
  else fail s1

def levelSigns : Nat → List B
 | 0 => [[111, 114], [120, 111, 114]]
 | 1 => [[97, 110, 100]]
 | 3 => [[43], [45]]
 | 4 => [[42], [47], [109, 111, 100]]
 | _ => []
def compares : List B := [[61], [60, 62], [60], [60, 61], [62], [62, 61]]
def lits : Nat → List T → Res (List Ex)
 | 0, _ => .out
 | k + 1, s => (literal s).bind fun e s1 =>
  if is [[44]] s1 then (lits k s1.tail).bind fun l s2 => .ok (e :: l) s2
  else (want [41] s1).bind fun _ s2 => .ok [e] s2

mutual
def expr : Nat → List T → Res Ex
 | 0, _ => .out
 | k + 1, s =>
  if is [[105, 102]] s then
   (expr k s.tail).bind fun a s1 => (want [116, 104, 101, 110] s1).bind fun _ s2 => (expr k s2).bind fun b s3 => (want [101, 108, 115, 101] s3).bind fun _ s4 =>
    (expr k s4).bind fun c s5 => .ok (.mk 7 s.length 0 [] false [a, b, c]) s5
  else arrow k s
 termination_by structural x => x
def arrow : Nat → List T → Res Ex
 | 0, _ => .out
 | k + 1, s => (bin k 0 s).bind fun a s1 =>
  if is [[45, 62]] s1 then (arrow k s1.tail).bind fun b s2 => .ok (.mk 8 s1.length 0 [] false [a, b]) s2
  else if is [[102, 98, 121]] s1 then
   if isConst a then (arrow k s1.tail).bind fun b s2 => .ok (.mk 9 s1.length 0 [] false [a, b]) s2 else fail s1
  else .ok a s1
 termination_by structural x => x
def bin : Nat → Nat → List T → Res Ex
 | 0, _, _ => .out
 | k + 1, lvl, s =>
  if lvl = 2 then
   if is [[110, 111, 116]] s then (bin k 2 s.tail).bind fun a s1 => .ok (.mk 5 s.length 0 [] false [a]) s1
   else (bin k 3 s).bind fun a s1 =>
    if is compares s1 then (bin k 3 s1.tail).bind fun b s2 => .ok (.mk 6 s1.length 0 (peek s1).text false [a, b]) s2
    else .ok a s1
  else if lvl = 5 then unary k s
  else (bin k (lvl + 1) s).bind fun a s1 => left k lvl a s1
 termination_by structural x => x
def left : Nat → Nat → Ex → List T → Res Ex
 | 0, _, _, _ => .out
 | k + 1, lvl, a, s =>
  if is (levelSigns lvl) s then (bin k (lvl + 1) s.tail).bind fun b s1 => left k lvl (.mk 6 s.length 0 (peek s).text false [a, b]) s1
  else .ok a s
 termination_by structural x => x
def unary : Nat → List T → Res Ex
 | 0, _ => .out
 | k + 1, s =>
  if is [[112, 114, 101]] s then (unary k s.tail).bind fun a s1 => .ok (.mk 10 s.length 0 [] false [a]) s1
  else if is [[45]] s then
   if (peek s.tail).kind == 2 && (peek s.tail.tail).text != [119, 104, 101, 110] then number s.tail s.length true
   else (unary k s.tail).bind fun a s1 => .ok (.mk 4 s.length 0 [] false [a]) s1
  else (primary k s).bind fun a s1 => whens k a s1
 termination_by structural x => x
def whens : Nat → Ex → List T → Res Ex
 | 0, _, _ => .out
 | k + 1, a, s =>
  if is [[119, 104, 101, 110]] s then
   let off := is [[110, 111, 116]] s.tail
   let s1 := if off then s.tail.tail else s.tail
   (name s1).bind fun m s2 => whens k (.mk 11 s.length 0 m off [a]) s2
  else .ok a s
 termination_by structural x => x
def exprs : Nat → List T → Res (List Ex)
 | 0, _ => .out
 | k + 1, s => (expr k s).bind fun e s1 =>
  if is [[44]] s1 then (exprs k s1.tail).bind fun l s2 => .ok (e :: l) s2
  else (want [41] s1).bind fun _ s2 => .ok [e] s2
 termination_by structural x => x
def call : Nat → B → Nat → List T → Res Ex
 | 0, _, _, _ => .out
 | k + 1, m, at_, s => (want [40] s).bind fun _ s1 =>
  if is [[41]] s1 then .ok (.mk 13 at_ 0 m false []) s1.tail
  else (exprs k s1).bind fun l s2 => .ok (.mk 13 at_ 0 m false l) s2
 termination_by structural x => x
def primary : Nat → List T → Res Ex
 | 0, _ => .out
 | k + 1, s =>
  let t := peek s
  if t.kind == 2 then number s s.length false
  else if t.kind == 1 then
   if is [[40]] s.tail then call k t.text s.length s.tail
   else .ok (.mk 3 s.length 0 t.text false []) s.tail
  else if is [[116, 114, 117, 101], [102, 97, 108, 115, 101], [109, 101, 114, 103, 101], [97, 119, 97, 105, 116], [40]] s then
   if t.text == [109, 101, 114, 103, 101] then
    (name s.tail).bind fun m s1 => (want [40] s1).bind fun _ s2 => (expr k s2).bind fun a s3 => (want [41] s3).bind fun _ s4 =>
     (want [40] s4).bind fun _ s5 => (expr k s5).bind fun b s6 => (want [41] s6).bind fun _ s7 => .ok (.mk 12 s.length 0 m false [a, b]) s7
   else if t.text == [97, 119, 97, 105, 116] then
    (name s.tail).bind fun m s1 =>
     if is [[97, 102, 116, 101, 114]] s1 then (want [40] s1.tail).bind fun _ s2 => (lits k s2).bind fun l s3 => .ok (.mk 14 s.length 0 m false l) s3
     else .ok (.mk 14 s.length 0 m false []) s1
   else if t.text == [40] then (expr k s.tail).bind fun e s1 => (want [41] s1).bind fun _ s2 => .ok e s2
   else .ok (truth s) s.tail
  else fail s
 termination_by structural x => x
end

mutual
def deepE : Ex → Nat
 | .mk _ _ _ _ _ l => deeps l + 1
 termination_by structural x => x
def deeps : List Ex → Nat
 | [] => 0
 | e :: r => max (deepE e) (deeps r)
 termination_by structural x => x
end
def deep (e : Ex) : Nat := deeps e.kids + 1

structure Dc where
 name : B
 place : Nat
 bool : Bool
 future : Bool
 clock : B
 off : Bool
deriving DecidableEq, Inhabited
structure Lf where
 name : B
 place : Nat
deriving DecidableEq, Inhabited
structure Eq where
 left : List Lf
 async : Bool
 e : Ex
deriving Inhabited
structure Nd where
 name : B
 place : Nat
 ins : List Dc
 outs : List Dc
 vars : List Dc
 eqs : List Eq
deriving Inhabited

def decl (s : List T) : Res Dc :=
 (name s).bind fun m s1 => (want [58] s1).bind fun _ s2 =>
  let s3 := if is [[102, 117, 116, 117, 114, 101]] s2 then s2.tail else s2
  if is [[105, 110, 116], [98, 111, 111, 108]] s3 then .ok ⟨m, s.length, (peek s3).text == [98, 111, 111, 108], is [[102, 117, 116, 117, 114, 101]] s2, [], false⟩ s3.tail else fail s3
def declsL : Nat → List T → Res (List Dc)
 | 0, _ => .out
 | n + 1, s => (decl s).bind fun d s1 =>
  if is [[44]] s1 then (declsL n s1.tail).bind fun l s2 => .ok (d :: l) s2
  else (want [41] s1).bind fun _ s2 => .ok [d] s2
def decls (n : Nat) (s : List T) : Res (List Dc) :=
 (want [40] s).bind fun _ s1 => if is [[41]] s1 then .ok [] s1.tail else declsL n s1
def clockOf (d : Dc) (s : List T) : Res Dc :=
 if is [[119, 104, 101, 110]] s then
  let s1 := if is [[110, 111, 116]] s.tail then s.tail.tail else s.tail
  (name s1).bind fun m s2 => .ok ⟨d.name, d.place, d.bool, d.future, m, is [[110, 111, 116]] s.tail⟩ s2
 else .ok d s
def varsL : Nat → List T → Res (List Dc)
 | 0, _ => .out
 | n + 1, s => (decl s).bind fun d0 s1 => (clockOf d0 s1).bind fun d s2 => (want [59] s2).bind fun _ s3 =>
  if is [[108, 101, 116]] s3 then .ok [d] s3 else (varsL n s3).bind fun l s4 => .ok (d :: l) s4
def vars (n : Nat) (s : List T) : Res (List Dc) := if is [[118, 97, 114]] s then varsL n s.tail else .ok [] s
def leftsL : Nat → List T → Res (List Lf)
 | 0, _ => .out
 | n + 1, s => if is [[44]] s then (name s.tail).bind fun m s1 => (leftsL n s1).bind fun l s2 => .ok (⟨m, s.tail.length⟩ :: l) s2 else .ok [] s
def lefts (n : Nat) (s : List T) : Res (List Lf) :=
 if is [[40]] s then (name s.tail).bind fun m s1 => (want [44] s1).bind fun _ s2 => (name s2).bind fun m2 s3 => (leftsL n s3).bind fun l s4 =>
  (want [41] s4).bind fun _ s5 => .ok (⟨m, s.tail.length⟩ :: ⟨m2, s2.length⟩ :: l) s5
 else (name s).bind fun m s1 => .ok [⟨m, s.length⟩] s1
def right (K : Nat) (s : List T) : Res (Bool × Ex) :=
 if is [[97, 115, 121, 110, 99]] s then (name s.tail).bind fun m s1 => (call K m s.tail.length s1).bind fun e s2 => .ok (true, e) s2
 else (expr K s).bind fun e s1 => .ok (false, e) s1
def shallow (e : Ex) (s : List T) : Res Unit := if deep e > 40 then .bad e.place 3 else .ok () s
def eq (K : Nat) (s : List T) : Res Eq :=
 (lefts K s).bind fun l s1 => (want [61] s1).bind fun _ s2 => (right K s2).bind fun q s3 => (shallow q.2 s3).bind fun _ s4 =>
  (want [59] s4).bind fun _ s5 => .ok ⟨l, q.1, q.2⟩ s5
def eqs (K : Nat) : Nat → List T → Res (List Eq)
 | 0, _ => .out
 | n + 1, s => if is [[116, 101, 108]] s then .ok [] s else (eq K s).bind fun q s1 => (eqs K n s1).bind fun l s2 => .ok (q :: l) s2
def node (K : Nat) (s : List T) : Res Nd :=
 (want [110, 111, 100, 101] s).bind fun _ s1 => (name s1).bind fun m s2 => (decls K s2).bind fun ins s3 => (want [114, 101, 116, 117, 114, 110, 115] s3).bind fun _ s4 =>
  (decls K s4).bind fun outs s5 => (vars K s5).bind fun vs s6 => (want [108, 101, 116] s6).bind fun _ s7 => (eqs K K s7).bind fun qs s8 =>
   (want [116, 101, 108] s8).bind fun _ s9 => .ok ⟨m, s1.length, ins, outs, vs, qs⟩ s9
def nodesL (K : Nat) : Nat → List T → Res (List Nd)
 | 0, _ => .out
 | n + 1, s => if (peek s).kind == 5 then .ok [] s else (node K s).bind fun x s1 => (nodesL K n s1).bind fun l s2 => .ok (x :: l) s2
def nodes (K : Nat) (s : List T) : Res (List Nd) := (node K s).bind fun x s1 => (nodesL K K s1).bind fun l s2 => .ok (x :: l) s2
def atEnd (s : List T) : Res Unit := if (peek s).kind == 5 then .ok () s else fail s
def program (K : Nat) (s : List T) : Res (List Nd) := (nodes K s).bind fun l s1 => (atEnd s1).bind fun _ s2 => .ok l s2
def exprOf (K : Nat) (s : List T) : Res Ex := (expr K s).bind fun e s1 => (shallow e s1).bind fun _ s2 => (atEnd s2).bind fun _ s3 => .ok e s3
def Good (s : List T) : Prop := ∃ pre e, s = pre ++ [e] ∧ e.kind = 5 ∧ ∀ t ∈ pre, t.kind ≠ 5

theorem Good.ne {s : List T} (h : Good s) : s ≠ [] := by obtain ⟨pre, e, rfl, _⟩ := h; simp
theorem Good.pos {s : List T} (h : Good s) : 1 ≤ s.length := by obtain ⟨pre, e, rfl, _⟩ := h; simp
theorem Good.tail {s : List T} (h : Good s) (hk : (peek s).kind ≠ 5) : Good s.tail ∧ s.tail.length + 1 = s.length := by
 obtain ⟨pre, e, rfl, he, hp⟩ := h
 cases pre with
 | nil => exact absurd he (by simpa [peek] using hk)
 | cons a pre => exact ⟨⟨pre, e, by simp, he, fun t ht => hp t (by simp [ht])⟩, by simp⟩
theorem is_kind {l : List B} {s : List T} (h : is l s = true) : (peek s).kind ≠ 5 := by
 unfold is at h
 intro e
 rw [e] at h
 simp at h
theorem Good.is_tail {s : List T} (h : Good s) {l : List B} (hi : is l s = true) : Good s.tail ∧ s.tail.length + 1 = s.length := h.tail (is_kind hi)
def Fine {α : Type} (r : Res α) (n : Nat) : Prop :=
 match r with
 | .ok _ rest => Good rest ∧ rest.length ≤ n
 | .bad p _ => 1 ≤ p ∧ p ≤ n
 | .out => False

theorem Fine.bind {α β : Type} {r : Res α} {f : α → List T → Res β} {n m : Nat} (h : Fine r m) (hm : m ≤ n) (hf : ∀ a rest, Good rest → rest.length ≤ m → Fine (f a rest) n) : Fine (r.bind f) n := by
 cases r with
 | ok a rest => exact hf a rest h.1 h.2
 | bad p e => exact ⟨h.1, Nat.le_trans h.2 hm⟩
 | out => exact h.elim
theorem Fine.fail {α : Type} {s : List T} (h : Good s) {n : Nat} (hn : s.length ≤ n) : Fine (fail (α := α) s) n := ⟨h.pos, hn⟩
theorem Fine.mono {α : Type} {r : Res α} {n m : Nat} (h : Fine r m) (hm : m ≤ n) : Fine r n := by
 cases r with
 | ok a rest => exact ⟨h.1, Nat.le_trans h.2 hm⟩
 | bad p e => exact ⟨h.1, Nat.le_trans h.2 hm⟩
 | out => exact h.elim
theorem Fine.want {s : List T} (h : Good s) (w : B) : Fine (want w s) s.length := by
 unfold PX.want
 split
 ·rename_i hi
  have := h.is_tail hi
  exact ⟨this.1, by omega⟩
 ·exact Fine.fail h (Nat.le_refl _)
theorem Fine.want_bind {β : Type} {s : List T} (h : Good s) (w : B) {f : Unit → List T → Res β} {n : Nat} (hn : s.length ≤ n) (hf : ∀ rest, Good rest → rest.length + 1 = s.length → Fine (f () rest) n) : Fine ((PX.want w s).bind f) n := by
 unfold PX.want
 split
 ·rename_i hi
  have := h.is_tail hi
  exact hf _ this.1 this.2
 ·exact Fine.fail h hn
theorem Fine.name_bind {β : Type} {s : List T} (h : Good s) {f : B → List T → Res β} {n : Nat} (hn : s.length ≤ n) (hf : ∀ m rest, Good rest → rest.length + 1 = s.length → Fine (f m rest) n) : Fine ((name s).bind f) n := by
 unfold PX.name
 split
 ·rename_i hi
  have := h.tail (by simp at hi; omega)
  exact hf _ _ this.1 this.2
 ·exact Fine.fail h hn
theorem Fine.number {s : List T} (h : Good s) (hk : (peek s).kind = 2) (a : Nat) (b : Bool) : Fine (number s a b) s.length := by
 unfold PX.number
 have := h.tail (by omega)
 simp only []
 split
 ·exact ⟨h.pos, Nat.le_refl _⟩
 ·exact ⟨this.1, by omega⟩
theorem Fine.literal {s : List T} (h : Good s) : Fine (literal s) s.length := by
 unfold PX.literal
 split
 ·rename_i hi
  have := h.is_tail hi
  exact ⟨this.1, by omega⟩
 ·simp only []
  cases hb : is [[45]] s with
  | true =>
   have := h.is_tail hb
   simp only [if_true]
   split
   ·rename_i hk
    exact (Fine.number this.1 (by simpa using hk) _ _).mono (by omega)
   ·exact Fine.fail this.1 (by omega)
  | false =>
   simp only [if_false, Bool.false_eq_true]
   split
   ·rename_i hk
    exact Fine.number h (by simpa using hk) _ _
   ·exact Fine.fail h (Nat.le_refl _)
theorem Fine.lits : ∀ (k : Nat) {s : List T}, Good s → s.length + 1 ≤ k → Fine (lits k s) s.length
 | 0, s, h, hk => by have := h.pos; omega
 | k + 1, s, h, hk => by
  unfold PX.lits
  refine Fine.bind (Fine.literal h) (Nat.le_refl _) fun e s1 h1 hl => ?_
  split
  ·rename_i hi
   have ht := h1.is_tail hi
   exact Fine.bind (Fine.lits k ht.1 (by omega)) (by omega) fun l s2 h2 hl2 => ⟨h2, by omega⟩
  ·exact Fine.want_bind h1 [41] hl fun s2 h2 hl2 => ⟨h2, by omega⟩

structure Enough (k : Nat) : Prop where
 expr : ∀ s, Good s → 12 * s.length + 10 ≤ k → Fine (expr k s) s.length
 arrow : ∀ s, Good s → 12 * s.length + 9 ≤ k → Fine (arrow k s) s.length
 bin : ∀ lvl s, lvl ≤ 5 → Good s → 12 * s.length + 8 ≤ k + lvl → Fine (bin k lvl s) s.length
 left : ∀ lvl a s, lvl ≤ 4 → Good s → 12 * s.length + 1 ≤ k → Fine (left k lvl a s) s.length
 unary : ∀ s, Good s → 12 * s.length + 2 ≤ k → Fine (unary k s) s.length
 whens : ∀ a s, Good s → 12 * s.length + 1 ≤ k → Fine (whens k a s) s.length
 exprs : ∀ s, Good s → 12 * s.length + 11 ≤ k → Fine (exprs k s) s.length
 call : ∀ m a s, Good s → 12 * s.length + 1 ≤ k → Fine (call k m a s) s.length
 primary : ∀ s, Good s → 12 * s.length + 1 ≤ k → Fine (primary k s) s.length

theorem enough : ∀ k, Enough k
 | 0 => by constructor <;> intros <;> (have := Good.pos ‹Good _›; omega)
 | k + 1 => by
  have ih := enough k
  constructor
  ·intro s h hk
   unfold expr
   split
   ·rename_i hi
    have ht := h.is_tail hi
    refine Fine.bind (ih.expr _ ht.1 (by omega)) (by omega) fun a s1 h1 l1 => ?_
    refine Fine.want_bind h1 [116, 104, 101, 110] (by omega) fun s2 h2 l2 => ?_
    refine Fine.bind (ih.expr _ h2 (by omega)) (by omega) fun b s3 h3 l3 => ?_
    refine Fine.want_bind h3 [101, 108, 115, 101] (by omega) fun s4 h4 l4 => ?_
    exact Fine.bind (ih.expr _ h4 (by omega)) (by omega) fun c s5 h5 l5 => ⟨h5, by omega⟩
   ·exact ih.arrow s h (by omega)
  ·intro s h hk
   unfold arrow
   refine Fine.bind (ih.bin 0 s (by omega) h (by omega)) (Nat.le_refl _) fun a s1 h1 l1 => ?_
   split
   ·rename_i hi
    have ht := h1.is_tail hi
    exact Fine.bind (ih.arrow _ ht.1 (by omega)) (by omega) fun b s2 h2 l2 => ⟨h2, by omega⟩
   ·split
    ·rename_i hi
     have ht := h1.is_tail hi
     split
     ·exact Fine.bind (ih.arrow _ ht.1 (by omega)) (by omega) fun b s2 h2 l2 => ⟨h2, by omega⟩
     ·exact Fine.fail h1 l1
    ·exact ⟨h1, l1⟩
  ·intro lvl s hl h hk
   unfold bin
   split
   ·subst lvl
    split
    ·rename_i hi
     have ht := h.is_tail hi
     exact Fine.bind (ih.bin 2 _ (by omega) ht.1 (by omega)) (by omega) fun b s2 h2 l2 => ⟨h2, by omega⟩
    ·refine Fine.bind (ih.bin 3 _ (by omega) h (by omega)) (by omega) fun a s1 h1 l1 => ?_
     split
     ·rename_i hi
      have ht := h1.is_tail hi
      exact Fine.bind (ih.bin 3 _ (by omega) ht.1 (by omega)) (by omega) fun b s2 h2 l2 => ⟨h2, by omega⟩
     ·exact ⟨h1, l1⟩
   ·split
    ·exact ih.unary s h (by omega)
    ·exact Fine.bind (ih.bin (lvl + 1) s (by omega) h (by omega)) (Nat.le_refl _) fun a s1 h1 l1 => (ih.left lvl a s1 (by omega) h1 (by omega)).mono l1
  ·intro lvl a s hl h hk
   unfold left
   split
   ·rename_i hi
    have ht := h.is_tail hi
    exact Fine.bind (ih.bin (lvl + 1) _ (by omega) ht.1 (by omega)) (by omega) fun b s1 h1 l1 => (ih.left lvl _ s1 hl h1 (by omega)).mono (by omega)
   ·exact ⟨h, Nat.le_refl _⟩
  ·intro s h hk
   unfold unary
   split
   ·rename_i hi
    have ht := h.is_tail hi
    exact Fine.bind (ih.unary _ ht.1 (by omega)) (by omega) fun b s2 h2 l2 => ⟨h2, by omega⟩
   ·split
    ·rename_i hi
     have ht := h.is_tail hi
     split
     ·rename_i hn
      simp only [Bool.and_eq_true, beq_iff_eq] at hn
      exact (Fine.number ht.1 hn.1 _ _).mono (by omega)
     ·exact Fine.bind (ih.unary _ ht.1 (by omega)) (by omega) fun b s2 h2 l2 => ⟨h2, by omega⟩
    ·exact Fine.bind (ih.primary s h (by omega)) (Nat.le_refl _) fun a s1 h1 l1 => (ih.whens a s1 h1 (by omega)).mono l1
  ·intro a s h hk
   unfold whens
   split
   ·rename_i hi
    have ht := h.is_tail hi
    simp only []
    cases hb : is [[110, 111, 116]] s.tail with
    | true =>
     have ht2 := ht.1.is_tail hb
     simp only [if_true]
     exact Fine.name_bind ht2.1 (by omega) fun m s2 h2 l2 => (ih.whens _ s2 h2 (by omega)).mono (by omega)
    | false =>
     simp only [if_false, Bool.false_eq_true]
     exact Fine.name_bind ht.1 (by omega) fun m s2 h2 l2 => (ih.whens _ s2 h2 (by omega)).mono (by omega)
   ·exact ⟨h, Nat.le_refl _⟩
  ·intro s h hk
   unfold exprs
   refine Fine.bind (ih.expr s h (by omega)) (Nat.le_refl _) fun a s1 h1 l1 => ?_
   split
   ·rename_i hi
    have ht := h1.is_tail hi
    exact Fine.bind (ih.exprs _ ht.1 (by omega)) (by omega) fun b s2 h2 l2 => ⟨h2, by omega⟩
   ·exact Fine.want_bind h1 [41] l1 fun s2 h2 l2 => ⟨h2, by omega⟩
  ·intro m a s h hk
   unfold call
   refine Fine.want_bind h [40] (Nat.le_refl _) fun s1 h1 l1 => ?_
   split
   ·rename_i hi
    have ht := h1.is_tail hi
    exact ⟨ht.1, by omega⟩
   ·exact Fine.bind (ih.exprs _ h1 (by omega)) (by omega) fun b s2 h2 l2 => ⟨h2, by omega⟩
  ·intro s h hk
   unfold primary
   simp only []
   split
   ·rename_i hn
    exact Fine.number h (by simpa using hn) _ _
   ·split
    ·rename_i hn
     have ht := h.tail (by simp at hn; omega)
     split
     ·exact (ih.call _ _ _ ht.1 (by omega)).mono (by omega)
     ·exact ⟨ht.1, by omega⟩
    ·split
     ·rename_i hi
      have ht := h.is_tail hi
      split
      ·refine Fine.name_bind ht.1 (by omega) fun m s1 h1 l1 => ?_
       refine Fine.want_bind h1 [40] (by omega) fun s2 h2 l2 => ?_
       refine Fine.bind (ih.expr _ h2 (by omega)) (by omega) fun a s3 h3 l3 => ?_
       refine Fine.want_bind h3 [41] (by omega) fun s4 h4 l4 => ?_
       refine Fine.want_bind h4 [40] (by omega) fun s5 h5 l5 => ?_
       refine Fine.bind (ih.expr _ h5 (by omega)) (by omega) fun b s6 h6 l6 => ?_
       exact Fine.want_bind h6 [41] (by omega) fun s7 h7 l7 => ⟨h7, by omega⟩
      ·split
       ·refine Fine.name_bind ht.1 (by omega) fun m s1 h1 l1 => ?_
        split
        ·rename_i hi2
         have ht2 := h1.is_tail hi2
         refine Fine.want_bind ht2.1 [40] (by omega) fun s2 h2 l2 => ?_
         exact Fine.bind (Fine.lits k h2 (by omega)) (by omega) fun l s3 h3 l3 => ⟨h3, by omega⟩
        ·exact ⟨h1, by omega⟩
       ·split
        ·refine Fine.bind (ih.expr _ ht.1 (by omega)) (by omega) fun e s1 h1 l1 => ?_
         exact Fine.want_bind h1 [41] (by omega) fun s2 h2 l2 => ⟨h2, by omega⟩
        ·exact ⟨ht.1, by omega⟩
     ·exact Fine.fail h (Nat.le_refl _)

theorem Res.isOut_bind {α β : Type} {r : Res α} {f : α → List T → Res β} (h : (r.bind f).isOut = false) : r.isOut = false := by
 cases r <;> first | rfl | exact h
theorem Fine.isOut {α : Type} {r : Res α} {n : Nat} (h : Fine r n) : r.isOut = false := by
 cases r <;> first | rfl | exact h.elim
end PX
end Go.Proofs.YtjafllnbgfcchaaGreatDoor
