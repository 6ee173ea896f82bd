/- The numbers of the plain parser's faults. -/
import Derived.Test.YtjafllnbgfcchaaDoorZPFine
namespace Go.Proofs.YtjafllnbgfcchaaDoor
namespace PX
/-- A fault's number is one of the three. -/
def Errs {α : Type} (r : Res α) : Prop := ∀ q e, r = .bad q e → e = 1 ∨ e = 2 ∨ e = 3
theorem Errs.ok {α : Type} {a : α} {s : List T} : Errs (.ok a s) := by intro q e h; cases h
theorem Errs.out {α : Type} : Errs (.out : Res α) := by intro q e h; cases h
theorem Errs.bad3 {α : Type} {p : Nat} : Errs (.bad p 3 : Res α) := by intro q e h; cases h; simp
theorem Errs.fail {α : Type} {s : List T} : Errs (fail s : Res α) := by
  intro q e h
  unfold PX.fail at h
  cases h
  split <;> simp
theorem Errs.bind {α β : Type} {r : Res α} {f : α → List T → Res β} (h : Errs r) (hf : ∀ a s, Errs (f a s)) : Errs (r.bind f) := by
  cases r with
  | ok a s => exact hf a s
  | bad p e => intro q e' he; cases he; exact h p e rfl
  | out => intro q e he; cases he
theorem Errs.want {s : List T} {w : B} : Errs (want w s) := by
  unfold PX.want
  split
  · exact Errs.ok
  · exact Errs.fail
theorem Errs.name {s : List T} : Errs (name s) := by
  unfold PX.name
  split
  · exact Errs.ok
  · exact Errs.fail
theorem Errs.number {s : List T} {a : Nat} {b : Bool} : Errs (number s a b) := by
  unfold PX.number
  simp only []
  split
  · exact Errs.bad3
  · exact Errs.ok
theorem Errs.literal {s : List T} : Errs (literal s) := by
  unfold PX.literal
  simp only []
  repeat' (first | exact Errs.ok | exact Errs.fail | exact Errs.number | split)
theorem Errs.lits : ∀ (k : Nat) {s : List T}, Errs (lits k s)
  | 0, s => Errs.out
  | k + 1, s => by
    unfold PX.lits
    repeat' (first | exact Errs.ok | exact Errs.want | exact Errs.literal | exact Errs.lits k | refine Errs.bind ?_ (fun _ _ => ?_) | split)
structure Errss (k : Nat) : Prop where
  expr : ∀ s, Errs (expr k s)
  arrow : ∀ s, Errs (arrow k s)
  bin : ∀ lvl s, Errs (bin k lvl s)
  left : ∀ lvl a s, Errs (left k lvl a s)
  unary : ∀ s, Errs (unary k s)
  whens : ∀ a s, Errs (whens k a s)
  exprs : ∀ s, Errs (exprs k s)
  call : ∀ m a s, Errs (call k m a s)
  primary : ∀ s, Errs (primary k s)
theorem errss : ∀ k, Errss k
  | 0 => by constructor <;> intros <;> first | (rw [expr.eq_1]; exact Errs.out) | (rw [arrow.eq_1]; exact Errs.out) | (rw [bin.eq_1]; exact Errs.out) | (rw [left.eq_1]; exact Errs.out) | (rw [unary.eq_1]; exact Errs.out) | (rw [whens.eq_1]; exact Errs.out) | (rw [exprs.eq_1]; exact Errs.out) | (rw [call.eq_1]; exact Errs.out) | (rw [primary.eq_1]; exact Errs.out)
  | k + 1 => by
    have ih := errss k
    constructor
    · intro s
      unfold expr
      try simp only []
      repeat' (first | exact Errs.ok | exact Errs.fail | exact Errs.want | exact Errs.name | exact Errs.number | exact Errs.literal | exact Errs.lits k | exact Errs.bad3 | exact ih.expr _ | exact ih.arrow _ | exact ih.bin _ _ | exact ih.left _ _ _ | exact ih.unary _ | exact ih.whens _ _ | exact ih.exprs _ | exact ih.call _ _ _ | exact ih.primary _ | refine Errs.bind ?_ (fun _ _ => ?_) | split)
    · intro s
      unfold arrow
      try simp only []
      repeat' (first | exact Errs.ok | exact Errs.fail | exact Errs.want | exact Errs.name | exact Errs.number | exact Errs.literal | exact Errs.lits k | exact Errs.bad3 | exact ih.expr _ | exact ih.arrow _ | exact ih.bin _ _ | exact ih.left _ _ _ | exact ih.unary _ | exact ih.whens _ _ | exact ih.exprs _ | exact ih.call _ _ _ | exact ih.primary _ | refine Errs.bind ?_ (fun _ _ => ?_) | split)
    · intro lvl s
      unfold bin
      try simp only []
      repeat' (first | exact Errs.ok | exact Errs.fail | exact Errs.want | exact Errs.name | exact Errs.number | exact Errs.literal | exact Errs.lits k | exact Errs.bad3 | exact ih.expr _ | exact ih.arrow _ | exact ih.bin _ _ | exact ih.left _ _ _ | exact ih.unary _ | exact ih.whens _ _ | exact ih.exprs _ | exact ih.call _ _ _ | exact ih.primary _ | refine Errs.bind ?_ (fun _ _ => ?_) | split)
    · intro lvl a s
      unfold left
      try simp only []
      repeat' (first | exact Errs.ok | exact Errs.fail | exact Errs.want | exact Errs.name | exact Errs.number | exact Errs.literal | exact Errs.lits k | exact Errs.bad3 | exact ih.expr _ | exact ih.arrow _ | exact ih.bin _ _ | exact ih.left _ _ _ | exact ih.unary _ | exact ih.whens _ _ | exact ih.exprs _ | exact ih.call _ _ _ | exact ih.primary _ | refine Errs.bind ?_ (fun _ _ => ?_) | split)
    · intro s
      unfold unary
      try simp only []
      repeat' (first | exact Errs.ok | exact Errs.fail | exact Errs.want | exact Errs.name | exact Errs.number | exact Errs.literal | exact Errs.lits k | exact Errs.bad3 | exact ih.expr _ | exact ih.arrow _ | exact ih.bin _ _ | exact ih.left _ _ _ | exact ih.unary _ | exact ih.whens _ _ | exact ih.exprs _ | exact ih.call _ _ _ | exact ih.primary _ | refine Errs.bind ?_ (fun _ _ => ?_) | split)
    · intro a s
      unfold whens
      try simp only []
      repeat' (first | exact Errs.ok | exact Errs.fail | exact Errs.want | exact Errs.name | exact Errs.number | exact Errs.literal | exact Errs.lits k | exact Errs.bad3 | exact ih.expr _ | exact ih.arrow _ | exact ih.bin _ _ | exact ih.left _ _ _ | exact ih.unary _ | exact ih.whens _ _ | exact ih.exprs _ | exact ih.call _ _ _ | exact ih.primary _ | refine Errs.bind ?_ (fun _ _ => ?_) | split)
    · intro s
      unfold exprs
      try simp only []
      repeat' (first | exact Errs.ok | exact Errs.fail | exact Errs.want | exact Errs.name | exact Errs.number | exact Errs.literal | exact Errs.lits k | exact Errs.bad3 | exact ih.expr _ | exact ih.arrow _ | exact ih.bin _ _ | exact ih.left _ _ _ | exact ih.unary _ | exact ih.whens _ _ | exact ih.exprs _ | exact ih.call _ _ _ | exact ih.primary _ | refine Errs.bind ?_ (fun _ _ => ?_) | split)
    · intro m a s
      unfold call
      try simp only []
      repeat' (first | exact Errs.ok | exact Errs.fail | exact Errs.want | exact Errs.name | exact Errs.number | exact Errs.literal | exact Errs.lits k | exact Errs.bad3 | exact ih.expr _ | exact ih.arrow _ | exact ih.bin _ _ | exact ih.left _ _ _ | exact ih.unary _ | exact ih.whens _ _ | exact ih.exprs _ | exact ih.call _ _ _ | exact ih.primary _ | refine Errs.bind ?_ (fun _ _ => ?_) | split)
    · intro s
      unfold primary
      try simp only []
      repeat' (first | exact Errs.ok | exact Errs.fail | exact Errs.want | exact Errs.name | exact Errs.number | exact Errs.literal | exact Errs.lits k | exact Errs.bad3 | exact ih.expr _ | exact ih.arrow _ | exact ih.bin _ _ | exact ih.left _ _ _ | exact ih.unary _ | exact ih.whens _ _ | exact ih.exprs _ | exact ih.call _ _ _ | exact ih.primary _ | refine Errs.bind ?_ (fun _ _ => ?_) | split)
theorem Errs.decl {s : List T} : Errs (decl s) := by
  unfold PX.decl
  simp only []
  repeat' (first | exact Errs.ok | exact Errs.fail | exact Errs.want | exact Errs.name | refine Errs.bind ?_ (fun _ _ => ?_) | split)
theorem Errs.declsL : ∀ (k : Nat) {s : List T}, Errs (declsL k s)
  | 0, s => Errs.out
  | k + 1, s => by
    unfold PX.declsL
    repeat' (first | exact Errs.ok | exact Errs.want | exact Errs.decl | exact Errs.declsL k | refine Errs.bind ?_ (fun _ _ => ?_) | split)
theorem Errs.decls {k : Nat} {s : List T} : Errs (decls k s) := by
  unfold PX.decls
  repeat' (first | exact Errs.ok | exact Errs.want | exact Errs.declsL k | refine Errs.bind ?_ (fun _ _ => ?_) | split)
theorem Errs.clockOf {d : Dc} {s : List T} : Errs (clockOf d s) := by
  unfold PX.clockOf
  simp only []
  repeat' (first | exact Errs.ok | exact Errs.name | refine Errs.bind ?_ (fun _ _ => ?_) | split)
theorem Errs.varsL : ∀ (k : Nat) {s : List T}, Errs (varsL k s)
  | 0, s => Errs.out
  | k + 1, s => by
    unfold PX.varsL
    repeat' (first | exact Errs.ok | exact Errs.want | exact Errs.decl | exact Errs.clockOf | exact Errs.varsL k | refine Errs.bind ?_ (fun _ _ => ?_) | split)
theorem Errs.vars {k : Nat} {s : List T} : Errs (vars k s) := by
  unfold PX.vars
  repeat' (first | exact Errs.ok | exact Errs.varsL k | split)
theorem Errs.leftsL : ∀ (k : Nat) {s : List T}, Errs (leftsL k s)
  | 0, s => Errs.out
  | k + 1, s => by
    unfold PX.leftsL
    repeat' (first | exact Errs.ok | exact Errs.name | exact Errs.leftsL k | refine Errs.bind ?_ (fun _ _ => ?_) | split)
theorem Errs.lefts {k : Nat} {s : List T} : Errs (lefts k s) := by
  unfold PX.lefts
  repeat' (first | exact Errs.ok | exact Errs.name | exact Errs.want | exact Errs.leftsL k | refine Errs.bind ?_ (fun _ _ => ?_) | split)
theorem Errs.shallow {e : Ex} {s : List T} : Errs (shallow e s) := by
  unfold PX.shallow
  repeat' (first | exact Errs.ok | exact Errs.bad3 | split)
theorem Errs.right {k : Nat} {s : List T} : Errs (right k s) := by
  unfold PX.right
  repeat' (first | exact Errs.ok | exact Errs.name | exact (errss k).call _ _ _ | exact (errss k).expr _ | refine Errs.bind ?_ (fun _ _ => ?_) | split)
theorem Errs.eq {k : Nat} {s : List T} : Errs (eq k s) := by
  unfold PX.eq
  repeat' (first | exact Errs.ok | exact Errs.want | exact Errs.lefts | exact Errs.right | exact Errs.shallow | refine Errs.bind ?_ (fun _ _ => ?_) | split)
theorem Errs.eqs {K : Nat} : ∀ (k : Nat) {s : List T}, Errs (eqs K k s)
  | 0, s => Errs.out
  | k + 1, s => by
    unfold PX.eqs
    repeat' (first | exact Errs.ok | exact Errs.eq | exact Errs.eqs k | refine Errs.bind ?_ (fun _ _ => ?_) | split)
theorem Errs.node {K : Nat} {s : List T} : Errs (node K s) := by
  unfold PX.node
  repeat' (first | exact Errs.ok | exact Errs.want | exact Errs.name | exact Errs.decls | exact Errs.vars | exact Errs.eqs K | refine Errs.bind ?_ (fun _ _ => ?_) | split)
theorem Errs.nodesL {K : Nat} : ∀ (k : Nat) {s : List T}, Errs (nodesL K k s)
  | 0, s => Errs.out
  | k + 1, s => by
    unfold PX.nodesL
    repeat' (first | exact Errs.ok | exact Errs.node | exact Errs.nodesL k | refine Errs.bind ?_ (fun _ _ => ?_) | split)
theorem Errs.atEnd {s : List T} : Errs (atEnd s) := by
  unfold PX.atEnd
  repeat' (first | exact Errs.ok | exact Errs.fail | split)
theorem Errs.program {K : Nat} {s : List T} : Errs (program K s) := by
  unfold PX.program PX.nodes
  repeat' (first | exact Errs.ok | exact Errs.node | exact Errs.nodesL K | exact Errs.atEnd | refine Errs.bind ?_ (fun _ _ => ?_) | split)
theorem Errs.exprOf {K : Nat} {s : List T} : Errs (exprOf K s) := by
  unfold PX.exprOf
  repeat' (first | exact Errs.ok | exact (errss K).expr _ | exact Errs.shallow | exact Errs.atEnd | refine Errs.bind ?_ (fun _ _ => ?_) | split)
end PX
end Go.Proofs.YtjafllnbgfcchaaDoor
