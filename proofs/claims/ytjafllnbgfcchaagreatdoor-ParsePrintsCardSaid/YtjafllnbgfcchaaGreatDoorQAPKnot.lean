/- All readers of expressions, knotted. -/
import Derived.Test.YtjafllnbgfcchaaGreatDoorQAPPrim
import Derived.Test.YtjafllnbgfcchaaGreatDoorQAPExpr
import Derived.Test.YtjafllnbgfcchaaGreatDoorQAPArrow
import Derived.Test.YtjafllnbgfcchaaGreatDoorQAPNot
import Derived.Test.YtjafllnbgfcchaaGreatDoorQAPLev
import Derived.Test.YtjafllnbgfcchaaGreatDoorQAPUn
import Derived.Test.YtjafllnbgfcchaaGreatDoorQAPWhen
namespace Go.Proofs.YtjafllnbgfcchaaGreatDoor.Px
set_option linter.unusedVariables false
open Go Go.RowKit
theorem walks_zero (p b : Nat) (toks : List LX.Tok) : Walks p b toks 0 := by
 constructor <;> intro s w h hout <;> first | (rw [PX.expr] at hout; cases hout) | (rw [PX.arrow] at hout; cases hout) | (rw [PX.bin] at hout; cases hout) | (rw [PX.unary] at hout; cases hout) | (rw [PX.primary] at hout; cases hout)
theorem walks_upto (p b : Nat) (toks : List LX.Tok) : ∀ k, k ≤ 1000000 → ∀ j, j ≤ k → Walks p b toks j
 | 0, _, j, hj => by
  obtain rfl : j = 0 := by omega
  exact walks_zero p b toks
 | k + 1, hk, j, hj => by
  have ihs := walks_upto p b toks k (by omega)
  rcases Nat.lt_or_ge j (k + 1) with h | h
  ·exact ihs j (by omega)
  obtain rfl : j = k + 1 := by omega
  exact ⟨expr_step (ihs k (Nat.le_refl _)), arrow_step (ihs k (Nat.le_refl _)), or_step ihs, and_step ihs, not_step (ihs k (Nat.le_refl _)), sum_step ihs, term_step ihs,
   unary_step (ihs k (Nat.le_refl _)) (when_walk (ihs k (Nat.le_refl _)).primary), primary_step (fun i hi => (ihs i hi).expr) (by omega)⟩
theorem expr_walk (p b : Nat) (toks : List LX.Tok) (k : Nat) (hk : k ≤ 1000000) : ReadsEx p b toks 74 (PX.expr k) := (walks_upto p b toks k hk k (Nat.le_refl _)).expr
theorem call_walk (p b : Nat) (toks : List LX.Tok) (k : Nat) (hk : k ≤ 1000000) : ReadsCall p b toks k := calls_of k (fun j hj => expr_walk p b toks j (by omega)) hk
end Go.Proofs.YtjafllnbgfcchaaGreatDoor.Px
