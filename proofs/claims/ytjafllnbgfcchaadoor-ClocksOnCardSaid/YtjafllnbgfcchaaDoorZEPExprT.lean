/- parse.Expr, walked: its answer. -/
import Derived.Test.YtjafllnbgfcchaaDoorZEPExprF
import Derived.Test.YtjafllnbgfcchaaDoorZEGPFine
namespace Go.Proofs.YtjafllnbgfcchaaDoor.Px
set_option linter.unusedVariables false
set_option linter.unusedSimpArgs false
open Go Go.RowKit Go.Proofs.YtjafllnbgfcchaaDoorW.PrintWords Go.Proofs.YtjafllnbgfcchaaDoorW.PrintLast Go.Proofs.YtjafllnbgfcchaaDoorW.PrintMore Go.Proofs.YtjafllnbgfcchaaDoor.Lx Go.Proofs.YtjafllnbgfcchaaDoor.XK
attribute [local go_sem ↓] Go.wp_at_zero Go.wp_at_succ
def rounds (toks : List LX.Tok) : Nat := 12 * toks.length + 10
theorem drew_heap (W : World) (i : Nat) : W.drew.heap[i]? = W.heap[i]? := rfl
theorem drew_below {B : Nat} {w W : World} (h : Below B w W) : Below B w W.drew := h.drew
end Go.Proofs.YtjafllnbgfcchaaDoor.Px
