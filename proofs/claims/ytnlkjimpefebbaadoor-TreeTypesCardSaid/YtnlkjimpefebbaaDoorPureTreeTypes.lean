/- The law TreeTypes: four cases. -/
import Derived.Test.YtnlkjimpefebbaaDoorXTx7
namespace Go.Proofs.YtnlkjimpefebbaaDoor.Pure
open Go Go.RowKit Go.Proofs.YtnlkjimpefebbaaDoor.XT Go.Proofs.YtnlkjimpefebbaaDoorW.PrintWords Go.Proofs.YtnlkjimpefebbaaDoorW.PrintLast
theorem all4 : ∀ a0 a1 : Bool, girandolelaw02_TreeTypes.f a0 a1 = some true := by decide +kernel
theorem TreeTypes : girandolelaw02_TreeTypes.Pure := all4
end Go.Proofs.YtnlkjimpefebbaaDoor.Pure
