/- TypesAwaits, by reckoning: 10 values, the other half. -/
import Derived.Test.YtjafllnbgfcchaaDoorZAGCtE
namespace Go.Proofs.YtjafllnbgfcchaaDoor.Pure
set_option linter.unusedVariables false
set_option linter.unusedSimpArgs false
theorem told10_4 : ∀ a0 a1 : Bool, ∀ m : Fin 128, told a0 a1 (bls 10 (512 + m.val)) = true := by decide +kernel
theorem told10_5 : ∀ a0 a1 : Bool, ∀ m : Fin 128, told a0 a1 (bls 10 (640 + m.val)) = true := by decide +kernel
theorem told10_6 : ∀ a0 a1 : Bool, ∀ m : Fin 128, told a0 a1 (bls 10 (768 + m.val)) = true := by decide +kernel
theorem told10_7 : ∀ a0 a1 : Bool, ∀ m : Fin 128, told a0 a1 (bls 10 (896 + m.val)) = true := by decide +kernel
end Go.Proofs.YtjafllnbgfcchaaDoor.Pure
