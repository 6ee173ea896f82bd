/- TypesAwaits, by reckoning: 10 values, one half. -/
import Derived.Test.YtjafllnbgfcchaaDoorZAGCtE
namespace Go.Proofs.YtjafllnbgfcchaaDoor.Pure
set_option linter.unusedVariables false
set_option linter.unusedSimpArgs false
theorem told10_0 : ∀ a0 a1 : Bool, ∀ m : Fin 128, told a0 a1 (bls 10 (0 + m.val)) = true := by decide +kernel
theorem told10_1 : ∀ a0 a1 : Bool, ∀ m : Fin 128, told a0 a1 (bls 10 (128 + m.val)) = true := by decide +kernel
theorem told10_2 : ∀ a0 a1 : Bool, ∀ m : Fin 128, told a0 a1 (bls 10 (256 + m.val)) = true := by decide +kernel
theorem told10_3 : ∀ a0 a1 : Bool, ∀ m : Fin 128, told a0 a1 (bls 10 (384 + m.val)) = true := by decide +kernel
end Go.Proofs.YtjafllnbgfcchaaDoor.Pure
