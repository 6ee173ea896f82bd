/- TypesAwaits, by reckoning: 9 values. -/
import Derived.Test.YtjafllnbgfcchaaDoorZAGCtE
namespace Go.Proofs.YtjafllnbgfcchaaDoor.Pure
set_option linter.unusedVariables false
set_option linter.unusedSimpArgs false
theorem told9_0 : ∀ a0 a1 : Bool, ∀ m : Fin 128, told a0 a1 (bls 9 (0 + m.val)) = true := by decide +kernel
theorem told9_1 : ∀ a0 a1 : Bool, ∀ m : Fin 128, told a0 a1 (bls 9 (128 + m.val)) = true := by decide +kernel
theorem told9_2 : ∀ a0 a1 : Bool, ∀ m : Fin 128, told a0 a1 (bls 9 (256 + m.val)) = true := by decide +kernel
theorem told9_3 : ∀ a0 a1 : Bool, ∀ m : Fin 128, told a0 a1 (bls 9 (384 + m.val)) = true := by decide +kernel
end Go.Proofs.YtjafllnbgfcchaaDoor.Pure
