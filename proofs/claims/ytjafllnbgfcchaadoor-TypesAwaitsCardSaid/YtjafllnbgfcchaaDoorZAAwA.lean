/- TypesAwaits, by reckoning: at most 8 values. -/
import Derived.Test.YtjafllnbgfcchaaDoorZAGCtE
namespace Go.Proofs.YtjafllnbgfcchaaDoor.Pure
set_option linter.unusedVariables false
set_option linter.unusedSimpArgs false
theorem told0 : ∀ a0 a1 : Bool, ∀ m : Fin 1, told a0 a1 (bls 0 m.val) = true := by decide +kernel
theorem told1 : ∀ a0 a1 : Bool, ∀ m : Fin 2, told a0 a1 (bls 1 m.val) = true := by decide +kernel
theorem told2 : ∀ a0 a1 : Bool, ∀ m : Fin 4, told a0 a1 (bls 2 m.val) = true := by decide +kernel
theorem told3 : ∀ a0 a1 : Bool, ∀ m : Fin 8, told a0 a1 (bls 3 m.val) = true := by decide +kernel
theorem told4 : ∀ a0 a1 : Bool, ∀ m : Fin 16, told a0 a1 (bls 4 m.val) = true := by decide +kernel
theorem told5 : ∀ a0 a1 : Bool, ∀ m : Fin 32, told a0 a1 (bls 5 m.val) = true := by decide +kernel
theorem told6 : ∀ a0 a1 : Bool, ∀ m : Fin 64, told a0 a1 (bls 6 m.val) = true := by decide +kernel
theorem told7 : ∀ a0 a1 : Bool, ∀ m : Fin 128, told a0 a1 (bls 7 m.val) = true := by decide +kernel
theorem told8_0 : ∀ a0 a1 : Bool, ∀ m : Fin 128, told a0 a1 (bls 8 (0 + m.val)) = true := by decide +kernel
theorem told8_1 : ∀ a0 a1 : Bool, ∀ m : Fin 128, told a0 a1 (bls 8 (128 + m.val)) = true := by decide +kernel
end Go.Proofs.YtjafllnbgfcchaaDoor.Pure
