/- The library's functions that the tree's texts call. -/
import Derived.Test.YtnlkjimpefebbaaDoorShelfT
import Derived.Lib.AppendIntMem
import Derived.Lib.LaidTab
import Derived.Below
namespace Go.Proofs.YtnlkjimpefebbaaDoor.Tl
open Go Go.RowKit
/-- The library's table of powers of ten. -/
def Tabs (w : World) : Prop := Lib.TabIs Tryd.prog w "internal/strconv.uint64pow10" .u64 Lib.pow10Tab
theorem Tabs.below {w0 w : World} (h : Tabs w0) (hb : Below w0.heap.size w0 w) : Tabs w := by
  unfold Tabs Lib.TabIs World.var? at h ⊢
  rw [← h]
  cases hg : Tryd.prog.globalNamed "internal/strconv.uint64pow10" with
  | none => rfl
  | some g =>
    simp only [Option.bind_some]
    have hlt : g < w0.heap.size := by
      rw [hg] at h
      simp only [Option.bind_some] at h
      rcases Nat.lt_or_ge g w0.heap.size with h1 | h1
      · exact h1
      · rw [Array.getElem?_eq_none h1] at h
        cases h
    rw [hb.block g hlt]
theorem formatInt_walk (a0 : Int) (h0 : -9223372036854775808 ≤ a0) (h1 : a0 ≤ 9223372036854775807) (w : World) (hT : Tabs w) :
    Calls Tryd.prog 67 #[.int .i64 a0, .int .i64 10] w fun e w' => e = .returned (.string ⟨(Lib.itoa a0).toArray⟩) ∧ Below w.heap.size w w' := by
  refine (Tryd.strconv_FormatInt_10 a0 h0 h1 w hT).mono ?_
  rintro e w' ⟨rfl, k, os, rfl⟩
  exact ⟨rfl, Go.Lib.below_grow _ _ (Nat.le_refl _) _ _⟩
end Go.Proofs.YtnlkjimpefebbaaDoor.Tl
