/- The parser's deferred recover, walked. -/
import Derived.Test.YtjafllnbgfcchaaDoorZXKx0
import Derived.Tactics
import Derived.Tactics2
import Derived.Defers
import Derived.Recover
import Derived.Laws.Pointers
import Derived.Lib.Hide
import Derived.Below
namespace Go.Proofs.YtjafllnbgfcchaaDoor.Px
set_option linter.unusedVariables false
open Go Go.RowKit
theorem caught_idle (g : Nat) (w : World) :
    CallsD Tryd.prog 71 #[.pointer (some ⟨g, 0, none⟩)] .returning w fun e u' w' => e = .returned (.tuple #[]) ∧ u' = .returning ∧ w' = w := by
  refine callsD_of_wpS Tryd.func71 rfl fun c₀ cs hu => ?_
  apply wpS_seq
  apply wpS_region
  simp [wpOpsS, go_sem, recoverD, hu, Tryd.ntmps71, Exit.thenS]
  refine wpS_of_wp ?_
  show Code.wp _ _ _ { tmps := #[.pointer (some ⟨g, 0, none⟩), undef, undef, undef, undef, .nilIface, undef, undef, undef, undef, undef, undef, undef, undef], defers := [] } _
  go_wp2
  cases c₀
  simp_all [bodyPostS, results, Tryd.results71]
set_option maxRecDepth 100000 in
theorem caught_fault (g : Nat) (a e0 x y : Int) (w : World) (h : w.heap[g]? = some (.cells #[.int .i64 x, .int .i64 y] 27 (0, 0))) :
    CallsD Tryd.prog 71 #[.pointer (some ⟨g, 0, none⟩)] (.panicking [{ v := .iface 27 (.agg #[.int .i64 a, .int .i64 e0]), recovered := false }]) w fun e u' w' =>
      e = .returned (.tuple #[]) ∧ u' = .panicking [{ v := .iface 27 (.agg #[.int .i64 a, .int .i64 e0]), recovered := true }] ∧ w' = (((w.setCell ⟨g, 0, none⟩ (.int .i64 a)).setCell ⟨g, 1, none⟩ (.int .i64 e0)).alloc (.cells #[.int .i64 a, .int .i64 e0] 27)) := by
  refine callsD_of_wpS Tryd.func71 rfl fun c₀ cs hu => ?_
  apply wpS_seq
  apply wpS_region
  simp [wpOpsS, go_sem, recoverD, hu, Tryd.ntmps71, Exit.thenS]
  refine wpS_of_wp ?_
  show Code.wp _ _ _ { tmps := #[.pointer (some ⟨g, 0, none⟩), undef, undef, undef, undef, .iface 27 (.agg #[.int .i64 a, .int .i64 e0]), undef, undef, undef, undef, undef, undef, undef, undef], defers := [] } _
  have hc0 : w.cell? ⟨g, 0, none⟩ = some (.int .i64 x) := by unfold World.cell?; rw [h]; rfl
  have hc1 : w.cell? ⟨g, 1, none⟩ = some (.int .i64 y) := by unfold World.cell?; rw [h]; rfl
  have hz : ∀ j, w.frozen? ⟨g, j, none⟩ = false := by intro j; unfold World.frozen?; rw [h]; rfl
  have hta : ∀ v W, Sem.run Tryd.prog (Instr.typeAssert (.iface 27 v) 20 27 true) W = .ok (.tuple #[v, .bool true]) W := fun v W => by kernel_rfl
  have hlt : g < w.heap.size := (Array.getElem?_eq_some_iff.1 h).1
  have hne : ¬ w.heap.size = g := by omega
  have hne2 : ¬ g = w.heap.size := by omega
  go_wp2
  simp [bodyPostS, results, Tryd.results71]
end Go.Proofs.YtjafllnbgfcchaaDoor.Px
