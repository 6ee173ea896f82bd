-- Written by a program of this session (wip/xprint) out of the translation.
import Derived.Test.YtnlkjimpefebbaaDoorXTx0
import Derived.Test.YtnlkjimpefebbaaDoorXTx2
import Derived.Test.YtnlkjimpefebbaaDoorXTx3
import Derived.Test.YtnlkjimpefebbaaDoorXTx4
import Derived.Test.YtnlkjimpefebbaaDoorXTx5
namespace Go.Proofs.YtnlkjimpefebbaaDoor.XT
open Go.RowKit Go.Proofs.YtnlkjimpefebbaaDoorW.PrintWords Go.Proofs.YtnlkjimpefebbaaDoorW.PrintLast Go.Proofs.YtnlkjimpefebbaaDoorW.PrintMore
attribute [local go_sem] max2_int min2_int max_two min_two max_three min_three max_four min_four   -- for this text's walks alone
set_option linter.unusedVariables false
set_option linter.unusedSimpArgs false

theorem tree_at.all_g (k : Nat) : tree_at.Stmt k ∧ tree_neg.Stmt k ∧ tree_binary.Stmt k ∧ tree_list.Stmt k ∧ tree_Text.Stmt k := by
  induction k using Nat.strongRecOn with
  | _ k ih =>
  exact ⟨tree_at.step k (fun m_ h_ => (ih m_ h_).1) (fun m_ h_ => (ih m_ h_).2.1) (fun m_ h_ => (ih m_ h_).2.2.1) (fun m_ h_ => (ih m_ h_).2.2.2.1) (fun m_ h_ => (ih m_ h_).2.2.2.2), tree_neg.step k (fun m_ h_ => (ih m_ h_).1) (fun m_ h_ => (ih m_ h_).2.1) (fun m_ h_ => (ih m_ h_).2.2.1) (fun m_ h_ => (ih m_ h_).2.2.2.1) (fun m_ h_ => (ih m_ h_).2.2.2.2), tree_binary.step k (fun m_ h_ => (ih m_ h_).1) (fun m_ h_ => (ih m_ h_).2.1) (fun m_ h_ => (ih m_ h_).2.2.1) (fun m_ h_ => (ih m_ h_).2.2.2.1) (fun m_ h_ => (ih m_ h_).2.2.2.2), tree_list.step k (fun m_ h_ => (ih m_ h_).1) (fun m_ h_ => (ih m_ h_).2.1) (fun m_ h_ => (ih m_ h_).2.2.1) (fun m_ h_ => (ih m_ h_).2.2.2.1) (fun m_ h_ => (ih m_ h_).2.2.2.2), tree_Text.step k (fun m_ h_ => (ih m_ h_).1) (fun m_ h_ => (ih m_ h_).2.1) (fun m_ h_ => (ih m_ h_).2.2.1) (fun m_ h_ => (ih m_ h_).2.2.2.1) (fun m_ h_ => (ih m_ h_).2.2.2.2)⟩
theorem tree_at.calls (k : Nat) : tree_at.Stmt k := (tree_at.all_g k).1
theorem tree_neg.calls (k : Nat) : tree_neg.Stmt k := (tree_at.all_g k).2.1
theorem tree_binary.calls (k : Nat) : tree_binary.Stmt k := (tree_at.all_g k).2.2.1
theorem tree_list.calls (k : Nat) : tree_list.Stmt k := (tree_at.all_g k).2.2.2.1
theorem tree_Text.calls (k : Nat) : tree_Text.Stmt k := (tree_at.all_g k).2.2.2.2

end Go.Proofs.YtnlkjimpefebbaaDoor.XT
