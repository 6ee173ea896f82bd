/-
  No cell of these rows narrows 'for every input' (looked for: loops, veiled, ifaces, maps, wideKeys, modest, calm, conditions, laid).
  DERIVED. THE GIVEN ROWS OF THIS SEAT. 5 by the template 'for every input the law returns true; each argument reads behind the call as it read before'; 0 by the template 'total and deterministic' (their statements: YtnlkjimpefebbaaTotals.lean).
  GIVEN WITH THE SEED: the statements are not yours to turn. If you find one false, say at which input.
  Laid BY PROGRAM, IN A SANDBOX (cutbox-rows.mjs): the forced cells as the released guide's own fill.sh prints them over the translation 9895c10d1df27223… (all of the seat's roots in one cut). By AI agents, Wed Nov 11 2026. No macro, syntax, notation, axiom, sorry.
-/
import Derived.Test.YtnlkjimpefebbaaChecked
import GoSem.Claim
import GoSem.ClaimJoined
import GoSem.ClaimMapViews
import Derived.JoinedTies
import Derived.KernelRfl
namespace Go.Proofs.Ytnlkjimpefebbaa
/- THE CELL 'sum', in the pinned program and in every row, IS THE sha256 OF THE DUMP (.gsa) THAT YtnlkjimpefebbaaProg.lean LOADS. Nothing in Lean hashes anything: it is a label: what it is worth is what the hold of that sum in a sandbox is worth. -/
noncomputable def Try.pinned : Pinned := { name := "ytnlkjimpefebbaa", sum := "9895c10d1df2722370cb71d0ade16bc3c9f0832a0e43418dd56bd82442c30210", checked := Try.checked }
namespace Rows
def none {H : Type} : Left H := { results := [], args := [] }

/-- 'girandolelaw14.QueueRound': WHATEVER THE INPUT: true; the input reads as it did. -/
def queueRoundSpec : ChangeSpec := { name := "queueRound", fn := fun _ => fun
  | [d1, d2] => { results := [.lit (.bool true)], args := [d1, d2] }
  | _ => none }
def queueRoundRow : OpenClaim := { program := "ytnlkjimpefebbaa", sum := "9895c10d1df2722370cb71d0ade16bc3c9f0832a0e43418dd56bd82442c30210", func := "girandole/girandolelaw14.QueueRound", spec := "queueRound", apart := false }
def QueueRoundSaid : Prop := queueRoundRow.holds Try.pinned (OpenSpec.ofChange queueRoundSpec)

/-- ITS FALSE NEIGHBOUR: 'it returns false'. Refute it at one input. -/
def queueRoundWrong : ChangeSpec := { name := "queueRound", fn := fun _ => fun
  | [d1, d2] => { results := [.lit (.bool false)], args := [d1, d2] }
  | _ => none }
def QueueRoundWrongFalsely : Prop := queueRoundRow.holds Try.pinned (OpenSpec.ofChange queueRoundWrong)

/-- 'girandolelaw14.QueuePlays': WHATEVER THE INPUT: true; the input reads as it did. -/
def queuePlaysSpec : ChangeSpec := { name := "queuePlays", fn := fun _ => fun
  | [d1, d2, d3, d4] => { results := [.lit (.bool true)], args := [d1, d2, d3, d4] }
  | _ => none }
def queuePlaysRow : OpenClaim := { program := "ytnlkjimpefebbaa", sum := "9895c10d1df2722370cb71d0ade16bc3c9f0832a0e43418dd56bd82442c30210", func := "girandole/girandolelaw14.QueuePlays", spec := "queuePlays", apart := false }
def QueuePlaysSaid : Prop := queuePlaysRow.holds Try.pinned (OpenSpec.ofChange queuePlaysSpec)

/-- ITS FALSE NEIGHBOUR: 'it returns false'. Refute it at one input. -/
def queuePlaysWrong : ChangeSpec := { name := "queuePlays", fn := fun _ => fun
  | [d1, d2, d3, d4] => { results := [.lit (.bool false)], args := [d1, d2, d3, d4] }
  | _ => none }
def QueuePlaysWrongFalsely : Prop := queuePlaysRow.holds Try.pinned (OpenSpec.ofChange queuePlaysWrong)

/-- 'girandolelaw10.ValueApplies': WHATEVER THE INPUT: true; the input reads as it did. -/
def valueAppliesSpec : ChangeSpec := { name := "valueApplies", fn := fun _ => fun
  | [d1, d2, d3, d4] => { results := [.lit (.bool true)], args := [d1, d2, d3, d4] }
  | _ => none }
def valueAppliesRow : OpenClaim := { program := "ytnlkjimpefebbaa", sum := "9895c10d1df2722370cb71d0ade16bc3c9f0832a0e43418dd56bd82442c30210", func := "girandole/girandolelaw10.ValueApplies", spec := "valueApplies", apart := false }
def ValueAppliesSaid : Prop := valueAppliesRow.holds Try.pinned (OpenSpec.ofChange valueAppliesSpec)

/-- ITS FALSE NEIGHBOUR: 'it returns false'. Refute it at one input. -/
def valueAppliesWrong : ChangeSpec := { name := "valueApplies", fn := fun _ => fun
  | [d1, d2, d3, d4] => { results := [.lit (.bool false)], args := [d1, d2, d3, d4] }
  | _ => none }
def ValueAppliesWrongFalsely : Prop := valueAppliesRow.holds Try.pinned (OpenSpec.ofChange valueAppliesWrong)

/-- 'girandolelaw10.ValueParts': WHATEVER THE INPUT: true; the input reads as it did. -/
def valuePartsSpec : ChangeSpec := { name := "valueParts", fn := fun _ => fun
  | [d1, d2] => { results := [.lit (.bool true)], args := [d1, d2] }
  | _ => none }
def valuePartsRow : OpenClaim := { program := "ytnlkjimpefebbaa", sum := "9895c10d1df2722370cb71d0ade16bc3c9f0832a0e43418dd56bd82442c30210", func := "girandole/girandolelaw10.ValueParts", spec := "valueParts", apart := false }
def ValuePartsSaid : Prop := valuePartsRow.holds Try.pinned (OpenSpec.ofChange valuePartsSpec)

/-- ITS FALSE NEIGHBOUR: 'it returns false'. Refute it at one input. -/
def valuePartsWrong : ChangeSpec := { name := "valueParts", fn := fun _ => fun
  | [d1, d2] => { results := [.lit (.bool false)], args := [d1, d2] }
  | _ => none }
def ValuePartsWrongFalsely : Prop := valuePartsRow.holds Try.pinned (OpenSpec.ofChange valuePartsWrong)

/-- 'girandolelaw10.ValueRules': WHATEVER THE INPUT: true; the input reads as it did. -/
def valueRulesSpec : ChangeSpec := { name := "valueRules", fn := fun _ => fun
  | [d1, d2, d3] => { results := [.lit (.bool true)], args := [d1, d2, d3] }
  | _ => none }
def valueRulesRow : OpenClaim := { program := "ytnlkjimpefebbaa", sum := "9895c10d1df2722370cb71d0ade16bc3c9f0832a0e43418dd56bd82442c30210", func := "girandole/girandolelaw10.ValueRules", spec := "valueRules", unfollowed := true, recurses := true, apart := false }
def ValueRulesSaid : Prop := valueRulesRow.holds Try.pinned (OpenSpec.ofChange valueRulesSpec)

/-- ITS FALSE NEIGHBOUR: 'it returns false'. Refute it at one input. -/
def valueRulesWrong : ChangeSpec := { name := "valueRules", fn := fun _ => fun
  | [d1, d2, d3] => { results := [.lit (.bool false)], args := [d1, d2, d3] }
  | _ => none }
def ValueRulesWrongFalsely : Prop := valueRulesRow.holds Try.pinned (OpenSpec.ofChange valueRulesWrong)

/- THE SECOND FORM. 'bulk': how many values and letters a reading holds, each counted each time it is reached (what is shared counts as often as it is met; a slice's spare places count too). A statement '..UptoSaid' is the law's where the arguments, and the package variables that the reading takes, are together of bulk at most 1048576: NARROWER than '..Said'. Prove '..Said' where nothing that the law and all that it calls make is longer than what came in: it says more and counts as full. Else prove '..UptoSaid'. A law counts once. -/
mutual
def uptoBulk {H : Type} : DataW H → Nat
  | .lit (.string bytes) => bytes.length + 1
  | .lit _ => 1
  | .nil => 1
  | .ptr d => uptoBulk d + 1
  | .slice elems spare => uptoBulkAll elems + uptoBulkAll spare + 1
  | .agg parts => uptoBulkAll parts + 1
  | .iface _ d => uptoBulk d + 1
  | .map entries => uptoBulkEntries entries + 1
  | .held _ => 1
def uptoBulkAll {H : Type} : List (DataW H) → Nat
  | [] => 0
  | d :: r => uptoBulk d + uptoBulkAll r
def uptoBulkEntries {H : Type} : List (Lit × DataW H) → Nat
  | [] => 0
  | x :: r => uptoBulkEntry x + uptoBulkEntries r
def uptoBulkEntry {H : Type} : Lit × DataW H → Nat
  | (.string bytes, d) => bytes.length + uptoBulk d + 1
  | (_, d) => uptoBulk d + 1
 end
def uptoSmall : (H : Type) → List (DataW H) → Bool := fun _ ds => decide (uptoBulkAll ds ≤ 1048576)
def OpenSpec.upto (s : _root_.Go.ChangeSpec) : _root_.Go.OpenSpec := { _root_.Go.OpenSpec.ofChange s with cond := some uptoSmall }

/-- 'girandolelaw14.QueueRound', WHERE WHAT IT READS IS OF BULK AT MOST 1048576: true; the input reads as it did. -/
def queueRoundUptoRow : OpenClaim := { program := "ytnlkjimpefebbaa", sum := "9895c10d1df2722370cb71d0ade16bc3c9f0832a0e43418dd56bd82442c30210", func := "girandole/girandolelaw14.QueueRound", spec := "queueRound", apart := false, narrowed := true }
def QueueRoundUptoSaid : Prop := queueRoundUptoRow.holds Try.pinned (OpenSpec.upto queueRoundSpec)

/-- 'girandolelaw14.QueuePlays', WHERE WHAT IT READS IS OF BULK AT MOST 1048576: true; the input reads as it did. -/
def queuePlaysUptoRow : OpenClaim := { program := "ytnlkjimpefebbaa", sum := "9895c10d1df2722370cb71d0ade16bc3c9f0832a0e43418dd56bd82442c30210", func := "girandole/girandolelaw14.QueuePlays", spec := "queuePlays", apart := false, narrowed := true }
def QueuePlaysUptoSaid : Prop := queuePlaysUptoRow.holds Try.pinned (OpenSpec.upto queuePlaysSpec)

/-- 'girandolelaw10.ValueApplies', WHERE WHAT IT READS IS OF BULK AT MOST 1048576: true; the input reads as it did. -/
def valueAppliesUptoRow : OpenClaim := { program := "ytnlkjimpefebbaa", sum := "9895c10d1df2722370cb71d0ade16bc3c9f0832a0e43418dd56bd82442c30210", func := "girandole/girandolelaw10.ValueApplies", spec := "valueApplies", apart := false, narrowed := true }
def ValueAppliesUptoSaid : Prop := valueAppliesUptoRow.holds Try.pinned (OpenSpec.upto valueAppliesSpec)

/-- 'girandolelaw10.ValueParts', WHERE WHAT IT READS IS OF BULK AT MOST 1048576: true; the input reads as it did. -/
def valuePartsUptoRow : OpenClaim := { program := "ytnlkjimpefebbaa", sum := "9895c10d1df2722370cb71d0ade16bc3c9f0832a0e43418dd56bd82442c30210", func := "girandole/girandolelaw10.ValueParts", spec := "valueParts", apart := false, narrowed := true }
def ValuePartsUptoSaid : Prop := valuePartsUptoRow.holds Try.pinned (OpenSpec.upto valuePartsSpec)

/-- 'girandolelaw10.ValueRules', WHERE WHAT IT READS IS OF BULK AT MOST 1048576: true; the input reads as it did. -/
def valueRulesUptoRow : OpenClaim := { program := "ytnlkjimpefebbaa", sum := "9895c10d1df2722370cb71d0ade16bc3c9f0832a0e43418dd56bd82442c30210", func := "girandole/girandolelaw10.ValueRules", spec := "valueRules", unfollowed := true, recurses := true, apart := false, narrowed := true }
def ValueRulesUptoSaid : Prop := valueRulesUptoRow.holds Try.pinned (OpenSpec.upto valueRulesSpec)

end Rows
end Go.Proofs.Ytnlkjimpefebbaa
