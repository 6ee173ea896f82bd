/-
  DERIVED. GIVEN WITH THE SEED: THE CARDS: each row of YtnlkjimpefebbaaDoorRows.lean that lists a variable, with what it lists TIED to the program's text (the seventh form; the later family's looks); each row that meets fmt, with fmt's text TOLD by the authors' own Lean function (tested against real Go, not proved from fmt's source: count such statements apart). THE CARD IS WHAT COUNTS. Prove the row's statement (the work); the ties are given (YtnlkjimpefebbaaDoorTie.lean); close each card by the builder's one call (the guide's Derived/Test/ToyasCard.lean, 'card_holds'). Laid BY PROGRAM, IN A SANDBOX (cutbox-door.mjs). By AI agents, Wed Nov 11 2026. No macro, syntax, notation, axiom, sorry.
-/
import Derived.Test.YtnlkjimpefebbaaDoorRows
import GoSem.ClaimSeven
namespace Go.Proofs.YtnlkjimpefebbaaDoor
namespace Rows

/-- THE TIED CARD OF 'girandolelaw01.LexReads'. -/
def lexReadsCard : Claim7 := { stood := { row := lexReadsRow, standIns := [], harness := (true, "3996171ccd692d1c9549b016f71ecc2eeb97717e7a15c6d5e417abdc4fcb2dd4"), looks := true }, kinds := [], alts := [], laidByText := true, laidKinds := [.listed, .data], laidTests := true, laidLooks := .later }
def LexReadsCardSaid : Prop := Claim7.holds Tryd.pinned (.plain (OpenSpec.ofChange lexReadsSpec)) lexReadsCard

/-- THE TIED CARD OF 'girandolelaw01.LexJoins'. -/
def lexJoinsCard : Claim7 := { stood := { row := lexJoinsRow, standIns := [], harness := (true, "3996171ccd692d1c9549b016f71ecc2eeb97717e7a15c6d5e417abdc4fcb2dd4"), looks := true }, kinds := [], alts := [], laidByText := true, laidKinds := [.listed, .data], laidTests := true, laidLooks := .later }
def LexJoinsCardSaid : Prop := Claim7.holds Tryd.pinned (.plain (OpenSpec.ofChange lexJoinsSpec)) lexJoinsCard

/-- THE TIED CARD OF 'girandolelaw01.LexLists'. -/
def lexListsCard : Claim7 := { stood := { row := lexListsRow, standIns := [], harness := (true, "3996171ccd692d1c9549b016f71ecc2eeb97717e7a15c6d5e417abdc4fcb2dd4"), looks := true }, kinds := [], alts := [], laidByText := true, laidKinds := [.listed, .data], laidTests := true, laidLooks := .later }
def LexListsCardSaid : Prop := Claim7.holds Tryd.pinned (.plain (OpenSpec.ofChange lexListsSpec)) lexListsCard

/-- THE TIED CARD OF 'girandolelaw01.LexStands'. -/
def lexStandsCard : Claim7 := { stood := { row := lexStandsRow, standIns := [], harness := (true, "3996171ccd692d1c9549b016f71ecc2eeb97717e7a15c6d5e417abdc4fcb2dd4"), looks := true }, kinds := [], alts := [], laidByText := true, laidKinds := [.listed, .data], laidTests := true, laidLooks := .later }
def LexStandsCardSaid : Prop := Claim7.holds Tryd.pinned (.plain (OpenSpec.ofChange lexStandsSpec)) lexStandsCard

/-- THE TIED CARD OF 'girandolelaw02.TreeEach'. -/
def treeEachCard : Claim7 := { stood := { row := treeEachRow, standIns := [], harness := (true, "3996171ccd692d1c9549b016f71ecc2eeb97717e7a15c6d5e417abdc4fcb2dd4"), looks := true }, kinds := [], alts := [], laidByText := true, laidKinds := [.data, .data, .data], laidTests := true, laidLooks := .later }
def TreeEachCardSaid : Prop := Claim7.holds Tryd.pinned (.plain (OpenSpec.ofChange treeEachSpec)) treeEachCard

/-- THE TIED CARD OF 'girandolelaw02.TreeTypes'. -/
def treeTypesCard : Claim7 := { stood := { row := treeTypesRow, standIns := [], harness := (true, "3996171ccd692d1c9549b016f71ecc2eeb97717e7a15c6d5e417abdc4fcb2dd4"), looks := true }, kinds := [], alts := [], laidByText := true, laidKinds := [.data, .data, .data], laidTests := true, laidLooks := .later }
def TreeTypesCardSaid : Prop := Claim7.holds Tryd.pinned (.plain (OpenSpec.ofChange treeTypesSpec)) treeTypesCard

/-- THE TIED CARD OF 'girandolelaw02.TreeTexts'. -/
def treeTextsCard : Claim7 := { stood := { row := treeTextsRow, standIns := [], harness := (true, "3996171ccd692d1c9549b016f71ecc2eeb97717e7a15c6d5e417abdc4fcb2dd4"), looks := true }, kinds := [], alts := [], laidByText := true, laidKinds := [.data, .data, .data], laidTests := true, laidLooks := .later }
def TreeTextsCardSaid : Prop := Claim7.holds Tryd.pinned (.plain (OpenSpec.ofChange treeTextsSpec)) treeTextsCard

/-- THE TIED CARD OF 'girandolelaw02.TreePrints'. -/
def treePrintsCard : Claim7 := { stood := { row := treePrintsRow, standIns := [], harness := (true, "3996171ccd692d1c9549b016f71ecc2eeb97717e7a15c6d5e417abdc4fcb2dd4"), looks := true }, kinds := [], alts := [], laidByText := true, laidKinds := [.data, .data, .data], laidTests := true, laidLooks := .later }
def TreePrintsCardSaid : Prop := Claim7.holds Tryd.pinned (.plain (OpenSpec.ofChange treePrintsSpec)) treePrintsCard

/-- THE TIED CARD OF 'girandolelaw20.FeedReads'. -/
def feedReadsCard : Claim7 := { stood := { row := feedReadsRow, standIns := [], harness := (true, "3996171ccd692d1c9549b016f71ecc2eeb97717e7a15c6d5e417abdc4fcb2dd4"), looks := true }, kinds := [], alts := [], laidByText := true, laidKinds := [.data, .data, .data, .data, .sentinel, .sentinel, .pinned], laidTests := true, laidLooks := .later }
def FeedReadsCardSaid : Prop := Claim7.holds Tryd.pinned (.plain (OpenSpec.ofChange feedReadsSpec)) feedReadsCard

/-- THE TIED CARD OF 'girandolelaw20.FeedPorts'. -/
def feedPortsCard : Claim7 := { stood := { row := feedPortsRow, standIns := [], harness := (true, "3996171ccd692d1c9549b016f71ecc2eeb97717e7a15c6d5e417abdc4fcb2dd4"), looks := true }, kinds := [], alts := [], laidByText := true, laidKinds := [.data, .data, .data, .data, .sentinel, .sentinel, .pinned], laidTests := true, laidLooks := .later }
def FeedPortsCardSaid : Prop := Claim7.holds Tryd.pinned (.plain (OpenSpec.ofChange feedPortsSpec)) feedPortsCard

/-- THE TIED CARD OF 'girandolelaw20.FeedBack'. -/
def feedBackCard : Claim7 := { stood := { row := feedBackRow, standIns := [], harness := (true, "3996171ccd692d1c9549b016f71ecc2eeb97717e7a15c6d5e417abdc4fcb2dd4"), looks := true }, kinds := [], alts := [], laidByText := true, laidKinds := [.data, .data, .data, .data, .sentinel, .sentinel, .pinned], laidTests := true, laidLooks := .later }
def FeedBackCardSaid : Prop := Claim7.holds Tryd.pinned (.plain (OpenSpec.ofChange feedBackSpec)) feedBackCard

/-- THE TIED CARD OF 'girandolelaw20.FeedMany'. -/
def feedManyCard : Claim7 := { stood := { row := feedManyRow, standIns := [], harness := (true, "3996171ccd692d1c9549b016f71ecc2eeb97717e7a15c6d5e417abdc4fcb2dd4"), looks := true }, kinds := [], alts := [], laidByText := true, laidKinds := [.data, .data, .data, .data, .sentinel, .sentinel, .pinned], laidTests := true, laidLooks := .later }
def FeedManyCardSaid : Prop := Claim7.holds Tryd.pinned (.plain (OpenSpec.ofChange feedManySpec)) feedManyCard

/-- THE SECOND FORM's CARD OF 'girandolelaw01.LexReads'. -/
def lexReadsUptoCard : Claim7 := { stood := { row := lexReadsUptoRow, standIns := [], harness := (true, "3996171ccd692d1c9549b016f71ecc2eeb97717e7a15c6d5e417abdc4fcb2dd4"), looks := true }, kinds := [], alts := [], laidByText := true, laidKinds := [.listed, .data], laidTests := true, laidLooks := .later }
def LexReadsUptoCardSaid : Prop := Claim7.holds Tryd.pinned (.plain (OpenSpec.upto lexReadsSpec)) lexReadsUptoCard

/-- THE SECOND FORM's CARD OF 'girandolelaw01.LexJoins'. -/
def lexJoinsUptoCard : Claim7 := { stood := { row := lexJoinsUptoRow, standIns := [], harness := (true, "3996171ccd692d1c9549b016f71ecc2eeb97717e7a15c6d5e417abdc4fcb2dd4"), looks := true }, kinds := [], alts := [], laidByText := true, laidKinds := [.listed, .data], laidTests := true, laidLooks := .later }
def LexJoinsUptoCardSaid : Prop := Claim7.holds Tryd.pinned (.plain (OpenSpec.upto lexJoinsSpec)) lexJoinsUptoCard

/-- THE SECOND FORM's CARD OF 'girandolelaw01.LexLists'. -/
def lexListsUptoCard : Claim7 := { stood := { row := lexListsUptoRow, standIns := [], harness := (true, "3996171ccd692d1c9549b016f71ecc2eeb97717e7a15c6d5e417abdc4fcb2dd4"), looks := true }, kinds := [], alts := [], laidByText := true, laidKinds := [.listed, .data], laidTests := true, laidLooks := .later }
def LexListsUptoCardSaid : Prop := Claim7.holds Tryd.pinned (.plain (OpenSpec.upto lexListsSpec)) lexListsUptoCard

/-- THE SECOND FORM's CARD OF 'girandolelaw01.LexStands'. -/
def lexStandsUptoCard : Claim7 := { stood := { row := lexStandsUptoRow, standIns := [], harness := (true, "3996171ccd692d1c9549b016f71ecc2eeb97717e7a15c6d5e417abdc4fcb2dd4"), looks := true }, kinds := [], alts := [], laidByText := true, laidKinds := [.listed, .data], laidTests := true, laidLooks := .later }
def LexStandsUptoCardSaid : Prop := Claim7.holds Tryd.pinned (.plain (OpenSpec.upto lexStandsSpec)) lexStandsUptoCard

/-- THE SECOND FORM's CARD OF 'girandolelaw02.TreeEach'. -/
def treeEachUptoCard : Claim7 := { stood := { row := treeEachUptoRow, standIns := [], harness := (true, "3996171ccd692d1c9549b016f71ecc2eeb97717e7a15c6d5e417abdc4fcb2dd4"), looks := true }, kinds := [], alts := [], laidByText := true, laidKinds := [.data, .data, .data], laidTests := true, laidLooks := .later }
def TreeEachUptoCardSaid : Prop := Claim7.holds Tryd.pinned (.plain (OpenSpec.upto treeEachSpec)) treeEachUptoCard

/-- THE SECOND FORM's CARD OF 'girandolelaw02.TreeTypes'. -/
def treeTypesUptoCard : Claim7 := { stood := { row := treeTypesUptoRow, standIns := [], harness := (true, "3996171ccd692d1c9549b016f71ecc2eeb97717e7a15c6d5e417abdc4fcb2dd4"), looks := true }, kinds := [], alts := [], laidByText := true, laidKinds := [.data, .data, .data], laidTests := true, laidLooks := .later }
def TreeTypesUptoCardSaid : Prop := Claim7.holds Tryd.pinned (.plain (OpenSpec.upto treeTypesSpec)) treeTypesUptoCard

/-- THE SECOND FORM's CARD OF 'girandolelaw02.TreeTexts'. -/
def treeTextsUptoCard : Claim7 := { stood := { row := treeTextsUptoRow, standIns := [], harness := (true, "3996171ccd692d1c9549b016f71ecc2eeb97717e7a15c6d5e417abdc4fcb2dd4"), looks := true }, kinds := [], alts := [], laidByText := true, laidKinds := [.data, .data, .data], laidTests := true, laidLooks := .later }
def TreeTextsUptoCardSaid : Prop := Claim7.holds Tryd.pinned (.plain (OpenSpec.upto treeTextsSpec)) treeTextsUptoCard

/-- THE SECOND FORM's CARD OF 'girandolelaw02.TreePrints'. -/
def treePrintsUptoCard : Claim7 := { stood := { row := treePrintsUptoRow, standIns := [], harness := (true, "3996171ccd692d1c9549b016f71ecc2eeb97717e7a15c6d5e417abdc4fcb2dd4"), looks := true }, kinds := [], alts := [], laidByText := true, laidKinds := [.data, .data, .data], laidTests := true, laidLooks := .later }
def TreePrintsUptoCardSaid : Prop := Claim7.holds Tryd.pinned (.plain (OpenSpec.upto treePrintsSpec)) treePrintsUptoCard

/-- THE SECOND FORM's CARD OF 'girandolelaw20.FeedReads'. -/
def feedReadsUptoCard : Claim7 := { stood := { row := feedReadsUptoRow, standIns := [], harness := (true, "3996171ccd692d1c9549b016f71ecc2eeb97717e7a15c6d5e417abdc4fcb2dd4"), looks := true }, kinds := [], alts := [], laidByText := true, laidKinds := [.data, .data, .data, .data, .sentinel, .sentinel, .pinned], laidTests := true, laidLooks := .later }
def FeedReadsUptoCardSaid : Prop := Claim7.holds Tryd.pinned (.plain (OpenSpec.upto feedReadsSpec)) feedReadsUptoCard

/-- THE SECOND FORM's CARD OF 'girandolelaw20.FeedPorts'. -/
def feedPortsUptoCard : Claim7 := { stood := { row := feedPortsUptoRow, standIns := [], harness := (true, "3996171ccd692d1c9549b016f71ecc2eeb97717e7a15c6d5e417abdc4fcb2dd4"), looks := true }, kinds := [], alts := [], laidByText := true, laidKinds := [.data, .data, .data, .data, .sentinel, .sentinel, .pinned], laidTests := true, laidLooks := .later }
def FeedPortsUptoCardSaid : Prop := Claim7.holds Tryd.pinned (.plain (OpenSpec.upto feedPortsSpec)) feedPortsUptoCard

/-- THE SECOND FORM's CARD OF 'girandolelaw20.FeedBack'. -/
def feedBackUptoCard : Claim7 := { stood := { row := feedBackUptoRow, standIns := [], harness := (true, "3996171ccd692d1c9549b016f71ecc2eeb97717e7a15c6d5e417abdc4fcb2dd4"), looks := true }, kinds := [], alts := [], laidByText := true, laidKinds := [.data, .data, .data, .data, .sentinel, .sentinel, .pinned], laidTests := true, laidLooks := .later }
def FeedBackUptoCardSaid : Prop := Claim7.holds Tryd.pinned (.plain (OpenSpec.upto feedBackSpec)) feedBackUptoCard

/-- THE SECOND FORM's CARD OF 'girandolelaw20.FeedMany'. -/
def feedManyUptoCard : Claim7 := { stood := { row := feedManyUptoRow, standIns := [], harness := (true, "3996171ccd692d1c9549b016f71ecc2eeb97717e7a15c6d5e417abdc4fcb2dd4"), looks := true }, kinds := [], alts := [], laidByText := true, laidKinds := [.data, .data, .data, .data, .sentinel, .sentinel, .pinned], laidTests := true, laidLooks := .later }
def FeedManyUptoCardSaid : Prop := Claim7.holds Tryd.pinned (.plain (OpenSpec.upto feedManySpec)) feedManyUptoCard
end Rows
end Go.Proofs.YtnlkjimpefebbaaDoor
