/-
  DERIVED. GIVEN WITH THE SEED: THE CARDS: each row of YtjafllnbgfcchaaGreatDoorRows.lean that lists a variable, with what it lists TIED to the program's text (the seventh form; the later family's looks); each row that meets fmt, with fmt's text TOLD by the authors' own Lean function (tested against real Go, not proved from fmt's source: count such statements apart). THE CARD IS WHAT COUNTS. Prove the row's statement (the work); the ties are given (YtjafllnbgfcchaaGreatDoorTie.lean); close each card by the builder's one call (the guide's Derived/Test/ToyasCard.lean, 'card_holds'). Laid BY PROGRAM, IN A SANDBOX (cutbox-door.mjs). By AI agents, Wed Nov 11 2026. No macro, syntax, notation, axiom, sorry.
-/
import Derived.Test.YtjafllnbgfcchaaGreatDoorRows
import GoSem.ClaimSeven
namespace Go.Proofs.YtjafllnbgfcchaaGreatDoor
namespace Rows

/-- THE TIED CARD OF 'girandolelaw03.ParseBlanks'. -/
def parseBlanksCard : Claim7 := { stood := { row := parseBlanksRow, standIns := [], harness := (true, "c9a8525df0b089c289d782ccac0aede75cac67755bb3e706b493c1e9fbf7e1e9"), looks := true }, kinds := [], alts := [], laidByText := true, laidKinds := [.data, .data, .data, .listed, .data], laidTests := true, laidLooks := .later }
def ParseBlanksCardSaid : Prop := Claim7.holds Tryz.pinned (.plain (OpenSpec.ofChange parseBlanksSpec)) parseBlanksCard

/-- THE TIED CARD OF 'girandolelaw04.NamesTexts'. -/
def namesTextsCard : Claim7 := { stood := { row := namesTextsRow, standIns := [], harness := (true, "c9a8525df0b089c289d782ccac0aede75cac67755bb3e706b493c1e9fbf7e1e9"), looks := true }, kinds := [], alts := [], laidByText := true, laidKinds := [.data, .data, .data, .listed, .data], laidTests := true, laidLooks := .later }
def NamesTextsCardSaid : Prop := Claim7.holds Tryz.pinned (.plain (OpenSpec.ofChange namesTextsSpec)) namesTextsCard

/-- THE TIED CARD OF 'girandolelaw07.InitsCheck'. -/
def initsCheckCard : Claim7 := { stood := { row := initsCheckRow, standIns := [], harness := (true, "c9a8525df0b089c289d782ccac0aede75cac67755bb3e706b493c1e9fbf7e1e9"), looks := true }, kinds := [], alts := [], laidByText := true, laidKinds := [.listed, .data], laidTests := true, laidLooks := .later }
def InitsCheckCardSaid : Prop := Claim7.holds Tryz.pinned (.plain (OpenSpec.ofChange initsCheckSpec)) initsCheckCard

/-- THE TIED CARD OF 'girandolelaw07.InitsLate'. -/
def initsLateCard : Claim7 := { stood := { row := initsLateRow, standIns := [], harness := (true, "c9a8525df0b089c289d782ccac0aede75cac67755bb3e706b493c1e9fbf7e1e9"), looks := true }, kinds := [], alts := [], laidByText := true, laidKinds := [.listed, .data], laidTests := true, laidLooks := .later }
def InitsLateCardSaid : Prop := Claim7.holds Tryz.pinned (.plain (OpenSpec.ofChange initsLateSpec)) initsLateCard

/-- THE TIED CARD OF 'girandolelaw04.NamesChecks'. -/
def namesChecksCard : Claim7 := { stood := { row := namesChecksRow, standIns := [], harness := (true, "c9a8525df0b089c289d782ccac0aede75cac67755bb3e706b493c1e9fbf7e1e9"), looks := true }, kinds := [], alts := [], laidByText := true, laidKinds := [.listed, .data], laidTests := true, laidLooks := .later }
def NamesChecksCardSaid : Prop := Claim7.holds Tryz.pinned (.plain (OpenSpec.ofChange namesChecksSpec)) namesChecksCard

/-- THE TIED CARD OF 'girandolelaw04.NamesCalls'. -/
def namesCallsCard : Claim7 := { stood := { row := namesCallsRow, standIns := [], harness := (true, "c9a8525df0b089c289d782ccac0aede75cac67755bb3e706b493c1e9fbf7e1e9"), looks := true }, kinds := [], alts := [], laidByText := true, laidKinds := [.listed, .data], laidTests := true, laidLooks := .later }
def NamesCallsCardSaid : Prop := Claim7.holds Tryz.pinned (.plain (OpenSpec.ofChange namesCallsSpec)) namesCallsCard

/-- THE TIED CARD OF 'girandolelaw04.NamesRight'. -/
def namesRightCard : Claim7 := { stood := { row := namesRightRow, standIns := [], harness := (true, "c9a8525df0b089c289d782ccac0aede75cac67755bb3e706b493c1e9fbf7e1e9"), looks := true }, kinds := [], alts := [], laidByText := true, laidKinds := [.listed, .data], laidTests := true, laidLooks := .later }
def NamesRightCardSaid : Prop := Claim7.holds Tryz.pinned (.plain (OpenSpec.ofChange namesRightSpec)) namesRightCard

/-- THE TIED CARD OF 'girandolelaw05.TypesOf'. -/
def typesOfCard : Claim7 := { stood := { row := typesOfRow, standIns := [], harness := (true, "c9a8525df0b089c289d782ccac0aede75cac67755bb3e706b493c1e9fbf7e1e9"), looks := true }, kinds := [], alts := [], laidByText := true, laidKinds := [.listed, .data], laidTests := true, laidLooks := .later }
def TypesOfCardSaid : Prop := Claim7.holds Tryz.pinned (.plain (OpenSpec.ofChange typesOfSpec)) typesOfCard

/-- THE TIED CARD OF 'girandolelaw03.ParsePrints'. -/
def parsePrintsCard : Claim7 := { stood := { row := parsePrintsRow, standIns := [], harness := (true, "c9a8525df0b089c289d782ccac0aede75cac67755bb3e706b493c1e9fbf7e1e9"), looks := true }, kinds := [], alts := [], laidByText := true, laidKinds := [.data, .data, .data, .listed, .data], laidTests := true, laidLooks := .later }
def ParsePrintsCardSaid : Prop := Claim7.holds Tryz.pinned (.plain (OpenSpec.ofChange parsePrintsSpec)) parsePrintsCard

/-- THE SECOND FORM's CARD OF 'girandolelaw03.ParseBlanks'. -/
def parseBlanksUptoCard : Claim7 := { stood := { row := parseBlanksUptoRow, standIns := [], harness := (true, "c9a8525df0b089c289d782ccac0aede75cac67755bb3e706b493c1e9fbf7e1e9"), looks := true }, kinds := [], alts := [], laidByText := true, laidKinds := [.data, .data, .data, .listed, .data], laidTests := true, laidLooks := .later }
def ParseBlanksUptoCardSaid : Prop := Claim7.holds Tryz.pinned (.plain (OpenSpec.upto parseBlanksSpec)) parseBlanksUptoCard

/-- THE SECOND FORM's CARD OF 'girandolelaw04.NamesTexts'. -/
def namesTextsUptoCard : Claim7 := { stood := { row := namesTextsUptoRow, standIns := [], harness := (true, "c9a8525df0b089c289d782ccac0aede75cac67755bb3e706b493c1e9fbf7e1e9"), looks := true }, kinds := [], alts := [], laidByText := true, laidKinds := [.data, .data, .data, .listed, .data], laidTests := true, laidLooks := .later }
def NamesTextsUptoCardSaid : Prop := Claim7.holds Tryz.pinned (.plain (OpenSpec.upto namesTextsSpec)) namesTextsUptoCard

/-- THE SECOND FORM's CARD OF 'girandolelaw07.InitsCheck'. -/
def initsCheckUptoCard : Claim7 := { stood := { row := initsCheckUptoRow, standIns := [], harness := (true, "c9a8525df0b089c289d782ccac0aede75cac67755bb3e706b493c1e9fbf7e1e9"), looks := true }, kinds := [], alts := [], laidByText := true, laidKinds := [.listed, .data], laidTests := true, laidLooks := .later }
def InitsCheckUptoCardSaid : Prop := Claim7.holds Tryz.pinned (.plain (OpenSpec.upto initsCheckSpec)) initsCheckUptoCard

/-- THE SECOND FORM's CARD OF 'girandolelaw07.InitsLate'. -/
def initsLateUptoCard : Claim7 := { stood := { row := initsLateUptoRow, standIns := [], harness := (true, "c9a8525df0b089c289d782ccac0aede75cac67755bb3e706b493c1e9fbf7e1e9"), looks := true }, kinds := [], alts := [], laidByText := true, laidKinds := [.listed, .data], laidTests := true, laidLooks := .later }
def InitsLateUptoCardSaid : Prop := Claim7.holds Tryz.pinned (.plain (OpenSpec.upto initsLateSpec)) initsLateUptoCard

/-- THE SECOND FORM's CARD OF 'girandolelaw04.NamesChecks'. -/
def namesChecksUptoCard : Claim7 := { stood := { row := namesChecksUptoRow, standIns := [], harness := (true, "c9a8525df0b089c289d782ccac0aede75cac67755bb3e706b493c1e9fbf7e1e9"), looks := true }, kinds := [], alts := [], laidByText := true, laidKinds := [.listed, .data], laidTests := true, laidLooks := .later }
def NamesChecksUptoCardSaid : Prop := Claim7.holds Tryz.pinned (.plain (OpenSpec.upto namesChecksSpec)) namesChecksUptoCard

/-- THE SECOND FORM's CARD OF 'girandolelaw04.NamesCalls'. -/
def namesCallsUptoCard : Claim7 := { stood := { row := namesCallsUptoRow, standIns := [], harness := (true, "c9a8525df0b089c289d782ccac0aede75cac67755bb3e706b493c1e9fbf7e1e9"), looks := true }, kinds := [], alts := [], laidByText := true, laidKinds := [.listed, .data], laidTests := true, laidLooks := .later }
def NamesCallsUptoCardSaid : Prop := Claim7.holds Tryz.pinned (.plain (OpenSpec.upto namesCallsSpec)) namesCallsUptoCard

/-- THE SECOND FORM's CARD OF 'girandolelaw04.NamesRight'. -/
def namesRightUptoCard : Claim7 := { stood := { row := namesRightUptoRow, standIns := [], harness := (true, "c9a8525df0b089c289d782ccac0aede75cac67755bb3e706b493c1e9fbf7e1e9"), looks := true }, kinds := [], alts := [], laidByText := true, laidKinds := [.listed, .data], laidTests := true, laidLooks := .later }
def NamesRightUptoCardSaid : Prop := Claim7.holds Tryz.pinned (.plain (OpenSpec.upto namesRightSpec)) namesRightUptoCard

/-- THE SECOND FORM's CARD OF 'girandolelaw05.TypesOf'. -/
def typesOfUptoCard : Claim7 := { stood := { row := typesOfUptoRow, standIns := [], harness := (true, "c9a8525df0b089c289d782ccac0aede75cac67755bb3e706b493c1e9fbf7e1e9"), looks := true }, kinds := [], alts := [], laidByText := true, laidKinds := [.listed, .data], laidTests := true, laidLooks := .later }
def TypesOfUptoCardSaid : Prop := Claim7.holds Tryz.pinned (.plain (OpenSpec.upto typesOfSpec)) typesOfUptoCard

/-- THE SECOND FORM's CARD OF 'girandolelaw03.ParsePrints'. -/
def parsePrintsUptoCard : Claim7 := { stood := { row := parsePrintsUptoRow, standIns := [], harness := (true, "c9a8525df0b089c289d782ccac0aede75cac67755bb3e706b493c1e9fbf7e1e9"), looks := true }, kinds := [], alts := [], laidByText := true, laidKinds := [.data, .data, .data, .listed, .data], laidTests := true, laidLooks := .later }
def ParsePrintsUptoCardSaid : Prop := Claim7.holds Tryz.pinned (.plain (OpenSpec.upto parsePrintsSpec)) parsePrintsUptoCard
end Rows
end Go.Proofs.YtjafllnbgfcchaaGreatDoor
