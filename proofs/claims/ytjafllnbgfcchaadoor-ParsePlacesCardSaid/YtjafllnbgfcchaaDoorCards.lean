/-
  DERIVED. GIVEN WITH THE SEED: THE CARDS: each row of YtjafllnbgfcchaaDoorRows.lean that lists a variable, with what it lists TIED to the program's text (the seventh form; the later family's looks); each row that meets fmt, with fmt's text TOLD by the authors' own Lean function (tested against real Go, not proved from fmt's source: count such statements apart). THE CARD IS WHAT COUNTS. Prove the row's statement (the work); the ties are given (YtjafllnbgfcchaaDoorTie.lean); close each card by the builder's one call (the guide's Derived/Test/ToyasCard.lean, 'card_holds'). Laid BY PROGRAM, IN A SANDBOX (cutbox-door.mjs). By AI agents, Wed Nov 11 2026. No macro, syntax, notation, axiom, sorry.
-/
import Derived.Test.YtjafllnbgfcchaaDoorRows
import GoSem.ClaimSeven
namespace Go.Proofs.YtjafllnbgfcchaaDoor
namespace Rows

/-- THE TIED CARD OF 'girandolelaw03.ParsePlaces'. -/
def parsePlacesCard : Claim7 := { stood := { row := parsePlacesRow, standIns := [], harness := (true, "0d1c5dba7c4b283a3e7e9bc5936df8519e7ac7391f738cc53a0ba324e34d2167"), looks := true }, kinds := [], alts := [], laidByText := true, laidKinds := [.listed, .data], laidTests := true, laidLooks := .later }
def ParsePlacesCardSaid : Prop := Claim7.holds Tryd.pinned (.plain (OpenSpec.ofChange parsePlacesSpec)) parsePlacesCard

/-- THE TIED CARD OF 'girandolelaw03.ParseDeep'. -/
def parseDeepCard : Claim7 := { stood := { row := parseDeepRow, standIns := [], harness := (true, "0d1c5dba7c4b283a3e7e9bc5936df8519e7ac7391f738cc53a0ba324e34d2167"), looks := true }, kinds := [], alts := [], laidByText := true, laidKinds := [.listed, .data], laidTests := true, laidLooks := .later }
def ParseDeepCardSaid : Prop := Claim7.holds Tryd.pinned (.plain (OpenSpec.ofChange parseDeepSpec)) parseDeepCard

/-- THE TIED CARD OF 'girandolelaw07.InitsArrows'. -/
def initsArrowsCard : Claim7 := { stood := { row := initsArrowsRow, standIns := [], harness := (true, "0d1c5dba7c4b283a3e7e9bc5936df8519e7ac7391f738cc53a0ba324e34d2167"), looks := true }, kinds := [], alts := [], laidByText := true, laidKinds := [.listed, .data], laidTests := true, laidLooks := .later }
def InitsArrowsCardSaid : Prop := Claim7.holds Tryd.pinned (.plain (OpenSpec.ofChange initsArrowsSpec)) initsArrowsCard

/-- THE TIED CARD OF 'girandolelaw07.InitsCalls'. -/
def initsCallsCard : Claim7 := { stood := { row := initsCallsRow, standIns := [], harness := (true, "0d1c5dba7c4b283a3e7e9bc5936df8519e7ac7391f738cc53a0ba324e34d2167"), looks := true }, kinds := [], alts := [], laidByText := true, laidKinds := [.listed, .data], laidTests := true, laidLooks := .later }
def InitsCallsCardSaid : Prop := Claim7.holds Tryd.pinned (.plain (OpenSpec.ofChange initsCallsSpec)) initsCallsCard

/-- THE TIED CARD OF 'girandolelaw06.ClocksOn'. -/
def clocksOnCard : Claim7 := { stood := { row := clocksOnRow, standIns := [], harness := (true, "0d1c5dba7c4b283a3e7e9bc5936df8519e7ac7391f738cc53a0ba324e34d2167"), looks := true }, kinds := [], alts := [], laidByText := true, laidKinds := [.listed, .data], laidTests := true, laidLooks := .later }
def ClocksOnCardSaid : Prop := Claim7.holds Tryd.pinned (.plain (OpenSpec.ofChange clocksOnSpec)) clocksOnCard

/-- THE TIED CARD OF 'girandolelaw06.ClocksDeep'. -/
def clocksDeepCard : Claim7 := { stood := { row := clocksDeepRow, standIns := [], harness := (true, "0d1c5dba7c4b283a3e7e9bc5936df8519e7ac7391f738cc53a0ba324e34d2167"), looks := true }, kinds := [], alts := [], laidByText := true, laidKinds := [.listed, .data], laidTests := true, laidLooks := .later }
def ClocksDeepCardSaid : Prop := Claim7.holds Tryd.pinned (.plain (OpenSpec.ofChange clocksDeepSpec)) clocksDeepCard

/-- THE TIED CARD OF 'girandolelaw05.TypesCalls'. -/
def typesCallsCard : Claim7 := { stood := { row := typesCallsRow, standIns := [], harness := (true, "0d1c5dba7c4b283a3e7e9bc5936df8519e7ac7391f738cc53a0ba324e34d2167"), looks := true }, kinds := [], alts := [], laidByText := true, laidKinds := [.listed, .data], laidTests := true, laidLooks := .later }
def TypesCallsCardSaid : Prop := Claim7.holds Tryd.pinned (.plain (OpenSpec.ofChange typesCallsSpec)) typesCallsCard

/-- THE TIED CARD OF 'girandolelaw05.TypesRight'. -/
def typesRightCard : Claim7 := { stood := { row := typesRightRow, standIns := [], harness := (true, "0d1c5dba7c4b283a3e7e9bc5936df8519e7ac7391f738cc53a0ba324e34d2167"), looks := true }, kinds := [], alts := [], laidByText := true, laidKinds := [.listed, .data], laidTests := true, laidLooks := .later }
def TypesRightCardSaid : Prop := Claim7.holds Tryd.pinned (.plain (OpenSpec.ofChange typesRightSpec)) typesRightCard

/-- THE TIED CARD OF 'girandolelaw05.TypesAwaits'. -/
def typesAwaitsCard : Claim7 := { stood := { row := typesAwaitsRow, standIns := [], harness := (true, "0d1c5dba7c4b283a3e7e9bc5936df8519e7ac7391f738cc53a0ba324e34d2167"), looks := true }, kinds := [], alts := [], laidByText := true, laidKinds := [.listed, .data], laidTests := true, laidLooks := .later }
def TypesAwaitsCardSaid : Prop := Claim7.holds Tryd.pinned (.plain (OpenSpec.ofChange typesAwaitsSpec)) typesAwaitsCard

/-- THE TIED CARD OF 'girandolelaw03.ParseBack'. -/
def parseBackCard : Claim7 := { stood := { row := parseBackRow, standIns := [], harness := (true, "0d1c5dba7c4b283a3e7e9bc5936df8519e7ac7391f738cc53a0ba324e34d2167"), looks := true }, kinds := [], alts := [], laidByText := true, laidKinds := [.data, .data, .data, .listed, .data], laidTests := true, laidLooks := .later }
def ParseBackCardSaid : Prop := Claim7.holds Tryd.pinned (.plain (OpenSpec.ofChange parseBackSpec)) parseBackCard

/-- THE SECOND FORM's CARD OF 'girandolelaw03.ParsePlaces'. -/
def parsePlacesUptoCard : Claim7 := { stood := { row := parsePlacesUptoRow, standIns := [], harness := (true, "0d1c5dba7c4b283a3e7e9bc5936df8519e7ac7391f738cc53a0ba324e34d2167"), looks := true }, kinds := [], alts := [], laidByText := true, laidKinds := [.listed, .data], laidTests := true, laidLooks := .later }
def ParsePlacesUptoCardSaid : Prop := Claim7.holds Tryd.pinned (.plain (OpenSpec.upto parsePlacesSpec)) parsePlacesUptoCard

/-- THE SECOND FORM's CARD OF 'girandolelaw03.ParseDeep'. -/
def parseDeepUptoCard : Claim7 := { stood := { row := parseDeepUptoRow, standIns := [], harness := (true, "0d1c5dba7c4b283a3e7e9bc5936df8519e7ac7391f738cc53a0ba324e34d2167"), looks := true }, kinds := [], alts := [], laidByText := true, laidKinds := [.listed, .data], laidTests := true, laidLooks := .later }
def ParseDeepUptoCardSaid : Prop := Claim7.holds Tryd.pinned (.plain (OpenSpec.upto parseDeepSpec)) parseDeepUptoCard

/-- THE SECOND FORM's CARD OF 'girandolelaw07.InitsArrows'. -/
def initsArrowsUptoCard : Claim7 := { stood := { row := initsArrowsUptoRow, standIns := [], harness := (true, "0d1c5dba7c4b283a3e7e9bc5936df8519e7ac7391f738cc53a0ba324e34d2167"), looks := true }, kinds := [], alts := [], laidByText := true, laidKinds := [.listed, .data], laidTests := true, laidLooks := .later }
def InitsArrowsUptoCardSaid : Prop := Claim7.holds Tryd.pinned (.plain (OpenSpec.upto initsArrowsSpec)) initsArrowsUptoCard

/-- THE SECOND FORM's CARD OF 'girandolelaw07.InitsCalls'. -/
def initsCallsUptoCard : Claim7 := { stood := { row := initsCallsUptoRow, standIns := [], harness := (true, "0d1c5dba7c4b283a3e7e9bc5936df8519e7ac7391f738cc53a0ba324e34d2167"), looks := true }, kinds := [], alts := [], laidByText := true, laidKinds := [.listed, .data], laidTests := true, laidLooks := .later }
def InitsCallsUptoCardSaid : Prop := Claim7.holds Tryd.pinned (.plain (OpenSpec.upto initsCallsSpec)) initsCallsUptoCard

/-- THE SECOND FORM's CARD OF 'girandolelaw06.ClocksOn'. -/
def clocksOnUptoCard : Claim7 := { stood := { row := clocksOnUptoRow, standIns := [], harness := (true, "0d1c5dba7c4b283a3e7e9bc5936df8519e7ac7391f738cc53a0ba324e34d2167"), looks := true }, kinds := [], alts := [], laidByText := true, laidKinds := [.listed, .data], laidTests := true, laidLooks := .later }
def ClocksOnUptoCardSaid : Prop := Claim7.holds Tryd.pinned (.plain (OpenSpec.upto clocksOnSpec)) clocksOnUptoCard

/-- THE SECOND FORM's CARD OF 'girandolelaw06.ClocksDeep'. -/
def clocksDeepUptoCard : Claim7 := { stood := { row := clocksDeepUptoRow, standIns := [], harness := (true, "0d1c5dba7c4b283a3e7e9bc5936df8519e7ac7391f738cc53a0ba324e34d2167"), looks := true }, kinds := [], alts := [], laidByText := true, laidKinds := [.listed, .data], laidTests := true, laidLooks := .later }
def ClocksDeepUptoCardSaid : Prop := Claim7.holds Tryd.pinned (.plain (OpenSpec.upto clocksDeepSpec)) clocksDeepUptoCard

/-- THE SECOND FORM's CARD OF 'girandolelaw05.TypesCalls'. -/
def typesCallsUptoCard : Claim7 := { stood := { row := typesCallsUptoRow, standIns := [], harness := (true, "0d1c5dba7c4b283a3e7e9bc5936df8519e7ac7391f738cc53a0ba324e34d2167"), looks := true }, kinds := [], alts := [], laidByText := true, laidKinds := [.listed, .data], laidTests := true, laidLooks := .later }
def TypesCallsUptoCardSaid : Prop := Claim7.holds Tryd.pinned (.plain (OpenSpec.upto typesCallsSpec)) typesCallsUptoCard

/-- THE SECOND FORM's CARD OF 'girandolelaw05.TypesRight'. -/
def typesRightUptoCard : Claim7 := { stood := { row := typesRightUptoRow, standIns := [], harness := (true, "0d1c5dba7c4b283a3e7e9bc5936df8519e7ac7391f738cc53a0ba324e34d2167"), looks := true }, kinds := [], alts := [], laidByText := true, laidKinds := [.listed, .data], laidTests := true, laidLooks := .later }
def TypesRightUptoCardSaid : Prop := Claim7.holds Tryd.pinned (.plain (OpenSpec.upto typesRightSpec)) typesRightUptoCard

/-- THE SECOND FORM's CARD OF 'girandolelaw05.TypesAwaits'. -/
def typesAwaitsUptoCard : Claim7 := { stood := { row := typesAwaitsUptoRow, standIns := [], harness := (true, "0d1c5dba7c4b283a3e7e9bc5936df8519e7ac7391f738cc53a0ba324e34d2167"), looks := true }, kinds := [], alts := [], laidByText := true, laidKinds := [.listed, .data], laidTests := true, laidLooks := .later }
def TypesAwaitsUptoCardSaid : Prop := Claim7.holds Tryd.pinned (.plain (OpenSpec.upto typesAwaitsSpec)) typesAwaitsUptoCard

/-- THE SECOND FORM's CARD OF 'girandolelaw03.ParseBack'. -/
def parseBackUptoCard : Claim7 := { stood := { row := parseBackUptoRow, standIns := [], harness := (true, "0d1c5dba7c4b283a3e7e9bc5936df8519e7ac7391f738cc53a0ba324e34d2167"), looks := true }, kinds := [], alts := [], laidByText := true, laidKinds := [.data, .data, .data, .listed, .data], laidTests := true, laidLooks := .later }
def ParseBackUptoCardSaid : Prop := Claim7.holds Tryd.pinned (.plain (OpenSpec.upto parseBackSpec)) parseBackUptoCard
end Rows
end Go.Proofs.YtjafllnbgfcchaaDoor
