/-
  DERIVED. GIVEN WITH THE SEED: THE CARDS: each row of YtmhinjjgpabkfaaGreatDoorRows.lean that lists a variable, with what it lists TIED to the program's text (the seventh form; the later family's looks); each row that meets fmt, with fmt's text TOLD by the authors' own Lean function (tested against real Go, not proved from fmt's source: count such statements apart). THE CARD IS WHAT COUNTS. Prove the row's statement (the work); the ties are given (YtmhinjjgpabkfaaGreatDoorTie.lean); close each card by the builder's one call (the guide's Derived/Test/ToyasCard.lean, 'card_holds'). Laid BY PROGRAM, IN A SANDBOX (cutbox-door.mjs). By AI agents, Wed Nov 11 2026. No macro, syntax, notation, axiom, sorry.
-/
import Derived.Test.YtmhinjjgpabkfaaGreatDoorRows
import GoSem.ClaimSeven
namespace Go.Proofs.YtmhinjjgpabkfaaGreatDoor
namespace Rows

/-- THE TIED CARD OF 'laws.FnLinesBack'. -/
def fnLinesBackCard : Claim7 := { stood := { row := fnLinesBackRow, standIns := [], harness := (true, "30df1cf96ed7d0b3b1036e51a4c12927ce43977bbc501d7a35fdee88d75bb8cd"), looks := true }, kinds := [], alts := [], laidByText := true, laidKinds := [.data, .data, .data, .sentinel, .sentinel, .listed, .data], laidTests := true, laidLooks := .later }
def FnLinesBackCardSaid : Prop := Claim7.holds Tryz.pinned (.plain (OpenSpec.ofChange fnLinesBackSpec)) fnLinesBackCard

/-- THE TIED CARD OF 'laws.FnExactWasteOn'. -/
def fnExactWasteOnCard : Claim7 := { stood := { row := fnExactWasteOnRow, standIns := [], harness := (true, "30df1cf96ed7d0b3b1036e51a4c12927ce43977bbc501d7a35fdee88d75bb8cd"), looks := true }, kinds := [], alts := [], laidByText := true, laidKinds := [.data, .data, .data, .sentinel, .sentinel], laidTests := true, laidLooks := .later }
def FnExactWasteOnCardSaid : Prop := Claim7.holds Tryz.pinned (.plain (OpenSpec.ofChange fnExactWasteOnSpec)) fnExactWasteOnCard

/-- THE TIED CARD OF 'laws.FnExactStepsOfKind'. -/
def fnExactStepsOfKindCard : Claim7 := { stood := { row := fnExactStepsOfKindRow, standIns := [], harness := (true, "30df1cf96ed7d0b3b1036e51a4c12927ce43977bbc501d7a35fdee88d75bb8cd"), looks := true }, kinds := [], alts := [], laidByText := true, laidKinds := [.data, .data, .data, .sentinel, .sentinel], laidTests := true, laidLooks := .later }
def FnExactStepsOfKindCardSaid : Prop := Claim7.holds Tryz.pinned (.plain (OpenSpec.ofChange fnExactStepsOfKindSpec)) fnExactStepsOfKindCard

/-- THE TIED CARD OF 'laws.FnExactPlanLines'. -/
def fnExactPlanLinesCard : Claim7 := { stood := { row := fnExactPlanLinesRow, standIns := [], harness := (true, "30df1cf96ed7d0b3b1036e51a4c12927ce43977bbc501d7a35fdee88d75bb8cd"), looks := true }, kinds := [], alts := [], laidByText := true, laidKinds := [.data, .data, .data, .sentinel, .sentinel], laidTests := true, laidLooks := .later }
def FnExactPlanLinesCardSaid : Prop := Claim7.holds Tryz.pinned (.plain (OpenSpec.ofChange fnExactPlanLinesSpec)) fnExactPlanLinesCard

/-- THE SECOND FORM's CARD OF 'laws.FnLinesBack'. -/
def fnLinesBackUptoCard : Claim7 := { stood := { row := fnLinesBackUptoRow, standIns := [], harness := (true, "30df1cf96ed7d0b3b1036e51a4c12927ce43977bbc501d7a35fdee88d75bb8cd"), looks := true }, kinds := [], alts := [], laidByText := true, laidKinds := [.data, .data, .data, .sentinel, .sentinel, .listed, .data], laidTests := true, laidLooks := .later }
def FnLinesBackUptoCardSaid : Prop := Claim7.holds Tryz.pinned (.plain (OpenSpec.upto fnLinesBackSpec)) fnLinesBackUptoCard

/-- THE SECOND FORM's CARD OF 'laws.FnExactWasteOn'. -/
def fnExactWasteOnUptoCard : Claim7 := { stood := { row := fnExactWasteOnUptoRow, standIns := [], harness := (true, "30df1cf96ed7d0b3b1036e51a4c12927ce43977bbc501d7a35fdee88d75bb8cd"), looks := true }, kinds := [], alts := [], laidByText := true, laidKinds := [.data, .data, .data, .sentinel, .sentinel], laidTests := true, laidLooks := .later }
def FnExactWasteOnUptoCardSaid : Prop := Claim7.holds Tryz.pinned (.plain (OpenSpec.upto fnExactWasteOnSpec)) fnExactWasteOnUptoCard

/-- THE SECOND FORM's CARD OF 'laws.FnExactStepsOfKind'. -/
def fnExactStepsOfKindUptoCard : Claim7 := { stood := { row := fnExactStepsOfKindUptoRow, standIns := [], harness := (true, "30df1cf96ed7d0b3b1036e51a4c12927ce43977bbc501d7a35fdee88d75bb8cd"), looks := true }, kinds := [], alts := [], laidByText := true, laidKinds := [.data, .data, .data, .sentinel, .sentinel], laidTests := true, laidLooks := .later }
def FnExactStepsOfKindUptoCardSaid : Prop := Claim7.holds Tryz.pinned (.plain (OpenSpec.upto fnExactStepsOfKindSpec)) fnExactStepsOfKindUptoCard

/-- THE SECOND FORM's CARD OF 'laws.FnExactPlanLines'. -/
def fnExactPlanLinesUptoCard : Claim7 := { stood := { row := fnExactPlanLinesUptoRow, standIns := [], harness := (true, "30df1cf96ed7d0b3b1036e51a4c12927ce43977bbc501d7a35fdee88d75bb8cd"), looks := true }, kinds := [], alts := [], laidByText := true, laidKinds := [.data, .data, .data, .sentinel, .sentinel], laidTests := true, laidLooks := .later }
def FnExactPlanLinesUptoCardSaid : Prop := Claim7.holds Tryz.pinned (.plain (OpenSpec.upto fnExactPlanLinesSpec)) fnExactPlanLinesUptoCard
end Rows
end Go.Proofs.YtmhinjjgpabkfaaGreatDoor
