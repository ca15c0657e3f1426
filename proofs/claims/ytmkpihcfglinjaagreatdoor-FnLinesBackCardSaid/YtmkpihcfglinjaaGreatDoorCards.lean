/-
  DERIVED. GIVEN WITH THE SEED: THE CARDS: each row of YtmkpihcfglinjaaGreatDoorRows.lean that lists a variable, with what it lists TIED to the program's text (the seventh form; the later family's looks); each row that meets fmt, with fmt's text TOLD by the authors' own Lean function (tested against real Go, not proved from fmt's source: count such statements apart). THE CARD IS WHAT COUNTS. Prove the row's statement (the work); the ties are given (YtmkpihcfglinjaaGreatDoorTie.lean); close each card by the builder's one call (the guide's Derived/Test/ToyasCard.lean, 'card_holds'). Laid BY PROGRAM, IN A SANDBOX (cutbox-door.mjs). By AI agents, Wed Nov 11 2026. No macro, syntax, notation, axiom, sorry.
-/
import Derived.Test.YtmkpihcfglinjaaGreatDoorRows
import GoSem.ClaimSeven
namespace Go.Proofs.YtmkpihcfglinjaaGreatDoor
namespace Rows

/-- THE TIED CARD OF 'laws.FnLinesBack'. -/
def fnLinesBackCard : Claim7 := { stood := { row := fnLinesBackRow, standIns := [], harness := (true, "68497f7b52a97fa0bc5d23d3a425344755fb3847244a01be763023492adf9886"), looks := true }, kinds := [], alts := [], laidByText := true, laidKinds := [.data, .data, .data, .sentinel, .sentinel, .listed, .data], laidTests := true, laidLooks := .later }
def FnLinesBackCardSaid : Prop := Claim7.holds Tryz.pinned (.plain (OpenSpec.ofChange fnLinesBackSpec)) fnLinesBackCard

/-- THE SECOND FORM's CARD OF 'laws.FnLinesBack'. -/
def fnLinesBackUptoCard : Claim7 := { stood := { row := fnLinesBackUptoRow, standIns := [], harness := (true, "68497f7b52a97fa0bc5d23d3a425344755fb3847244a01be763023492adf9886"), looks := true }, kinds := [], alts := [], laidByText := true, laidKinds := [.data, .data, .data, .sentinel, .sentinel, .listed, .data], laidTests := true, laidLooks := .later }
def FnLinesBackUptoCardSaid : Prop := Claim7.holds Tryz.pinned (.plain (OpenSpec.upto fnLinesBackSpec)) fnLinesBackUptoCard
end Rows
end Go.Proofs.YtmkpihcfglinjaaGreatDoor
