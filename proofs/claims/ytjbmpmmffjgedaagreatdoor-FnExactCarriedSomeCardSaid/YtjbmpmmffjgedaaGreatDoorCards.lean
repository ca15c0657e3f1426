/-
  DERIVED. GIVEN WITH THE SEED: THE CARDS: each row of YtjbmpmmffjgedaaGreatDoorRows.lean that lists a variable, with what it lists TIED to the program's text (the seventh form; the later family's looks); each row that meets fmt, with fmt's text TOLD by the authors' own Lean function (tested against real Go, not proved from fmt's source: count such statements apart). THE CARD IS WHAT COUNTS. Prove the row's statement (the work); the ties are given (YtjbmpmmffjgedaaGreatDoorTie.lean); close each card by the builder's one call (the guide's Derived/Test/ToyasCard.lean, 'card_holds'). Laid BY PROGRAM, IN A SANDBOX (cutbox-door.mjs). By AI agents, Wed Nov 11 2026. No macro, syntax, notation, axiom, sorry.
-/
import Derived.Test.YtjbmpmmffjgedaaGreatDoorRows
import GoSem.ClaimSeven
namespace Go.Proofs.YtjbmpmmffjgedaaGreatDoor
namespace Rows

/-- THE TIED CARD OF 'laws.FnLargest'. -/
def fnLargestCard : Claim7 := { stood := { row := fnLargestRow, standIns := [], harness := (true, "66589ea6432dba7e06020e5c00023ff2f7d9f1b7bea9084e1b1d7f16b048cea0"), looks := true }, kinds := [], alts := [], laidByText := true, laidKinds := [.data, .data, .data], laidTests := true, laidLooks := .later }
def FnLargestCardSaid : Prop := Claim7.holds Tryz.pinned (.plain (OpenSpec.ofChange fnLargestSpec)) fnLargestCard

/-- THE TIED CARD OF 'laws.FnCounts'. -/
def fnCountsCard : Claim7 := { stood := { row := fnCountsRow, standIns := [], harness := (true, "66589ea6432dba7e06020e5c00023ff2f7d9f1b7bea9084e1b1d7f16b048cea0"), looks := true }, kinds := [], alts := [], laidByText := true, laidKinds := [.data, .data, .data, .sentinel, .sentinel], laidTests := true, laidLooks := .later }
def FnCountsCardSaid : Prop := Claim7.holds Tryz.pinned (.plain (OpenSpec.ofChange fnCountsSpec)) fnCountsCard

/-- THE TIED CARD OF 'laws.FnToldOf'. -/
def fnToldOfCard : Claim7 := { stood := { row := fnToldOfRow, standIns := [], harness := (true, "66589ea6432dba7e06020e5c00023ff2f7d9f1b7bea9084e1b1d7f16b048cea0"), looks := true }, kinds := [], alts := [], laidByText := true, laidKinds := [.data, .data, .data, .sentinel, .sentinel], laidTests := true, laidLooks := .later }
def FnToldOfCardSaid : Prop := Claim7.holds Tryz.pinned (.plain (OpenSpec.ofChange fnToldOfSpec)) fnToldOfCard

/-- THE TIED CARD OF 'laws.FnExactCarriedSome'. -/
def fnExactCarriedSomeCard : Claim7 := { stood := { row := fnExactCarriedSomeRow, standIns := [], harness := (true, "66589ea6432dba7e06020e5c00023ff2f7d9f1b7bea9084e1b1d7f16b048cea0"), looks := true }, kinds := [], alts := [], laidByText := true, laidKinds := [.data, .data, .data, .sentinel, .sentinel], laidTests := true, laidLooks := .later }
def FnExactCarriedSomeCardSaid : Prop := Claim7.holds Tryz.pinned (.plain (OpenSpec.ofChange fnExactCarriedSomeSpec)) fnExactCarriedSomeCard

/-- THE TIED CARD OF 'laws.FnExactFallMending'. -/
def fnExactFallMendingCard : Claim7 := { stood := { row := fnExactFallMendingRow, standIns := [], harness := (true, "66589ea6432dba7e06020e5c00023ff2f7d9f1b7bea9084e1b1d7f16b048cea0"), looks := true }, kinds := [], alts := [], laidByText := true, laidKinds := [.data, .data, .data, .sentinel, .sentinel], laidTests := true, laidLooks := .later }
def FnExactFallMendingCardSaid : Prop := Claim7.holds Tryz.pinned (.plain (OpenSpec.ofChange fnExactFallMendingSpec)) fnExactFallMendingCard

/-- THE SECOND FORM's CARD OF 'laws.FnLargest'. -/
def fnLargestUptoCard : Claim7 := { stood := { row := fnLargestUptoRow, standIns := [], harness := (true, "66589ea6432dba7e06020e5c00023ff2f7d9f1b7bea9084e1b1d7f16b048cea0"), looks := true }, kinds := [], alts := [], laidByText := true, laidKinds := [.data, .data, .data], laidTests := true, laidLooks := .later }
def FnLargestUptoCardSaid : Prop := Claim7.holds Tryz.pinned (.plain (OpenSpec.upto fnLargestSpec)) fnLargestUptoCard

/-- THE SECOND FORM's CARD OF 'laws.FnCounts'. -/
def fnCountsUptoCard : Claim7 := { stood := { row := fnCountsUptoRow, standIns := [], harness := (true, "66589ea6432dba7e06020e5c00023ff2f7d9f1b7bea9084e1b1d7f16b048cea0"), looks := true }, kinds := [], alts := [], laidByText := true, laidKinds := [.data, .data, .data, .sentinel, .sentinel], laidTests := true, laidLooks := .later }
def FnCountsUptoCardSaid : Prop := Claim7.holds Tryz.pinned (.plain (OpenSpec.upto fnCountsSpec)) fnCountsUptoCard

/-- THE SECOND FORM's CARD OF 'laws.FnToldOf'. -/
def fnToldOfUptoCard : Claim7 := { stood := { row := fnToldOfUptoRow, standIns := [], harness := (true, "66589ea6432dba7e06020e5c00023ff2f7d9f1b7bea9084e1b1d7f16b048cea0"), looks := true }, kinds := [], alts := [], laidByText := true, laidKinds := [.data, .data, .data, .sentinel, .sentinel], laidTests := true, laidLooks := .later }
def FnToldOfUptoCardSaid : Prop := Claim7.holds Tryz.pinned (.plain (OpenSpec.upto fnToldOfSpec)) fnToldOfUptoCard

/-- THE SECOND FORM's CARD OF 'laws.FnExactCarriedSome'. -/
def fnExactCarriedSomeUptoCard : Claim7 := { stood := { row := fnExactCarriedSomeUptoRow, standIns := [], harness := (true, "66589ea6432dba7e06020e5c00023ff2f7d9f1b7bea9084e1b1d7f16b048cea0"), looks := true }, kinds := [], alts := [], laidByText := true, laidKinds := [.data, .data, .data, .sentinel, .sentinel], laidTests := true, laidLooks := .later }
def FnExactCarriedSomeUptoCardSaid : Prop := Claim7.holds Tryz.pinned (.plain (OpenSpec.upto fnExactCarriedSomeSpec)) fnExactCarriedSomeUptoCard

/-- THE SECOND FORM's CARD OF 'laws.FnExactFallMending'. -/
def fnExactFallMendingUptoCard : Claim7 := { stood := { row := fnExactFallMendingUptoRow, standIns := [], harness := (true, "66589ea6432dba7e06020e5c00023ff2f7d9f1b7bea9084e1b1d7f16b048cea0"), looks := true }, kinds := [], alts := [], laidByText := true, laidKinds := [.data, .data, .data, .sentinel, .sentinel], laidTests := true, laidLooks := .later }
def FnExactFallMendingUptoCardSaid : Prop := Claim7.holds Tryz.pinned (.plain (OpenSpec.upto fnExactFallMendingSpec)) fnExactFallMendingUptoCard
end Rows
end Go.Proofs.YtjbmpmmffjgedaaGreatDoor
