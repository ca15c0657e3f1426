/-
  DERIVED. GIVEN WITH THE SEED: THE CARDS: each row of YtgdmjbcllgmepaaGreatDoorRows.lean that lists a variable, with what it lists TIED to the program's text (the seventh form; the later family's looks); each row that meets fmt, with fmt's text TOLD by the authors' own Lean function (tested against real Go, not proved from fmt's source: count such statements apart). THE CARD IS WHAT COUNTS. Prove the row's statement (the work); the ties are given (YtgdmjbcllgmepaaGreatDoorTie.lean); close each card by the builder's one call (the guide's Derived/Test/ToyasCard.lean, 'card_holds'). Laid BY PROGRAM, IN A SANDBOX (cutbox-door.mjs). By AI agents, Wed Nov 11 2026. No macro, syntax, notation, axiom, sorry.
-/
import Derived.Test.YtgdmjbcllgmepaaGreatDoorRows
import GoSem.ClaimSeven
namespace Go.Proofs.YtgdmjbcllgmepaaGreatDoor
namespace Rows

/-- THE TIED CARD OF 'laws.FnExactWorldLines'. -/
def fnExactWorldLinesCard : Claim7 := { stood := { row := fnExactWorldLinesRow, standIns := [], harness := (true, "45d09819946afd6ec800e4e9ea36368295b8598935c5e2ac19c85708c4d9859d"), looks := true }, kinds := [], alts := [], laidByText := true, laidKinds := [.data, .data, .data, .sentinel, .sentinel], laidTests := true, laidLooks := .later }
def FnExactWorldLinesCardSaid : Prop := Claim7.holds Tryz.pinned (.plain (OpenSpec.ofChange fnExactWorldLinesSpec)) fnExactWorldLinesCard

/-- THE TIED CARD OF 'laws.FnExactTakenIn'. -/
def fnExactTakenInCard : Claim7 := { stood := { row := fnExactTakenInRow, standIns := [], harness := (true, "45d09819946afd6ec800e4e9ea36368295b8598935c5e2ac19c85708c4d9859d"), looks := true }, kinds := [], alts := [], laidByText := true, laidKinds := [.data, .data, .data, .sentinel, .sentinel], laidTests := true, laidLooks := .later }
def FnExactTakenInCardSaid : Prop := Claim7.holds Tryz.pinned (.plain (OpenSpec.ofChange fnExactTakenInSpec)) fnExactTakenInCard

/-- THE TIED CARD OF 'laws.FnExactHoldsAfter'. -/
def fnExactHoldsAfterCard : Claim7 := { stood := { row := fnExactHoldsAfterRow, standIns := [], harness := (true, "45d09819946afd6ec800e4e9ea36368295b8598935c5e2ac19c85708c4d9859d"), looks := true }, kinds := [], alts := [], laidByText := true, laidKinds := [.data, .data, .data, .sentinel, .sentinel], laidTests := true, laidLooks := .later }
def FnExactHoldsAfterCardSaid : Prop := Claim7.holds Tryz.pinned (.plain (OpenSpec.ofChange fnExactHoldsAfterSpec)) fnExactHoldsAfterCard

/-- THE TIED CARD OF 'laws.FnExactSafeWorld'. -/
def fnExactSafeWorldCard : Claim7 := { stood := { row := fnExactSafeWorldRow, standIns := [], harness := (true, "45d09819946afd6ec800e4e9ea36368295b8598935c5e2ac19c85708c4d9859d"), looks := true }, kinds := [], alts := [], laidByText := true, laidKinds := [.data, .data, .data, .sentinel, .sentinel], laidTests := true, laidLooks := .later }
def FnExactSafeWorldCardSaid : Prop := Claim7.holds Tryz.pinned (.plain (OpenSpec.ofChange fnExactSafeWorldSpec)) fnExactSafeWorldCard

/-- THE TIED CARD OF 'laws.FnExactLeastRoom'. -/
def fnExactLeastRoomCard : Claim7 := { stood := { row := fnExactLeastRoomRow, standIns := [], harness := (true, "45d09819946afd6ec800e4e9ea36368295b8598935c5e2ac19c85708c4d9859d"), looks := true }, kinds := [], alts := [], laidByText := true, laidKinds := [.data, .data, .data, .sentinel, .sentinel], laidTests := true, laidLooks := .later }
def FnExactLeastRoomCardSaid : Prop := Claim7.holds Tryz.pinned (.plain (OpenSpec.ofChange fnExactLeastRoomSpec)) fnExactLeastRoomCard

/-- THE TIED CARD OF 'laws.FnExactFullRow'. -/
def fnExactFullRowCard : Claim7 := { stood := { row := fnExactFullRowRow, standIns := [], harness := (true, "45d09819946afd6ec800e4e9ea36368295b8598935c5e2ac19c85708c4d9859d"), looks := true }, kinds := [], alts := [], laidByText := true, laidKinds := [.data, .data, .data, .sentinel, .sentinel], laidTests := true, laidLooks := .later }
def FnExactFullRowCardSaid : Prop := Claim7.holds Tryz.pinned (.plain (OpenSpec.ofChange fnExactFullRowSpec)) fnExactFullRowCard

/-- THE TIED CARD OF 'laws.FnExactCarriedSome'. -/
def fnExactCarriedSomeCard : Claim7 := { stood := { row := fnExactCarriedSomeRow, standIns := [], harness := (true, "45d09819946afd6ec800e4e9ea36368295b8598935c5e2ac19c85708c4d9859d"), looks := true }, kinds := [], alts := [], laidByText := true, laidKinds := [.data, .data, .data, .sentinel, .sentinel], laidTests := true, laidLooks := .later }
def FnExactCarriedSomeCardSaid : Prop := Claim7.holds Tryz.pinned (.plain (OpenSpec.ofChange fnExactCarriedSomeSpec)) fnExactCarriedSomeCard

/-- THE TIED CARD OF 'laws.FnExactRowBehind'. -/
def fnExactRowBehindCard : Claim7 := { stood := { row := fnExactRowBehindRow, standIns := [], harness := (true, "45d09819946afd6ec800e4e9ea36368295b8598935c5e2ac19c85708c4d9859d"), looks := true }, kinds := [], alts := [], laidByText := true, laidKinds := [.data, .data, .data, .sentinel, .sentinel], laidTests := true, laidLooks := .later }
def FnExactRowBehindCardSaid : Prop := Claim7.holds Tryz.pinned (.plain (OpenSpec.ofChange fnExactRowBehindSpec)) fnExactRowBehindCard

/-- THE TIED CARD OF 'laws.FnExactRowKept'. -/
def fnExactRowKeptCard : Claim7 := { stood := { row := fnExactRowKeptRow, standIns := [], harness := (true, "45d09819946afd6ec800e4e9ea36368295b8598935c5e2ac19c85708c4d9859d"), looks := true }, kinds := [], alts := [], laidByText := true, laidKinds := [.data, .data, .data, .sentinel, .sentinel], laidTests := true, laidLooks := .later }
def FnExactRowKeptCardSaid : Prop := Claim7.holds Tryz.pinned (.plain (OpenSpec.ofChange fnExactRowKeptSpec)) fnExactRowKeptCard

/-- THE TIED CARD OF 'laws.FnExactEndsClean'. -/
def fnExactEndsCleanCard : Claim7 := { stood := { row := fnExactEndsCleanRow, standIns := [], harness := (true, "45d09819946afd6ec800e4e9ea36368295b8598935c5e2ac19c85708c4d9859d"), looks := true }, kinds := [], alts := [], laidByText := true, laidKinds := [.data, .data, .data, .sentinel, .sentinel], laidTests := true, laidLooks := .later }
def FnExactEndsCleanCardSaid : Prop := Claim7.holds Tryz.pinned (.plain (OpenSpec.ofChange fnExactEndsCleanSpec)) fnExactEndsCleanCard

/-- THE TIED CARD OF 'laws.FnExactFallMending'. -/
def fnExactFallMendingCard : Claim7 := { stood := { row := fnExactFallMendingRow, standIns := [], harness := (true, "45d09819946afd6ec800e4e9ea36368295b8598935c5e2ac19c85708c4d9859d"), looks := true }, kinds := [], alts := [], laidByText := true, laidKinds := [.data, .data, .data, .sentinel, .sentinel], laidTests := true, laidLooks := .later }
def FnExactFallMendingCardSaid : Prop := Claim7.holds Tryz.pinned (.plain (OpenSpec.ofChange fnExactFallMendingSpec)) fnExactFallMendingCard

/-- THE SECOND FORM's CARD OF 'laws.FnExactWorldLines'. -/
def fnExactWorldLinesUptoCard : Claim7 := { stood := { row := fnExactWorldLinesUptoRow, standIns := [], harness := (true, "45d09819946afd6ec800e4e9ea36368295b8598935c5e2ac19c85708c4d9859d"), looks := true }, kinds := [], alts := [], laidByText := true, laidKinds := [.data, .data, .data, .sentinel, .sentinel], laidTests := true, laidLooks := .later }
def FnExactWorldLinesUptoCardSaid : Prop := Claim7.holds Tryz.pinned (.plain (OpenSpec.upto fnExactWorldLinesSpec)) fnExactWorldLinesUptoCard

/-- THE SECOND FORM's CARD OF 'laws.FnExactTakenIn'. -/
def fnExactTakenInUptoCard : Claim7 := { stood := { row := fnExactTakenInUptoRow, standIns := [], harness := (true, "45d09819946afd6ec800e4e9ea36368295b8598935c5e2ac19c85708c4d9859d"), looks := true }, kinds := [], alts := [], laidByText := true, laidKinds := [.data, .data, .data, .sentinel, .sentinel], laidTests := true, laidLooks := .later }
def FnExactTakenInUptoCardSaid : Prop := Claim7.holds Tryz.pinned (.plain (OpenSpec.upto fnExactTakenInSpec)) fnExactTakenInUptoCard

/-- THE SECOND FORM's CARD OF 'laws.FnExactHoldsAfter'. -/
def fnExactHoldsAfterUptoCard : Claim7 := { stood := { row := fnExactHoldsAfterUptoRow, standIns := [], harness := (true, "45d09819946afd6ec800e4e9ea36368295b8598935c5e2ac19c85708c4d9859d"), looks := true }, kinds := [], alts := [], laidByText := true, laidKinds := [.data, .data, .data, .sentinel, .sentinel], laidTests := true, laidLooks := .later }
def FnExactHoldsAfterUptoCardSaid : Prop := Claim7.holds Tryz.pinned (.plain (OpenSpec.upto fnExactHoldsAfterSpec)) fnExactHoldsAfterUptoCard

/-- THE SECOND FORM's CARD OF 'laws.FnExactSafeWorld'. -/
def fnExactSafeWorldUptoCard : Claim7 := { stood := { row := fnExactSafeWorldUptoRow, standIns := [], harness := (true, "45d09819946afd6ec800e4e9ea36368295b8598935c5e2ac19c85708c4d9859d"), looks := true }, kinds := [], alts := [], laidByText := true, laidKinds := [.data, .data, .data, .sentinel, .sentinel], laidTests := true, laidLooks := .later }
def FnExactSafeWorldUptoCardSaid : Prop := Claim7.holds Tryz.pinned (.plain (OpenSpec.upto fnExactSafeWorldSpec)) fnExactSafeWorldUptoCard

/-- THE SECOND FORM's CARD OF 'laws.FnExactLeastRoom'. -/
def fnExactLeastRoomUptoCard : Claim7 := { stood := { row := fnExactLeastRoomUptoRow, standIns := [], harness := (true, "45d09819946afd6ec800e4e9ea36368295b8598935c5e2ac19c85708c4d9859d"), looks := true }, kinds := [], alts := [], laidByText := true, laidKinds := [.data, .data, .data, .sentinel, .sentinel], laidTests := true, laidLooks := .later }
def FnExactLeastRoomUptoCardSaid : Prop := Claim7.holds Tryz.pinned (.plain (OpenSpec.upto fnExactLeastRoomSpec)) fnExactLeastRoomUptoCard

/-- THE SECOND FORM's CARD OF 'laws.FnExactFullRow'. -/
def fnExactFullRowUptoCard : Claim7 := { stood := { row := fnExactFullRowUptoRow, standIns := [], harness := (true, "45d09819946afd6ec800e4e9ea36368295b8598935c5e2ac19c85708c4d9859d"), looks := true }, kinds := [], alts := [], laidByText := true, laidKinds := [.data, .data, .data, .sentinel, .sentinel], laidTests := true, laidLooks := .later }
def FnExactFullRowUptoCardSaid : Prop := Claim7.holds Tryz.pinned (.plain (OpenSpec.upto fnExactFullRowSpec)) fnExactFullRowUptoCard

/-- THE SECOND FORM's CARD OF 'laws.FnExactCarriedSome'. -/
def fnExactCarriedSomeUptoCard : Claim7 := { stood := { row := fnExactCarriedSomeUptoRow, standIns := [], harness := (true, "45d09819946afd6ec800e4e9ea36368295b8598935c5e2ac19c85708c4d9859d"), looks := true }, kinds := [], alts := [], laidByText := true, laidKinds := [.data, .data, .data, .sentinel, .sentinel], laidTests := true, laidLooks := .later }
def FnExactCarriedSomeUptoCardSaid : Prop := Claim7.holds Tryz.pinned (.plain (OpenSpec.upto fnExactCarriedSomeSpec)) fnExactCarriedSomeUptoCard

/-- THE SECOND FORM's CARD OF 'laws.FnExactRowBehind'. -/
def fnExactRowBehindUptoCard : Claim7 := { stood := { row := fnExactRowBehindUptoRow, standIns := [], harness := (true, "45d09819946afd6ec800e4e9ea36368295b8598935c5e2ac19c85708c4d9859d"), looks := true }, kinds := [], alts := [], laidByText := true, laidKinds := [.data, .data, .data, .sentinel, .sentinel], laidTests := true, laidLooks := .later }
def FnExactRowBehindUptoCardSaid : Prop := Claim7.holds Tryz.pinned (.plain (OpenSpec.upto fnExactRowBehindSpec)) fnExactRowBehindUptoCard

/-- THE SECOND FORM's CARD OF 'laws.FnExactRowKept'. -/
def fnExactRowKeptUptoCard : Claim7 := { stood := { row := fnExactRowKeptUptoRow, standIns := [], harness := (true, "45d09819946afd6ec800e4e9ea36368295b8598935c5e2ac19c85708c4d9859d"), looks := true }, kinds := [], alts := [], laidByText := true, laidKinds := [.data, .data, .data, .sentinel, .sentinel], laidTests := true, laidLooks := .later }
def FnExactRowKeptUptoCardSaid : Prop := Claim7.holds Tryz.pinned (.plain (OpenSpec.upto fnExactRowKeptSpec)) fnExactRowKeptUptoCard

/-- THE SECOND FORM's CARD OF 'laws.FnExactEndsClean'. -/
def fnExactEndsCleanUptoCard : Claim7 := { stood := { row := fnExactEndsCleanUptoRow, standIns := [], harness := (true, "45d09819946afd6ec800e4e9ea36368295b8598935c5e2ac19c85708c4d9859d"), looks := true }, kinds := [], alts := [], laidByText := true, laidKinds := [.data, .data, .data, .sentinel, .sentinel], laidTests := true, laidLooks := .later }
def FnExactEndsCleanUptoCardSaid : Prop := Claim7.holds Tryz.pinned (.plain (OpenSpec.upto fnExactEndsCleanSpec)) fnExactEndsCleanUptoCard

/-- THE SECOND FORM's CARD OF 'laws.FnExactFallMending'. -/
def fnExactFallMendingUptoCard : Claim7 := { stood := { row := fnExactFallMendingUptoRow, standIns := [], harness := (true, "45d09819946afd6ec800e4e9ea36368295b8598935c5e2ac19c85708c4d9859d"), looks := true }, kinds := [], alts := [], laidByText := true, laidKinds := [.data, .data, .data, .sentinel, .sentinel], laidTests := true, laidLooks := .later }
def FnExactFallMendingUptoCardSaid : Prop := Claim7.holds Tryz.pinned (.plain (OpenSpec.upto fnExactFallMendingSpec)) fnExactFallMendingUptoCard
end Rows
end Go.Proofs.YtgdmjbcllgmepaaGreatDoor
