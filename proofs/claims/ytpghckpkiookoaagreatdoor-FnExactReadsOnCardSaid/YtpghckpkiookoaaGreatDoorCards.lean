/-
  DERIVED. GIVEN WITH THE SEED: THE CARDS: each row of YtpghckpkiookoaaGreatDoorRows.lean that lists a variable, with what it lists TIED to the program's text (the seventh form; the later family's looks); each row that meets fmt, with fmt's text TOLD by the authors' own Lean function (tested against real Go, not proved from fmt's source: count such statements apart). THE CARD IS WHAT COUNTS. Prove the row's statement (the work); the ties are given (YtpghckpkiookoaaGreatDoorTie.lean); close each card by the builder's one call (the guide's Derived/Test/ToyasCard.lean, 'card_holds'). Laid BY PROGRAM, IN A SANDBOX (cutbox-door.mjs). By AI agents, Wed Nov 11 2026. No macro, syntax, notation, axiom, sorry.
-/
import Derived.Test.YtpghckpkiookoaaGreatDoorRows
import GoSem.ClaimSeven
namespace Go.Proofs.YtpghckpkiookoaaGreatDoor
namespace Rows

/-- THE TIED CARD OF 'laws.FnExactFrameBytes'. -/
def fnExactFrameBytesCard : Claim7 := { stood := { row := fnExactFrameBytesRow, standIns := [], harness := (true, "2dcce5df7bc3e028ad787f402ff258033608027cb6de3b62e89616a21f2c90d7"), looks := false }, kinds := [], alts := [], laidByText := true, laidKinds := [.data, .data, .data], laidTests := true, laidLooks := .later }
def FnExactFrameBytesCardSaid : Prop := Claim7.holds Tryz.pinned (.plain (OpenSpec.ofChange fnExactFrameBytesSpec)) fnExactFrameBytesCard

/-- THE TIED CARD OF 'laws.FnExactLargestOn'. -/
def fnExactLargestOnCard : Claim7 := { stood := { row := fnExactLargestOnRow, standIns := [], harness := (true, "2dcce5df7bc3e028ad787f402ff258033608027cb6de3b62e89616a21f2c90d7"), looks := false }, kinds := [], alts := [], laidByText := true, laidKinds := [.data, .data, .data], laidTests := true, laidLooks := .later }
def FnExactLargestOnCardSaid : Prop := Claim7.holds Tryz.pinned (.plain (OpenSpec.ofChange fnExactLargestOnSpec)) fnExactLargestOnCard

/-- THE TIED CARD OF 'laws.FnExactLongestOn'. -/
def fnExactLongestOnCard : Claim7 := { stood := { row := fnExactLongestOnRow, standIns := [], harness := (true, "2dcce5df7bc3e028ad787f402ff258033608027cb6de3b62e89616a21f2c90d7"), looks := false }, kinds := [], alts := [], laidByText := true, laidKinds := [.data, .data, .data], laidTests := true, laidLooks := .later }
def FnExactLongestOnCardSaid : Prop := Claim7.holds Tryz.pinned (.plain (OpenSpec.ofChange fnExactLongestOnSpec)) fnExactLongestOnCard

/-- THE TIED CARD OF 'laws.FnExactNewFirst'. -/
def fnExactNewFirstCard : Claim7 := { stood := { row := fnExactNewFirstRow, standIns := [], harness := (true, "2dcce5df7bc3e028ad787f402ff258033608027cb6de3b62e89616a21f2c90d7"), looks := false }, kinds := [], alts := [], laidByText := true, laidKinds := [.data, .data, .data], laidTests := true, laidLooks := .later }
def FnExactNewFirstCardSaid : Prop := Claim7.holds Tryz.pinned (.plain (OpenSpec.ofChange fnExactNewFirstSpec)) fnExactNewFirstCard

/-- THE TIED CARD OF 'laws.FnExactSameRow'. -/
def fnExactSameRowCard : Claim7 := { stood := { row := fnExactSameRowRow, standIns := [], harness := (true, "2dcce5df7bc3e028ad787f402ff258033608027cb6de3b62e89616a21f2c90d7"), looks := false }, kinds := [], alts := [], laidByText := true, laidKinds := [.data, .data, .data], laidTests := true, laidLooks := .later }
def FnExactSameRowCardSaid : Prop := Claim7.holds Tryz.pinned (.plain (OpenSpec.ofChange fnExactSameRowSpec)) fnExactSameRowCard

/-- THE TIED CARD OF 'laws.FnExactCarryCost'. -/
def fnExactCarryCostCard : Claim7 := { stood := { row := fnExactCarryCostRow, standIns := [], harness := (true, "2dcce5df7bc3e028ad787f402ff258033608027cb6de3b62e89616a21f2c90d7"), looks := false }, kinds := [], alts := [], laidByText := true, laidKinds := [.data, .data, .data], laidTests := true, laidLooks := .later }
def FnExactCarryCostCardSaid : Prop := Claim7.holds Tryz.pinned (.plain (OpenSpec.ofChange fnExactCarryCostSpec)) fnExactCarryCostCard

/-- THE TIED CARD OF 'laws.FnExactRowWithin'. -/
def fnExactRowWithinCard : Claim7 := { stood := { row := fnExactRowWithinRow, standIns := [], harness := (true, "2dcce5df7bc3e028ad787f402ff258033608027cb6de3b62e89616a21f2c90d7"), looks := false }, kinds := [], alts := [], laidByText := true, laidKinds := [.data, .data, .data], laidTests := true, laidLooks := .later }
def FnExactRowWithinCardSaid : Prop := Claim7.holds Tryz.pinned (.plain (OpenSpec.ofChange fnExactRowWithinSpec)) fnExactRowWithinCard

/-- THE TIED CARD OF 'laws.FnExactSealedIn'. -/
def fnExactSealedInCard : Claim7 := { stood := { row := fnExactSealedInRow, standIns := [], harness := (true, "2dcce5df7bc3e028ad787f402ff258033608027cb6de3b62e89616a21f2c90d7"), looks := false }, kinds := [], alts := [], laidByText := true, laidKinds := [.data, .data, .data], laidTests := true, laidLooks := .later }
def FnExactSealedInCardSaid : Prop := Claim7.holds Tryz.pinned (.plain (OpenSpec.ofChange fnExactSealedInSpec)) fnExactSealedInCard

/-- THE TIED CARD OF 'laws.FnExactReadsOn'. -/
def fnExactReadsOnCard : Claim7 := { stood := { row := fnExactReadsOnRow, standIns := [], harness := (true, "2dcce5df7bc3e028ad787f402ff258033608027cb6de3b62e89616a21f2c90d7"), looks := false }, kinds := [], alts := [], laidByText := true, laidKinds := [.data, .data, .data], laidTests := true, laidLooks := .later }
def FnExactReadsOnCardSaid : Prop := Claim7.holds Tryz.pinned (.plain (OpenSpec.ofChange fnExactReadsOnSpec)) fnExactReadsOnCard

/-- THE SECOND FORM's CARD OF 'laws.FnExactFrameBytes'. -/
def fnExactFrameBytesUptoCard : Claim7 := { stood := { row := fnExactFrameBytesUptoRow, standIns := [], harness := (true, "2dcce5df7bc3e028ad787f402ff258033608027cb6de3b62e89616a21f2c90d7"), looks := false }, kinds := [], alts := [], laidByText := true, laidKinds := [.data, .data, .data], laidTests := true, laidLooks := .later }
def FnExactFrameBytesUptoCardSaid : Prop := Claim7.holds Tryz.pinned (.plain (OpenSpec.upto fnExactFrameBytesSpec)) fnExactFrameBytesUptoCard

/-- THE SECOND FORM's CARD OF 'laws.FnExactLargestOn'. -/
def fnExactLargestOnUptoCard : Claim7 := { stood := { row := fnExactLargestOnUptoRow, standIns := [], harness := (true, "2dcce5df7bc3e028ad787f402ff258033608027cb6de3b62e89616a21f2c90d7"), looks := false }, kinds := [], alts := [], laidByText := true, laidKinds := [.data, .data, .data], laidTests := true, laidLooks := .later }
def FnExactLargestOnUptoCardSaid : Prop := Claim7.holds Tryz.pinned (.plain (OpenSpec.upto fnExactLargestOnSpec)) fnExactLargestOnUptoCard

/-- THE SECOND FORM's CARD OF 'laws.FnExactLongestOn'. -/
def fnExactLongestOnUptoCard : Claim7 := { stood := { row := fnExactLongestOnUptoRow, standIns := [], harness := (true, "2dcce5df7bc3e028ad787f402ff258033608027cb6de3b62e89616a21f2c90d7"), looks := false }, kinds := [], alts := [], laidByText := true, laidKinds := [.data, .data, .data], laidTests := true, laidLooks := .later }
def FnExactLongestOnUptoCardSaid : Prop := Claim7.holds Tryz.pinned (.plain (OpenSpec.upto fnExactLongestOnSpec)) fnExactLongestOnUptoCard

/-- THE SECOND FORM's CARD OF 'laws.FnExactNewFirst'. -/
def fnExactNewFirstUptoCard : Claim7 := { stood := { row := fnExactNewFirstUptoRow, standIns := [], harness := (true, "2dcce5df7bc3e028ad787f402ff258033608027cb6de3b62e89616a21f2c90d7"), looks := false }, kinds := [], alts := [], laidByText := true, laidKinds := [.data, .data, .data], laidTests := true, laidLooks := .later }
def FnExactNewFirstUptoCardSaid : Prop := Claim7.holds Tryz.pinned (.plain (OpenSpec.upto fnExactNewFirstSpec)) fnExactNewFirstUptoCard

/-- THE SECOND FORM's CARD OF 'laws.FnExactSameRow'. -/
def fnExactSameRowUptoCard : Claim7 := { stood := { row := fnExactSameRowUptoRow, standIns := [], harness := (true, "2dcce5df7bc3e028ad787f402ff258033608027cb6de3b62e89616a21f2c90d7"), looks := false }, kinds := [], alts := [], laidByText := true, laidKinds := [.data, .data, .data], laidTests := true, laidLooks := .later }
def FnExactSameRowUptoCardSaid : Prop := Claim7.holds Tryz.pinned (.plain (OpenSpec.upto fnExactSameRowSpec)) fnExactSameRowUptoCard

/-- THE SECOND FORM's CARD OF 'laws.FnExactCarryCost'. -/
def fnExactCarryCostUptoCard : Claim7 := { stood := { row := fnExactCarryCostUptoRow, standIns := [], harness := (true, "2dcce5df7bc3e028ad787f402ff258033608027cb6de3b62e89616a21f2c90d7"), looks := false }, kinds := [], alts := [], laidByText := true, laidKinds := [.data, .data, .data], laidTests := true, laidLooks := .later }
def FnExactCarryCostUptoCardSaid : Prop := Claim7.holds Tryz.pinned (.plain (OpenSpec.upto fnExactCarryCostSpec)) fnExactCarryCostUptoCard

/-- THE SECOND FORM's CARD OF 'laws.FnExactRowWithin'. -/
def fnExactRowWithinUptoCard : Claim7 := { stood := { row := fnExactRowWithinUptoRow, standIns := [], harness := (true, "2dcce5df7bc3e028ad787f402ff258033608027cb6de3b62e89616a21f2c90d7"), looks := false }, kinds := [], alts := [], laidByText := true, laidKinds := [.data, .data, .data], laidTests := true, laidLooks := .later }
def FnExactRowWithinUptoCardSaid : Prop := Claim7.holds Tryz.pinned (.plain (OpenSpec.upto fnExactRowWithinSpec)) fnExactRowWithinUptoCard

/-- THE SECOND FORM's CARD OF 'laws.FnExactSealedIn'. -/
def fnExactSealedInUptoCard : Claim7 := { stood := { row := fnExactSealedInUptoRow, standIns := [], harness := (true, "2dcce5df7bc3e028ad787f402ff258033608027cb6de3b62e89616a21f2c90d7"), looks := false }, kinds := [], alts := [], laidByText := true, laidKinds := [.data, .data, .data], laidTests := true, laidLooks := .later }
def FnExactSealedInUptoCardSaid : Prop := Claim7.holds Tryz.pinned (.plain (OpenSpec.upto fnExactSealedInSpec)) fnExactSealedInUptoCard

/-- THE SECOND FORM's CARD OF 'laws.FnExactReadsOn'. -/
def fnExactReadsOnUptoCard : Claim7 := { stood := { row := fnExactReadsOnUptoRow, standIns := [], harness := (true, "2dcce5df7bc3e028ad787f402ff258033608027cb6de3b62e89616a21f2c90d7"), looks := false }, kinds := [], alts := [], laidByText := true, laidKinds := [.data, .data, .data], laidTests := true, laidLooks := .later }
def FnExactReadsOnUptoCardSaid : Prop := Claim7.holds Tryz.pinned (.plain (OpenSpec.upto fnExactReadsOnSpec)) fnExactReadsOnUptoCard
end Rows
end Go.Proofs.YtpghckpkiookoaaGreatDoor
