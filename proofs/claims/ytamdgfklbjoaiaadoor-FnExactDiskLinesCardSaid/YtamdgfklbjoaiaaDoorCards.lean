/-
  DERIVED. GIVEN WITH THE SEED: THE CARDS: each row of YtamdgfklbjoaiaaDoorRows.lean that lists a variable, with what it lists TIED to the program's text (the seventh form; the later family's looks); each row that meets fmt, with fmt's text TOLD by the authors' own Lean function (tested against real Go, not proved from fmt's source: count such statements apart). THE CARD IS WHAT COUNTS. Prove the row's statement (the work); the ties are given (YtamdgfklbjoaiaaDoorTie.lean); close each card by the builder's one call (the guide's Derived/Test/ToyasCard.lean, 'card_holds'). Laid BY PROGRAM, IN A SANDBOX (cutbox-door.mjs). By AI agents, Wed Nov 11 2026. No macro, syntax, notation, axiom, sorry.
-/
import Derived.Test.YtamdgfklbjoaiaaDoorRows
import GoSem.ClaimSeven
namespace Go.Proofs.YtamdgfklbjoaiaaDoor
namespace Rows

/-- THE TIED CARD OF 'laws.FnExactSetLine'. -/
def fnExactSetLineCard : Claim7 := { stood := { row := fnExactSetLineRow, standIns := [], harness := (true, "5fee6b4eb8cc3298eda730eb776605b43be4fdadc8a7b0c01ad06cad03bab8ab"), looks := false }, kinds := [], alts := [], laidByText := true, laidKinds := [.data, .data, .data], laidTests := true, laidLooks := .later }
def FnExactSetLineCardSaid : Prop := Claim7.holds Tryd.pinned (.plain (OpenSpec.ofChange fnExactSetLineSpec)) fnExactSetLineCard

/-- THE TIED CARD OF 'laws.FnExactOpLine'. -/
def fnExactOpLineCard : Claim7 := { stood := { row := fnExactOpLineRow, standIns := [], harness := (true, "5fee6b4eb8cc3298eda730eb776605b43be4fdadc8a7b0c01ad06cad03bab8ab"), looks := false }, kinds := [], alts := [], laidByText := true, laidKinds := [.data, .data, .data], laidTests := true, laidLooks := .later }
def FnExactOpLineCardSaid : Prop := Claim7.holds Tryd.pinned (.plain (OpenSpec.ofChange fnExactOpLineSpec)) fnExactOpLineCard

/-- THE TIED CARD OF 'laws.FnExactActLine'. -/
def fnExactActLineCard : Claim7 := { stood := { row := fnExactActLineRow, standIns := [], harness := (true, "5fee6b4eb8cc3298eda730eb776605b43be4fdadc8a7b0c01ad06cad03bab8ab"), looks := false }, kinds := [], alts := [], laidByText := true, laidKinds := [.data, .data, .data], laidTests := true, laidLooks := .later }
def FnExactActLineCardSaid : Prop := Claim7.holds Tryd.pinned (.plain (OpenSpec.ofChange fnExactActLineSpec)) fnExactActLineCard

/-- THE TIED CARD OF 'laws.FnExactDiskLines'. -/
def fnExactDiskLinesCard : Claim7 := { stood := { row := fnExactDiskLinesRow, standIns := [], harness := (true, "5fee6b4eb8cc3298eda730eb776605b43be4fdadc8a7b0c01ad06cad03bab8ab"), looks := false }, kinds := [], alts := [], laidByText := true, laidKinds := [.data, .data, .data], laidTests := true, laidLooks := .later }
def FnExactDiskLinesCardSaid : Prop := Claim7.holds Tryd.pinned (.plain (OpenSpec.ofChange fnExactDiskLinesSpec)) fnExactDiskLinesCard

/-- THE SECOND FORM's CARD OF 'laws.FnExactSetLine'. -/
def fnExactSetLineUptoCard : Claim7 := { stood := { row := fnExactSetLineUptoRow, standIns := [], harness := (true, "5fee6b4eb8cc3298eda730eb776605b43be4fdadc8a7b0c01ad06cad03bab8ab"), looks := false }, kinds := [], alts := [], laidByText := true, laidKinds := [.data, .data, .data], laidTests := true, laidLooks := .later }
def FnExactSetLineUptoCardSaid : Prop := Claim7.holds Tryd.pinned (.plain (OpenSpec.upto fnExactSetLineSpec)) fnExactSetLineUptoCard

/-- THE SECOND FORM's CARD OF 'laws.FnExactOpLine'. -/
def fnExactOpLineUptoCard : Claim7 := { stood := { row := fnExactOpLineUptoRow, standIns := [], harness := (true, "5fee6b4eb8cc3298eda730eb776605b43be4fdadc8a7b0c01ad06cad03bab8ab"), looks := false }, kinds := [], alts := [], laidByText := true, laidKinds := [.data, .data, .data], laidTests := true, laidLooks := .later }
def FnExactOpLineUptoCardSaid : Prop := Claim7.holds Tryd.pinned (.plain (OpenSpec.upto fnExactOpLineSpec)) fnExactOpLineUptoCard

/-- THE SECOND FORM's CARD OF 'laws.FnExactActLine'. -/
def fnExactActLineUptoCard : Claim7 := { stood := { row := fnExactActLineUptoRow, standIns := [], harness := (true, "5fee6b4eb8cc3298eda730eb776605b43be4fdadc8a7b0c01ad06cad03bab8ab"), looks := false }, kinds := [], alts := [], laidByText := true, laidKinds := [.data, .data, .data], laidTests := true, laidLooks := .later }
def FnExactActLineUptoCardSaid : Prop := Claim7.holds Tryd.pinned (.plain (OpenSpec.upto fnExactActLineSpec)) fnExactActLineUptoCard

/-- THE SECOND FORM's CARD OF 'laws.FnExactDiskLines'. -/
def fnExactDiskLinesUptoCard : Claim7 := { stood := { row := fnExactDiskLinesUptoRow, standIns := [], harness := (true, "5fee6b4eb8cc3298eda730eb776605b43be4fdadc8a7b0c01ad06cad03bab8ab"), looks := false }, kinds := [], alts := [], laidByText := true, laidKinds := [.data, .data, .data], laidTests := true, laidLooks := .later }
def FnExactDiskLinesUptoCardSaid : Prop := Claim7.holds Tryd.pinned (.plain (OpenSpec.upto fnExactDiskLinesSpec)) fnExactDiskLinesUptoCard
end Rows
end Go.Proofs.YtamdgfklbjoaiaaDoor
