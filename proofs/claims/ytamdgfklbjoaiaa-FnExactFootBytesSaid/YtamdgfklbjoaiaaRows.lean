/-
  No cell of these rows narrows 'for every input' (looked for: loops, veiled, ifaces, maps, wideKeys, modest, calm, conditions, laid).
  DERIVED. THE GIVEN ROWS OF THIS SEAT. 8 by the template 'for every input the law returns true; each argument reads behind the call as it read before'; 0 by the template 'total and deterministic' (their statements: YtamdgfklbjoaiaaTotals.lean).
  GIVEN WITH THE SEED: the statements are not yours to turn. If you find one false, say at which input.
  Laid BY PROGRAM, IN A SANDBOX (cutbox-rows.mjs): the forced cells as the released guide's own fill.sh prints them over the translation fde07152ee7e1f61… (all of the seat's roots in one cut). By AI agents, Wed Nov 11 2026. No macro, syntax, notation, axiom, sorry.
-/
import Derived.Test.YtamdgfklbjoaiaaChecked
import GoSem.Claim
import GoSem.ClaimJoined
import GoSem.ClaimMapViews
import Derived.JoinedTies
import Derived.KernelRfl
namespace Go.Proofs.Ytamdgfklbjoaiaa
/- THE CELL 'sum', in the pinned program and in every row, IS THE sha256 OF THE DUMP (.gsa) THAT YtamdgfklbjoaiaaProg.lean LOADS. Nothing in Lean hashes anything: it is a label: what it is worth is what the hold of that sum in a sandbox is worth. -/
noncomputable def Try.pinned : Pinned := { name := "ytamdgfklbjoaiaa", sum := "fde07152ee7e1f61c3f251cbf2a177abbf22c5291c4d68b4586d8f0ff12e229d", checked := Try.checked }
namespace Rows
def none {H : Type} : Left H := { results := [], args := [] }

/-- 'laws.FnExactFrameMore': WHATEVER THE INPUT: true; the input reads as it did. -/
def fnExactFrameMoreSpec : ChangeSpec := { name := "fnExactFrameMore", fn := fun _ => fun
  | [d] => { results := [.lit (.bool true)], args := [d] }
  | _ => none }
def fnExactFrameMoreRow : OpenClaim := { program := "ytamdgfklbjoaiaa", sum := "fde07152ee7e1f61c3f251cbf2a177abbf22c5291c4d68b4586d8f0ff12e229d", func := "loop.example/g00971/laws.FnExactFrameMore", spec := "fnExactFrameMore", apart := false }
def FnExactFrameMoreSaid : Prop := fnExactFrameMoreRow.holds Try.pinned (OpenSpec.ofChange fnExactFrameMoreSpec)

/-- ITS FALSE NEIGHBOUR: 'it returns false'. Refute it at one input. -/
def fnExactFrameMoreWrong : ChangeSpec := { name := "fnExactFrameMore", fn := fun _ => fun
  | [d] => { results := [.lit (.bool false)], args := [d] }
  | _ => none }
def FnExactFrameMoreWrongFalsely : Prop := fnExactFrameMoreRow.holds Try.pinned (OpenSpec.ofChange fnExactFrameMoreWrong)

/-- 'laws.FnExactSyncedOf': WHATEVER THE INPUT: true; the input reads as it did. -/
def fnExactSyncedOfSpec : ChangeSpec := { name := "fnExactSyncedOf", fn := fun _ => fun
  | [d1, d2] => { results := [.lit (.bool true)], args := [d1, d2] }
  | _ => none }
def fnExactSyncedOfRow : OpenClaim := { program := "ytamdgfklbjoaiaa", sum := "fde07152ee7e1f61c3f251cbf2a177abbf22c5291c4d68b4586d8f0ff12e229d", func := "loop.example/g00971/laws.FnExactSyncedOf", spec := "fnExactSyncedOf", apart := false }
def FnExactSyncedOfSaid : Prop := fnExactSyncedOfRow.holds Try.pinned (OpenSpec.ofChange fnExactSyncedOfSpec)

/-- ITS FALSE NEIGHBOUR: 'it returns false'. Refute it at one input. -/
def fnExactSyncedOfWrong : ChangeSpec := { name := "fnExactSyncedOf", fn := fun _ => fun
  | [d1, d2] => { results := [.lit (.bool false)], args := [d1, d2] }
  | _ => none }
def FnExactSyncedOfWrongFalsely : Prop := fnExactSyncedOfRow.holds Try.pinned (OpenSpec.ofChange fnExactSyncedOfWrong)

/-- 'laws.FnExactFindingLines': WHATEVER THE INPUT: true; the input reads as it did. -/
def fnExactFindingLinesSpec : ChangeSpec := { name := "fnExactFindingLines", fn := fun _ => fun
  | [d] => { results := [.lit (.bool true)], args := [d] }
  | _ => none }
def fnExactFindingLinesRow : OpenClaim := { program := "ytamdgfklbjoaiaa", sum := "fde07152ee7e1f61c3f251cbf2a177abbf22c5291c4d68b4586d8f0ff12e229d", func := "loop.example/g00971/laws.FnExactFindingLines", spec := "fnExactFindingLines", apart := false }
def FnExactFindingLinesSaid : Prop := fnExactFindingLinesRow.holds Try.pinned (OpenSpec.ofChange fnExactFindingLinesSpec)

/-- ITS FALSE NEIGHBOUR: 'it returns false'. Refute it at one input. -/
def fnExactFindingLinesWrong : ChangeSpec := { name := "fnExactFindingLines", fn := fun _ => fun
  | [d] => { results := [.lit (.bool false)], args := [d] }
  | _ => none }
def FnExactFindingLinesWrongFalsely : Prop := fnExactFindingLinesRow.holds Try.pinned (OpenSpec.ofChange fnExactFindingLinesWrong)

/-- 'laws.FnExactTakenOf': WHATEVER THE INPUT: true; the input reads as it did. -/
def fnExactTakenOfSpec : ChangeSpec := { name := "fnExactTakenOf", fn := fun _ => fun
  | [d1, d2] => { results := [.lit (.bool true)], args := [d1, d2] }
  | _ => none }
def fnExactTakenOfRow : OpenClaim := { program := "ytamdgfklbjoaiaa", sum := "fde07152ee7e1f61c3f251cbf2a177abbf22c5291c4d68b4586d8f0ff12e229d", func := "loop.example/g00971/laws.FnExactTakenOf", spec := "fnExactTakenOf", apart := false }
def FnExactTakenOfSaid : Prop := fnExactTakenOfRow.holds Try.pinned (OpenSpec.ofChange fnExactTakenOfSpec)

/-- ITS FALSE NEIGHBOUR: 'it returns false'. Refute it at one input. -/
def fnExactTakenOfWrong : ChangeSpec := { name := "fnExactTakenOf", fn := fun _ => fun
  | [d1, d2] => { results := [.lit (.bool false)], args := [d1, d2] }
  | _ => none }
def FnExactTakenOfWrongFalsely : Prop := fnExactTakenOfRow.holds Try.pinned (OpenSpec.ofChange fnExactTakenOfWrong)

/-- 'laws.FnExactRoomLeft': WHATEVER THE INPUT: true; the input reads as it did. -/
def fnExactRoomLeftSpec : ChangeSpec := { name := "fnExactRoomLeft", fn := fun _ => fun
  | [d] => { results := [.lit (.bool true)], args := [d] }
  | _ => none }
def fnExactRoomLeftRow : OpenClaim := { program := "ytamdgfklbjoaiaa", sum := "fde07152ee7e1f61c3f251cbf2a177abbf22c5291c4d68b4586d8f0ff12e229d", func := "loop.example/g00971/laws.FnExactRoomLeft", spec := "fnExactRoomLeft", apart := false }
def FnExactRoomLeftSaid : Prop := fnExactRoomLeftRow.holds Try.pinned (OpenSpec.ofChange fnExactRoomLeftSpec)

/-- ITS FALSE NEIGHBOUR: 'it returns false'. Refute it at one input. -/
def fnExactRoomLeftWrong : ChangeSpec := { name := "fnExactRoomLeft", fn := fun _ => fun
  | [d] => { results := [.lit (.bool false)], args := [d] }
  | _ => none }
def FnExactRoomLeftWrongFalsely : Prop := fnExactRoomLeftRow.holds Try.pinned (OpenSpec.ofChange fnExactRoomLeftWrong)

/-- 'laws.FnExactCostOf': WHATEVER THE INPUT: true; the input reads as it did. -/
def fnExactCostOfSpec : ChangeSpec := { name := "fnExactCostOf", fn := fun _ => fun
  | [d1, d2] => { results := [.lit (.bool true)], args := [d1, d2] }
  | _ => none }
def fnExactCostOfRow : OpenClaim := { program := "ytamdgfklbjoaiaa", sum := "fde07152ee7e1f61c3f251cbf2a177abbf22c5291c4d68b4586d8f0ff12e229d", func := "loop.example/g00971/laws.FnExactCostOf", spec := "fnExactCostOf", inPlace := ["internal/abi.NoEscape"], apart := false }
def FnExactCostOfSaid : Prop := fnExactCostOfRow.holds Try.pinned (OpenSpec.ofChange fnExactCostOfSpec)

/-- ITS FALSE NEIGHBOUR: 'it returns false'. Refute it at one input. -/
def fnExactCostOfWrong : ChangeSpec := { name := "fnExactCostOf", fn := fun _ => fun
  | [d1, d2] => { results := [.lit (.bool false)], args := [d1, d2] }
  | _ => none }
def FnExactCostOfWrongFalsely : Prop := fnExactCostOfRow.holds Try.pinned (OpenSpec.ofChange fnExactCostOfWrong)

/-- 'laws.FnExactSureRow': WHATEVER THE INPUT: true; the input reads as it did. -/
def fnExactSureRowSpec : ChangeSpec := { name := "fnExactSureRow", fn := fun _ => fun
  | [d] => { results := [.lit (.bool true)], args := [d] }
  | _ => none }
def fnExactSureRowRow : OpenClaim := { program := "ytamdgfklbjoaiaa", sum := "fde07152ee7e1f61c3f251cbf2a177abbf22c5291c4d68b4586d8f0ff12e229d", func := "loop.example/g00971/laws.FnExactSureRow", spec := "fnExactSureRow", apart := false }
def FnExactSureRowSaid : Prop := fnExactSureRowRow.holds Try.pinned (OpenSpec.ofChange fnExactSureRowSpec)

/-- ITS FALSE NEIGHBOUR: 'it returns false'. Refute it at one input. -/
def fnExactSureRowWrong : ChangeSpec := { name := "fnExactSureRow", fn := fun _ => fun
  | [d] => { results := [.lit (.bool false)], args := [d] }
  | _ => none }
def FnExactSureRowWrongFalsely : Prop := fnExactSureRowRow.holds Try.pinned (OpenSpec.ofChange fnExactSureRowWrong)

/-- 'laws.FnExactFootBytes': WHATEVER THE INPUT: true; the input reads as it did. -/
def fnExactFootBytesSpec : ChangeSpec := { name := "fnExactFootBytes", fn := fun _ => fun
  | [d] => { results := [.lit (.bool true)], args := [d] }
  | _ => none }
def fnExactFootBytesRow : OpenClaim := { program := "ytamdgfklbjoaiaa", sum := "fde07152ee7e1f61c3f251cbf2a177abbf22c5291c4d68b4586d8f0ff12e229d", func := "loop.example/g00971/laws.FnExactFootBytes", spec := "fnExactFootBytes", inPlace := ["internal/abi.NoEscape"], unfollowed := true, recurses := true, apart := false }
def FnExactFootBytesSaid : Prop := fnExactFootBytesRow.holds Try.pinned (OpenSpec.ofChange fnExactFootBytesSpec)

/-- ITS FALSE NEIGHBOUR: 'it returns false'. Refute it at one input. -/
def fnExactFootBytesWrong : ChangeSpec := { name := "fnExactFootBytes", fn := fun _ => fun
  | [d] => { results := [.lit (.bool false)], args := [d] }
  | _ => none }
def FnExactFootBytesWrongFalsely : Prop := fnExactFootBytesRow.holds Try.pinned (OpenSpec.ofChange fnExactFootBytesWrong)

/- THE SECOND FORM. 'bulk': how many values and letters a reading holds, each counted each time it is reached (what is shared counts as often as it is met; a slice's spare places count too). A statement '..UptoSaid' is the law's where the arguments, and the package variables that the reading takes, are together of bulk at most 1048576: NARROWER than '..Said'. Prove '..Said' where nothing that the law and all that it calls make is longer than what came in: it says more and counts as full. Else prove '..UptoSaid'. A law counts once. -/
mutual
def uptoBulk {H : Type} : DataW H → Nat
  | .lit (.string bytes) => bytes.length + 1
  | .lit _ => 1
  | .nil => 1
  | .ptr d => uptoBulk d + 1
  | .slice elems spare => uptoBulkAll elems + uptoBulkAll spare + 1
  | .agg parts => uptoBulkAll parts + 1
  | .iface _ d => uptoBulk d + 1
  | .map entries => uptoBulkEntries entries + 1
  | .held _ => 1
def uptoBulkAll {H : Type} : List (DataW H) → Nat
  | [] => 0
  | d :: r => uptoBulk d + uptoBulkAll r
def uptoBulkEntries {H : Type} : List (Lit × DataW H) → Nat
  | [] => 0
  | x :: r => uptoBulkEntry x + uptoBulkEntries r
def uptoBulkEntry {H : Type} : Lit × DataW H → Nat
  | (.string bytes, d) => bytes.length + uptoBulk d + 1
  | (_, d) => uptoBulk d + 1
 end
def uptoSmall : (H : Type) → List (DataW H) → Bool := fun _ ds => decide (uptoBulkAll ds ≤ 1048576)
def OpenSpec.upto (s : _root_.Go.ChangeSpec) : _root_.Go.OpenSpec := { _root_.Go.OpenSpec.ofChange s with cond := some uptoSmall }

/-- 'laws.FnExactFrameMore', WHERE WHAT IT READS IS OF BULK AT MOST 1048576: true; the input reads as it did. -/
def fnExactFrameMoreUptoRow : OpenClaim := { program := "ytamdgfklbjoaiaa", sum := "fde07152ee7e1f61c3f251cbf2a177abbf22c5291c4d68b4586d8f0ff12e229d", func := "loop.example/g00971/laws.FnExactFrameMore", spec := "fnExactFrameMore", apart := false, narrowed := true }
def FnExactFrameMoreUptoSaid : Prop := fnExactFrameMoreUptoRow.holds Try.pinned (OpenSpec.upto fnExactFrameMoreSpec)

/-- 'laws.FnExactSyncedOf', WHERE WHAT IT READS IS OF BULK AT MOST 1048576: true; the input reads as it did. -/
def fnExactSyncedOfUptoRow : OpenClaim := { program := "ytamdgfklbjoaiaa", sum := "fde07152ee7e1f61c3f251cbf2a177abbf22c5291c4d68b4586d8f0ff12e229d", func := "loop.example/g00971/laws.FnExactSyncedOf", spec := "fnExactSyncedOf", apart := false, narrowed := true }
def FnExactSyncedOfUptoSaid : Prop := fnExactSyncedOfUptoRow.holds Try.pinned (OpenSpec.upto fnExactSyncedOfSpec)

/-- 'laws.FnExactFindingLines', WHERE WHAT IT READS IS OF BULK AT MOST 1048576: true; the input reads as it did. -/
def fnExactFindingLinesUptoRow : OpenClaim := { program := "ytamdgfklbjoaiaa", sum := "fde07152ee7e1f61c3f251cbf2a177abbf22c5291c4d68b4586d8f0ff12e229d", func := "loop.example/g00971/laws.FnExactFindingLines", spec := "fnExactFindingLines", apart := false, narrowed := true }
def FnExactFindingLinesUptoSaid : Prop := fnExactFindingLinesUptoRow.holds Try.pinned (OpenSpec.upto fnExactFindingLinesSpec)

/-- 'laws.FnExactTakenOf', WHERE WHAT IT READS IS OF BULK AT MOST 1048576: true; the input reads as it did. -/
def fnExactTakenOfUptoRow : OpenClaim := { program := "ytamdgfklbjoaiaa", sum := "fde07152ee7e1f61c3f251cbf2a177abbf22c5291c4d68b4586d8f0ff12e229d", func := "loop.example/g00971/laws.FnExactTakenOf", spec := "fnExactTakenOf", apart := false, narrowed := true }
def FnExactTakenOfUptoSaid : Prop := fnExactTakenOfUptoRow.holds Try.pinned (OpenSpec.upto fnExactTakenOfSpec)

/-- 'laws.FnExactRoomLeft', WHERE WHAT IT READS IS OF BULK AT MOST 1048576: true; the input reads as it did. -/
def fnExactRoomLeftUptoRow : OpenClaim := { program := "ytamdgfklbjoaiaa", sum := "fde07152ee7e1f61c3f251cbf2a177abbf22c5291c4d68b4586d8f0ff12e229d", func := "loop.example/g00971/laws.FnExactRoomLeft", spec := "fnExactRoomLeft", apart := false, narrowed := true }
def FnExactRoomLeftUptoSaid : Prop := fnExactRoomLeftUptoRow.holds Try.pinned (OpenSpec.upto fnExactRoomLeftSpec)

/-- 'laws.FnExactCostOf', WHERE WHAT IT READS IS OF BULK AT MOST 1048576: true; the input reads as it did. -/
def fnExactCostOfUptoRow : OpenClaim := { program := "ytamdgfklbjoaiaa", sum := "fde07152ee7e1f61c3f251cbf2a177abbf22c5291c4d68b4586d8f0ff12e229d", func := "loop.example/g00971/laws.FnExactCostOf", spec := "fnExactCostOf", inPlace := ["internal/abi.NoEscape"], apart := false, narrowed := true }
def FnExactCostOfUptoSaid : Prop := fnExactCostOfUptoRow.holds Try.pinned (OpenSpec.upto fnExactCostOfSpec)

/-- 'laws.FnExactSureRow', WHERE WHAT IT READS IS OF BULK AT MOST 1048576: true; the input reads as it did. -/
def fnExactSureRowUptoRow : OpenClaim := { program := "ytamdgfklbjoaiaa", sum := "fde07152ee7e1f61c3f251cbf2a177abbf22c5291c4d68b4586d8f0ff12e229d", func := "loop.example/g00971/laws.FnExactSureRow", spec := "fnExactSureRow", apart := false, narrowed := true }
def FnExactSureRowUptoSaid : Prop := fnExactSureRowUptoRow.holds Try.pinned (OpenSpec.upto fnExactSureRowSpec)

/-- 'laws.FnExactFootBytes', WHERE WHAT IT READS IS OF BULK AT MOST 1048576: true; the input reads as it did. -/
def fnExactFootBytesUptoRow : OpenClaim := { program := "ytamdgfklbjoaiaa", sum := "fde07152ee7e1f61c3f251cbf2a177abbf22c5291c4d68b4586d8f0ff12e229d", func := "loop.example/g00971/laws.FnExactFootBytes", spec := "fnExactFootBytes", inPlace := ["internal/abi.NoEscape"], unfollowed := true, recurses := true, apart := false, narrowed := true }
def FnExactFootBytesUptoSaid : Prop := fnExactFootBytesUptoRow.holds Try.pinned (OpenSpec.upto fnExactFootBytesSpec)

end Rows
end Go.Proofs.Ytamdgfklbjoaiaa
