/-
  No cell of these rows narrows 'for every input' (looked for: loops, veiled, ifaces, maps, wideKeys, modest, calm, conditions, laid).
  DERIVED. THE GIVEN ROWS OF THIS SEAT. 6 by the template 'for every input the law returns true; each argument reads behind the call as it read before'; 0 by the template 'total and deterministic' (their statements: YtbdlhemakfmadaaTotals.lean).
  GIVEN WITH THE SEED: the statements are not yours to turn. If you find one false, say at which input.
  Laid BY PROGRAM, IN A SANDBOX (cutbox-rows.mjs): the forced cells as the released guide's own fill.sh prints them over the translation f3ca7a3d6c74b724… (all of the seat's roots in one cut). By AI agents, Wed Nov 11 2026. No macro, syntax, notation, axiom, sorry.
-/
import Derived.Test.YtbdlhemakfmadaaChecked
import GoSem.Claim
import GoSem.ClaimJoined
import GoSem.ClaimMapViews
import Derived.JoinedTies
import Derived.KernelRfl
namespace Go.Proofs.Ytbdlhemakfmadaa
/- THE CELL 'sum', in the pinned program and in every row, IS THE sha256 OF THE DUMP (.gsa) THAT YtbdlhemakfmadaaProg.lean LOADS. Nothing in Lean hashes anything: it is a label: what it is worth is what the hold of that sum in a sandbox is worth. -/
noncomputable def Try.pinned : Pinned := { name := "ytbdlhemakfmadaa", sum := "f3ca7a3d6c74b7240e5027e52e6e98aa93ac420ad840b2c46c63af9537746a7a", checked := Try.checked }
namespace Rows
def none {H : Type} : Left H := { results := [], args := [] }

/-- 'laws.FnExactCodeName': WHATEVER THE INPUT: true; the input reads as it did. -/
def fnExactCodeNameSpec : ChangeSpec := { name := "fnExactCodeName", fn := fun _ => fun
  | [d] => { results := [.lit (.bool true)], args := [d] }
  | _ => none }
def fnExactCodeNameRow : OpenClaim := { program := "ytbdlhemakfmadaa", sum := "f3ca7a3d6c74b7240e5027e52e6e98aa93ac420ad840b2c46c63af9537746a7a", func := "loop.example/g00971/laws.FnExactCodeName", spec := "fnExactCodeName", apart := false }
def FnExactCodeNameSaid : Prop := fnExactCodeNameRow.holds Try.pinned (OpenSpec.ofChange fnExactCodeNameSpec)

/-- ITS FALSE NEIGHBOUR: 'it returns false'. Refute it at one input. -/
def fnExactCodeNameWrong : ChangeSpec := { name := "fnExactCodeName", fn := fun _ => fun
  | [d] => { results := [.lit (.bool false)], args := [d] }
  | _ => none }
def FnExactCodeNameWrongFalsely : Prop := fnExactCodeNameRow.holds Try.pinned (OpenSpec.ofChange fnExactCodeNameWrong)

/-- 'laws.FnExactRefused': WHATEVER THE INPUT: true; the input reads as it did. -/
def fnExactRefusedSpec : ChangeSpec := { name := "fnExactRefused", fn := fun _ => fun
  | [d] => { results := [.lit (.bool true)], args := [d] }
  | _ => none }
def fnExactRefusedRow : OpenClaim := { program := "ytbdlhemakfmadaa", sum := "f3ca7a3d6c74b7240e5027e52e6e98aa93ac420ad840b2c46c63af9537746a7a", func := "loop.example/g00971/laws.FnExactRefused", spec := "fnExactRefused", apart := false }
def FnExactRefusedSaid : Prop := fnExactRefusedRow.holds Try.pinned (OpenSpec.ofChange fnExactRefusedSpec)

/-- ITS FALSE NEIGHBOUR: 'it returns false'. Refute it at one input. -/
def fnExactRefusedWrong : ChangeSpec := { name := "fnExactRefused", fn := fun _ => fun
  | [d] => { results := [.lit (.bool false)], args := [d] }
  | _ => none }
def FnExactRefusedWrongFalsely : Prop := fnExactRefusedRow.holds Try.pinned (OpenSpec.ofChange fnExactRefusedWrong)

/-- 'laws.FnExactIsPrefix': WHATEVER THE INPUT: true; the input reads as it did. -/
def fnExactIsPrefixSpec : ChangeSpec := { name := "fnExactIsPrefix", fn := fun _ => fun
  | [d1, d2] => { results := [.lit (.bool true)], args := [d1, d2] }
  | _ => none }
def fnExactIsPrefixRow : OpenClaim := { program := "ytbdlhemakfmadaa", sum := "f3ca7a3d6c74b7240e5027e52e6e98aa93ac420ad840b2c46c63af9537746a7a", func := "loop.example/g00971/laws.FnExactIsPrefix", spec := "fnExactIsPrefix", apart := false }
def FnExactIsPrefixSaid : Prop := fnExactIsPrefixRow.holds Try.pinned (OpenSpec.ofChange fnExactIsPrefixSpec)

/-- ITS FALSE NEIGHBOUR: 'it returns false'. Refute it at one input. -/
def fnExactIsPrefixWrong : ChangeSpec := { name := "fnExactIsPrefix", fn := fun _ => fun
  | [d1, d2] => { results := [.lit (.bool false)], args := [d1, d2] }
  | _ => none }
def FnExactIsPrefixWrongFalsely : Prop := fnExactIsPrefixRow.holds Try.pinned (OpenSpec.ofChange fnExactIsPrefixWrong)

/-- 'laws.FnExactStuckWriter': WHATEVER THE INPUT: true; the input reads as it did. -/
def fnExactStuckWriterSpec : ChangeSpec := { name := "fnExactStuckWriter", fn := fun _ => fun
  | [d] => { results := [.lit (.bool true)], args := [d] }
  | _ => none }
def fnExactStuckWriterRow : OpenClaim := { program := "ytbdlhemakfmadaa", sum := "f3ca7a3d6c74b7240e5027e52e6e98aa93ac420ad840b2c46c63af9537746a7a", func := "loop.example/g00971/laws.FnExactStuckWriter", spec := "fnExactStuckWriter", apart := false }
def FnExactStuckWriterSaid : Prop := fnExactStuckWriterRow.holds Try.pinned (OpenSpec.ofChange fnExactStuckWriterSpec)

/-- ITS FALSE NEIGHBOUR: 'it returns false'. Refute it at one input. -/
def fnExactStuckWriterWrong : ChangeSpec := { name := "fnExactStuckWriter", fn := fun _ => fun
  | [d] => { results := [.lit (.bool false)], args := [d] }
  | _ => none }
def FnExactStuckWriterWrongFalsely : Prop := fnExactStuckWriterRow.holds Try.pinned (OpenSpec.ofChange fnExactStuckWriterWrong)

/-- 'laws.FnExactFallsIn': WHATEVER THE INPUT: true; the input reads as it did. -/
def fnExactFallsInSpec : ChangeSpec := { name := "fnExactFallsIn", fn := fun _ => fun
  | [d] => { results := [.lit (.bool true)], args := [d] }
  | _ => none }
def fnExactFallsInRow : OpenClaim := { program := "ytbdlhemakfmadaa", sum := "f3ca7a3d6c74b7240e5027e52e6e98aa93ac420ad840b2c46c63af9537746a7a", func := "loop.example/g00971/laws.FnExactFallsIn", spec := "fnExactFallsIn", unfollowed := true, recurses := true, apart := false }
def FnExactFallsInSaid : Prop := fnExactFallsInRow.holds Try.pinned (OpenSpec.ofChange fnExactFallsInSpec)

/-- ITS FALSE NEIGHBOUR: 'it returns false'. Refute it at one input. -/
def fnExactFallsInWrong : ChangeSpec := { name := "fnExactFallsIn", fn := fun _ => fun
  | [d] => { results := [.lit (.bool false)], args := [d] }
  | _ => none }
def FnExactFallsInWrongFalsely : Prop := fnExactFallsInRow.holds Try.pinned (OpenSpec.ofChange fnExactFallsInWrong)

/-- 'laws.FnExactQuiet': WHATEVER THE INPUT: true; the input reads as it did. -/
def fnExactQuietSpec : ChangeSpec := { name := "fnExactQuiet", fn := fun _ => fun
  | [d] => { results := [.lit (.bool true)], args := [d] }
  | _ => none }
def fnExactQuietRow : OpenClaim := { program := "ytbdlhemakfmadaa", sum := "f3ca7a3d6c74b7240e5027e52e6e98aa93ac420ad840b2c46c63af9537746a7a", func := "loop.example/g00971/laws.FnExactQuiet", spec := "fnExactQuiet", unfollowed := true, recurses := true, apart := false }
def FnExactQuietSaid : Prop := fnExactQuietRow.holds Try.pinned (OpenSpec.ofChange fnExactQuietSpec)

/-- ITS FALSE NEIGHBOUR: 'it returns false'. Refute it at one input. -/
def fnExactQuietWrong : ChangeSpec := { name := "fnExactQuiet", fn := fun _ => fun
  | [d] => { results := [.lit (.bool false)], args := [d] }
  | _ => none }
def FnExactQuietWrongFalsely : Prop := fnExactQuietRow.holds Try.pinned (OpenSpec.ofChange fnExactQuietWrong)

/- THE SECOND FORM. 'bulk': how many values and letters a reading holds, each counted each time it is reached (what is shared counts as often as it is met; a slice's spare places count too). A statement '..UptoSaid' is the law's where the arguments, and the package variables that the reading takes, are together of bulk at most 1048576: NARROWER than '..Said'. Prove '..Said' where nothing that the law and all that it calls make is longer than what came in: it says more and counts as full. Else prove '..UptoSaid'. A law counts once. -/
mutual
def uptoBulk {H : Type} : DataW H → Nat
  | .lit (.string bytes) => bytes.length + 1
  | .lit _ => 1
  | .nil => 1
  | .ptr d => uptoBulk d + 1
  | .slice elems spare => uptoBulkAll elems + uptoBulkAll spare + 1
  | .agg parts => uptoBulkAll parts + 1
  | .iface _ d => uptoBulk d + 1
  | .map entries => uptoBulkEntries entries + 1
  | .held _ => 1
def uptoBulkAll {H : Type} : List (DataW H) → Nat
  | [] => 0
  | d :: r => uptoBulk d + uptoBulkAll r
def uptoBulkEntries {H : Type} : List (Lit × DataW H) → Nat
  | [] => 0
  | x :: r => uptoBulkEntry x + uptoBulkEntries r
def uptoBulkEntry {H : Type} : Lit × DataW H → Nat
  | (.string bytes, d) => bytes.length + uptoBulk d + 1
  | (_, d) => uptoBulk d + 1
 end
def uptoSmall : (H : Type) → List (DataW H) → Bool := fun _ ds => decide (uptoBulkAll ds ≤ 1048576)
def OpenSpec.upto (s : _root_.Go.ChangeSpec) : _root_.Go.OpenSpec := { _root_.Go.OpenSpec.ofChange s with cond := some uptoSmall }

/-- 'laws.FnExactCodeName', WHERE WHAT IT READS IS OF BULK AT MOST 1048576: true; the input reads as it did. -/
def fnExactCodeNameUptoRow : OpenClaim := { program := "ytbdlhemakfmadaa", sum := "f3ca7a3d6c74b7240e5027e52e6e98aa93ac420ad840b2c46c63af9537746a7a", func := "loop.example/g00971/laws.FnExactCodeName", spec := "fnExactCodeName", apart := false, narrowed := true }
def FnExactCodeNameUptoSaid : Prop := fnExactCodeNameUptoRow.holds Try.pinned (OpenSpec.upto fnExactCodeNameSpec)

/-- 'laws.FnExactRefused', WHERE WHAT IT READS IS OF BULK AT MOST 1048576: true; the input reads as it did. -/
def fnExactRefusedUptoRow : OpenClaim := { program := "ytbdlhemakfmadaa", sum := "f3ca7a3d6c74b7240e5027e52e6e98aa93ac420ad840b2c46c63af9537746a7a", func := "loop.example/g00971/laws.FnExactRefused", spec := "fnExactRefused", apart := false, narrowed := true }
def FnExactRefusedUptoSaid : Prop := fnExactRefusedUptoRow.holds Try.pinned (OpenSpec.upto fnExactRefusedSpec)

/-- 'laws.FnExactIsPrefix', WHERE WHAT IT READS IS OF BULK AT MOST 1048576: true; the input reads as it did. -/
def fnExactIsPrefixUptoRow : OpenClaim := { program := "ytbdlhemakfmadaa", sum := "f3ca7a3d6c74b7240e5027e52e6e98aa93ac420ad840b2c46c63af9537746a7a", func := "loop.example/g00971/laws.FnExactIsPrefix", spec := "fnExactIsPrefix", apart := false, narrowed := true }
def FnExactIsPrefixUptoSaid : Prop := fnExactIsPrefixUptoRow.holds Try.pinned (OpenSpec.upto fnExactIsPrefixSpec)

/-- 'laws.FnExactStuckWriter', WHERE WHAT IT READS IS OF BULK AT MOST 1048576: true; the input reads as it did. -/
def fnExactStuckWriterUptoRow : OpenClaim := { program := "ytbdlhemakfmadaa", sum := "f3ca7a3d6c74b7240e5027e52e6e98aa93ac420ad840b2c46c63af9537746a7a", func := "loop.example/g00971/laws.FnExactStuckWriter", spec := "fnExactStuckWriter", apart := false, narrowed := true }
def FnExactStuckWriterUptoSaid : Prop := fnExactStuckWriterUptoRow.holds Try.pinned (OpenSpec.upto fnExactStuckWriterSpec)

/-- 'laws.FnExactFallsIn', WHERE WHAT IT READS IS OF BULK AT MOST 1048576: true; the input reads as it did. -/
def fnExactFallsInUptoRow : OpenClaim := { program := "ytbdlhemakfmadaa", sum := "f3ca7a3d6c74b7240e5027e52e6e98aa93ac420ad840b2c46c63af9537746a7a", func := "loop.example/g00971/laws.FnExactFallsIn", spec := "fnExactFallsIn", unfollowed := true, recurses := true, apart := false, narrowed := true }
def FnExactFallsInUptoSaid : Prop := fnExactFallsInUptoRow.holds Try.pinned (OpenSpec.upto fnExactFallsInSpec)

/-- 'laws.FnExactQuiet', WHERE WHAT IT READS IS OF BULK AT MOST 1048576: true; the input reads as it did. -/
def fnExactQuietUptoRow : OpenClaim := { program := "ytbdlhemakfmadaa", sum := "f3ca7a3d6c74b7240e5027e52e6e98aa93ac420ad840b2c46c63af9537746a7a", func := "loop.example/g00971/laws.FnExactQuiet", spec := "fnExactQuiet", unfollowed := true, recurses := true, apart := false, narrowed := true }
def FnExactQuietUptoSaid : Prop := fnExactQuietUptoRow.holds Try.pinned (OpenSpec.upto fnExactQuietSpec)

end Rows
end Go.Proofs.Ytbdlhemakfmadaa
