/-
  NARROWER THAN 'FOR EVERY INPUT', by the rows' own cells (each row's printed sentence says how): FnExactFrameBytes: laid · FnExactLargestOn: laid · FnExactLongestOn: laid · FnExactNewFirst: laid · FnExactSameRow: laid · FnExactCarryCost: laid · FnExactRowWithin: laid · FnExactSealedIn: laid · FnExactReadsOn: laid.
  DERIVED. THE GIVEN ROWS OF THIS SEAT. 9 by the template 'for every input the law returns true; each argument reads behind the call as it read before'; 0 by the template 'total and deterministic' (their statements: YtpghckpkiookoaaGreatDoorTotals.lean).
  GIVEN WITH THE SEED: the statements are not yours to turn. If you find one false, say at which input.
  Laid BY PROGRAM, IN A SANDBOX (cutbox-rows.mjs): the forced cells as the released guide's own fill.sh prints them over the translation ea0d329611602b87… (all of the seat's roots in one cut). By AI agents, Wed Nov 11 2026. No macro, syntax, notation, axiom, sorry.
-/
import Derived.Test.YtpghckpkiookoaaGreatDoorChecked
import GoSem.Claim
import GoSem.ClaimJoined
import GoSem.ClaimMapViews
import Derived.JoinedTies
import Derived.KernelRfl
namespace Go.Proofs.YtpghckpkiookoaaGreatDoor
/- THE CELL 'sum', in the pinned program and in every row, IS THE sha256 OF THE DUMP (.gsa) THAT YtpghckpkiookoaaGreatDoorProg.lean LOADS. Nothing in Lean hashes anything: it is a label: what it is worth is what the hold of that sum in a sandbox is worth. -/
noncomputable def Tryz.pinned : Pinned := { name := "ytpghckpkiookoaagreatdoor", sum := "ea0d329611602b8741b37d4412e38145f8a57f18061359ee7c2120ec23d06add", checked := Tryz.checked }
namespace Rows
def none {H : Type} : Left H := { results := [], args := [] }

/- WHAT THE LISTED PACKAGE-LEVEL VARIABLES READ AS WHEN THE CALL BEGINS. Each datum BY PROGRAM (the guide's laid-datum.mjs) off the statement by which the dump's own 'gosem.cut.vars' lays the variable. In a bare row this is a premise. The card (YtpghckpkiookoaaGreatDoorCards.lean) ties it to the program's text. -/
def laid_math_bits_deBruijn32tab {H : Type} : DataW H := .agg [.lit (.int .u8 0), .lit (.int .u8 1), .lit (.int .u8 28), .lit (.int .u8 2), .lit (.int .u8 29), .lit (.int .u8 14), .lit (.int .u8 24), .lit (.int .u8 3), .lit (.int .u8 30), .lit (.int .u8 22), .lit (.int .u8 20), .lit (.int .u8 15), .lit (.int .u8 25), .lit (.int .u8 17), .lit (.int .u8 4), .lit (.int .u8 8), .lit (.int .u8 31), .lit (.int .u8 27), .lit (.int .u8 13), .lit (.int .u8 23), .lit (.int .u8 21), .lit (.int .u8 19), .lit (.int .u8 16), .lit (.int .u8 7), .lit (.int .u8 26), .lit (.int .u8 12), .lit (.int .u8 18), .lit (.int .u8 6), .lit (.int .u8 11), .lit (.int .u8 5), .lit (.int .u8 10), .lit (.int .u8 9)]
def laid_math_bits_deBruijn64tab {H : Type} : DataW H := .agg [.lit (.int .u8 0), .lit (.int .u8 1), .lit (.int .u8 56), .lit (.int .u8 2), .lit (.int .u8 57), .lit (.int .u8 49), .lit (.int .u8 28), .lit (.int .u8 3), .lit (.int .u8 61), .lit (.int .u8 58), .lit (.int .u8 42), .lit (.int .u8 50), .lit (.int .u8 38), .lit (.int .u8 29), .lit (.int .u8 17), .lit (.int .u8 4), .lit (.int .u8 62), .lit (.int .u8 47), .lit (.int .u8 59), .lit (.int .u8 36), .lit (.int .u8 45), .lit (.int .u8 43), .lit (.int .u8 51), .lit (.int .u8 22), .lit (.int .u8 53), .lit (.int .u8 39), .lit (.int .u8 33), .lit (.int .u8 30), .lit (.int .u8 24), .lit (.int .u8 18), .lit (.int .u8 12), .lit (.int .u8 5), .lit (.int .u8 63), .lit (.int .u8 55), .lit (.int .u8 48), .lit (.int .u8 27), .lit (.int .u8 60), .lit (.int .u8 41), .lit (.int .u8 37), .lit (.int .u8 16), .lit (.int .u8 46), .lit (.int .u8 35), .lit (.int .u8 44), .lit (.int .u8 21), .lit (.int .u8 52), .lit (.int .u8 32), .lit (.int .u8 23), .lit (.int .u8 11), .lit (.int .u8 54), .lit (.int .u8 26), .lit (.int .u8 40), .lit (.int .u8 15), .lit (.int .u8 34), .lit (.int .u8 20), .lit (.int .u8 31), .lit (.int .u8 10), .lit (.int .u8 25), .lit (.int .u8 14), .lit (.int .u8 19), .lit (.int .u8 9), .lit (.int .u8 13), .lit (.int .u8 8), .lit (.int .u8 7), .lit (.int .u8 6)]
def laid_internal_strconv_uint64pow10 {H : Type} : DataW H := .agg [.lit (.int .u64 1), .lit (.int .u64 10), .lit (.int .u64 100), .lit (.int .u64 1000), .lit (.int .u64 10000), .lit (.int .u64 100000), .lit (.int .u64 1000000), .lit (.int .u64 10000000), .lit (.int .u64 100000000), .lit (.int .u64 1000000000), .lit (.int .u64 10000000000), .lit (.int .u64 100000000000), .lit (.int .u64 1000000000000), .lit (.int .u64 10000000000000), .lit (.int .u64 100000000000000), .lit (.int .u64 1000000000000000), .lit (.int .u64 10000000000000000), .lit (.int .u64 100000000000000000), .lit (.int .u64 1000000000000000000), .lit (.int .u64 10000000000000000000)]

/-- 'laws.FnExactFrameBytes': WHATEVER THE INPUT: true; the input reads as it did. -/
def fnExactFrameBytesSpec : ChangeSpec := { name := "fnExactFrameBytes", fn := fun _ => fun
  | [d] => { results := [.lit (.bool true)], args := [d] }
  | _ => none }
def fnExactFrameBytesRow : OpenClaim := { program := "ytpghckpkiookoaagreatdoor", sum := "ea0d329611602b8741b37d4412e38145f8a57f18061359ee7c2120ec23d06add", func := "loop.example/g00971/laws.FnExactFrameBytes", spec := "fnExactFrameBytes", inPlace := ["internal/abi.NoEscape", "internal/bytealg.MakeNoZero"], unfollowed := true, recurses := true, named := ["internal/strconv.uint64pow10", "math/bits.deBruijn32tab", "math/bits.deBruijn64tab"], apart := false, laid := [("math/bits.deBruijn32tab", laid_math_bits_deBruijn32tab), ("math/bits.deBruijn64tab", laid_math_bits_deBruijn64tab), ("internal/strconv.uint64pow10", laid_internal_strconv_uint64pow10)] }
def FnExactFrameBytesSaid : Prop := fnExactFrameBytesRow.holds Tryz.pinned (OpenSpec.ofChange fnExactFrameBytesSpec)

/-- ITS FALSE NEIGHBOUR: 'it returns false'. Refute it at one input. -/
def fnExactFrameBytesWrong : ChangeSpec := { name := "fnExactFrameBytes", fn := fun _ => fun
  | [d] => { results := [.lit (.bool false)], args := [d] }
  | _ => none }
def FnExactFrameBytesWrongFalsely : Prop := fnExactFrameBytesRow.holds Tryz.pinned (OpenSpec.ofChange fnExactFrameBytesWrong)

/-- 'laws.FnExactLargestOn': WHATEVER THE INPUT: true; the input reads as it did. -/
def fnExactLargestOnSpec : ChangeSpec := { name := "fnExactLargestOn", fn := fun _ => fun
  | [d] => { results := [.lit (.bool true)], args := [d] }
  | _ => none }
def fnExactLargestOnRow : OpenClaim := { program := "ytpghckpkiookoaagreatdoor", sum := "ea0d329611602b8741b37d4412e38145f8a57f18061359ee7c2120ec23d06add", func := "loop.example/g00971/laws.FnExactLargestOn", spec := "fnExactLargestOn", inPlace := ["internal/abi.NoEscape", "internal/bytealg.MakeNoZero"], unfollowed := true, recurses := true, named := ["internal/strconv.uint64pow10", "math/bits.deBruijn32tab", "math/bits.deBruijn64tab"], apart := false, laid := [("math/bits.deBruijn32tab", laid_math_bits_deBruijn32tab), ("math/bits.deBruijn64tab", laid_math_bits_deBruijn64tab), ("internal/strconv.uint64pow10", laid_internal_strconv_uint64pow10)] }
def FnExactLargestOnSaid : Prop := fnExactLargestOnRow.holds Tryz.pinned (OpenSpec.ofChange fnExactLargestOnSpec)

/-- ITS FALSE NEIGHBOUR: 'it returns false'. Refute it at one input. -/
def fnExactLargestOnWrong : ChangeSpec := { name := "fnExactLargestOn", fn := fun _ => fun
  | [d] => { results := [.lit (.bool false)], args := [d] }
  | _ => none }
def FnExactLargestOnWrongFalsely : Prop := fnExactLargestOnRow.holds Tryz.pinned (OpenSpec.ofChange fnExactLargestOnWrong)

/-- 'laws.FnExactLongestOn': WHATEVER THE INPUT: true; the input reads as it did. -/
def fnExactLongestOnSpec : ChangeSpec := { name := "fnExactLongestOn", fn := fun _ => fun
  | [d] => { results := [.lit (.bool true)], args := [d] }
  | _ => none }
def fnExactLongestOnRow : OpenClaim := { program := "ytpghckpkiookoaagreatdoor", sum := "ea0d329611602b8741b37d4412e38145f8a57f18061359ee7c2120ec23d06add", func := "loop.example/g00971/laws.FnExactLongestOn", spec := "fnExactLongestOn", inPlace := ["internal/abi.NoEscape", "internal/bytealg.MakeNoZero"], unfollowed := true, recurses := true, named := ["internal/strconv.uint64pow10", "math/bits.deBruijn32tab", "math/bits.deBruijn64tab"], apart := false, laid := [("math/bits.deBruijn32tab", laid_math_bits_deBruijn32tab), ("math/bits.deBruijn64tab", laid_math_bits_deBruijn64tab), ("internal/strconv.uint64pow10", laid_internal_strconv_uint64pow10)] }
def FnExactLongestOnSaid : Prop := fnExactLongestOnRow.holds Tryz.pinned (OpenSpec.ofChange fnExactLongestOnSpec)

/-- ITS FALSE NEIGHBOUR: 'it returns false'. Refute it at one input. -/
def fnExactLongestOnWrong : ChangeSpec := { name := "fnExactLongestOn", fn := fun _ => fun
  | [d] => { results := [.lit (.bool false)], args := [d] }
  | _ => none }
def FnExactLongestOnWrongFalsely : Prop := fnExactLongestOnRow.holds Tryz.pinned (OpenSpec.ofChange fnExactLongestOnWrong)

/-- 'laws.FnExactNewFirst': WHATEVER THE INPUT: true; the input reads as it did. -/
def fnExactNewFirstSpec : ChangeSpec := { name := "fnExactNewFirst", fn := fun _ => fun
  | [d] => { results := [.lit (.bool true)], args := [d] }
  | _ => none }
def fnExactNewFirstRow : OpenClaim := { program := "ytpghckpkiookoaagreatdoor", sum := "ea0d329611602b8741b37d4412e38145f8a57f18061359ee7c2120ec23d06add", func := "loop.example/g00971/laws.FnExactNewFirst", spec := "fnExactNewFirst", inPlace := ["internal/abi.NoEscape", "internal/bytealg.MakeNoZero"], unfollowed := true, recurses := true, named := ["internal/strconv.uint64pow10", "math/bits.deBruijn32tab", "math/bits.deBruijn64tab"], apart := false, laid := [("math/bits.deBruijn32tab", laid_math_bits_deBruijn32tab), ("math/bits.deBruijn64tab", laid_math_bits_deBruijn64tab), ("internal/strconv.uint64pow10", laid_internal_strconv_uint64pow10)] }
def FnExactNewFirstSaid : Prop := fnExactNewFirstRow.holds Tryz.pinned (OpenSpec.ofChange fnExactNewFirstSpec)

/-- ITS FALSE NEIGHBOUR: 'it returns false'. Refute it at one input. -/
def fnExactNewFirstWrong : ChangeSpec := { name := "fnExactNewFirst", fn := fun _ => fun
  | [d] => { results := [.lit (.bool false)], args := [d] }
  | _ => none }
def FnExactNewFirstWrongFalsely : Prop := fnExactNewFirstRow.holds Tryz.pinned (OpenSpec.ofChange fnExactNewFirstWrong)

/-- 'laws.FnExactSameRow': WHATEVER THE INPUT: true; the input reads as it did. -/
def fnExactSameRowSpec : ChangeSpec := { name := "fnExactSameRow", fn := fun _ => fun
  | [d1, d2] => { results := [.lit (.bool true)], args := [d1, d2] }
  | _ => none }
def fnExactSameRowRow : OpenClaim := { program := "ytpghckpkiookoaagreatdoor", sum := "ea0d329611602b8741b37d4412e38145f8a57f18061359ee7c2120ec23d06add", func := "loop.example/g00971/laws.FnExactSameRow", spec := "fnExactSameRow", inPlace := ["internal/abi.NoEscape", "internal/bytealg.MakeNoZero"], unfollowed := true, recurses := true, named := ["internal/strconv.uint64pow10", "math/bits.deBruijn32tab", "math/bits.deBruijn64tab"], apart := false, laid := [("math/bits.deBruijn32tab", laid_math_bits_deBruijn32tab), ("math/bits.deBruijn64tab", laid_math_bits_deBruijn64tab), ("internal/strconv.uint64pow10", laid_internal_strconv_uint64pow10)] }
def FnExactSameRowSaid : Prop := fnExactSameRowRow.holds Tryz.pinned (OpenSpec.ofChange fnExactSameRowSpec)

/-- ITS FALSE NEIGHBOUR: 'it returns false'. Refute it at one input. -/
def fnExactSameRowWrong : ChangeSpec := { name := "fnExactSameRow", fn := fun _ => fun
  | [d1, d2] => { results := [.lit (.bool false)], args := [d1, d2] }
  | _ => none }
def FnExactSameRowWrongFalsely : Prop := fnExactSameRowRow.holds Tryz.pinned (OpenSpec.ofChange fnExactSameRowWrong)

/-- 'laws.FnExactCarryCost': WHATEVER THE INPUT: true; the input reads as it did. -/
def fnExactCarryCostSpec : ChangeSpec := { name := "fnExactCarryCost", fn := fun _ => fun
  | [d] => { results := [.lit (.bool true)], args := [d] }
  | _ => none }
def fnExactCarryCostRow : OpenClaim := { program := "ytpghckpkiookoaagreatdoor", sum := "ea0d329611602b8741b37d4412e38145f8a57f18061359ee7c2120ec23d06add", func := "loop.example/g00971/laws.FnExactCarryCost", spec := "fnExactCarryCost", inPlace := ["internal/abi.NoEscape", "internal/bytealg.MakeNoZero"], unfollowed := true, recurses := true, named := ["internal/strconv.uint64pow10", "math/bits.deBruijn32tab", "math/bits.deBruijn64tab"], apart := false, laid := [("math/bits.deBruijn32tab", laid_math_bits_deBruijn32tab), ("math/bits.deBruijn64tab", laid_math_bits_deBruijn64tab), ("internal/strconv.uint64pow10", laid_internal_strconv_uint64pow10)] }
def FnExactCarryCostSaid : Prop := fnExactCarryCostRow.holds Tryz.pinned (OpenSpec.ofChange fnExactCarryCostSpec)

/-- ITS FALSE NEIGHBOUR: 'it returns false'. Refute it at one input. -/
def fnExactCarryCostWrong : ChangeSpec := { name := "fnExactCarryCost", fn := fun _ => fun
  | [d] => { results := [.lit (.bool false)], args := [d] }
  | _ => none }
def FnExactCarryCostWrongFalsely : Prop := fnExactCarryCostRow.holds Tryz.pinned (OpenSpec.ofChange fnExactCarryCostWrong)

/-- 'laws.FnExactRowWithin': WHATEVER THE INPUT: true; the input reads as it did. -/
def fnExactRowWithinSpec : ChangeSpec := { name := "fnExactRowWithin", fn := fun _ => fun
  | [d] => { results := [.lit (.bool true)], args := [d] }
  | _ => none }
def fnExactRowWithinRow : OpenClaim := { program := "ytpghckpkiookoaagreatdoor", sum := "ea0d329611602b8741b37d4412e38145f8a57f18061359ee7c2120ec23d06add", func := "loop.example/g00971/laws.FnExactRowWithin", spec := "fnExactRowWithin", inPlace := ["internal/abi.NoEscape", "internal/bytealg.MakeNoZero"], unfollowed := true, recurses := true, named := ["internal/strconv.uint64pow10", "math/bits.deBruijn32tab", "math/bits.deBruijn64tab"], apart := false, laid := [("math/bits.deBruijn32tab", laid_math_bits_deBruijn32tab), ("math/bits.deBruijn64tab", laid_math_bits_deBruijn64tab), ("internal/strconv.uint64pow10", laid_internal_strconv_uint64pow10)] }
def FnExactRowWithinSaid : Prop := fnExactRowWithinRow.holds Tryz.pinned (OpenSpec.ofChange fnExactRowWithinSpec)

/-- ITS FALSE NEIGHBOUR: 'it returns false'. Refute it at one input. -/
def fnExactRowWithinWrong : ChangeSpec := { name := "fnExactRowWithin", fn := fun _ => fun
  | [d] => { results := [.lit (.bool false)], args := [d] }
  | _ => none }
def FnExactRowWithinWrongFalsely : Prop := fnExactRowWithinRow.holds Tryz.pinned (OpenSpec.ofChange fnExactRowWithinWrong)

/-- 'laws.FnExactSealedIn': WHATEVER THE INPUT: true; the input reads as it did. -/
def fnExactSealedInSpec : ChangeSpec := { name := "fnExactSealedIn", fn := fun _ => fun
  | [d] => { results := [.lit (.bool true)], args := [d] }
  | _ => none }
def fnExactSealedInRow : OpenClaim := { program := "ytpghckpkiookoaagreatdoor", sum := "ea0d329611602b8741b37d4412e38145f8a57f18061359ee7c2120ec23d06add", func := "loop.example/g00971/laws.FnExactSealedIn", spec := "fnExactSealedIn", inPlace := ["internal/abi.NoEscape", "internal/bytealg.MakeNoZero"], unfollowed := true, recurses := true, named := ["internal/strconv.uint64pow10", "math/bits.deBruijn32tab", "math/bits.deBruijn64tab"], apart := false, laid := [("math/bits.deBruijn32tab", laid_math_bits_deBruijn32tab), ("math/bits.deBruijn64tab", laid_math_bits_deBruijn64tab), ("internal/strconv.uint64pow10", laid_internal_strconv_uint64pow10)] }
def FnExactSealedInSaid : Prop := fnExactSealedInRow.holds Tryz.pinned (OpenSpec.ofChange fnExactSealedInSpec)

/-- ITS FALSE NEIGHBOUR: 'it returns false'. Refute it at one input. -/
def fnExactSealedInWrong : ChangeSpec := { name := "fnExactSealedIn", fn := fun _ => fun
  | [d] => { results := [.lit (.bool false)], args := [d] }
  | _ => none }
def FnExactSealedInWrongFalsely : Prop := fnExactSealedInRow.holds Tryz.pinned (OpenSpec.ofChange fnExactSealedInWrong)

/-- 'laws.FnExactReadsOn': WHATEVER THE INPUT: true; the input reads as it did. -/
def fnExactReadsOnSpec : ChangeSpec := { name := "fnExactReadsOn", fn := fun _ => fun
  | [d] => { results := [.lit (.bool true)], args := [d] }
  | _ => none }
def fnExactReadsOnRow : OpenClaim := { program := "ytpghckpkiookoaagreatdoor", sum := "ea0d329611602b8741b37d4412e38145f8a57f18061359ee7c2120ec23d06add", func := "loop.example/g00971/laws.FnExactReadsOn", spec := "fnExactReadsOn", inPlace := ["internal/abi.NoEscape", "internal/bytealg.MakeNoZero"], unfollowed := true, recurses := true, named := ["internal/strconv.uint64pow10", "math/bits.deBruijn32tab", "math/bits.deBruijn64tab"], apart := false, laid := [("math/bits.deBruijn32tab", laid_math_bits_deBruijn32tab), ("math/bits.deBruijn64tab", laid_math_bits_deBruijn64tab), ("internal/strconv.uint64pow10", laid_internal_strconv_uint64pow10)] }
def FnExactReadsOnSaid : Prop := fnExactReadsOnRow.holds Tryz.pinned (OpenSpec.ofChange fnExactReadsOnSpec)

/-- ITS FALSE NEIGHBOUR: 'it returns false'. Refute it at one input. -/
def fnExactReadsOnWrong : ChangeSpec := { name := "fnExactReadsOn", fn := fun _ => fun
  | [d] => { results := [.lit (.bool false)], args := [d] }
  | _ => none }
def FnExactReadsOnWrongFalsely : Prop := fnExactReadsOnRow.holds Tryz.pinned (OpenSpec.ofChange fnExactReadsOnWrong)

/- THE SECOND FORM. 'bulk': how many values and letters a reading holds, each counted each time it is reached (what is shared counts as often as it is met; a slice's spare places count too). A statement '..UptoSaid' is the law's where the arguments, and the package variables that the reading takes, are together of bulk at most 1048576: NARROWER than '..Said'. Prove '..Said' where nothing that the law and all that it calls make is longer than what came in: it says more and counts as full. Else prove '..UptoSaid'. A law counts once. -/
mutual
def uptoBulk {H : Type} : DataW H → Nat
  | .lit (.string bytes) => bytes.length + 1
  | .lit _ => 1
  | .nil => 1
  | .ptr d => uptoBulk d + 1
  | .slice elems spare => uptoBulkAll elems + uptoBulkAll spare + 1
  | .agg parts => uptoBulkAll parts + 1
  | .iface _ d => uptoBulk d + 1
  | .map entries => uptoBulkEntries entries + 1
  | .held _ => 1
def uptoBulkAll {H : Type} : List (DataW H) → Nat
  | [] => 0
  | d :: r => uptoBulk d + uptoBulkAll r
def uptoBulkEntries {H : Type} : List (Lit × DataW H) → Nat
  | [] => 0
  | x :: r => uptoBulkEntry x + uptoBulkEntries r
def uptoBulkEntry {H : Type} : Lit × DataW H → Nat
  | (.string bytes, d) => bytes.length + uptoBulk d + 1
  | (_, d) => uptoBulk d + 1
 end
def uptoSmall : (H : Type) → List (DataW H) → Bool := fun _ ds => decide (uptoBulkAll ds ≤ 1048576)
def OpenSpec.upto (s : _root_.Go.ChangeSpec) : _root_.Go.OpenSpec := { _root_.Go.OpenSpec.ofChange s with cond := some uptoSmall }

/-- 'laws.FnExactFrameBytes', WHERE WHAT IT READS IS OF BULK AT MOST 1048576: true; the input reads as it did. -/
def fnExactFrameBytesUptoRow : OpenClaim := { program := "ytpghckpkiookoaagreatdoor", sum := "ea0d329611602b8741b37d4412e38145f8a57f18061359ee7c2120ec23d06add", func := "loop.example/g00971/laws.FnExactFrameBytes", spec := "fnExactFrameBytes", inPlace := ["internal/abi.NoEscape", "internal/bytealg.MakeNoZero"], unfollowed := true, recurses := true, named := ["internal/strconv.uint64pow10", "math/bits.deBruijn32tab", "math/bits.deBruijn64tab"], apart := false, laid := [("math/bits.deBruijn32tab", laid_math_bits_deBruijn32tab), ("math/bits.deBruijn64tab", laid_math_bits_deBruijn64tab), ("internal/strconv.uint64pow10", laid_internal_strconv_uint64pow10)], narrowed := true }
def FnExactFrameBytesUptoSaid : Prop := fnExactFrameBytesUptoRow.holds Tryz.pinned (OpenSpec.upto fnExactFrameBytesSpec)

/-- 'laws.FnExactLargestOn', WHERE WHAT IT READS IS OF BULK AT MOST 1048576: true; the input reads as it did. -/
def fnExactLargestOnUptoRow : OpenClaim := { program := "ytpghckpkiookoaagreatdoor", sum := "ea0d329611602b8741b37d4412e38145f8a57f18061359ee7c2120ec23d06add", func := "loop.example/g00971/laws.FnExactLargestOn", spec := "fnExactLargestOn", inPlace := ["internal/abi.NoEscape", "internal/bytealg.MakeNoZero"], unfollowed := true, recurses := true, named := ["internal/strconv.uint64pow10", "math/bits.deBruijn32tab", "math/bits.deBruijn64tab"], apart := false, laid := [("math/bits.deBruijn32tab", laid_math_bits_deBruijn32tab), ("math/bits.deBruijn64tab", laid_math_bits_deBruijn64tab), ("internal/strconv.uint64pow10", laid_internal_strconv_uint64pow10)], narrowed := true }
def FnExactLargestOnUptoSaid : Prop := fnExactLargestOnUptoRow.holds Tryz.pinned (OpenSpec.upto fnExactLargestOnSpec)

/-- 'laws.FnExactLongestOn', WHERE WHAT IT READS IS OF BULK AT MOST 1048576: true; the input reads as it did. -/
def fnExactLongestOnUptoRow : OpenClaim := { program := "ytpghckpkiookoaagreatdoor", sum := "ea0d329611602b8741b37d4412e38145f8a57f18061359ee7c2120ec23d06add", func := "loop.example/g00971/laws.FnExactLongestOn", spec := "fnExactLongestOn", inPlace := ["internal/abi.NoEscape", "internal/bytealg.MakeNoZero"], unfollowed := true, recurses := true, named := ["internal/strconv.uint64pow10", "math/bits.deBruijn32tab", "math/bits.deBruijn64tab"], apart := false, laid := [("math/bits.deBruijn32tab", laid_math_bits_deBruijn32tab), ("math/bits.deBruijn64tab", laid_math_bits_deBruijn64tab), ("internal/strconv.uint64pow10", laid_internal_strconv_uint64pow10)], narrowed := true }
def FnExactLongestOnUptoSaid : Prop := fnExactLongestOnUptoRow.holds Tryz.pinned (OpenSpec.upto fnExactLongestOnSpec)

/-- 'laws.FnExactNewFirst', WHERE WHAT IT READS IS OF BULK AT MOST 1048576: true; the input reads as it did. -/
def fnExactNewFirstUptoRow : OpenClaim := { program := "ytpghckpkiookoaagreatdoor", sum := "ea0d329611602b8741b37d4412e38145f8a57f18061359ee7c2120ec23d06add", func := "loop.example/g00971/laws.FnExactNewFirst", spec := "fnExactNewFirst", inPlace := ["internal/abi.NoEscape", "internal/bytealg.MakeNoZero"], unfollowed := true, recurses := true, named := ["internal/strconv.uint64pow10", "math/bits.deBruijn32tab", "math/bits.deBruijn64tab"], apart := false, laid := [("math/bits.deBruijn32tab", laid_math_bits_deBruijn32tab), ("math/bits.deBruijn64tab", laid_math_bits_deBruijn64tab), ("internal/strconv.uint64pow10", laid_internal_strconv_uint64pow10)], narrowed := true }
def FnExactNewFirstUptoSaid : Prop := fnExactNewFirstUptoRow.holds Tryz.pinned (OpenSpec.upto fnExactNewFirstSpec)

/-- 'laws.FnExactSameRow', WHERE WHAT IT READS IS OF BULK AT MOST 1048576: true; the input reads as it did. -/
def fnExactSameRowUptoRow : OpenClaim := { program := "ytpghckpkiookoaagreatdoor", sum := "ea0d329611602b8741b37d4412e38145f8a57f18061359ee7c2120ec23d06add", func := "loop.example/g00971/laws.FnExactSameRow", spec := "fnExactSameRow", inPlace := ["internal/abi.NoEscape", "internal/bytealg.MakeNoZero"], unfollowed := true, recurses := true, named := ["internal/strconv.uint64pow10", "math/bits.deBruijn32tab", "math/bits.deBruijn64tab"], apart := false, laid := [("math/bits.deBruijn32tab", laid_math_bits_deBruijn32tab), ("math/bits.deBruijn64tab", laid_math_bits_deBruijn64tab), ("internal/strconv.uint64pow10", laid_internal_strconv_uint64pow10)], narrowed := true }
def FnExactSameRowUptoSaid : Prop := fnExactSameRowUptoRow.holds Tryz.pinned (OpenSpec.upto fnExactSameRowSpec)

/-- 'laws.FnExactCarryCost', WHERE WHAT IT READS IS OF BULK AT MOST 1048576: true; the input reads as it did. -/
def fnExactCarryCostUptoRow : OpenClaim := { program := "ytpghckpkiookoaagreatdoor", sum := "ea0d329611602b8741b37d4412e38145f8a57f18061359ee7c2120ec23d06add", func := "loop.example/g00971/laws.FnExactCarryCost", spec := "fnExactCarryCost", inPlace := ["internal/abi.NoEscape", "internal/bytealg.MakeNoZero"], unfollowed := true, recurses := true, named := ["internal/strconv.uint64pow10", "math/bits.deBruijn32tab", "math/bits.deBruijn64tab"], apart := false, laid := [("math/bits.deBruijn32tab", laid_math_bits_deBruijn32tab), ("math/bits.deBruijn64tab", laid_math_bits_deBruijn64tab), ("internal/strconv.uint64pow10", laid_internal_strconv_uint64pow10)], narrowed := true }
def FnExactCarryCostUptoSaid : Prop := fnExactCarryCostUptoRow.holds Tryz.pinned (OpenSpec.upto fnExactCarryCostSpec)

/-- 'laws.FnExactRowWithin', WHERE WHAT IT READS IS OF BULK AT MOST 1048576: true; the input reads as it did. -/
def fnExactRowWithinUptoRow : OpenClaim := { program := "ytpghckpkiookoaagreatdoor", sum := "ea0d329611602b8741b37d4412e38145f8a57f18061359ee7c2120ec23d06add", func := "loop.example/g00971/laws.FnExactRowWithin", spec := "fnExactRowWithin", inPlace := ["internal/abi.NoEscape", "internal/bytealg.MakeNoZero"], unfollowed := true, recurses := true, named := ["internal/strconv.uint64pow10", "math/bits.deBruijn32tab", "math/bits.deBruijn64tab"], apart := false, laid := [("math/bits.deBruijn32tab", laid_math_bits_deBruijn32tab), ("math/bits.deBruijn64tab", laid_math_bits_deBruijn64tab), ("internal/strconv.uint64pow10", laid_internal_strconv_uint64pow10)], narrowed := true }
def FnExactRowWithinUptoSaid : Prop := fnExactRowWithinUptoRow.holds Tryz.pinned (OpenSpec.upto fnExactRowWithinSpec)

/-- 'laws.FnExactSealedIn', WHERE WHAT IT READS IS OF BULK AT MOST 1048576: true; the input reads as it did. -/
def fnExactSealedInUptoRow : OpenClaim := { program := "ytpghckpkiookoaagreatdoor", sum := "ea0d329611602b8741b37d4412e38145f8a57f18061359ee7c2120ec23d06add", func := "loop.example/g00971/laws.FnExactSealedIn", spec := "fnExactSealedIn", inPlace := ["internal/abi.NoEscape", "internal/bytealg.MakeNoZero"], unfollowed := true, recurses := true, named := ["internal/strconv.uint64pow10", "math/bits.deBruijn32tab", "math/bits.deBruijn64tab"], apart := false, laid := [("math/bits.deBruijn32tab", laid_math_bits_deBruijn32tab), ("math/bits.deBruijn64tab", laid_math_bits_deBruijn64tab), ("internal/strconv.uint64pow10", laid_internal_strconv_uint64pow10)], narrowed := true }
def FnExactSealedInUptoSaid : Prop := fnExactSealedInUptoRow.holds Tryz.pinned (OpenSpec.upto fnExactSealedInSpec)

/-- 'laws.FnExactReadsOn', WHERE WHAT IT READS IS OF BULK AT MOST 1048576: true; the input reads as it did. -/
def fnExactReadsOnUptoRow : OpenClaim := { program := "ytpghckpkiookoaagreatdoor", sum := "ea0d329611602b8741b37d4412e38145f8a57f18061359ee7c2120ec23d06add", func := "loop.example/g00971/laws.FnExactReadsOn", spec := "fnExactReadsOn", inPlace := ["internal/abi.NoEscape", "internal/bytealg.MakeNoZero"], unfollowed := true, recurses := true, named := ["internal/strconv.uint64pow10", "math/bits.deBruijn32tab", "math/bits.deBruijn64tab"], apart := false, laid := [("math/bits.deBruijn32tab", laid_math_bits_deBruijn32tab), ("math/bits.deBruijn64tab", laid_math_bits_deBruijn64tab), ("internal/strconv.uint64pow10", laid_internal_strconv_uint64pow10)], narrowed := true }
def FnExactReadsOnUptoSaid : Prop := fnExactReadsOnUptoRow.holds Tryz.pinned (OpenSpec.upto fnExactReadsOnSpec)

end Rows
end Go.Proofs.YtpghckpkiookoaaGreatDoor
