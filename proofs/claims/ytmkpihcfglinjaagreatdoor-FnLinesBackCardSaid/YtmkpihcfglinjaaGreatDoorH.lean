/- What functions of the program come to, for all arguments in the given bounds. -/
import Derived.Test.YtmkpihcfglinjaaGreatDoorProg
import Derived.Test.YtmkpihcfglinjaaGreatDoorZ10
import Derived.KernelRfl
import Derived.Lib.LaidTab
set_option linter.unusedVariables false
set_option linter.unusedSimpArgs false
namespace Go.Proofs.YtmkpihcfglinjaaGreatDoor.Ab
open Go Go.Proofs
set_option maxRecDepth 20000
set_option linter.unusedVariables false
theorem globs_5 {w : World} {S : Nat → Prop} (h : Globs.ok w S) : Lib.TabIs Tryz.prog w "internal/strconv.uint64pow10" .u64 tabOf5 := (show _ from h.2.2.1).2
theorem globs_0 {w : World} {S : Nat → Prop} (h : Globs.ok w S) : Lib.TabIs Tryz.prog w "strings.asciiSpace" .u8 tabOf0 := (show _ from h.2.2.2.1).2
theorem globs_4 {w : World} {S : Nat → Prop} (h : Globs.ok w S) : IfaceIs w 4 := (show _ from h.2.2.2.2.1).2
theorem globs_3 {w : World} {S : Nat → Prop} (h : Globs.ok w S) : IfaceIs w 3 := (show _ from h.2.2.2.2.2).2
def tab : List (Nat × TyRow) := [
  (3, ⟨.int .i64, some 1, some false, none, false, [.int .i64], [], some [(.int .i64 0, 0)], none, none, none⟩),
  (4, ⟨.bool, some 1, some false, none, false, [.bool], [], some [(.bool false, 0)], none, none, none⟩),
  (5, ⟨.int .u8, some 1, some false, none, false, [.int .u8], [], some [(.int .u8 0, 0)], none, none, none⟩),
  (9, ⟨.str, some 1, some false, none, false, [.str], [], some [(.string default, 0)], none, none, none⟩),
  (22, ⟨.sl 1, some 1, some false, some (1, 1), true, [.sl 1], [], some [(.slice none 0 0, 1)], some ([.sc (.int .u8 0)], 1, 1), none, none⟩),
  (24, ⟨.sl 1, some 1, some false, some (1, 8), false, [.sl 1], [], some [(.slice none 0 0, 1)], some ([.sc (.int .i64 0)], 1, 8), none, none⟩),
  (26, ⟨.other, some 4, some true, none, false, [.int .i64, .str, .int .i64, .sl 1], [some (0, 1, false), some (1, 1, false), some (2, 1, false), some (3, 1, false)], some [(.int .i64 0, 0), (.string default, 0), (.int .i64 0, 0), (.slice none 0 0, 1)], none, some [(0, 1), (1, 1), (2, 1), (3, 1)], none⟩),
  (32, ⟨.other, some 4, some true, none, false, [.int .i64, .int .i64, .int .i64, .int .i64], [some (0, 1, false), some (1, 1, false), some (2, 1, false), some (3, 1, false)], some [(.int .i64 0, 0), (.int .i64 0, 0), (.int .i64 0, 0), (.int .i64 0, 0)], none, some [(0, 1), (1, 1), (2, 1), (3, 1)], some [.int, .int, .int, .int]⟩),
  (45, ⟨.sl 1, some 1, some false, some (1, 16), false, [.sl 1], [], some [(.slice none 0 0, 1)], some ([.sc (.string default)], 1, 16), none, none⟩),
  (63, ⟨.other, some 9, some true, none, false, [.int .i64, .int .i64, .int .i64, .int .i64, .int .i64, .sl 1, .int .i64, .bool, .int .i64], [some (0, 1, false), some (1, 1, false), some (2, 1, false), some (3, 1, false), some (4, 1, false), some (5, 1, false), some (6, 1, false), some (7, 1, false), some (8, 1, false)], some [(.int .i64 0, 0), (.int .i64 0, 0), (.int .i64 0, 0), (.int .i64 0, 0), (.int .i64 0, 0), (.slice none 0 0, 1), (.int .i64 0, 0), (.bool false, 0), (.int .i64 0, 0)], none, some [(0, 1), (1, 1), (2, 1), (3, 1), (4, 1), (5, 1), (6, 1), (7, 1), (8, 1)], none⟩),
  (68, ⟨.other, some 3, some true, none, false, [.sl 1, .int .i64, .int .i64], [some (0, 1, false), some (1, 1, false), some (2, 1, false)], some [(.slice none 0 0, 1), (.int .i64 0, 0), (.int .i64 0, 0)], none, some [(0, 1), (1, 1), (2, 1)], none⟩),
  (101, ⟨.int .u32, some 1, some false, none, false, [.int .u32], [], some [(.int .u32 0, 0)], none, none, none⟩),
  (128, ⟨.int .u64, some 1, some false, none, false, [.int .u64], [], some [(.int .u64 0, 0)], none, none, none⟩),
  (167, ⟨.other, some 4, some true, none, false, [.int .i64, .int .i64, .int .i64, .int .i64], [some (0, 1, false), some (1, 1, false), some (2, 1, false), some (3, 1, false)], some [(.int .i64 0, 0), (.int .i64 0, 0), (.int .i64 0, 0), (.int .i64 0, 0)], none, some [(0, 1), (1, 1), (2, 1), (3, 1)], some [.int, .int, .int, .int]⟩)]
theorem mixed : Tryz.prog.follows .mixedOrders = true := by kernel_rfl
set_option maxRecDepth 20000
end Go.Proofs.YtmkpihcfglinjaaGreatDoor.Ab
