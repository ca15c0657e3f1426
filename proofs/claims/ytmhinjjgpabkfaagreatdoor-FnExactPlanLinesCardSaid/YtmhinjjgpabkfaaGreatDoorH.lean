/- What functions of the program come to, for all arguments in the given bounds. -/
import Derived.Test.YtmhinjjgpabkfaaGreatDoorProg
import Derived.Test.YtmhinjjgpabkfaaGreatDoorZ10
import Derived.KernelRfl
import Derived.Lib.LaidTab
set_option linter.unusedVariables false
set_option linter.unusedSimpArgs false
namespace Go.Proofs.YtmhinjjgpabkfaaGreatDoor.Ab
open Go Go.Proofs
set_option maxRecDepth 20000
set_option linter.unusedVariables false
theorem globs_7 {w : World} {S : Nat → Prop} (h : Globs.ok w S) : Lib.TabIs Tryz.prog w "math/bits.deBruijn64tab" .u8 tabOf7 := (show _ from h.2.1).2
theorem globs_5 {w : World} {S : Nat → Prop} (h : Globs.ok w S) : Lib.TabIs Tryz.prog w "internal/strconv.uint64pow10" .u64 tabOf5 := (show _ from h.2.2.1).2
theorem globs_3 {w : World} {S : Nat → Prop} (h : Globs.ok w S) : IfaceIs w 3 := (show _ from h.2.2.2.2).2
def tab : List (Nat × TyRow) := [
  (3, ⟨.int .i64, some 1, some false, none, false, [.int .i64], [], some [(.int .i64 0, 0)], none, none, none⟩),
  (4, ⟨.bool, some 1, some false, none, false, [.bool], [], some [(.bool false, 0)], none, none, none⟩),
  (5, ⟨.int .u8, some 1, some false, none, false, [.int .u8], [], some [(.int .u8 0, 0)], none, none, none⟩),
  (9, ⟨.str, some 1, some false, none, false, [.str], [], some [(.string default, 0)], none, none, none⟩),
  (22, ⟨.sl 1, some 1, some false, some (1, 1), true, [.sl 1], [], some [(.slice none 0 0, 1)], some ([.sc (.int .u8 0)], 1, 1), none, none⟩),
  (24, ⟨.sl 1, some 1, some false, some (1, 8), false, [.sl 1], [], some [(.slice none 0 0, 1)], some ([.sc (.int .i64 0)], 1, 8), none, none⟩),
  (26, ⟨.other, some 4, some true, none, false, [.int .i64, .str, .int .i64, .sl 1], [some (0, 1, false), some (1, 1, false), some (2, 1, false), some (3, 1, false)], some [(.int .i64 0, 0), (.string default, 0), (.int .i64 0, 0), (.slice none 0 0, 1)], none, some [(0, 1), (1, 1), (2, 1), (3, 1)], none⟩),
  (32, ⟨.other, some 4, some true, none, false, [.int .i64, .int .i64, .int .i64, .int .i64], [some (0, 1, false), some (1, 1, false), some (2, 1, false), some (3, 1, false)], some [(.int .i64 0, 0), (.int .i64 0, 0), (.int .i64 0, 0), (.int .i64 0, 0)], none, some [(0, 1), (1, 1), (2, 1), (3, 1)], some [.int, .int, .int, .int]⟩),
  (39, ⟨.sl 3, some 1, some false, some (3, 32), false, [.sl 3], [], some [(.slice none 0 0, 3)], some ([.sc (.int .i64 0), .sc (.string default), .sc (.int .i64 0)], 3, 32), none, none⟩),
  (40, ⟨.sl 2, some 1, some false, some (2, 24), false, [.sl 2], [], some [(.slice none 0 0, 2)], some ([.sc (.string default), .sc (.int .i64 0)], 2, 24), none, none⟩),
  (41, ⟨.sl 1, some 1, some false, some (1, 16), false, [.sl 1], [], some [(.slice none 0 0, 1)], some ([.sc (.string default)], 1, 16), none, none⟩),
  (43, ⟨.other, some 6, some true, none, false, [.sl 3, .sl 2, .sl 2, .sl 1, .int .i64, .int .i64], [some (0, 1, false), some (1, 1, false), some (2, 1, false), some (3, 1, false), some (4, 1, false), some (5, 1, false)], some [(.slice none 0 0, 3), (.slice none 0 0, 2), (.slice none 0 0, 2), (.slice none 0 0, 1), (.int .i64 0, 0), (.int .i64 0, 0)], none, some [(0, 1), (1, 1), (2, 1), (3, 1), (4, 1), (5, 1)], none⟩),
  (46, ⟨.sl 3, some 1, some false, some (3, 32), false, [.sl 3], [], some [(.slice none 0 0, 3)], some ([.sc (.int .i64 0), .sc (.string default), .sc (.int .i64 0)], 3, 32), none, none⟩),
  (47, ⟨.sl 2, some 1, some false, some (2, 24), false, [.sl 2], [], some [(.slice none 0 0, 2)], some ([.sc (.string default), .sc (.int .i64 0)], 2, 24), none, none⟩),
  (49, ⟨.other, some 6, some true, none, false, [.sl 3, .sl 2, .sl 2, .sl 1, .int .i64, .int .i64], [some (0, 1, false), some (1, 1, false), some (2, 1, false), some (3, 1, false), some (4, 1, false), some (5, 1, false)], some [(.slice none 0 0, 3), (.slice none 0 0, 2), (.slice none 0 0, 2), (.slice none 0 0, 1), (.int .i64 0, 0), (.int .i64 0, 0)], none, some [(0, 1), (1, 1), (2, 1), (3, 1), (4, 1), (5, 1)], none⟩),
  (83, ⟨.other, some 9, some true, none, false, [.int .i64, .int .i64, .int .i64, .int .i64, .int .i64, .sl 1, .int .i64, .bool, .int .i64], [some (0, 1, false), some (1, 1, false), some (2, 1, false), some (3, 1, false), some (4, 1, false), some (5, 1, false), some (6, 1, false), some (7, 1, false), some (8, 1, false)], some [(.int .i64 0, 0), (.int .i64 0, 0), (.int .i64 0, 0), (.int .i64 0, 0), (.int .i64 0, 0), (.slice none 0 0, 1), (.int .i64 0, 0), (.bool false, 0), (.int .i64 0, 0)], none, some [(0, 1), (1, 1), (2, 1), (3, 1), (4, 1), (5, 1), (6, 1), (7, 1), (8, 1)], none⟩),
  (99, ⟨.other, some 4, some true, none, false, [.int .i64, .int .i64, .int .i64, .int .i64], [some (0, 1, false), some (1, 1, false), some (2, 1, false), some (3, 1, false)], some [(.int .i64 0, 0), (.int .i64 0, 0), (.int .i64 0, 0), (.int .i64 0, 0)], none, some [(0, 1), (1, 1), (2, 1), (3, 1)], some [.int, .int, .int, .int]⟩),
  (101, ⟨.other, some 9, some true, none, false, [.bool, .int .i64, .int .i64, .int .i64, .int .i64, .sl 1, .sl 1, .int .i64, .bool], [some (0, 1, false), some (1, 4, true), some (5, 1, false), some (6, 1, false), some (7, 1, false), some (8, 1, false)], some [(.bool false, 0), (.int .i64 0, 0), (.int .i64 0, 0), (.int .i64 0, 0), (.int .i64 0, 0), (.slice none 0 0, 1), (.slice none 0 0, 1), (.int .i64 0, 0), (.bool false, 0)], none, some [(0, 1), (1, 4), (5, 1), (6, 1), (7, 1), (8, 1)], none⟩),
  (103, ⟨.other, some 11, some true, none, false, [.int .i64, .str, .bool, .int .i64, .int .i64, .int .i64, .int .i64, .sl 1, .sl 1, .int .i64, .bool], [some (0, 1, false), some (1, 1, false), some (2, 9, true)], some [(.int .i64 0, 0), (.string default, 0), (.bool false, 0), (.int .i64 0, 0), (.int .i64 0, 0), (.int .i64 0, 0), (.int .i64 0, 0), (.slice none 0 0, 1), (.slice none 0 0, 1), (.int .i64 0, 0), (.bool false, 0)], none, some [(0, 1), (1, 1), (2, 9)], none⟩),
  (107, ⟨.sl 4, some 1, some false, some (4, 56), false, [.sl 4], [], some [(.slice none 0 0, 4)], some ([.sc (.int .i64 0), .sc (.string default), .sc (.string default), .sc (.string default)], 4, 56), none, none⟩),
  (110, ⟨.other, some 4, some true, none, false, [.int .i64, .str, .str, .str], [some (0, 1, false), some (1, 1, false), some (2, 1, false), some (3, 1, false)], some [(.int .i64 0, 0), (.string default, 0), (.string default, 0), (.string default, 0)], none, some [(0, 1), (1, 1), (2, 1), (3, 1)], some [.int, .str, .str, .str]⟩),
  (116, ⟨.other, some 3, some true, none, false, [.sl 1, .int .i64, .int .i64], [some (0, 1, false), some (1, 1, false), some (2, 1, false)], some [(.slice none 0 0, 1), (.int .i64 0, 0), (.int .i64 0, 0)], none, some [(0, 1), (1, 1), (2, 1)], none⟩),
  (137, ⟨.other, some 3, some true, none, false, [.int .i64, .str, .int .i64], [some (0, 1, false), some (1, 1, false), some (2, 1, false)], some [(.int .i64 0, 0), (.string default, 0), (.int .i64 0, 0)], none, some [(0, 1), (1, 1), (2, 1)], some [.int, .str, .int]⟩),
  (140, ⟨.other, some 2, some true, none, false, [.str, .int .i64], [some (0, 1, false), some (1, 1, false)], some [(.string default, 0), (.int .i64 0, 0)], none, some [(0, 1), (1, 1)], some [.str, .int]⟩),
  (147, ⟨.other, some 2, some true, none, false, [.str, .int .i64], [some (0, 1, false), some (1, 1, false)], some [(.string default, 0), (.int .i64 0, 0)], none, some [(0, 1), (1, 1)], some [.str, .int]⟩),
  (149, ⟨.other, some 3, some true, none, false, [.int .i64, .str, .int .i64], [some (0, 1, false), some (1, 1, false), some (2, 1, false)], some [(.int .i64 0, 0), (.string default, 0), (.int .i64 0, 0)], none, some [(0, 1), (1, 1), (2, 1)], some [.int, .str, .int]⟩),
  (154, ⟨.sl 11, some 1, some false, some (11, 128), false, [.sl 11], [], some [(.slice none 0 0, 11)], some ([.sc (.int .i64 0), .sc (.string default), .sc (.bool false), .sc (.int .i64 0), .sc (.int .i64 0), .sc (.int .i64 0), .sc (.int .i64 0), .row 1 [], .row 1 [], .sc (.int .i64 0), .sc (.bool false)], 11, 128), none, none⟩),
  (183, ⟨.int .u64, some 1, some false, none, false, [.int .u64], [], some [(.int .u64 0, 0)], none, none, none⟩),
  (193, ⟨.int .u32, some 1, some false, none, false, [.int .u32], [], some [(.int .u32 0, 0)], none, none, none⟩),
  (234, ⟨.sl 2, some 1, some false, some (2, 16), false, [.sl 2], [], some [(.slice none 0 0, 2)], some ([.sc (.int .i64 0), .sc (.int .i64 0)], 2, 16), none, none⟩),
  (257, ⟨.other, some 2, some true, none, false, [.int .i64, .int .i64], [some (0, 1, false), some (1, 1, false)], some [(.int .i64 0, 0), (.int .i64 0, 0)], none, some [(0, 1), (1, 1)], some [.int, .int]⟩)]
theorem tab_ok : TabOk Tryz.prog tab := TabOk.of (by kernel_rfl)
theorem mixed : Tryz.prog.follows .mixedOrders = true := by kernel_rfl
set_option maxRecDepth 20000
structure TNode where
  id_ : Int
  text_ : ByteArray
  sure_ : Int
def eNode (a : TNode) : List D := [.sc (.int .i64 a.id_), .sc (.string a.text_), .sc (.int .i64 a.sure_)]
def wfNode (a : TNode) : Prop := wfI a.id_ ∧ wfI a.sure_
def totNode (a : TNode) : Int := (a.text_.size : Int)
def okNode (a : TNode) : Prop := a.text_.size < 2 ^ 47
theorem totNode_nn (a : TNode) : 0 ≤ totNode a := by
  unfold totNode
  omega
def wfNodeS (a : List TNode) : Prop := ∀ x ∈ a, wfNode x
def totNodeS (a : List TNode) : Int := a.length + sumF (fun x => totNode x) a
def okNodeS (a : List TNode) : Prop := a.length < 2 ^ 44 ∧ ∀ x ∈ a, okNode x
theorem totNodeS_el (x : TNode) : 0 ≤ totNode x := totNode_nn x
theorem totNodeS_nn (a : List TNode) : 0 ≤ totNodeS a := by
  have := sumF_nonneg (fun x => totNode x) a (fun x _ => totNodeS_el x)
  unfold totNodeS
  omega
theorem totNodeS_len (a : List TNode) : (a.length : Int) ≤ totNodeS a := by
  have := sumF_nonneg (fun x => totNode x) a (fun x _ => totNodeS_el x)
  unfold totNodeS
  omega
structure TEntry where
  name_ : ByteArray
  id_ : Int
def eEntry (a : TEntry) : List D := [.sc (.string a.name_), .sc (.int .i64 a.id_)]
def wfEntry (a : TEntry) : Prop := wfI a.id_
def totEntry (a : TEntry) : Int := (a.name_.size : Int)
def okEntry (a : TEntry) : Prop := a.name_.size < 2 ^ 47
theorem totEntry_nn (a : TEntry) : 0 ≤ totEntry a := by
  unfold totEntry
  omega
def wfEntryS (a : List TEntry) : Prop := ∀ x ∈ a, wfEntry x
def totEntryS (a : List TEntry) : Int := a.length + sumF (fun x => totEntry x) a
def okEntryS (a : List TEntry) : Prop := a.length < 2 ^ 44 ∧ ∀ x ∈ a, okEntry x
theorem totEntryS_el (x : TEntry) : 0 ≤ totEntry x := totEntry_nn x
theorem totEntryS_nn (a : List TEntry) : 0 ≤ totEntryS a := by
  have := sumF_nonneg (fun x => totEntry x) a (fun x _ => totEntryS_el x)
  unfold totEntryS
  omega
theorem totEntryS_len (a : List TEntry) : (a.length : Int) ≤ totEntryS a := by
  have := sumF_nonneg (fun x => totEntry x) a (fun x _ => totEntryS_el x)
  unfold totEntryS
  omega
def totStringS (a : List ByteArray) : Int := a.length + sumF (fun x => (x.size : Int)) a
def okStringS (a : List ByteArray) : Prop := a.length < 2 ^ 44 ∧ ∀ x ∈ a, x.size < 2 ^ 47
theorem totStringS_el (x : ByteArray) : 0 ≤ (x.size : Int) := by omega
theorem totStringS_nn (a : List ByteArray) : 0 ≤ totStringS a := by
  have := sumF_nonneg (fun x => (x.size : Int)) a (fun x _ => totStringS_el x)
  unfold totStringS
  omega
theorem totStringS_len (a : List ByteArray) : (a.length : Int) ≤ totStringS a := by
  have := sumF_nonneg (fun x => (x.size : Int)) a (fun x _ => totStringS_el x)
  unfold totStringS
  omega
structure TDisk where
  nodes_ : List TNode
  entries_ : List TEntry
  old_ : List TEntry
  steps_ : List ByteArray
  room_ : Int
  next_ : Int
def eDisk (a : TDisk) : List D := [.row 3 (a.nodes_.map eNode), .row 2 (a.entries_.map eEntry), .row 2 (a.old_.map eEntry), .row 1 (a.steps_.map cS), .sc (.int .i64 a.room_), .sc (.int .i64 a.next_)]
def wfDisk (a : TDisk) : Prop := wfNodeS a.nodes_ ∧ wfEntryS a.entries_ ∧ wfEntryS a.old_ ∧ wfI a.room_ ∧ wfI a.next_
def totDisk (a : TDisk) : Int := totNodeS a.nodes_ + totEntryS a.entries_ + totEntryS a.old_ + totStringS a.steps_
def okDisk (a : TDisk) : Prop := okNodeS a.nodes_ ∧ okEntryS a.entries_ ∧ okEntryS a.old_ ∧ okStringS a.steps_
theorem totDisk_nn (a : TDisk) : 0 ≤ totDisk a := by
  have := totNodeS_nn a.nodes_
  have := totEntryS_nn a.entries_
  have := totEntryS_nn a.old_
  have := totStringS_nn a.steps_
  unfold totDisk
  omega
end Go.Proofs.YtmhinjjgpabkfaaGreatDoor.Ab
