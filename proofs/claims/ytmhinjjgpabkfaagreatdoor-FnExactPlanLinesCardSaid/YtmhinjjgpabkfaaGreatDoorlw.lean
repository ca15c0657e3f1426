/- What functions of the program come to, for all arguments in the given bounds. -/
import Derived.Test.YtmhinjjgpabkfaaGreatDoorch20
import Derived.Test.YtmhinjjgpabkfaaGreatDoorHsz
import Derived.Test.YtmhinjjgpabkfaaGreatDoorHto
import Derived.Test.YtmhinjjgpabkfaaGreatDoorHeq
set_option linter.unusedVariables false
set_option linter.unusedSimpArgs false
namespace Go.Proofs.YtmhinjjgpabkfaaGreatDoor.Ab
open Go Go.Proofs
set_option maxRecDepth 20000
set_option maxHeartbeats 4000000
set_option linter.unusedSimpArgs false
set_option linter.unusedVariables false
theorem okD_of {d : TDisk} (hb : totDisk d ≤ 1048576) : okD d := by
  have n1 := totNodeS_nn d.nodes_
  have n2 := totEntryS_nn d.entries_
  have n3 := totEntryS_nn d.old_
  have n4 := totStringS_nn d.steps_
  have l1 := totNodeS_len d.nodes_
  have l2 := totEntryS_len d.entries_
  have l3 := totEntryS_len d.old_
  have l4 := totStringS_len d.steps_
  unfold totDisk at hb
  refine ⟨by omega, ?_, by omega, ?_, by omega, by omega⟩
  · intro n hn
    have := sumF_mem_le (fun x => totNode x) totNode_nn hn
    have h2 : totNode n = (n.text_.size : Int) := rfl
    have h3 : totNodeS d.nodes_ = d.nodes_.length + sumF (fun x => totNode x) d.nodes_ := rfl
    omega
  · intro n hn
    have := sumF_mem_le (fun x => totEntry x) totEntry_nn hn
    have h2 : totEntry n = (n.name_.size : Int) := rfl
    have h3 : totEntryS d.entries_ = d.entries_.length + sumF (fun x => totEntry x) d.entries_ := rfl
    omega
end Go.Proofs.YtmhinjjgpabkfaaGreatDoor.Ab
