/- What functions of the program come to, for all arguments in the given bounds. -/
import Derived.Test.YtmhinjjgpabkfaaGreatDoorch14e
set_option linter.unusedVariables false
set_option linter.unusedSimpArgs false
namespace Go.Proofs.YtmhinjjgpabkfaaGreatDoor.Ab
open Go Go.Proofs
set_option maxRecDepth 20000
set_option maxHeartbeats 4000000
set_option linter.unusedSimpArgs false
set_option linter.unusedVariables false
theorem loose_b {d : TDisk} {l : List ByteArray} (hd : okD d) (e : rLooseNames d = l) : l.length ≤ 1048576 := by
  rw [← e]
  unfold rLooseNames
  have := List.length_filter_le (looseN (rChain d)) (d.entries_.map fun e => e.name_)
  rw [List.length_map] at this
  have := hd.2.2.1
  omega
end Go.Proofs.YtmhinjjgpabkfaaGreatDoor.Ab
