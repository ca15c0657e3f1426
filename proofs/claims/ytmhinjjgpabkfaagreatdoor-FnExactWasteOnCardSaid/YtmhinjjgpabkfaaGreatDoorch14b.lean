/- What functions of the program come to, for all arguments in the given bounds. -/
import Derived.Test.YtmhinjjgpabkfaaGreatDoorch14
set_option linter.unusedVariables false
set_option linter.unusedSimpArgs false
namespace Go.Proofs.YtmhinjjgpabkfaaGreatDoor.Ab
open Go Go.Proofs
set_option maxRecDepth 20000
set_option maxHeartbeats 4000000
set_option linter.unusedSimpArgs false
set_option linter.unusedVariables false
def sumL {α : Type} (f : α → Int) (l : List α) : Int := (l.map f).foldl (· + ·) 0
theorem sumL_take {α : Type} {f : α → Int} {l : List α} {k : Nat} (h : k < l.length) : sumL f (l.take (k + 1)) = sumL f (l.take k) + f l[k] := by unfold sumL; rw [take_map h, List.foldl_append]; rfl
theorem sum_chain {d : TDisk} (f : Tlink → Int) (g : Int → Int) (h : ∀ x, x.text_ = rTextAt d x.base_ → x.scan_ = rScanText (rTextAt d x.base_) → f x = g x.base_) : sumL f (rlinks d) = sumL g (rChain d) := by unfold sumL; rw [chain_map f g h]
end Go.Proofs.YtmhinjjgpabkfaaGreatDoor.Ab
