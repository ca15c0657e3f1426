/- What functions of the program come to, for all arguments in the given bounds. -/
import Derived.Test.YtgdmjbcllgmepaaGreatDoorWlch06y
import Derived.Test.YtgdmjbcllgmepaaGreatDoorWlHsz
set_option linter.unusedVariables false
set_option linter.unusedSimpArgs false
namespace Go.Proofs.YtgdmjbcllgmepaaGreatDoor.Ab
section
open Go Go.Proofs
set_option maxRecDepth 20000
set_option maxHeartbeats 4000000
theorem XdO{d:As}(hb:Dw d≤1000000000):okD d:=by
 have n1:=Es d.nodes_
 have n2:=B7 d.entries_
 have n3:=B7 d.old_
 have n4:=B9 d.steps_
 have l1:=K9 d.nodes_
 have l2:=Ew d.entries_
 have l3:=Ew d.old_
 have l4:=E4 d.steps_
 unfold Dw at hb
 refine⟨by omega,?_,by omega,?_,by omega,by omega⟩
 ·intro n hn
  have:=F1 (fun x=>Cx x) Tl hn
  have h2:Cx n=(n.text_.size:Int):=rfl
  have h3:Ct d.nodes_=d.nodes_.length+G8 (fun x=>Cx x) d.nodes_:=rfl
  omega
 ·intro n hn
  have:=F1 (fun x=>B5 x) Qq hn
  have h2:B5 n=(n.name_.size:Int):=rfl
  have h3:A5 d.entries_=d.entries_.length+G8 (fun x=>B5 x) d.entries_:=rfl
  omega
end
section
open Go Go.Proofs
set_option maxRecDepth 20000
set_option maxHeartbeats 4000000
end
end Go.Proofs.YtgdmjbcllgmepaaGreatDoor.Ab
