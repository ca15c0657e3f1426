/- What functions of the program come to, for all arguments in the given bounds. -/
import Derived.Test.YtgdmjbcllgmepaaGreatDoorRbch06u
import Derived.Test.YtgdmjbcllgmepaaGreatDoorRbHsz
set_option linter.unusedVariables false
set_option linter.unusedSimpArgs false
namespace Go.Proofs.YtgdmjbcllgmepaaGreatDoor.Ab
section
open Go Go.Proofs
set_option maxRecDepth 20000
set_option maxHeartbeats 4000000
theorem XlY{d:Aa}(hb:Fy d≤1000000000):okD d:=by
 have n1:=Gn d.nodes_
 have n2:=Dd d.entries_
 have n3:=Dd d.old_
 have n4:=Fd d.steps_
 have l1:=Te d.nodes_
 have l2:=H8 d.entries_
 have l3:=H8 d.old_
 have l4:=Lq d.steps_
 unfold Fy at hb
 refine⟨by omega,?_,by omega,?_,by omega,by omega⟩
 ·intro n hn
  have:=F3 (fun x=>Du x) X7 hn
  have h2:Du n=(n.text_.size:Int):=rfl
  have h3:Dr d.nodes_=d.nodes_.length+Jk (fun x=>Du x) d.nodes_:=rfl
  omega
 ·intro n hn
  have:=F3 (fun x=>Cy x) Qp hn
  have h2:Cy n=(n.name_.size:Int):=rfl
  have h3:Cb d.entries_=d.entries_.length+Jk (fun x=>Cy x) d.entries_:=rfl
  omega
end
section
open Go Go.Proofs
set_option maxRecDepth 20000
set_option maxHeartbeats 4000000
theorem Xee{d:Aa}(hb:Fy d≤1048576):J8 d∧d.entries_.length≤100000000∧d.steps_.length≤100000000:=by
 have n1:=Gn d.nodes_
 have n2:=Dd d.entries_
 have n3:=Dd d.old_
 have n4:=Fd d.steps_
 have l2:=H8 d.entries_
 have l4:=Lq d.steps_
 have hd:=XlY (d:=d) (by omega)
 unfold Fy at hb
 refine⟨⟨hd,?_,?_⟩,by omega,by omega⟩
 ·intro n hn
  have:=F3 (fun x=>Cy x) Qp hn
  have h2:Cy n=(n.name_.size:Int):=rfl
  have h3:Cb d.old_=d.old_.length+Jk (fun x=>Cy x) d.old_:=rfl
  omega
 ·intro n hn
  have:=F3 (fun x:ByteArray=>(x.size:Int)) (fun x=>by omega) hn
  have h3:Cw d.steps_=d.steps_.length+Jk (fun x:ByteArray=>(x.size:Int)) d.steps_:=rfl
  omega
end
end Go.Proofs.YtgdmjbcllgmepaaGreatDoor.Ab
