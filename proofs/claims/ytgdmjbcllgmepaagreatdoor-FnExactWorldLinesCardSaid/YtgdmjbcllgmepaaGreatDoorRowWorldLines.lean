/- For all arguments, the law FnExactWorldLines answers true, the listed package-level variables holding what the program's text lays: the tied card of the given statement FnExactWorldLinesCardSaid. Conditions: none beyond the given statement. -/
import Derived.Test.YtgdmjbcllgmepaaGreatDoorRowWorldLinesA
import Derived.Test.YtgdmjbcllgmepaaGreatDoorRowWorldLinesB
set_option linter.unusedVariables false
set_option linter.unusedSimpArgs false
namespace Go.Proofs.YtgdmjbcllgmepaaGreatDoor.fnExactWorldLines
open Go Go.Proofs
set_option maxHeartbeats 4000000
set_option maxRecDepth 100000
open Go.ChangeShapes Go.WideShapes Go.ChangeAt Go.RowKit
open Go.Proofs.YtgdmjbcllgmepaaGreatDoor.Ab
theorem over:Rows.fnExactWorldLinesRow.holds Tryz.pinned (OpenSpec.ofChange Rows.fnExactWorldLinesSpec):=
 OpenClaim.holds_of_wide 3 Tryz.f3 rfl rfl rfl rfl rfl rfl rfl ⟨rfl,rfl,rfl,rfl,rfl⟩ rfl rfl rfl rfl rfl (by as_aux_lemma=>kernel_rfl) Tryz.func3 XgS
  (of_decide_eq_true (by as_aux_lemma=>kernel_rfl)) (by unfold Func.isWrapper;first|(rw[if_pos (by decide+kernel)];kernel_rfl)|(rw[if_neg (by decide+kernel)];exact⟨rfl,rfl⟩))
  (fun os started H enc _=>lifted os started H enc)
theorem proved:Rows.FnExactWorldLinesCardSaid:=
 Claim7.holds_tied_plain_at .later [] [.data,.data,.data,.sentinel,.sentinel] true (true, "45d09819946afd6ec800e4e9ea36368295b8598935c5e2ac19c85708c4d9859d") true
  over (fun _ h=>by cases h) (by as_aux_lemma=>kernel_rfl) (fun _ h=>by cases h) fnExactWorldLines_row_tie rfl ⟨rfl,rfl⟩ (by as_aux_lemma=>kernel_rfl) rfl
  (fun f fn hf hfn=>by
   obtain rfl:f=3:=Option.some.inj ((show Tryz.prog.funcNamed "loop.example/g00971/laws.FnExactWorldLines"=some 3 by as_aux_lemma=>kernel_rfl).symm.trans hf)|>.symm
   obtain rfl:fn=Tryz.f3:=(Option.some.inj (Tryz.func3.symm.trans hfn)).symm
   exact⟨by as_aux_lemma=>kernel_rfl,fun j t ht=>by
    rw[Tryz.params3]at ht
    have hm:t∈[33]:=by simpa using Array.mem_of_getElem? ht
    have hall:([33].all fun u=>!Tryz.prog.wantsStandIn u)=true:=by as_aux_lemma=>kernel_rfl
    exact(show Tryz.prog.wantsStandIn t=false by simpa using List.all_eq_true.1 hall t hm)⟩)
  (by as_aux_lemma=>kernel_rfl)
end Go.Proofs.YtgdmjbcllgmepaaGreatDoor.fnExactWorldLines
namespace Go.Proofs.YtgdmjbcllgmepaaGreatDoor
theorem fnExactWorldLines_holds:Rows.FnExactWorldLinesCardSaid:=fnExactWorldLines.proved
end Go.Proofs.YtgdmjbcllgmepaaGreatDoor
