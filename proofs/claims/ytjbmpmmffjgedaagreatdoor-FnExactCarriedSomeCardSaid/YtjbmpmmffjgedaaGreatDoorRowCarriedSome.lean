/- For all arguments, the law FnExactCarriedSome answers true, the listed package-level variables holding what the program's text lays: the tied card of the given statement FnExactCarriedSomeCardSaid. Conditions: none beyond the given statement. -/
import Derived.Test.YtjbmpmmffjgedaaGreatDoorRowCarriedSomeA
import Derived.Test.YtjbmpmmffjgedaaGreatDoorRowCarriedSomeB
set_option linter.unusedVariables false
set_option linter.unusedSimpArgs false
namespace Go.Proofs.YtjbmpmmffjgedaaGreatDoor.fnExactCarriedSome
open Go Go.Proofs
set_option maxHeartbeats 4000000
set_option maxRecDepth 100000
open Go.ChangeShapes Go.WideShapes Go.ChangeAt Go.RowKit
open Go.Proofs.YtjbmpmmffjgedaaGreatDoor.Ab
theorem over:Rows.fnExactCarriedSomeRow.holds Tryz.pinned (OpenSpec.ofChange Rows.fnExactCarriedSomeSpec):=
 OpenClaim.holds_of_wide 6 Tryz.f6 rfl rfl rfl rfl rfl rfl rfl ⟨rfl,rfl,rfl,rfl,rfl⟩ rfl rfl rfl rfl rfl (by as_aux_lemma=>kernel_rfl) Tryz.func6 Xlq
  (of_decide_eq_true (by as_aux_lemma=>kernel_rfl)) (by unfold Func.isWrapper;first|(rw[if_pos (by decide+kernel)];kernel_rfl)|(rw[if_neg (by decide+kernel)];exact⟨rfl,rfl⟩))
  (fun os started H enc _=>lifted os started H enc)
theorem proved:Rows.FnExactCarriedSomeCardSaid:=
 Claim7.holds_tied_plain_at .later [] [.data,.data,.data,.sentinel,.sentinel] true (true, "66589ea6432dba7e06020e5c00023ff2f7d9f1b7bea9084e1b1d7f16b048cea0") true
  over (fun _ h=>by cases h) (by as_aux_lemma=>kernel_rfl) (fun _ h=>by cases h) fnExactCarriedSome_row_tie rfl ⟨rfl,rfl⟩ (by as_aux_lemma=>kernel_rfl) rfl
  (fun f fn hf hfn=>by
   obtain rfl:f=6:=Option.some.inj ((show Tryz.prog.funcNamed "loop.example/g00971/laws.FnExactCarriedSome"=some 6 by as_aux_lemma=>kernel_rfl).symm.trans hf)|>.symm
   obtain rfl:fn=Tryz.f6:=(Option.some.inj (Tryz.func6.symm.trans hfn)).symm
   exact⟨by as_aux_lemma=>kernel_rfl,fun j t ht=>by
    rw[Tryz.params6]at ht
    have hm:t∈[60,3]:=by simpa using Array.mem_of_getElem? ht
    have hall:([60,3].all fun u=>!Tryz.prog.wantsStandIn u)=true:=by as_aux_lemma=>kernel_rfl
    exact(show Tryz.prog.wantsStandIn t=false by simpa using List.all_eq_true.1 hall t hm)⟩)
  (by as_aux_lemma=>kernel_rfl)
end Go.Proofs.YtjbmpmmffjgedaaGreatDoor.fnExactCarriedSome
namespace Go.Proofs.YtjbmpmmffjgedaaGreatDoor
theorem fnExactCarriedSome_holds:Rows.FnExactCarriedSomeCardSaid:=fnExactCarriedSome.proved
end Go.Proofs.YtjbmpmmffjgedaaGreatDoor
