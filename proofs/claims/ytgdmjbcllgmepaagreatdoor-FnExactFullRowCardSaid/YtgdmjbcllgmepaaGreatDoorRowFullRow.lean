/- For all arguments, the law FnExactFullRow answers true, the listed package-level variables holding what the program's text lays: the tied card of the given statement FnExactFullRowCardSaid. Conditions: none beyond the given statement. -/
import Derived.Test.YtgdmjbcllgmepaaGreatDoorRowFullRowA
import Derived.Test.YtgdmjbcllgmepaaGreatDoorRowFullRowB
set_option linter.unusedVariables false
set_option linter.unusedSimpArgs false
namespace Go.Proofs.YtgdmjbcllgmepaaGreatDoor.fnExactFullRow
open Go Go.Proofs
set_option maxHeartbeats 4000000
set_option maxRecDepth 100000
open Go.ChangeShapes Go.WideShapes Go.ChangeAt Go.RowKit
open Go.Proofs.YtgdmjbcllgmepaaGreatDoor.Ab
theorem Xi8:Rows.fnExactFullRowRow.holds Tryz.pinned (OpenSpec.ofChange Rows.fnExactFullRowSpec):=
 OpenClaim.holds_of_wide 8 Tryz.f8 rfl rfl rfl rfl rfl rfl rfl ⟨rfl,rfl,rfl,rfl,rfl⟩ rfl rfl rfl rfl rfl (by as_aux_lemma=>kernel_rfl) Tryz.func8 XjY
  (of_decide_eq_true (by as_aux_lemma=>kernel_rfl)) (by unfold Func.isWrapper;first|(rw[if_pos (by decide+kernel)];kernel_rfl)|(rw[if_neg (by decide+kernel)];exact⟨rfl,rfl⟩))
  (fun os started H enc _=>lifted os started H enc)
theorem proved:Rows.FnExactFullRowCardSaid:=
 Claim7.holds_tied_plain_at .later [] [.data,.data,.data,.sentinel,.sentinel] true (true, "45d09819946afd6ec800e4e9ea36368295b8598935c5e2ac19c85708c4d9859d") true
  Xi8 (fun _ h=>by cases h) (by as_aux_lemma=>kernel_rfl) (fun _ h=>by cases h) fnExactFullRow_row_tie rfl ⟨rfl,rfl⟩ (by as_aux_lemma=>kernel_rfl) rfl
  (fun f fn hf hfn=>by
   obtain rfl:f=8:=Option.some.inj ((show Tryz.prog.funcNamed "loop.example/g00971/laws.FnExactFullRow"=some 8 by as_aux_lemma=>kernel_rfl).symm.trans hf)|>.symm
   obtain rfl:fn=Tryz.f8:=(Option.some.inj (Tryz.func8.symm.trans hfn)).symm
   exact⟨by as_aux_lemma=>kernel_rfl,fun j t ht=>by
    rw[Tryz.params8]at ht
    have hm:t∈[3,3,3,3,26]:=by simpa using Array.mem_of_getElem? ht
    have hall:([3,3,3,3,26].all fun u=>!Tryz.prog.wantsStandIn u)=true:=by as_aux_lemma=>kernel_rfl
    exact(show Tryz.prog.wantsStandIn t=false by simpa using List.all_eq_true.1 hall t hm)⟩)
  (by as_aux_lemma=>kernel_rfl)
end Go.Proofs.YtgdmjbcllgmepaaGreatDoor.fnExactFullRow
namespace Go.Proofs.YtgdmjbcllgmepaaGreatDoor
theorem fnExactFullRow_holds:Rows.FnExactFullRowCardSaid:=fnExactFullRow.proved
end Go.Proofs.YtgdmjbcllgmepaaGreatDoor
