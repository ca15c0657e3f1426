/- For all arguments, the law FnExactHoldsAfter answers true, the listed package-level variables holding what the program's text lays: the tied card of the given statement FnExactHoldsAfterCardSaid. Conditions: none beyond the given statement. -/
import Derived.Test.YtgdmjbcllgmepaaGreatDoorRows
import Derived.KernelRfl
import Derived.JoinedOf
set_option linter.unusedVariables false
set_option linter.unusedSimpArgs false
namespace Go.Proofs.YtgdmjbcllgmepaaGreatDoor.fnExactHoldsAfter
open Go Go.Proofs
set_option maxRecDepth 100000
theorem k1:(Rows.fnExactHoldsAfterRow.wf (OpenSpec.ofChange Rows.fnExactHoldsAfterSpec))=true:=by kernel_rfl
theorem k2:(laidOutB Tryz.prog)=true:=by kernel_rfl
theorem k3:(mapsRowed Tryz.prog)=true:=by kernel_rfl
theorem k4:(Tryz.f5.params.all (Tryz.prog.readableRec ·))=true:=by kernel_rfl
theorem k5:(namedTie Tryz.prog Rows.fnExactHoldsAfterRow.named Rows.fnExactHoldsAfterSpec.vars)=true:=by kernel_rfl
theorem k6:((Rows.fnExactHoldsAfterRow.stops==[]))=true:=by kernel_rfl
theorem k7:((Tryz.prog.stops==[]))=true:=by kernel_rfl
theorem k8:((Rows.fnExactHoldsAfterRow.knobs==[]))=true:=by kernel_rfl
theorem k9:((Tryz.prog.stopKnobs==[]))=true:=by kernel_rfl
theorem k10:((Rows.fnExactHoldsAfterRow.inPlace==Tryz.prog.inPlace 5))=true:=by kernel_rfl
theorem k11:((Rows.fnExactHoldsAfterRow.unfollowed==Tryz.prog.unfollowed 5))=true:=by kernel_rfl
theorem k12:((Rows.fnExactHoldsAfterRow.recurses==Tryz.prog.recurses 5))=true:=by kernel_rfl
theorem k13:((Rows.fnExactHoldsAfterRow.named==Tryz.prog.varsNamed 5))=true:=by kernel_rfl
theorem k14:((Rows.fnExactHoldsAfterRow.maps==(Tryz.f5.params.toList++Rows.fnExactHoldsAfterSpec.plain.varTypes Tryz.prog).any (Tryz.prog.mapsRec ·)))=true:=by kernel_rfl
theorem k15:((Rows.fnExactHoldsAfterRow.ifaces==(Tryz.f5.params.toList++Rows.fnExactHoldsAfterSpec.plain.varTypes Tryz.prog).any (Tryz.prog.ifacesRec ·)))=true:=by kernel_rfl
theorem k16:((Rows.fnExactHoldsAfterRow.mapsOut==Tryz.prog.mapsAmong Tryz.f5.resultTypes.toList))=true:=by kernel_rfl
theorem k17:((Rows.fnExactHoldsAfterRow.loops==(Tryz.f5.params.toList++Rows.fnExactHoldsAfterSpec.plain.varTypes Tryz.prog).any (Tryz.prog.loopsFrom ·)))=true:=by kernel_rfl
theorem k18:((Rows.fnExactHoldsAfterRow.wideKeys==(Tryz.f5.params.toList++Rows.fnExactHoldsAfterSpec.plain.varTypes Tryz.prog++Tryz.f5.resultTypes.toList).any (Tryz.prog.wideKeysFrom ·)))=true:=by kernel_rfl
theorem k19:(Rows.fnExactHoldsAfterSpec.vars.all (Tryz.prog.varReadable ·))=true:=by kernel_rfl
theorem k20:(Tryz.f5.resultTypes.all (fun t=>Tryz.prog.readableRec t&&decide (t<Tryz.prog.types.size)))=true:=by kernel_rfl
theorem k21:((Rows.fnExactHoldsAfterRow.ifacesOut==Tryz.f5.resultTypes.toList.any (Tryz.prog.ifacesRec ·)))=true:=by kernel_rfl
theorem k22:((Rows.fnExactHoldsAfterRow.loopsOut==Tryz.f5.resultTypes.toList.any (Tryz.prog.loopsFrom ·)))=true:=by kernel_rfl
theorem k23:((Rows.fnExactHoldsAfterRow.plainKeys==Tryz.prog.plainKeys))=true:=by kernel_rfl
theorem k24:(Rows.fnExactHoldsAfterRow.shortTexts.isNone)=true:=by kernel_rfl
theorem k25:(Tryz.prog.stopsHeard)=true:=by kernel_rfl
theorem k26:(Tryz.prog.mayEnter)=true:=by kernel_rfl
theorem k27:((Rows.fnExactHoldsAfterRow.lifted==Tryz.prog.liftsFinal))=true:=by kernel_rfl
theorem k28:((Tryz.prog.make==some Rows.fnExactHoldsAfterRow.make))=true:=by kernel_rfl
theorem k29:((Rows.fnExactHoldsAfterRow.kinds==(if Rows.fnExactHoldsAfterRow.domain.isEmpty then[]else Tryz.f5.params.toList.map fun t=>match Tryz.prog.underlying t with|some (.int k)=>some k|_=>none)))=true:=by kernel_rfl
theorem k30:((Rows.fnExactHoldsAfterRow.pinned==Rows.fnExactHoldsAfterRow.pinnedBy))=true:=by kernel_rfl
theorem k31:((Rows.fnExactHoldsAfterRow.veiled==(Tryz.f5.params.toList++Rows.fnExactHoldsAfterSpec.plain.varTypes Tryz.prog++Tryz.f5.resultTypes.toList).any (Tryz.prog.veiledRec ·)))=true:=by kernel_rfl
theorem k32:(Rows.fnExactHoldsAfterRow.veiledFits Tryz.prog Tryz.f5.params.toList (Tryz.f5.params.toList++Rows.fnExactHoldsAfterSpec.plain.varTypes Tryz.prog++Tryz.f5.resultTypes.toList))=true:=by kernel_rfl
theorem XgQ:joinedFacts Tryz.prog 5 Tryz.f5 Rows.fnExactHoldsAfterSpec Rows.fnExactHoldsAfterRow=true:=by
 unfold joinedFacts
 simp only[Bool.and_eq_true]
 exact⟨⟨⟨⟨⟨⟨⟨⟨⟨⟨⟨⟨⟨⟨⟨⟨⟨⟨⟨⟨⟨⟨⟨⟨⟨⟨⟨⟨⟨⟨⟨k1,k2⟩,k3⟩,k4⟩,k5⟩,k6⟩,k7⟩,k8⟩,k9⟩,k10⟩,k11⟩,k12⟩,k13⟩,k14⟩,k15⟩,k16⟩,k17⟩,k18⟩,k19⟩,k20⟩,k21⟩,k22⟩,k23⟩,k24⟩,k25⟩,k26⟩,k27⟩,k28⟩,k29⟩,k30⟩,k31⟩,k32⟩
end Go.Proofs.YtgdmjbcllgmepaaGreatDoor.fnExactHoldsAfter
