/- For all arguments, the law FnExactRowBehind answers true, the listed package-level variables holding what the program's text lays: the tied card of the given statement FnExactRowBehindCardSaid. Conditions: none beyond the given statement. -/
import Derived.Test.YtgdmjbcllgmepaaGreatDoorRows
import Derived.KernelRfl
import Derived.JoinedOf
set_option linter.unusedVariables false
set_option linter.unusedSimpArgs false
namespace Go.Proofs.YtgdmjbcllgmepaaGreatDoor.fnExactRowBehind
open Go Go.Proofs
set_option maxRecDepth 100000
theorem k1:(Rows.fnExactRowBehindRow.wf (OpenSpec.ofChange Rows.fnExactRowBehindSpec))=true:=by kernel_rfl
theorem k2:(laidOutB Tryz.prog)=true:=by kernel_rfl
theorem k3:(mapsRowed Tryz.prog)=true:=by kernel_rfl
theorem k4:(Tryz.f10.params.all (Tryz.prog.readableRec ·))=true:=by kernel_rfl
theorem k5:(namedTie Tryz.prog Rows.fnExactRowBehindRow.named Rows.fnExactRowBehindSpec.vars)=true:=by kernel_rfl
theorem k6:((Rows.fnExactRowBehindRow.stops==[]))=true:=by kernel_rfl
theorem k7:((Tryz.prog.stops==[]))=true:=by kernel_rfl
theorem k8:((Rows.fnExactRowBehindRow.knobs==[]))=true:=by kernel_rfl
theorem k9:((Tryz.prog.stopKnobs==[]))=true:=by kernel_rfl
theorem k10:((Rows.fnExactRowBehindRow.inPlace==Tryz.prog.inPlace 10))=true:=by kernel_rfl
theorem k11:((Rows.fnExactRowBehindRow.unfollowed==Tryz.prog.unfollowed 10))=true:=by kernel_rfl
theorem k12:((Rows.fnExactRowBehindRow.recurses==Tryz.prog.recurses 10))=true:=by kernel_rfl
theorem k13:((Rows.fnExactRowBehindRow.named==Tryz.prog.varsNamed 10))=true:=by kernel_rfl
theorem k14:((Rows.fnExactRowBehindRow.maps==(Tryz.f10.params.toList++Rows.fnExactRowBehindSpec.plain.varTypes Tryz.prog).any (Tryz.prog.mapsRec ·)))=true:=by kernel_rfl
theorem k15:((Rows.fnExactRowBehindRow.ifaces==(Tryz.f10.params.toList++Rows.fnExactRowBehindSpec.plain.varTypes Tryz.prog).any (Tryz.prog.ifacesRec ·)))=true:=by kernel_rfl
theorem k16:((Rows.fnExactRowBehindRow.mapsOut==Tryz.prog.mapsAmong Tryz.f10.resultTypes.toList))=true:=by kernel_rfl
theorem k17:((Rows.fnExactRowBehindRow.loops==(Tryz.f10.params.toList++Rows.fnExactRowBehindSpec.plain.varTypes Tryz.prog).any (Tryz.prog.loopsFrom ·)))=true:=by kernel_rfl
theorem k18:((Rows.fnExactRowBehindRow.wideKeys==(Tryz.f10.params.toList++Rows.fnExactRowBehindSpec.plain.varTypes Tryz.prog++Tryz.f10.resultTypes.toList).any (Tryz.prog.wideKeysFrom ·)))=true:=by kernel_rfl
theorem k19:(Rows.fnExactRowBehindSpec.vars.all (Tryz.prog.varReadable ·))=true:=by kernel_rfl
theorem k20:(Tryz.f10.resultTypes.all (fun t=>Tryz.prog.readableRec t&&decide (t<Tryz.prog.types.size)))=true:=by kernel_rfl
theorem k21:((Rows.fnExactRowBehindRow.ifacesOut==Tryz.f10.resultTypes.toList.any (Tryz.prog.ifacesRec ·)))=true:=by kernel_rfl
theorem k22:((Rows.fnExactRowBehindRow.loopsOut==Tryz.f10.resultTypes.toList.any (Tryz.prog.loopsFrom ·)))=true:=by kernel_rfl
theorem k23:((Rows.fnExactRowBehindRow.plainKeys==Tryz.prog.plainKeys))=true:=by kernel_rfl
theorem k24:(Rows.fnExactRowBehindRow.shortTexts.isNone)=true:=by kernel_rfl
theorem k25:(Tryz.prog.stopsHeard)=true:=by kernel_rfl
theorem k26:(Tryz.prog.mayEnter)=true:=by kernel_rfl
theorem k27:((Rows.fnExactRowBehindRow.lifted==Tryz.prog.liftsFinal))=true:=by kernel_rfl
theorem k28:((Tryz.prog.make==some Rows.fnExactRowBehindRow.make))=true:=by kernel_rfl
theorem k29:((Rows.fnExactRowBehindRow.kinds==(if Rows.fnExactRowBehindRow.domain.isEmpty then[]else Tryz.f10.params.toList.map fun t=>match Tryz.prog.underlying t with|some (.int k)=>some k|_=>none)))=true:=by kernel_rfl
theorem k30:((Rows.fnExactRowBehindRow.pinned==Rows.fnExactRowBehindRow.pinnedBy))=true:=by kernel_rfl
theorem k31:((Rows.fnExactRowBehindRow.veiled==(Tryz.f10.params.toList++Rows.fnExactRowBehindSpec.plain.varTypes Tryz.prog++Tryz.f10.resultTypes.toList).any (Tryz.prog.veiledRec ·)))=true:=by kernel_rfl
theorem k32:(Rows.fnExactRowBehindRow.veiledFits Tryz.prog Tryz.f10.params.toList (Tryz.f10.params.toList++Rows.fnExactRowBehindSpec.plain.varTypes Tryz.prog++Tryz.f10.resultTypes.toList))=true:=by kernel_rfl
theorem Xma:joinedFacts Tryz.prog 10 Tryz.f10 Rows.fnExactRowBehindSpec Rows.fnExactRowBehindRow=true:=by
 unfold joinedFacts
 simp only[Bool.and_eq_true]
 exact⟨⟨⟨⟨⟨⟨⟨⟨⟨⟨⟨⟨⟨⟨⟨⟨⟨⟨⟨⟨⟨⟨⟨⟨⟨⟨⟨⟨⟨⟨⟨k1,k2⟩,k3⟩,k4⟩,k5⟩,k6⟩,k7⟩,k8⟩,k9⟩,k10⟩,k11⟩,k12⟩,k13⟩,k14⟩,k15⟩,k16⟩,k17⟩,k18⟩,k19⟩,k20⟩,k21⟩,k22⟩,k23⟩,k24⟩,k25⟩,k26⟩,k27⟩,k28⟩,k29⟩,k30⟩,k31⟩,k32⟩
end Go.Proofs.YtgdmjbcllgmepaaGreatDoor.fnExactRowBehind
