/- For all arguments, the law FnExactTakenIn answers true, the listed package-level variables holding what the program's text lays: the tied card of the given statement FnExactTakenInCardSaid. Conditions: none beyond the given statement. -/
import Derived.Test.YtgdmjbcllgmepaaGreatDoorRows
import Derived.KernelRfl
import Derived.JoinedOf
set_option linter.unusedVariables false
set_option linter.unusedSimpArgs false
namespace Go.Proofs.YtgdmjbcllgmepaaGreatDoor.fnExactTakenIn
open Go Go.Proofs
set_option maxRecDepth 100000
theorem k1:(Rows.fnExactTakenInRow.wf (OpenSpec.ofChange Rows.fnExactTakenInSpec))=true:=by kernel_rfl
theorem k2:(laidOutB Tryz.prog)=true:=by kernel_rfl
theorem k3:(mapsRowed Tryz.prog)=true:=by kernel_rfl
theorem k4:(Tryz.f4.params.all (Tryz.prog.readableRec ·))=true:=by kernel_rfl
theorem k5:(namedTie Tryz.prog Rows.fnExactTakenInRow.named Rows.fnExactTakenInSpec.vars)=true:=by kernel_rfl
theorem k6:((Rows.fnExactTakenInRow.stops==[]))=true:=by kernel_rfl
theorem k7:((Tryz.prog.stops==[]))=true:=by kernel_rfl
theorem k8:((Rows.fnExactTakenInRow.knobs==[]))=true:=by kernel_rfl
theorem k9:((Tryz.prog.stopKnobs==[]))=true:=by kernel_rfl
theorem k10:((Rows.fnExactTakenInRow.inPlace==Tryz.prog.inPlace 4))=true:=by kernel_rfl
theorem k11:((Rows.fnExactTakenInRow.unfollowed==Tryz.prog.unfollowed 4))=true:=by kernel_rfl
theorem k12:((Rows.fnExactTakenInRow.recurses==Tryz.prog.recurses 4))=true:=by kernel_rfl
theorem k13:((Rows.fnExactTakenInRow.named==Tryz.prog.varsNamed 4))=true:=by kernel_rfl
theorem k14:((Rows.fnExactTakenInRow.maps==(Tryz.f4.params.toList++Rows.fnExactTakenInSpec.plain.varTypes Tryz.prog).any (Tryz.prog.mapsRec ·)))=true:=by kernel_rfl
theorem k15:((Rows.fnExactTakenInRow.ifaces==(Tryz.f4.params.toList++Rows.fnExactTakenInSpec.plain.varTypes Tryz.prog).any (Tryz.prog.ifacesRec ·)))=true:=by kernel_rfl
theorem k16:((Rows.fnExactTakenInRow.mapsOut==Tryz.prog.mapsAmong Tryz.f4.resultTypes.toList))=true:=by kernel_rfl
theorem k17:((Rows.fnExactTakenInRow.loops==(Tryz.f4.params.toList++Rows.fnExactTakenInSpec.plain.varTypes Tryz.prog).any (Tryz.prog.loopsFrom ·)))=true:=by kernel_rfl
theorem k18:((Rows.fnExactTakenInRow.wideKeys==(Tryz.f4.params.toList++Rows.fnExactTakenInSpec.plain.varTypes Tryz.prog++Tryz.f4.resultTypes.toList).any (Tryz.prog.wideKeysFrom ·)))=true:=by kernel_rfl
theorem k19:(Rows.fnExactTakenInSpec.vars.all (Tryz.prog.varReadable ·))=true:=by kernel_rfl
theorem k20:(Tryz.f4.resultTypes.all (fun t=>Tryz.prog.readableRec t&&decide (t<Tryz.prog.types.size)))=true:=by kernel_rfl
theorem k21:((Rows.fnExactTakenInRow.ifacesOut==Tryz.f4.resultTypes.toList.any (Tryz.prog.ifacesRec ·)))=true:=by kernel_rfl
theorem k22:((Rows.fnExactTakenInRow.loopsOut==Tryz.f4.resultTypes.toList.any (Tryz.prog.loopsFrom ·)))=true:=by kernel_rfl
theorem k23:((Rows.fnExactTakenInRow.plainKeys==Tryz.prog.plainKeys))=true:=by kernel_rfl
theorem k24:(Rows.fnExactTakenInRow.shortTexts.isNone)=true:=by kernel_rfl
theorem k25:(Tryz.prog.stopsHeard)=true:=by kernel_rfl
theorem k26:(Tryz.prog.mayEnter)=true:=by kernel_rfl
theorem k27:((Rows.fnExactTakenInRow.lifted==Tryz.prog.liftsFinal))=true:=by kernel_rfl
theorem k28:((Tryz.prog.make==some Rows.fnExactTakenInRow.make))=true:=by kernel_rfl
theorem k29:((Rows.fnExactTakenInRow.kinds==(if Rows.fnExactTakenInRow.domain.isEmpty then[]else Tryz.f4.params.toList.map fun t=>match Tryz.prog.underlying t with|some (.int k)=>some k|_=>none)))=true:=by kernel_rfl
theorem k30:((Rows.fnExactTakenInRow.pinned==Rows.fnExactTakenInRow.pinnedBy))=true:=by kernel_rfl
theorem k31:((Rows.fnExactTakenInRow.veiled==(Tryz.f4.params.toList++Rows.fnExactTakenInSpec.plain.varTypes Tryz.prog++Tryz.f4.resultTypes.toList).any (Tryz.prog.veiledRec ·)))=true:=by kernel_rfl
theorem k32:(Rows.fnExactTakenInRow.veiledFits Tryz.prog Tryz.f4.params.toList (Tryz.f4.params.toList++Rows.fnExactTakenInSpec.plain.varTypes Tryz.prog++Tryz.f4.resultTypes.toList))=true:=by kernel_rfl
theorem Xij:joinedFacts Tryz.prog 4 Tryz.f4 Rows.fnExactTakenInSpec Rows.fnExactTakenInRow=true:=by
 unfold joinedFacts
 simp only[Bool.and_eq_true]
 exact⟨⟨⟨⟨⟨⟨⟨⟨⟨⟨⟨⟨⟨⟨⟨⟨⟨⟨⟨⟨⟨⟨⟨⟨⟨⟨⟨⟨⟨⟨⟨k1,k2⟩,k3⟩,k4⟩,k5⟩,k6⟩,k7⟩,k8⟩,k9⟩,k10⟩,k11⟩,k12⟩,k13⟩,k14⟩,k15⟩,k16⟩,k17⟩,k18⟩,k19⟩,k20⟩,k21⟩,k22⟩,k23⟩,k24⟩,k25⟩,k26⟩,k27⟩,k28⟩,k29⟩,k30⟩,k31⟩,k32⟩
end Go.Proofs.YtgdmjbcllgmepaaGreatDoor.fnExactTakenIn
