/- For all arguments, the law FnLargest answers true, the listed package-level variables holding what the program's text lays: the tied card of the given statement FnLargestCardSaid. Conditions: none beyond the given statement. -/
import Derived.Test.YtjbmpmmffjgedaaGreatDoorRows
import Derived.KernelRfl
import Derived.JoinedOf
set_option linter.unusedVariables false
set_option linter.unusedSimpArgs false
namespace Go.Proofs.YtjbmpmmffjgedaaGreatDoor.fnLargest
open Go Go.Proofs
set_option maxRecDepth 100000
theorem k1:(Rows.fnLargestRow.wf (OpenSpec.ofChange Rows.fnLargestSpec))=true:=by kernel_rfl
theorem k2:(laidOutB Tryz.prog)=true:=by kernel_rfl
theorem k3:(mapsRowed Tryz.prog)=true:=by kernel_rfl
theorem k4:(Tryz.f3.params.all (Tryz.prog.readableRec ·))=true:=by kernel_rfl
theorem k5:(namedTie Tryz.prog Rows.fnLargestRow.named Rows.fnLargestSpec.vars)=true:=by kernel_rfl
theorem k6:((Rows.fnLargestRow.stops==[]))=true:=by kernel_rfl
theorem k7:((Tryz.prog.stops==[]))=true:=by kernel_rfl
theorem k8:((Rows.fnLargestRow.knobs==[]))=true:=by kernel_rfl
theorem k9:((Tryz.prog.stopKnobs==[]))=true:=by kernel_rfl
theorem k10:((Rows.fnLargestRow.inPlace==Tryz.prog.inPlace 3))=true:=by kernel_rfl
theorem k11:((Rows.fnLargestRow.unfollowed==Tryz.prog.unfollowed 3))=true:=by kernel_rfl
theorem k12:((Rows.fnLargestRow.recurses==Tryz.prog.recurses 3))=true:=by kernel_rfl
theorem k13:((Rows.fnLargestRow.named==Tryz.prog.varsNamed 3))=true:=by kernel_rfl
theorem k14:((Rows.fnLargestRow.maps==(Tryz.f3.params.toList++Rows.fnLargestSpec.plain.varTypes Tryz.prog).any (Tryz.prog.mapsRec ·)))=true:=by kernel_rfl
theorem k15:((Rows.fnLargestRow.ifaces==(Tryz.f3.params.toList++Rows.fnLargestSpec.plain.varTypes Tryz.prog).any (Tryz.prog.ifacesRec ·)))=true:=by kernel_rfl
theorem k16:((Rows.fnLargestRow.mapsOut==Tryz.prog.mapsAmong Tryz.f3.resultTypes.toList))=true:=by kernel_rfl
theorem k17:((Rows.fnLargestRow.loops==(Tryz.f3.params.toList++Rows.fnLargestSpec.plain.varTypes Tryz.prog).any (Tryz.prog.loopsFrom ·)))=true:=by kernel_rfl
theorem k18:((Rows.fnLargestRow.wideKeys==(Tryz.f3.params.toList++Rows.fnLargestSpec.plain.varTypes Tryz.prog++Tryz.f3.resultTypes.toList).any (Tryz.prog.wideKeysFrom ·)))=true:=by kernel_rfl
theorem k19:(Rows.fnLargestSpec.vars.all (Tryz.prog.varReadable ·))=true:=by kernel_rfl
theorem k20:(Tryz.f3.resultTypes.all (fun t=>Tryz.prog.readableRec t&&decide (t<Tryz.prog.types.size)))=true:=by kernel_rfl
theorem k21:((Rows.fnLargestRow.ifacesOut==Tryz.f3.resultTypes.toList.any (Tryz.prog.ifacesRec ·)))=true:=by kernel_rfl
theorem k22:((Rows.fnLargestRow.loopsOut==Tryz.f3.resultTypes.toList.any (Tryz.prog.loopsFrom ·)))=true:=by kernel_rfl
theorem k23:((Rows.fnLargestRow.plainKeys==Tryz.prog.plainKeys))=true:=by kernel_rfl
theorem k24:(Rows.fnLargestRow.shortTexts.isNone)=true:=by kernel_rfl
theorem k25:(Tryz.prog.stopsHeard)=true:=by kernel_rfl
theorem k26:(Tryz.prog.mayEnter)=true:=by kernel_rfl
theorem k27:((Rows.fnLargestRow.lifted==Tryz.prog.liftsFinal))=true:=by kernel_rfl
theorem k28:((Tryz.prog.make==some Rows.fnLargestRow.make))=true:=by kernel_rfl
theorem k29:((Rows.fnLargestRow.kinds==(if Rows.fnLargestRow.domain.isEmpty then[]else Tryz.f3.params.toList.map fun t=>match Tryz.prog.underlying t with|some (.int k)=>some k|_=>none)))=true:=by kernel_rfl
theorem k30:((Rows.fnLargestRow.pinned==Rows.fnLargestRow.pinnedBy))=true:=by kernel_rfl
theorem k31:((Rows.fnLargestRow.veiled==(Tryz.f3.params.toList++Rows.fnLargestSpec.plain.varTypes Tryz.prog++Tryz.f3.resultTypes.toList).any (Tryz.prog.veiledRec ·)))=true:=by kernel_rfl
theorem k32:(Rows.fnLargestRow.veiledFits Tryz.prog Tryz.f3.params.toList (Tryz.f3.params.toList++Rows.fnLargestSpec.plain.varTypes Tryz.prog++Tryz.f3.resultTypes.toList))=true:=by kernel_rfl
theorem Xis:joinedFacts Tryz.prog 3 Tryz.f3 Rows.fnLargestSpec Rows.fnLargestRow=true:=by
 unfold joinedFacts
 simp only[Bool.and_eq_true]
 exact⟨⟨⟨⟨⟨⟨⟨⟨⟨⟨⟨⟨⟨⟨⟨⟨⟨⟨⟨⟨⟨⟨⟨⟨⟨⟨⟨⟨⟨⟨⟨k1,k2⟩,k3⟩,k4⟩,k5⟩,k6⟩,k7⟩,k8⟩,k9⟩,k10⟩,k11⟩,k12⟩,k13⟩,k14⟩,k15⟩,k16⟩,k17⟩,k18⟩,k19⟩,k20⟩,k21⟩,k22⟩,k23⟩,k24⟩,k25⟩,k26⟩,k27⟩,k28⟩,k29⟩,k30⟩,k31⟩,k32⟩
end Go.Proofs.YtjbmpmmffjgedaaGreatDoor.fnLargest
