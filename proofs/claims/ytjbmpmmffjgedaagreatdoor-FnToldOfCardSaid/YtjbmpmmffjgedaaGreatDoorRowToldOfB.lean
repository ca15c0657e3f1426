/- For all arguments, the law FnToldOf answers true, the listed package-level variables holding what the program's text lays: the tied card of the given statement FnToldOfCardSaid. Conditions: none beyond the given statement. -/
import Derived.Test.YtjbmpmmffjgedaaGreatDoorRows
import Derived.KernelRfl
import Derived.JoinedOf
set_option linter.unusedVariables false
set_option linter.unusedSimpArgs false
namespace Go.Proofs.YtjbmpmmffjgedaaGreatDoor.fnToldOf
open Go Go.Proofs
set_option maxRecDepth 100000
theorem k1:(Rows.fnToldOfRow.wf (OpenSpec.ofChange Rows.fnToldOfSpec))=true:=by kernel_rfl
theorem k2:(laidOutB Tryz.prog)=true:=by kernel_rfl
theorem k3:(mapsRowed Tryz.prog)=true:=by kernel_rfl
theorem k4:(Tryz.f5.params.all (Tryz.prog.readableRec ·))=true:=by kernel_rfl
theorem k5:(namedTie Tryz.prog Rows.fnToldOfRow.named Rows.fnToldOfSpec.vars)=true:=by kernel_rfl
theorem k6:((Rows.fnToldOfRow.stops==[]))=true:=by kernel_rfl
theorem k7:((Tryz.prog.stops==[]))=true:=by kernel_rfl
theorem k8:((Rows.fnToldOfRow.knobs==[]))=true:=by kernel_rfl
theorem k9:((Tryz.prog.stopKnobs==[]))=true:=by kernel_rfl
theorem k10:((Rows.fnToldOfRow.inPlace==Tryz.prog.inPlace 5))=true:=by kernel_rfl
theorem k11:((Rows.fnToldOfRow.unfollowed==Tryz.prog.unfollowed 5))=true:=by kernel_rfl
theorem k12:((Rows.fnToldOfRow.recurses==Tryz.prog.recurses 5))=true:=by kernel_rfl
theorem k13:((Rows.fnToldOfRow.named==Tryz.prog.varsNamed 5))=true:=by kernel_rfl
theorem k14:((Rows.fnToldOfRow.maps==(Tryz.f5.params.toList++Rows.fnToldOfSpec.plain.varTypes Tryz.prog).any (Tryz.prog.mapsRec ·)))=true:=by kernel_rfl
theorem k15:((Rows.fnToldOfRow.ifaces==(Tryz.f5.params.toList++Rows.fnToldOfSpec.plain.varTypes Tryz.prog).any (Tryz.prog.ifacesRec ·)))=true:=by kernel_rfl
theorem k16:((Rows.fnToldOfRow.mapsOut==Tryz.prog.mapsAmong Tryz.f5.resultTypes.toList))=true:=by kernel_rfl
theorem k17:((Rows.fnToldOfRow.loops==(Tryz.f5.params.toList++Rows.fnToldOfSpec.plain.varTypes Tryz.prog).any (Tryz.prog.loopsFrom ·)))=true:=by kernel_rfl
theorem k18:((Rows.fnToldOfRow.wideKeys==(Tryz.f5.params.toList++Rows.fnToldOfSpec.plain.varTypes Tryz.prog++Tryz.f5.resultTypes.toList).any (Tryz.prog.wideKeysFrom ·)))=true:=by kernel_rfl
theorem k19:(Rows.fnToldOfSpec.vars.all (Tryz.prog.varReadable ·))=true:=by kernel_rfl
theorem k20:(Tryz.f5.resultTypes.all (fun t=>Tryz.prog.readableRec t&&decide (t<Tryz.prog.types.size)))=true:=by kernel_rfl
theorem k21:((Rows.fnToldOfRow.ifacesOut==Tryz.f5.resultTypes.toList.any (Tryz.prog.ifacesRec ·)))=true:=by kernel_rfl
theorem k22:((Rows.fnToldOfRow.loopsOut==Tryz.f5.resultTypes.toList.any (Tryz.prog.loopsFrom ·)))=true:=by kernel_rfl
theorem k23:((Rows.fnToldOfRow.plainKeys==Tryz.prog.plainKeys))=true:=by kernel_rfl
theorem k24:(Rows.fnToldOfRow.shortTexts.isNone)=true:=by kernel_rfl
theorem k25:(Tryz.prog.stopsHeard)=true:=by kernel_rfl
theorem k26:(Tryz.prog.mayEnter)=true:=by kernel_rfl
theorem k27:((Rows.fnToldOfRow.lifted==Tryz.prog.liftsFinal))=true:=by kernel_rfl
theorem k28:((Tryz.prog.make==some Rows.fnToldOfRow.make))=true:=by kernel_rfl
theorem k29:((Rows.fnToldOfRow.kinds==(if Rows.fnToldOfRow.domain.isEmpty then[]else Tryz.f5.params.toList.map fun t=>match Tryz.prog.underlying t with|some (.int k)=>some k|_=>none)))=true:=by kernel_rfl
theorem k30:((Rows.fnToldOfRow.pinned==Rows.fnToldOfRow.pinnedBy))=true:=by kernel_rfl
theorem k31:((Rows.fnToldOfRow.veiled==(Tryz.f5.params.toList++Rows.fnToldOfSpec.plain.varTypes Tryz.prog++Tryz.f5.resultTypes.toList).any (Tryz.prog.veiledRec ·)))=true:=by kernel_rfl
theorem k32:(Rows.fnToldOfRow.veiledFits Tryz.prog Tryz.f5.params.toList (Tryz.f5.params.toList++Rows.fnToldOfSpec.plain.varTypes Tryz.prog++Tryz.f5.resultTypes.toList))=true:=by kernel_rfl
theorem XlB:joinedFacts Tryz.prog 5 Tryz.f5 Rows.fnToldOfSpec Rows.fnToldOfRow=true:=by
 unfold joinedFacts
 simp only[Bool.and_eq_true]
 exact⟨⟨⟨⟨⟨⟨⟨⟨⟨⟨⟨⟨⟨⟨⟨⟨⟨⟨⟨⟨⟨⟨⟨⟨⟨⟨⟨⟨⟨⟨⟨k1,k2⟩,k3⟩,k4⟩,k5⟩,k6⟩,k7⟩,k8⟩,k9⟩,k10⟩,k11⟩,k12⟩,k13⟩,k14⟩,k15⟩,k16⟩,k17⟩,k18⟩,k19⟩,k20⟩,k21⟩,k22⟩,k23⟩,k24⟩,k25⟩,k26⟩,k27⟩,k28⟩,k29⟩,k30⟩,k31⟩,k32⟩
end Go.Proofs.YtjbmpmmffjgedaaGreatDoor.fnToldOf
