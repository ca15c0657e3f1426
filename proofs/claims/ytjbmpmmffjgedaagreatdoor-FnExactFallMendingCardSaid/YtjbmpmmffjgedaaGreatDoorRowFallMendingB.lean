/- For all arguments, the law FnExactFallMending answers true, the listed package-level variables holding what the program's text lays: the tied card of the given statement FnExactFallMendingCardSaid. Conditions: none beyond the given statement. -/
import Derived.Test.YtjbmpmmffjgedaaGreatDoorRows
import Derived.KernelRfl
import Derived.JoinedOf
set_option linter.unusedVariables false
set_option linter.unusedSimpArgs false
namespace Go.Proofs.YtjbmpmmffjgedaaGreatDoor.fnExactFallMending
open Go Go.Proofs
set_option maxRecDepth 100000
theorem k1:(Rows.fnExactFallMendingRow.wf (OpenSpec.ofChange Rows.fnExactFallMendingSpec))=true:=by kernel_rfl
theorem k2:(laidOutB Tryz.prog)=true:=by kernel_rfl
theorem k3:(mapsRowed Tryz.prog)=true:=by kernel_rfl
theorem k4:(Tryz.f7.params.all (Tryz.prog.readableRec ·))=true:=by kernel_rfl
theorem k5:(namedTie Tryz.prog Rows.fnExactFallMendingRow.named Rows.fnExactFallMendingSpec.vars)=true:=by kernel_rfl
theorem k6:((Rows.fnExactFallMendingRow.stops==[]))=true:=by kernel_rfl
theorem k7:((Tryz.prog.stops==[]))=true:=by kernel_rfl
theorem k8:((Rows.fnExactFallMendingRow.knobs==[]))=true:=by kernel_rfl
theorem k9:((Tryz.prog.stopKnobs==[]))=true:=by kernel_rfl
theorem k10:((Rows.fnExactFallMendingRow.inPlace==Tryz.prog.inPlace 7))=true:=by kernel_rfl
theorem k11:((Rows.fnExactFallMendingRow.unfollowed==Tryz.prog.unfollowed 7))=true:=by kernel_rfl
theorem k12:((Rows.fnExactFallMendingRow.recurses==Tryz.prog.recurses 7))=true:=by kernel_rfl
theorem k13:((Rows.fnExactFallMendingRow.named==Tryz.prog.varsNamed 7))=true:=by kernel_rfl
theorem k14:((Rows.fnExactFallMendingRow.maps==(Tryz.f7.params.toList++Rows.fnExactFallMendingSpec.plain.varTypes Tryz.prog).any (Tryz.prog.mapsRec ·)))=true:=by kernel_rfl
theorem k15:((Rows.fnExactFallMendingRow.ifaces==(Tryz.f7.params.toList++Rows.fnExactFallMendingSpec.plain.varTypes Tryz.prog).any (Tryz.prog.ifacesRec ·)))=true:=by kernel_rfl
theorem k16:((Rows.fnExactFallMendingRow.mapsOut==Tryz.prog.mapsAmong Tryz.f7.resultTypes.toList))=true:=by kernel_rfl
theorem k17:((Rows.fnExactFallMendingRow.loops==(Tryz.f7.params.toList++Rows.fnExactFallMendingSpec.plain.varTypes Tryz.prog).any (Tryz.prog.loopsFrom ·)))=true:=by kernel_rfl
theorem k18:((Rows.fnExactFallMendingRow.wideKeys==(Tryz.f7.params.toList++Rows.fnExactFallMendingSpec.plain.varTypes Tryz.prog++Tryz.f7.resultTypes.toList).any (Tryz.prog.wideKeysFrom ·)))=true:=by kernel_rfl
theorem k19:(Rows.fnExactFallMendingSpec.vars.all (Tryz.prog.varReadable ·))=true:=by kernel_rfl
theorem k20:(Tryz.f7.resultTypes.all (fun t=>Tryz.prog.readableRec t&&decide (t<Tryz.prog.types.size)))=true:=by kernel_rfl
theorem k21:((Rows.fnExactFallMendingRow.ifacesOut==Tryz.f7.resultTypes.toList.any (Tryz.prog.ifacesRec ·)))=true:=by kernel_rfl
theorem k22:((Rows.fnExactFallMendingRow.loopsOut==Tryz.f7.resultTypes.toList.any (Tryz.prog.loopsFrom ·)))=true:=by kernel_rfl
theorem k23:((Rows.fnExactFallMendingRow.plainKeys==Tryz.prog.plainKeys))=true:=by kernel_rfl
theorem k24:(Rows.fnExactFallMendingRow.shortTexts.isNone)=true:=by kernel_rfl
theorem k25:(Tryz.prog.stopsHeard)=true:=by kernel_rfl
theorem k26:(Tryz.prog.mayEnter)=true:=by kernel_rfl
theorem k27:((Rows.fnExactFallMendingRow.lifted==Tryz.prog.liftsFinal))=true:=by kernel_rfl
theorem k28:((Tryz.prog.make==some Rows.fnExactFallMendingRow.make))=true:=by kernel_rfl
theorem k29:((Rows.fnExactFallMendingRow.kinds==(if Rows.fnExactFallMendingRow.domain.isEmpty then[]else Tryz.f7.params.toList.map fun t=>match Tryz.prog.underlying t with|some (.int k)=>some k|_=>none)))=true:=by kernel_rfl
theorem k30:((Rows.fnExactFallMendingRow.pinned==Rows.fnExactFallMendingRow.pinnedBy))=true:=by kernel_rfl
theorem k31:((Rows.fnExactFallMendingRow.veiled==(Tryz.f7.params.toList++Rows.fnExactFallMendingSpec.plain.varTypes Tryz.prog++Tryz.f7.resultTypes.toList).any (Tryz.prog.veiledRec ·)))=true:=by kernel_rfl
theorem k32:(Rows.fnExactFallMendingRow.veiledFits Tryz.prog Tryz.f7.params.toList (Tryz.f7.params.toList++Rows.fnExactFallMendingSpec.plain.varTypes Tryz.prog++Tryz.f7.resultTypes.toList))=true:=by kernel_rfl
theorem Xnv:joinedFacts Tryz.prog 7 Tryz.f7 Rows.fnExactFallMendingSpec Rows.fnExactFallMendingRow=true:=by
 unfold joinedFacts
 simp only[Bool.and_eq_true]
 exact⟨⟨⟨⟨⟨⟨⟨⟨⟨⟨⟨⟨⟨⟨⟨⟨⟨⟨⟨⟨⟨⟨⟨⟨⟨⟨⟨⟨⟨⟨⟨k1,k2⟩,k3⟩,k4⟩,k5⟩,k6⟩,k7⟩,k8⟩,k9⟩,k10⟩,k11⟩,k12⟩,k13⟩,k14⟩,k15⟩,k16⟩,k17⟩,k18⟩,k19⟩,k20⟩,k21⟩,k22⟩,k23⟩,k24⟩,k25⟩,k26⟩,k27⟩,k28⟩,k29⟩,k30⟩,k31⟩,k32⟩
end Go.Proofs.YtjbmpmmffjgedaaGreatDoor.fnExactFallMending
