/- For all arguments, the law FnExactCarriedSome answers true, the listed package-level variables holding what the program's text lays: the tied card of the given statement FnExactCarriedSomeCardSaid. Conditions: none beyond the given statement. -/
import Derived.Test.YtjbmpmmffjgedaaGreatDoorRows
import Derived.KernelRfl
import Derived.JoinedOf
set_option linter.unusedVariables false
set_option linter.unusedSimpArgs false
namespace Go.Proofs.YtjbmpmmffjgedaaGreatDoor.fnExactCarriedSome
open Go Go.Proofs
set_option maxRecDepth 100000
theorem k1:(Rows.fnExactCarriedSomeRow.wf (OpenSpec.ofChange Rows.fnExactCarriedSomeSpec))=true:=by kernel_rfl
theorem k2:(laidOutB Tryz.prog)=true:=by kernel_rfl
theorem k3:(mapsRowed Tryz.prog)=true:=by kernel_rfl
theorem k4:(Tryz.f6.params.all (Tryz.prog.readableRec ·))=true:=by kernel_rfl
theorem k5:(namedTie Tryz.prog Rows.fnExactCarriedSomeRow.named Rows.fnExactCarriedSomeSpec.vars)=true:=by kernel_rfl
theorem k6:((Rows.fnExactCarriedSomeRow.stops==[]))=true:=by kernel_rfl
theorem k7:((Tryz.prog.stops==[]))=true:=by kernel_rfl
theorem k8:((Rows.fnExactCarriedSomeRow.knobs==[]))=true:=by kernel_rfl
theorem k9:((Tryz.prog.stopKnobs==[]))=true:=by kernel_rfl
theorem k10:((Rows.fnExactCarriedSomeRow.inPlace==Tryz.prog.inPlace 6))=true:=by kernel_rfl
theorem k11:((Rows.fnExactCarriedSomeRow.unfollowed==Tryz.prog.unfollowed 6))=true:=by kernel_rfl
theorem k12:((Rows.fnExactCarriedSomeRow.recurses==Tryz.prog.recurses 6))=true:=by kernel_rfl
theorem k13:((Rows.fnExactCarriedSomeRow.named==Tryz.prog.varsNamed 6))=true:=by kernel_rfl
theorem k14:((Rows.fnExactCarriedSomeRow.maps==(Tryz.f6.params.toList++Rows.fnExactCarriedSomeSpec.plain.varTypes Tryz.prog).any (Tryz.prog.mapsRec ·)))=true:=by kernel_rfl
theorem k15:((Rows.fnExactCarriedSomeRow.ifaces==(Tryz.f6.params.toList++Rows.fnExactCarriedSomeSpec.plain.varTypes Tryz.prog).any (Tryz.prog.ifacesRec ·)))=true:=by kernel_rfl
theorem k16:((Rows.fnExactCarriedSomeRow.mapsOut==Tryz.prog.mapsAmong Tryz.f6.resultTypes.toList))=true:=by kernel_rfl
theorem k17:((Rows.fnExactCarriedSomeRow.loops==(Tryz.f6.params.toList++Rows.fnExactCarriedSomeSpec.plain.varTypes Tryz.prog).any (Tryz.prog.loopsFrom ·)))=true:=by kernel_rfl
theorem k18:((Rows.fnExactCarriedSomeRow.wideKeys==(Tryz.f6.params.toList++Rows.fnExactCarriedSomeSpec.plain.varTypes Tryz.prog++Tryz.f6.resultTypes.toList).any (Tryz.prog.wideKeysFrom ·)))=true:=by kernel_rfl
theorem k19:(Rows.fnExactCarriedSomeSpec.vars.all (Tryz.prog.varReadable ·))=true:=by kernel_rfl
theorem k20:(Tryz.f6.resultTypes.all (fun t=>Tryz.prog.readableRec t&&decide (t<Tryz.prog.types.size)))=true:=by kernel_rfl
theorem k21:((Rows.fnExactCarriedSomeRow.ifacesOut==Tryz.f6.resultTypes.toList.any (Tryz.prog.ifacesRec ·)))=true:=by kernel_rfl
theorem k22:((Rows.fnExactCarriedSomeRow.loopsOut==Tryz.f6.resultTypes.toList.any (Tryz.prog.loopsFrom ·)))=true:=by kernel_rfl
theorem k23:((Rows.fnExactCarriedSomeRow.plainKeys==Tryz.prog.plainKeys))=true:=by kernel_rfl
theorem k24:(Rows.fnExactCarriedSomeRow.shortTexts.isNone)=true:=by kernel_rfl
theorem k25:(Tryz.prog.stopsHeard)=true:=by kernel_rfl
theorem k26:(Tryz.prog.mayEnter)=true:=by kernel_rfl
theorem k27:((Rows.fnExactCarriedSomeRow.lifted==Tryz.prog.liftsFinal))=true:=by kernel_rfl
theorem k28:((Tryz.prog.make==some Rows.fnExactCarriedSomeRow.make))=true:=by kernel_rfl
theorem k29:((Rows.fnExactCarriedSomeRow.kinds==(if Rows.fnExactCarriedSomeRow.domain.isEmpty then[]else Tryz.f6.params.toList.map fun t=>match Tryz.prog.underlying t with|some (.int k)=>some k|_=>none)))=true:=by kernel_rfl
theorem k30:((Rows.fnExactCarriedSomeRow.pinned==Rows.fnExactCarriedSomeRow.pinnedBy))=true:=by kernel_rfl
theorem k31:((Rows.fnExactCarriedSomeRow.veiled==(Tryz.f6.params.toList++Rows.fnExactCarriedSomeSpec.plain.varTypes Tryz.prog++Tryz.f6.resultTypes.toList).any (Tryz.prog.veiledRec ·)))=true:=by kernel_rfl
theorem k32:(Rows.fnExactCarriedSomeRow.veiledFits Tryz.prog Tryz.f6.params.toList (Tryz.f6.params.toList++Rows.fnExactCarriedSomeSpec.plain.varTypes Tryz.prog++Tryz.f6.resultTypes.toList))=true:=by kernel_rfl
theorem Xlq:joinedFacts Tryz.prog 6 Tryz.f6 Rows.fnExactCarriedSomeSpec Rows.fnExactCarriedSomeRow=true:=by
 unfold joinedFacts
 simp only[Bool.and_eq_true]
 exact⟨⟨⟨⟨⟨⟨⟨⟨⟨⟨⟨⟨⟨⟨⟨⟨⟨⟨⟨⟨⟨⟨⟨⟨⟨⟨⟨⟨⟨⟨⟨k1,k2⟩,k3⟩,k4⟩,k5⟩,k6⟩,k7⟩,k8⟩,k9⟩,k10⟩,k11⟩,k12⟩,k13⟩,k14⟩,k15⟩,k16⟩,k17⟩,k18⟩,k19⟩,k20⟩,k21⟩,k22⟩,k23⟩,k24⟩,k25⟩,k26⟩,k27⟩,k28⟩,k29⟩,k30⟩,k31⟩,k32⟩
end Go.Proofs.YtjbmpmmffjgedaaGreatDoor.fnExactCarriedSome
