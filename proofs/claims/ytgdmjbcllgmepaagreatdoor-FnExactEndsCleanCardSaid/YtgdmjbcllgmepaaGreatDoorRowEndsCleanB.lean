/- For all arguments, the law FnExactEndsClean answers true, the listed package-level variables holding what the program's text lays: the tied card of the given statement FnExactEndsCleanCardSaid. Conditions: none beyond the given statement. -/
import Derived.Test.YtgdmjbcllgmepaaGreatDoorRows
import Derived.KernelRfl
import Derived.JoinedOf
set_option linter.unusedVariables false
set_option linter.unusedSimpArgs false
namespace Go.Proofs.YtgdmjbcllgmepaaGreatDoor.fnExactEndsClean
open Go Go.Proofs
set_option maxRecDepth 100000
theorem k1:(Rows.fnExactEndsCleanRow.wf (OpenSpec.ofChange Rows.fnExactEndsCleanSpec))=true:=by kernel_rfl
theorem k2:(laidOutB Tryz.prog)=true:=by kernel_rfl
theorem k3:(mapsRowed Tryz.prog)=true:=by kernel_rfl
theorem k4:(Tryz.f12.params.all (Tryz.prog.readableRec ·))=true:=by kernel_rfl
theorem k5:(namedTie Tryz.prog Rows.fnExactEndsCleanRow.named Rows.fnExactEndsCleanSpec.vars)=true:=by kernel_rfl
theorem k6:((Rows.fnExactEndsCleanRow.stops==[]))=true:=by kernel_rfl
theorem k7:((Tryz.prog.stops==[]))=true:=by kernel_rfl
theorem k8:((Rows.fnExactEndsCleanRow.knobs==[]))=true:=by kernel_rfl
theorem k9:((Tryz.prog.stopKnobs==[]))=true:=by kernel_rfl
theorem k10:((Rows.fnExactEndsCleanRow.inPlace==Tryz.prog.inPlace 12))=true:=by kernel_rfl
theorem k11:((Rows.fnExactEndsCleanRow.unfollowed==Tryz.prog.unfollowed 12))=true:=by kernel_rfl
theorem k12:((Rows.fnExactEndsCleanRow.recurses==Tryz.prog.recurses 12))=true:=by kernel_rfl
theorem k13:((Rows.fnExactEndsCleanRow.named==Tryz.prog.varsNamed 12))=true:=by kernel_rfl
theorem k14:((Rows.fnExactEndsCleanRow.maps==(Tryz.f12.params.toList++Rows.fnExactEndsCleanSpec.plain.varTypes Tryz.prog).any (Tryz.prog.mapsRec ·)))=true:=by kernel_rfl
theorem k15:((Rows.fnExactEndsCleanRow.ifaces==(Tryz.f12.params.toList++Rows.fnExactEndsCleanSpec.plain.varTypes Tryz.prog).any (Tryz.prog.ifacesRec ·)))=true:=by kernel_rfl
theorem k16:((Rows.fnExactEndsCleanRow.mapsOut==Tryz.prog.mapsAmong Tryz.f12.resultTypes.toList))=true:=by kernel_rfl
theorem k17:((Rows.fnExactEndsCleanRow.loops==(Tryz.f12.params.toList++Rows.fnExactEndsCleanSpec.plain.varTypes Tryz.prog).any (Tryz.prog.loopsFrom ·)))=true:=by kernel_rfl
theorem k18:((Rows.fnExactEndsCleanRow.wideKeys==(Tryz.f12.params.toList++Rows.fnExactEndsCleanSpec.plain.varTypes Tryz.prog++Tryz.f12.resultTypes.toList).any (Tryz.prog.wideKeysFrom ·)))=true:=by kernel_rfl
theorem k19:(Rows.fnExactEndsCleanSpec.vars.all (Tryz.prog.varReadable ·))=true:=by kernel_rfl
theorem k20:(Tryz.f12.resultTypes.all (fun t=>Tryz.prog.readableRec t&&decide (t<Tryz.prog.types.size)))=true:=by kernel_rfl
theorem k21:((Rows.fnExactEndsCleanRow.ifacesOut==Tryz.f12.resultTypes.toList.any (Tryz.prog.ifacesRec ·)))=true:=by kernel_rfl
theorem k22:((Rows.fnExactEndsCleanRow.loopsOut==Tryz.f12.resultTypes.toList.any (Tryz.prog.loopsFrom ·)))=true:=by kernel_rfl
theorem k23:((Rows.fnExactEndsCleanRow.plainKeys==Tryz.prog.plainKeys))=true:=by kernel_rfl
theorem k24:(Rows.fnExactEndsCleanRow.shortTexts.isNone)=true:=by kernel_rfl
theorem k25:(Tryz.prog.stopsHeard)=true:=by kernel_rfl
theorem k26:(Tryz.prog.mayEnter)=true:=by kernel_rfl
theorem k27:((Rows.fnExactEndsCleanRow.lifted==Tryz.prog.liftsFinal))=true:=by kernel_rfl
theorem k28:((Tryz.prog.make==some Rows.fnExactEndsCleanRow.make))=true:=by kernel_rfl
theorem k29:((Rows.fnExactEndsCleanRow.kinds==(if Rows.fnExactEndsCleanRow.domain.isEmpty then[]else Tryz.f12.params.toList.map fun t=>match Tryz.prog.underlying t with|some (.int k)=>some k|_=>none)))=true:=by kernel_rfl
theorem k30:((Rows.fnExactEndsCleanRow.pinned==Rows.fnExactEndsCleanRow.pinnedBy))=true:=by kernel_rfl
theorem k31:((Rows.fnExactEndsCleanRow.veiled==(Tryz.f12.params.toList++Rows.fnExactEndsCleanSpec.plain.varTypes Tryz.prog++Tryz.f12.resultTypes.toList).any (Tryz.prog.veiledRec ·)))=true:=by kernel_rfl
theorem k32:(Rows.fnExactEndsCleanRow.veiledFits Tryz.prog Tryz.f12.params.toList (Tryz.f12.params.toList++Rows.fnExactEndsCleanSpec.plain.varTypes Tryz.prog++Tryz.f12.resultTypes.toList))=true:=by kernel_rfl
theorem Xmf:joinedFacts Tryz.prog 12 Tryz.f12 Rows.fnExactEndsCleanSpec Rows.fnExactEndsCleanRow=true:=by
 unfold joinedFacts
 simp only[Bool.and_eq_true]
 exact⟨⟨⟨⟨⟨⟨⟨⟨⟨⟨⟨⟨⟨⟨⟨⟨⟨⟨⟨⟨⟨⟨⟨⟨⟨⟨⟨⟨⟨⟨⟨k1,k2⟩,k3⟩,k4⟩,k5⟩,k6⟩,k7⟩,k8⟩,k9⟩,k10⟩,k11⟩,k12⟩,k13⟩,k14⟩,k15⟩,k16⟩,k17⟩,k18⟩,k19⟩,k20⟩,k21⟩,k22⟩,k23⟩,k24⟩,k25⟩,k26⟩,k27⟩,k28⟩,k29⟩,k30⟩,k31⟩,k32⟩
end Go.Proofs.YtgdmjbcllgmepaaGreatDoor.fnExactEndsClean
