/- For all arguments, the law FnExactSafeWorld answers true, the listed package-level variables holding what the program's text lays: the tied card of the given statement FnExactSafeWorldCardSaid. Conditions: none beyond the given statement. -/
import Derived.Test.YtgdmjbcllgmepaaGreatDoorRows
import Derived.KernelRfl
import Derived.JoinedOf
set_option linter.unusedVariables false
set_option linter.unusedSimpArgs false
namespace Go.Proofs.YtgdmjbcllgmepaaGreatDoor.fnExactSafeWorld
open Go Go.Proofs
set_option maxRecDepth 100000
theorem k1:(Rows.fnExactSafeWorldRow.wf (OpenSpec.ofChange Rows.fnExactSafeWorldSpec))=true:=by kernel_rfl
theorem k2:(laidOutB Tryz.prog)=true:=by kernel_rfl
theorem k3:(mapsRowed Tryz.prog)=true:=by kernel_rfl
theorem k4:(Tryz.f6.params.all (Tryz.prog.readableRec ·))=true:=by kernel_rfl
theorem k5:(namedTie Tryz.prog Rows.fnExactSafeWorldRow.named Rows.fnExactSafeWorldSpec.vars)=true:=by kernel_rfl
theorem k6:((Rows.fnExactSafeWorldRow.stops==[]))=true:=by kernel_rfl
theorem k7:((Tryz.prog.stops==[]))=true:=by kernel_rfl
theorem k8:((Rows.fnExactSafeWorldRow.knobs==[]))=true:=by kernel_rfl
theorem k9:((Tryz.prog.stopKnobs==[]))=true:=by kernel_rfl
theorem k10:((Rows.fnExactSafeWorldRow.inPlace==Tryz.prog.inPlace 6))=true:=by kernel_rfl
theorem k11:((Rows.fnExactSafeWorldRow.unfollowed==Tryz.prog.unfollowed 6))=true:=by kernel_rfl
theorem k12:((Rows.fnExactSafeWorldRow.recurses==Tryz.prog.recurses 6))=true:=by kernel_rfl
theorem k13:((Rows.fnExactSafeWorldRow.named==Tryz.prog.varsNamed 6))=true:=by kernel_rfl
theorem k14:((Rows.fnExactSafeWorldRow.maps==(Tryz.f6.params.toList++Rows.fnExactSafeWorldSpec.plain.varTypes Tryz.prog).any (Tryz.prog.mapsRec ·)))=true:=by kernel_rfl
theorem k15:((Rows.fnExactSafeWorldRow.ifaces==(Tryz.f6.params.toList++Rows.fnExactSafeWorldSpec.plain.varTypes Tryz.prog).any (Tryz.prog.ifacesRec ·)))=true:=by kernel_rfl
theorem k16:((Rows.fnExactSafeWorldRow.mapsOut==Tryz.prog.mapsAmong Tryz.f6.resultTypes.toList))=true:=by kernel_rfl
theorem k17:((Rows.fnExactSafeWorldRow.loops==(Tryz.f6.params.toList++Rows.fnExactSafeWorldSpec.plain.varTypes Tryz.prog).any (Tryz.prog.loopsFrom ·)))=true:=by kernel_rfl
theorem k18:((Rows.fnExactSafeWorldRow.wideKeys==(Tryz.f6.params.toList++Rows.fnExactSafeWorldSpec.plain.varTypes Tryz.prog++Tryz.f6.resultTypes.toList).any (Tryz.prog.wideKeysFrom ·)))=true:=by kernel_rfl
theorem k19:(Rows.fnExactSafeWorldSpec.vars.all (Tryz.prog.varReadable ·))=true:=by kernel_rfl
theorem k20:(Tryz.f6.resultTypes.all (fun t=>Tryz.prog.readableRec t&&decide (t<Tryz.prog.types.size)))=true:=by kernel_rfl
theorem k21:((Rows.fnExactSafeWorldRow.ifacesOut==Tryz.f6.resultTypes.toList.any (Tryz.prog.ifacesRec ·)))=true:=by kernel_rfl
theorem k22:((Rows.fnExactSafeWorldRow.loopsOut==Tryz.f6.resultTypes.toList.any (Tryz.prog.loopsFrom ·)))=true:=by kernel_rfl
theorem k23:((Rows.fnExactSafeWorldRow.plainKeys==Tryz.prog.plainKeys))=true:=by kernel_rfl
theorem k24:(Rows.fnExactSafeWorldRow.shortTexts.isNone)=true:=by kernel_rfl
theorem k25:(Tryz.prog.stopsHeard)=true:=by kernel_rfl
theorem k26:(Tryz.prog.mayEnter)=true:=by kernel_rfl
theorem k27:((Rows.fnExactSafeWorldRow.lifted==Tryz.prog.liftsFinal))=true:=by kernel_rfl
theorem k28:((Tryz.prog.make==some Rows.fnExactSafeWorldRow.make))=true:=by kernel_rfl
theorem k29:((Rows.fnExactSafeWorldRow.kinds==(if Rows.fnExactSafeWorldRow.domain.isEmpty then[]else Tryz.f6.params.toList.map fun t=>match Tryz.prog.underlying t with|some (.int k)=>some k|_=>none)))=true:=by kernel_rfl
theorem k30:((Rows.fnExactSafeWorldRow.pinned==Rows.fnExactSafeWorldRow.pinnedBy))=true:=by kernel_rfl
theorem k31:((Rows.fnExactSafeWorldRow.veiled==(Tryz.f6.params.toList++Rows.fnExactSafeWorldSpec.plain.varTypes Tryz.prog++Tryz.f6.resultTypes.toList).any (Tryz.prog.veiledRec ·)))=true:=by kernel_rfl
theorem k32:(Rows.fnExactSafeWorldRow.veiledFits Tryz.prog Tryz.f6.params.toList (Tryz.f6.params.toList++Rows.fnExactSafeWorldSpec.plain.varTypes Tryz.prog++Tryz.f6.resultTypes.toList))=true:=by kernel_rfl
theorem XgV:joinedFacts Tryz.prog 6 Tryz.f6 Rows.fnExactSafeWorldSpec Rows.fnExactSafeWorldRow=true:=by
 unfold joinedFacts
 simp only[Bool.and_eq_true]
 exact⟨⟨⟨⟨⟨⟨⟨⟨⟨⟨⟨⟨⟨⟨⟨⟨⟨⟨⟨⟨⟨⟨⟨⟨⟨⟨⟨⟨⟨⟨⟨k1,k2⟩,k3⟩,k4⟩,k5⟩,k6⟩,k7⟩,k8⟩,k9⟩,k10⟩,k11⟩,k12⟩,k13⟩,k14⟩,k15⟩,k16⟩,k17⟩,k18⟩,k19⟩,k20⟩,k21⟩,k22⟩,k23⟩,k24⟩,k25⟩,k26⟩,k27⟩,k28⟩,k29⟩,k30⟩,k31⟩,k32⟩
end Go.Proofs.YtgdmjbcllgmepaaGreatDoor.fnExactSafeWorld
