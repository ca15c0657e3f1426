/- For all arguments, the law FnExactRowKept answers true, the listed package-level variables holding what the program's text lays: the tied card of the given statement FnExactRowKeptCardSaid. Conditions: none beyond the given statement. -/
import Derived.Test.YtgdmjbcllgmepaaGreatDoorRows
import Derived.KernelRfl
import Derived.JoinedOf
set_option linter.unusedVariables false
set_option linter.unusedSimpArgs false
namespace Go.Proofs.YtgdmjbcllgmepaaGreatDoor.fnExactRowKept
open Go Go.Proofs
set_option maxRecDepth 100000
theorem k1:(Rows.fnExactRowKeptRow.wf (OpenSpec.ofChange Rows.fnExactRowKeptSpec))=true:=by kernel_rfl
theorem k2:(laidOutB Tryz.prog)=true:=by kernel_rfl
theorem k3:(mapsRowed Tryz.prog)=true:=by kernel_rfl
theorem k4:(Tryz.f11.params.all (Tryz.prog.readableRec ·))=true:=by kernel_rfl
theorem k5:(namedTie Tryz.prog Rows.fnExactRowKeptRow.named Rows.fnExactRowKeptSpec.vars)=true:=by kernel_rfl
theorem k6:((Rows.fnExactRowKeptRow.stops==[]))=true:=by kernel_rfl
theorem k7:((Tryz.prog.stops==[]))=true:=by kernel_rfl
theorem k8:((Rows.fnExactRowKeptRow.knobs==[]))=true:=by kernel_rfl
theorem k9:((Tryz.prog.stopKnobs==[]))=true:=by kernel_rfl
theorem k10:((Rows.fnExactRowKeptRow.inPlace==Tryz.prog.inPlace 11))=true:=by kernel_rfl
theorem k11:((Rows.fnExactRowKeptRow.unfollowed==Tryz.prog.unfollowed 11))=true:=by kernel_rfl
theorem k12:((Rows.fnExactRowKeptRow.recurses==Tryz.prog.recurses 11))=true:=by kernel_rfl
theorem k13:((Rows.fnExactRowKeptRow.named==Tryz.prog.varsNamed 11))=true:=by kernel_rfl
theorem k14:((Rows.fnExactRowKeptRow.maps==(Tryz.f11.params.toList++Rows.fnExactRowKeptSpec.plain.varTypes Tryz.prog).any (Tryz.prog.mapsRec ·)))=true:=by kernel_rfl
theorem k15:((Rows.fnExactRowKeptRow.ifaces==(Tryz.f11.params.toList++Rows.fnExactRowKeptSpec.plain.varTypes Tryz.prog).any (Tryz.prog.ifacesRec ·)))=true:=by kernel_rfl
theorem k16:((Rows.fnExactRowKeptRow.mapsOut==Tryz.prog.mapsAmong Tryz.f11.resultTypes.toList))=true:=by kernel_rfl
theorem k17:((Rows.fnExactRowKeptRow.loops==(Tryz.f11.params.toList++Rows.fnExactRowKeptSpec.plain.varTypes Tryz.prog).any (Tryz.prog.loopsFrom ·)))=true:=by kernel_rfl
theorem k18:((Rows.fnExactRowKeptRow.wideKeys==(Tryz.f11.params.toList++Rows.fnExactRowKeptSpec.plain.varTypes Tryz.prog++Tryz.f11.resultTypes.toList).any (Tryz.prog.wideKeysFrom ·)))=true:=by kernel_rfl
theorem k19:(Rows.fnExactRowKeptSpec.vars.all (Tryz.prog.varReadable ·))=true:=by kernel_rfl
theorem k20:(Tryz.f11.resultTypes.all (fun t=>Tryz.prog.readableRec t&&decide (t<Tryz.prog.types.size)))=true:=by kernel_rfl
theorem k21:((Rows.fnExactRowKeptRow.ifacesOut==Tryz.f11.resultTypes.toList.any (Tryz.prog.ifacesRec ·)))=true:=by kernel_rfl
theorem k22:((Rows.fnExactRowKeptRow.loopsOut==Tryz.f11.resultTypes.toList.any (Tryz.prog.loopsFrom ·)))=true:=by kernel_rfl
theorem k23:((Rows.fnExactRowKeptRow.plainKeys==Tryz.prog.plainKeys))=true:=by kernel_rfl
theorem k24:(Rows.fnExactRowKeptRow.shortTexts.isNone)=true:=by kernel_rfl
theorem k25:(Tryz.prog.stopsHeard)=true:=by kernel_rfl
theorem k26:(Tryz.prog.mayEnter)=true:=by kernel_rfl
theorem k27:((Rows.fnExactRowKeptRow.lifted==Tryz.prog.liftsFinal))=true:=by kernel_rfl
theorem k28:((Tryz.prog.make==some Rows.fnExactRowKeptRow.make))=true:=by kernel_rfl
theorem k29:((Rows.fnExactRowKeptRow.kinds==(if Rows.fnExactRowKeptRow.domain.isEmpty then[]else Tryz.f11.params.toList.map fun t=>match Tryz.prog.underlying t with|some (.int k)=>some k|_=>none)))=true:=by kernel_rfl
theorem k30:((Rows.fnExactRowKeptRow.pinned==Rows.fnExactRowKeptRow.pinnedBy))=true:=by kernel_rfl
theorem k31:((Rows.fnExactRowKeptRow.veiled==(Tryz.f11.params.toList++Rows.fnExactRowKeptSpec.plain.varTypes Tryz.prog++Tryz.f11.resultTypes.toList).any (Tryz.prog.veiledRec ·)))=true:=by kernel_rfl
theorem k32:(Rows.fnExactRowKeptRow.veiledFits Tryz.prog Tryz.f11.params.toList (Tryz.f11.params.toList++Rows.fnExactRowKeptSpec.plain.varTypes Tryz.prog++Tryz.f11.resultTypes.toList))=true:=by kernel_rfl
theorem XlT:joinedFacts Tryz.prog 11 Tryz.f11 Rows.fnExactRowKeptSpec Rows.fnExactRowKeptRow=true:=by
 unfold joinedFacts
 simp only[Bool.and_eq_true]
 exact⟨⟨⟨⟨⟨⟨⟨⟨⟨⟨⟨⟨⟨⟨⟨⟨⟨⟨⟨⟨⟨⟨⟨⟨⟨⟨⟨⟨⟨⟨⟨k1,k2⟩,k3⟩,k4⟩,k5⟩,k6⟩,k7⟩,k8⟩,k9⟩,k10⟩,k11⟩,k12⟩,k13⟩,k14⟩,k15⟩,k16⟩,k17⟩,k18⟩,k19⟩,k20⟩,k21⟩,k22⟩,k23⟩,k24⟩,k25⟩,k26⟩,k27⟩,k28⟩,k29⟩,k30⟩,k31⟩,k32⟩
end Go.Proofs.YtgdmjbcllgmepaaGreatDoor.fnExactRowKept
