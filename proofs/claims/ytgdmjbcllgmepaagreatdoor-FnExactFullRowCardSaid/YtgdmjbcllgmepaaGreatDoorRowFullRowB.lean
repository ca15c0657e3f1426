/- For all arguments, the law FnExactFullRow answers true, the listed package-level variables holding what the program's text lays: the tied card of the given statement FnExactFullRowCardSaid. Conditions: none beyond the given statement. -/
import Derived.Test.YtgdmjbcllgmepaaGreatDoorRows
import Derived.KernelRfl
import Derived.JoinedOf
set_option linter.unusedVariables false
set_option linter.unusedSimpArgs false
namespace Go.Proofs.YtgdmjbcllgmepaaGreatDoor.fnExactFullRow
open Go Go.Proofs
set_option maxRecDepth 100000
theorem k1:(Rows.fnExactFullRowRow.wf (OpenSpec.ofChange Rows.fnExactFullRowSpec))=true:=by kernel_rfl
theorem k2:(laidOutB Tryz.prog)=true:=by kernel_rfl
theorem k3:(mapsRowed Tryz.prog)=true:=by kernel_rfl
theorem k4:(Tryz.f8.params.all (Tryz.prog.readableRec ·))=true:=by kernel_rfl
theorem k5:(namedTie Tryz.prog Rows.fnExactFullRowRow.named Rows.fnExactFullRowSpec.vars)=true:=by kernel_rfl
theorem k6:((Rows.fnExactFullRowRow.stops==[]))=true:=by kernel_rfl
theorem k7:((Tryz.prog.stops==[]))=true:=by kernel_rfl
theorem k8:((Rows.fnExactFullRowRow.knobs==[]))=true:=by kernel_rfl
theorem k9:((Tryz.prog.stopKnobs==[]))=true:=by kernel_rfl
theorem k10:((Rows.fnExactFullRowRow.inPlace==Tryz.prog.inPlace 8))=true:=by kernel_rfl
theorem k11:((Rows.fnExactFullRowRow.unfollowed==Tryz.prog.unfollowed 8))=true:=by kernel_rfl
theorem k12:((Rows.fnExactFullRowRow.recurses==Tryz.prog.recurses 8))=true:=by kernel_rfl
theorem k13:((Rows.fnExactFullRowRow.named==Tryz.prog.varsNamed 8))=true:=by kernel_rfl
theorem k14:((Rows.fnExactFullRowRow.maps==(Tryz.f8.params.toList++Rows.fnExactFullRowSpec.plain.varTypes Tryz.prog).any (Tryz.prog.mapsRec ·)))=true:=by kernel_rfl
theorem k15:((Rows.fnExactFullRowRow.ifaces==(Tryz.f8.params.toList++Rows.fnExactFullRowSpec.plain.varTypes Tryz.prog).any (Tryz.prog.ifacesRec ·)))=true:=by kernel_rfl
theorem k16:((Rows.fnExactFullRowRow.mapsOut==Tryz.prog.mapsAmong Tryz.f8.resultTypes.toList))=true:=by kernel_rfl
theorem k17:((Rows.fnExactFullRowRow.loops==(Tryz.f8.params.toList++Rows.fnExactFullRowSpec.plain.varTypes Tryz.prog).any (Tryz.prog.loopsFrom ·)))=true:=by kernel_rfl
theorem k18:((Rows.fnExactFullRowRow.wideKeys==(Tryz.f8.params.toList++Rows.fnExactFullRowSpec.plain.varTypes Tryz.prog++Tryz.f8.resultTypes.toList).any (Tryz.prog.wideKeysFrom ·)))=true:=by kernel_rfl
theorem k19:(Rows.fnExactFullRowSpec.vars.all (Tryz.prog.varReadable ·))=true:=by kernel_rfl
theorem k20:(Tryz.f8.resultTypes.all (fun t=>Tryz.prog.readableRec t&&decide (t<Tryz.prog.types.size)))=true:=by kernel_rfl
theorem k21:((Rows.fnExactFullRowRow.ifacesOut==Tryz.f8.resultTypes.toList.any (Tryz.prog.ifacesRec ·)))=true:=by kernel_rfl
theorem k22:((Rows.fnExactFullRowRow.loopsOut==Tryz.f8.resultTypes.toList.any (Tryz.prog.loopsFrom ·)))=true:=by kernel_rfl
theorem k23:((Rows.fnExactFullRowRow.plainKeys==Tryz.prog.plainKeys))=true:=by kernel_rfl
theorem k24:(Rows.fnExactFullRowRow.shortTexts.isNone)=true:=by kernel_rfl
theorem k25:(Tryz.prog.stopsHeard)=true:=by kernel_rfl
theorem k26:(Tryz.prog.mayEnter)=true:=by kernel_rfl
theorem k27:((Rows.fnExactFullRowRow.lifted==Tryz.prog.liftsFinal))=true:=by kernel_rfl
theorem k28:((Tryz.prog.make==some Rows.fnExactFullRowRow.make))=true:=by kernel_rfl
theorem k29:((Rows.fnExactFullRowRow.kinds==(if Rows.fnExactFullRowRow.domain.isEmpty then[]else Tryz.f8.params.toList.map fun t=>match Tryz.prog.underlying t with|some (.int k)=>some k|_=>none)))=true:=by kernel_rfl
theorem k30:((Rows.fnExactFullRowRow.pinned==Rows.fnExactFullRowRow.pinnedBy))=true:=by kernel_rfl
theorem k31:((Rows.fnExactFullRowRow.veiled==(Tryz.f8.params.toList++Rows.fnExactFullRowSpec.plain.varTypes Tryz.prog++Tryz.f8.resultTypes.toList).any (Tryz.prog.veiledRec ·)))=true:=by kernel_rfl
theorem k32:(Rows.fnExactFullRowRow.veiledFits Tryz.prog Tryz.f8.params.toList (Tryz.f8.params.toList++Rows.fnExactFullRowSpec.plain.varTypes Tryz.prog++Tryz.f8.resultTypes.toList))=true:=by kernel_rfl
theorem XjY:joinedFacts Tryz.prog 8 Tryz.f8 Rows.fnExactFullRowSpec Rows.fnExactFullRowRow=true:=by
 unfold joinedFacts
 simp only[Bool.and_eq_true]
 exact⟨⟨⟨⟨⟨⟨⟨⟨⟨⟨⟨⟨⟨⟨⟨⟨⟨⟨⟨⟨⟨⟨⟨⟨⟨⟨⟨⟨⟨⟨⟨k1,k2⟩,k3⟩,k4⟩,k5⟩,k6⟩,k7⟩,k8⟩,k9⟩,k10⟩,k11⟩,k12⟩,k13⟩,k14⟩,k15⟩,k16⟩,k17⟩,k18⟩,k19⟩,k20⟩,k21⟩,k22⟩,k23⟩,k24⟩,k25⟩,k26⟩,k27⟩,k28⟩,k29⟩,k30⟩,k31⟩,k32⟩
end Go.Proofs.YtgdmjbcllgmepaaGreatDoor.fnExactFullRow
