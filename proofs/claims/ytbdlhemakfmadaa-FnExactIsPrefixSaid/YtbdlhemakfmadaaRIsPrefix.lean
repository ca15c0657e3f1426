/- For all arguments, the law FnExactIsPrefix answers true: the row of the given statement FnExactIsPrefixSaid. Conditions: none beyond the given statement. -/
import Derived.Test.YtbdlhemakfmadaaRows
import Derived.Test.YtbdlhemakfmadaaFA
import Derived.Test.YtbdlhemakfmadaaZ4
import Derived.KernelRfl
set_option linter.unusedVariables false
set_option linter.unusedSimpArgs false
namespace Go.Proofs.Ytbdlhemakfmadaa.Ab
open Go Go.Proofs
theorem callIsPrefix : ∀ yss, ShAll Try.prog Try.f5.params.toList yss → CallOk Try.prog 5 (argAVs Try.prog Try.f5.params.toList yss) [] ⟨.d (.sc (.bool true)), [], []⟩ := by
  rw [Try.params5]
  intro yss h
  obtain _ | ⟨h1, h⟩ := h
  obtain _ | ⟨h2, h⟩ := h
  obtain _ | _ := h
  obtain ⟨a, rfl, ha, hsa⟩ := h1.strs Try.underlying29 Try.underlying9 (by kernel_rfl) (by kernel_rfl)
  obtain ⟨b, rfl, hb, hsb⟩ := h2.strs Try.underlying29 Try.underlying9 (by kernel_rfl) (by kernel_rfl)
  have e : argAVs Try.prog [29, 29] [[.row 1 (a.map cS)], [.row 1 (b.map cS)]] = [.d (.row 1 (a.map cS)), .d (.row 1 (b.map cS))] := by simp only [argAVs, argAV, Try.underlying29]
  show CallOk Try.prog 5 (argAVs Try.prog [29, 29] _) [] _
  rw [e]
  exact t5 rfl rfl (by omega) (by omega) (fun s hs => by have := hsa s hs; omega) (fun s hs => by have := hsb s hs; omega)
end Go.Proofs.Ytbdlhemakfmadaa.Ab
namespace Go.Proofs.Ytbdlhemakfmadaa.fnExactIsPrefix
open Go.ChangeShapes Go.WideShapes Go.ChangeAt Go.RowKit
open Go.Proofs.Ytbdlhemakfmadaa.Ab
theorem own : ownKnob Try.prog.godebug = none := by kernel_rfl
theorem laidOut : laidOutB Try.prog = true := by kernel_rfl
set_option maxRecDepth 100000 in
theorem lifted (os : Os) (started : os.Started) (H : Type) (enc : TypeId × Value → H) :
    ReturnsInHanded {} Try.checked os 5 .any (Rows.fnExactIsPrefixSpec.pre6 enc Try.prog Try.f5 Rows.fnExactIsPrefixRow.domain false) (Rows.fnExactIsPrefixSpec.post enc Try.prog Try.f5 false true false false) := by
  refine returnsInHanded_of_change_sized (C := Try.checked) own started (by kernel_rfl) Try.func5
    (ChangeSpec.witness6 (enc := enc) (C := Try.checked) false ⟨#[], #[.slice none 0 0, .slice none 0 0], []⟩ 8 (by kernel_rfl) (by kernel_rfl) (by kernel_rfl) (by kernel_rfl)) ?_
  intro W base args ds gs before hval0 hW hcnd hsz0 _
  have hsz : (DataW.weightsEach Try.prog (Try.f5.params.toList ++ []) (ds ++ gs)).all (· ≤ reachBytes) = true := hsz0
  have hval : ∀ (j : Nat) t v, Try.f5.params[j]? = some t → args[j]? = some v → Value.okWide Try.prog W .any base t v := hval0
  have hW' := hW
  obtain ⟨p, q, hA0, hV, rfl, hfz, hnd⟩ := hW
  have hA : DataW.TrodAll enc Try.prog W 0 (fun _ => true) true Try.f5.params.toList args.toList ds p := hA0
  obtain ⟨rfl, rfl⟩ := trodVars_none hV
  have hw : ∀ m ∈ DataW.weightsEach Try.prog Try.f5.params.toList ds, m ≤ reachBytes := by
    intro m hm
    have := List.all_eq_true.1 hsz m (by simpa using hm)
    simpa using this
  have run := row_calls (g := 9) (ts := Try.f5.params.toList) (by kernel_rfl) callIsPrefix (fun j t v h1 h2 => hval j t v (by simpa using h1) (by simpa using h2)) hA hw
  rw [Try.params5] at hA
  obtain ⟨v0, vs0, d0, ds0, p0, q0, h0l, rfl, rfl, k0, r0⟩ := trodAll_cons hA
  have lt0 : ∀ x ∈ p0, x.block < W.heap.size := by obtain ⟨m, hm⟩ := k0; exact DataW.trod_lt m _ _ _ hm
  obtain ⟨v1, vs1, d1, ds1, p1, q1, h1l, rfl, rfl, k1, r1⟩ := trodAll_cons r0
  have lt1 : ∀ x ∈ p1, x.block < W.heap.size := by obtain ⟨m, hm⟩ := k1; exact DataW.trod_lt m _ _ _ hm
  subst h1l
  obtain ⟨rfl, rfl, rfl⟩ := trodAll_nil r1
  obtain rfl : args = #[v0, v1] := by cases args; simp_all
  refine run.mono fun e W' ⟨he, bel⟩ => ?_
  subst he
  exact ⟨_, rfl, _, _, _, [], _, [], hW', trodAll_mk1 (shut_bool Try.underlying4 _), (trodAll_cons_mk (Below.trod laidOut (by kernel_rfl) (of_decide_eq_true (by kernel_rfl)) k0 bel lt0) (trodAll_cons_mk (Below.trod laidOut (by kernel_rfl) (of_decide_eq_true (by kernel_rfl)) k1 bel lt1) trodAll_mk0)), rfl, bel.frame _, fun h => by cases h⟩
theorem over : Rows.fnExactIsPrefixRow.holds Try.pinned (OpenSpec.ofChange Rows.fnExactIsPrefixSpec) :=
  OpenClaim.holds_of_wide 5 Try.f5 rfl rfl rfl rfl rfl rfl rfl ⟨rfl, rfl, rfl, rfl, rfl⟩ rfl rfl rfl rfl rfl (by kernel_rfl) Try.func5 (by kernel_rfl)
    (of_decide_eq_true (by kernel_rfl)) (by unfold Func.isWrapper; first | (rw [if_pos (by decide +kernel)]; kernel_rfl) | (rw [if_neg (by decide +kernel)]; exact ⟨rfl, rfl⟩))
    (fun os started H enc _ => lifted os started H enc)
theorem proved : Rows.FnExactIsPrefixSaid := over
#print axioms proved
end Go.Proofs.Ytbdlhemakfmadaa.fnExactIsPrefix
namespace Go.Proofs.Ytbdlhemakfmadaa
/-- The row, under a short name, for the claim. -/
theorem fnExactIsPrefix_holds : Rows.FnExactIsPrefixSaid := fnExactIsPrefix.proved
end Go.Proofs.Ytbdlhemakfmadaa

