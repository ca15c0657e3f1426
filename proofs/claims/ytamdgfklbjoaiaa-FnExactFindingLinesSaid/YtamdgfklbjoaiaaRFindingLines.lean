/- For all arguments, the law FnExactFindingLines answers true: the row of the given statement FnExactFindingLinesSaid. Conditions: none beyond the given statement. -/
import Derived.Test.YtamdgfklbjoaiaaRows
import Derived.Test.YtamdgfklbjoaiaaLFindingLines
import Derived.KernelRfl
set_option linter.unusedVariables false
set_option linter.unusedSimpArgs false
namespace Go.Proofs.Ytamdgfklbjoaiaa.Ab
open Go Go.Proofs
theorem inv93 {xs : List D} (h : ShD Try.prog 93 xs) : ∃ w : TFinding, xs = eFinding w ∧ okFinding w ∧ wfFinding w := by
  replace h := h.inv_st Try.underlying93
  obtain _ | ⟨h0, h⟩ := h
  obtain _ | ⟨h1, h⟩ := h
  obtain _ | _ := h
  obtain ⟨v0, rfl, k0⟩ := h0.inv_str Try.underlying9
  obtain ⟨v1, rfl, w1⟩ := h1.inv_int Try.underlying3
  exact ⟨⟨v0, v1⟩, rfl, Nat.lt_of_le_of_lt k0 reach_lt, wfI_of w1⟩
theorem inv34 {xs : List D} (h : ShD Try.prog 34 xs) : ∃ a : List TFinding, xs = [.row 2 (a.map eFinding)] ∧ okFindingS a ∧ wfFindingS a := by
  obtain ⟨ys, rfl, hl, hx⟩ := h.inv_sl Try.underlying34
  obtain ⟨zs, rfl, hl', hp⟩ := rows_of (c := eFinding) (p := fun x : TFinding => (okFinding x) ∧ (wfFinding x)) (ys := ys) (fun x hxm => by
    obtain ⟨w, rfl, hs, hs2⟩ := inv93 (hx x hxm)
    exact ⟨w, rfl, hs, hs2⟩)
  have := reach_lt
  rw [show Try.prog.bytesOf 93 = 24 by kernel_rfl] at hl
  rw [List.length_map] at hl
  exact ⟨zs, by rw [show Try.prog.cellsOf 93 = 2 by kernel_rfl], ⟨by omega, fun x hx => (hp x hx).1⟩, fun x hx => (hp x hx).2⟩
theorem callFindingLines : ∀ yss, ShAll Try.prog Try.f5.params.toList yss → CallOk Try.prog 5 (argAVs Try.prog Try.f5.params.toList yss) [] ⟨.d (.sc (.bool true)), [], []⟩ := by
  rw [Try.params5]
  intro yss h
  obtain _ | ⟨h0, h⟩ := h
  obtain _ | _ := h
  obtain ⟨aList, rfl, ok_aList, wf_aList⟩ := inv34 h0
  have e : argAVs Try.prog [34] [[.row 2 (aList.map eFinding)]] = [.d (.row 2 (aList.map eFinding))] := by
    simp only [argAVs, argAV, Try.underlying34]
    try rfl
  show CallOk Try.prog 5 (argAVs Try.prog [34] _) [] _
  rw [e]
  exact T5 rfl ok_aList wf_aList
end Go.Proofs.Ytamdgfklbjoaiaa.Ab
namespace Go.Proofs.Ytamdgfklbjoaiaa.fnExactFindingLines
open Go.ChangeShapes Go.WideShapes Go.ChangeAt Go.RowKit
open Go.Proofs.Ytamdgfklbjoaiaa.Ab
theorem own : ownKnob Try.prog.godebug = none := by kernel_rfl
theorem laidOut : laidOutB Try.prog = true := by kernel_rfl
set_option maxRecDepth 100000 in
theorem lifted (os : Os) (started : os.Started) (H : Type) (enc : TypeId × Value → H) :
    ReturnsInHanded {} Try.checked os 5 .any (Rows.fnExactFindingLinesSpec.pre6 enc Try.prog Try.f5 Rows.fnExactFindingLinesRow.domain false) (Rows.fnExactFindingLinesSpec.post enc Try.prog Try.f5 false true false false) := by
  refine returnsInHanded_of_change_sized (C := Try.checked) own started (by kernel_rfl) Try.func5
    (ChangeSpec.witness6 (enc := enc) (C := Try.checked) false ⟨#[], #[.slice none 0 0], []⟩ 8 (by kernel_rfl) (by kernel_rfl) (by kernel_rfl) (by kernel_rfl)) ?_
  intro W base args ds gs before hval0 hW hcnd hsz0 _
  have hsz : (DataW.weightsEach Try.prog (Try.f5.params.toList ++ []) (ds ++ gs)).all (· ≤ reachBytes) = true := hsz0
  have hval : ∀ (j : Nat) t v, Try.f5.params[j]? = some t → args[j]? = some v → Value.okWide Try.prog W .any base t v := hval0
  have hW' := hW
  obtain ⟨p, q, hA0, hV, rfl, hfz, hnd⟩ := hW
  have hA : DataW.TrodAll enc Try.prog W 0 (fun _ => true) true Try.f5.params.toList args.toList ds p := hA0
  obtain ⟨rfl, rfl⟩ := trodVars_none hV
  have hw : ∀ m ∈ DataW.weightsEach Try.prog Try.f5.params.toList ds, m ≤ reachBytes := by
    intro m hm
    have := List.all_eq_true.1 hsz m (by simpa using hm)
    simpa using this
  have run := row_calls (g := 9) (ts := Try.f5.params.toList) (by kernel_rfl) callFindingLines (fun j t v h1 h2 => hval j t v (by simpa using h1) (by simpa using h2)) hA hw
  rw [Try.params5] at hA
  obtain ⟨v0, vs0, d0, ds0, p0, q0, h0l, rfl, rfl, k0, r0⟩ := trodAll_cons hA
  have lt0 : ∀ x ∈ p0, x.block < W.heap.size := by obtain ⟨m, hm⟩ := k0; exact DataW.trod_lt m _ _ _ hm
  obtain ⟨rfl, rfl, rfl⟩ := trodAll_nil r0
  obtain rfl : args = #[v0] := by cases args; simp_all
  refine run.mono fun e W' ⟨he, bel⟩ => ?_
  subst he
  exact ⟨_, rfl, _, _, _, [], _, [], hW', trodAll_mk1 (shut_bool Try.underlying4 _), (trodAll_cons_mk (Below.trod laidOut (by kernel_rfl) (of_decide_eq_true (by kernel_rfl)) k0 bel lt0) trodAll_mk0), rfl, bel.frame _, fun h => by cases h⟩
theorem over : Rows.fnExactFindingLinesRow.holds Try.pinned (OpenSpec.ofChange Rows.fnExactFindingLinesSpec) :=
  OpenClaim.holds_of_wide 5 Try.f5 rfl rfl rfl rfl rfl rfl rfl ⟨rfl, rfl, rfl, rfl, rfl⟩ rfl rfl rfl rfl rfl (by kernel_rfl) Try.func5 (by kernel_rfl)
    (of_decide_eq_true (by kernel_rfl)) (by unfold Func.isWrapper; first | (rw [if_pos (by decide +kernel)]; kernel_rfl) | (rw [if_neg (by decide +kernel)]; exact ⟨rfl, rfl⟩))
    (fun os started H enc _ => lifted os started H enc)
theorem proved : Rows.FnExactFindingLinesSaid := over
#print axioms proved
end Go.Proofs.Ytamdgfklbjoaiaa.fnExactFindingLines
namespace Go.Proofs.Ytamdgfklbjoaiaa
/-- The row, under a short name, for the claim. -/
theorem fnExactFindingLines_holds : Rows.FnExactFindingLinesSaid := fnExactFindingLines.proved
end Go.Proofs.Ytamdgfklbjoaiaa

