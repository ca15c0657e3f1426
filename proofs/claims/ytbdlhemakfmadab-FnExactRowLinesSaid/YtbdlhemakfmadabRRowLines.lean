/- For all arguments, the law FnExactRowLines answers true: the row of the given statement FnExactRowLinesSaid. Conditions: none beyond the given statement. -/
import Derived.Test.YtbdlhemakfmadabRows
import Derived.Test.YtbdlhemakfmadabLRowLines
import Derived.KernelRfl
set_option linter.unusedVariables false
set_option linter.unusedSimpArgs false
namespace Go.Proofs.Ytbdlhemakfmadab.Ab
open Go Go.Proofs
theorem inv22 {xs : List D} (h : ShD Try.prog 22 xs) : ∃ a : List ByteArray, xs = [.row 1 (a.map cS)] ∧ okStringS a := by
  obtain ⟨ys, rfl, hl, hx⟩ := h.inv_sl Try.underlying22
  obtain ⟨zs, rfl, hl', hp⟩ := rows_of (c := cS) (p := fun s : ByteArray => s.size < 2 ^ 47) (ys := ys) (fun x hxm => by
    obtain ⟨s, rfl, hs⟩ := (hx x hxm).inv_str Try.underlying9
    exact ⟨s, rfl, Nat.lt_of_le_of_lt hs reach_lt⟩)
  have := reach_lt
  rw [show Try.prog.bytesOf 9 = 16 by kernel_rfl] at hl
  rw [List.length_map] at hl
  exact ⟨zs, by rw [show Try.prog.cellsOf 9 = 1 by kernel_rfl], ⟨by omega, hp⟩⟩
theorem callRowLines : ∀ yss, ShAll Try.prog Try.f3.params.toList yss → CallOk Try.prog 3 (argAVs Try.prog Try.f3.params.toList yss) [] ⟨.d (.sc (.bool true)), [], []⟩ := by
  rw [Try.params3]
  intro yss h
  obtain _ | ⟨h0, h⟩ := h
  obtain _ | _ := h
  obtain ⟨aRow, rfl, ok_aRow⟩ := inv22 h0
  have e : argAVs Try.prog [22] [[.row 1 (aRow.map cS)]] = [.d (.row 1 (aRow.map cS))] := by
    simp only [argAVs, argAV, Try.underlying22]
    try rfl
  show CallOk Try.prog 3 (argAVs Try.prog [22] _) [] _
  rw [e]
  exact T3 rfl ok_aRow
end Go.Proofs.Ytbdlhemakfmadab.Ab
namespace Go.Proofs.Ytbdlhemakfmadab.fnExactRowLines
open Go.ChangeShapes Go.WideShapes Go.ChangeAt Go.RowKit
open Go.Proofs.Ytbdlhemakfmadab.Ab
theorem own : ownKnob Try.prog.godebug = none := by kernel_rfl
theorem laidOut : laidOutB Try.prog = true := by kernel_rfl
set_option maxRecDepth 100000 in
theorem lifted (os : Os) (started : os.Started) (H : Type) (enc : TypeId × Value → H) :
    ReturnsInHanded {} Try.checked os 3 .any (Rows.fnExactRowLinesSpec.pre6 enc Try.prog Try.f3 Rows.fnExactRowLinesRow.domain false) (Rows.fnExactRowLinesSpec.post enc Try.prog Try.f3 false true false false) := by
  refine returnsInHanded_of_change_sized (C := Try.checked) own started (by kernel_rfl) Try.func3
    (ChangeSpec.witness6 (enc := enc) (C := Try.checked) false ⟨#[], #[.slice none 0 0], []⟩ 8 (by kernel_rfl) (by kernel_rfl) (by kernel_rfl) (by kernel_rfl)) ?_
  intro W base args ds gs before hval0 hW hcnd hsz0 _
  have hsz : (DataW.weightsEach Try.prog (Try.f3.params.toList ++ []) (ds ++ gs)).all (· ≤ reachBytes) = true := hsz0
  have hval : ∀ (j : Nat) t v, Try.f3.params[j]? = some t → args[j]? = some v → Value.okWide Try.prog W .any base t v := hval0
  have hW' := hW
  obtain ⟨p, q, hA0, hV, rfl, hfz, hnd⟩ := hW
  have hA : DataW.TrodAll enc Try.prog W 0 (fun _ => true) true Try.f3.params.toList args.toList ds p := hA0
  obtain ⟨rfl, rfl⟩ := trodVars_none hV
  have hw : ∀ m ∈ DataW.weightsEach Try.prog Try.f3.params.toList ds, m ≤ reachBytes := by
    intro m hm
    have := List.all_eq_true.1 hsz m (by simpa using hm)
    simpa using this
  have run := row_calls (g := 9) (ts := Try.f3.params.toList) (by kernel_rfl) callRowLines (fun j t v h1 h2 => hval j t v (by simpa using h1) (by simpa using h2)) hA hw
  rw [Try.params3] at hA
  obtain ⟨v0, vs0, d0, ds0, p0, q0, h0l, rfl, rfl, k0, r0⟩ := trodAll_cons hA
  have lt0 : ∀ x ∈ p0, x.block < W.heap.size := by obtain ⟨m, hm⟩ := k0; exact DataW.trod_lt m _ _ _ hm
  obtain ⟨rfl, rfl, rfl⟩ := trodAll_nil r0
  obtain rfl : args = #[v0] := by cases args; simp_all
  refine run.mono fun e W' ⟨he, bel⟩ => ?_
  subst he
  exact ⟨_, rfl, _, _, _, [], _, [], hW', trodAll_mk1 (shut_bool Try.underlying4 _), (trodAll_cons_mk (Below.trod laidOut (by kernel_rfl) (of_decide_eq_true (by kernel_rfl)) k0 bel lt0) trodAll_mk0), rfl, bel.frame _, fun h => by cases h⟩
theorem over : Rows.fnExactRowLinesRow.holds Try.pinned (OpenSpec.ofChange Rows.fnExactRowLinesSpec) :=
  OpenClaim.holds_of_wide 3 Try.f3 rfl rfl rfl rfl rfl rfl rfl ⟨rfl, rfl, rfl, rfl, rfl⟩ rfl rfl rfl rfl rfl (by kernel_rfl) Try.func3 (by kernel_rfl)
    (of_decide_eq_true (by kernel_rfl)) (by unfold Func.isWrapper; first | (rw [if_pos (by decide +kernel)]; kernel_rfl) | (rw [if_neg (by decide +kernel)]; exact ⟨rfl, rfl⟩))
    (fun os started H enc _ => lifted os started H enc)
theorem proved : Rows.FnExactRowLinesSaid := over
#print axioms proved
end Go.Proofs.Ytbdlhemakfmadab.fnExactRowLines
namespace Go.Proofs.Ytbdlhemakfmadab
/-- The row, under a short name, for the claim. -/
theorem fnExactRowLines_holds : Rows.FnExactRowLinesSaid := fnExactRowLines.proved
end Go.Proofs.Ytbdlhemakfmadab

