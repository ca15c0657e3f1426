/- For all arguments, the law FnExactStuckWriter answers true: the row of the given statement FnExactStuckWriterSaid. Conditions: none beyond the given statement. -/
import Derived.Test.YtbdlhemakfmadaaRows
import Derived.Test.YtbdlhemakfmadaaLStuckWriter
import Derived.KernelRfl
set_option linter.unusedVariables false
set_option linter.unusedSimpArgs false
namespace Go.Proofs.Ytbdlhemakfmadaa.Ab
open Go Go.Proofs
theorem inv24 {xs : List D} (h : ShD Try.prog 24 xs) : ∃ a : List Int, xs = [.row 1 (a.map cI)] ∧ okIntS a := by
  obtain ⟨ys, rfl, hl, hx⟩ := h.inv_sl Try.underlying24
  obtain ⟨zs, rfl, hl', hp⟩ := rows_of (c := cI) (p := fun _ : Int => True) (ys := ys) (fun x hxm => by
    obtain ⟨n, rfl, hs⟩ := (hx x hxm).inv_int Try.underlying3
    exact ⟨n, rfl, trivial⟩)
  have := reach_lt
  rw [show Try.prog.bytesOf 3 = 8 by kernel_rfl] at hl
  rw [List.length_map] at hl
  exact ⟨zs, by rw [show Try.prog.cellsOf 3 = 1 by kernel_rfl], (show zs.length < 2 ^ 44 by omega)⟩
theorem inv34 {xs : List D} (h : ShD Try.prog 34 xs) : ∃ w : TWriter, xs = eWriter w ∧ okWriter w := by
  replace h := h.inv_st Try.underlying34
  obtain _ | ⟨h0, h⟩ := h
  obtain _ | ⟨h1, h⟩ := h
  obtain _ | ⟨h2, h⟩ := h
  obtain _ | ⟨h3, h⟩ := h
  obtain _ | ⟨h4, h⟩ := h
  obtain _ | ⟨h5, h⟩ := h
  obtain _ | ⟨h6, h⟩ := h
  obtain _ | ⟨h7, h⟩ := h
  obtain _ | ⟨h8, h⟩ := h
  obtain _ | _ := h
  obtain ⟨v0, rfl, _⟩ := h0.inv_int Try.underlying3
  obtain ⟨v1, rfl, _⟩ := h1.inv_int Try.underlying3
  obtain ⟨v2, rfl, _⟩ := h2.inv_int Try.underlying3
  obtain ⟨v3, rfl, _⟩ := h3.inv_int Try.underlying3
  obtain ⟨v4, rfl, _⟩ := h4.inv_int Try.underlying3
  obtain ⟨v5, rfl, k5⟩ := inv24 h5
  obtain ⟨v6, rfl, _⟩ := h6.inv_int Try.underlying3
  obtain ⟨v7, rfl⟩ := h7.inv_bool Try.underlying4
  obtain ⟨v8, rfl, _⟩ := h8.inv_int Try.underlying3
  exact ⟨⟨v0, v1, v2, v3, v4, v5, v6, v7, v8⟩, rfl, k5⟩
theorem callStuckWriter : ∀ yss, ShAll Try.prog Try.f6.params.toList yss → CallOk Try.prog 6 (argAVs Try.prog Try.f6.params.toList yss) [] ⟨.d (.sc (.bool true)), [], []⟩ := by
  rw [Try.params6]
  intro yss h
  obtain _ | ⟨h0, h⟩ := h
  obtain _ | _ := h
  obtain ⟨w0, rfl, ok_aW⟩ := inv34 h0
  obtain ⟨aW_version, aW_stride, aW_roll, aW_base, aW_link, aW_offsets, aW_end, aW_open, aW_code⟩ := w0
  have e : argAVs Try.prog [34] [(eWriter ⟨aW_version, aW_stride, aW_roll, aW_base, aW_link, aW_offsets, aW_end, aW_open, aW_code⟩)] = [.agg [.d (.sc (.int .i64 aW_version)), .d (.sc (.int .i64 aW_stride)), .d (.sc (.int .i64 aW_roll)), .d (.sc (.int .i64 aW_base)), .d (.sc (.int .i64 aW_link)), .d (.row 1 (aW_offsets.map cI)), .d (.sc (.int .i64 aW_end)), .d (.sc (.bool aW_open)), .d (.sc (.int .i64 aW_code))]] := by
    simp only [argAVs, argAV, Try.underlying34]
    try rfl
  show CallOk Try.prog 6 (argAVs Try.prog [34] _) [] _
  rw [e]
  exact T6 rfl ok_aW
end Go.Proofs.Ytbdlhemakfmadaa.Ab
namespace Go.Proofs.Ytbdlhemakfmadaa.fnExactStuckWriter
open Go.ChangeShapes Go.WideShapes Go.ChangeAt Go.RowKit
open Go.Proofs.Ytbdlhemakfmadaa.Ab
theorem own : ownKnob Try.prog.godebug = none := by kernel_rfl
theorem laidOut : laidOutB Try.prog = true := by kernel_rfl
set_option maxRecDepth 100000 in
theorem lifted (os : Os) (started : os.Started) (H : Type) (enc : TypeId × Value → H) :
    ReturnsInHanded {} Try.checked os 6 .any (Rows.fnExactStuckWriterSpec.pre6 enc Try.prog Try.f6 Rows.fnExactStuckWriterRow.domain false) (Rows.fnExactStuckWriterSpec.post enc Try.prog Try.f6 false true false false) := by
  refine returnsInHanded_of_change_sized (C := Try.checked) own started (by kernel_rfl) Try.func6
    (ChangeSpec.witness6 (enc := enc) (C := Try.checked) false ⟨#[], #[.agg #[.int .i64 0, .int .i64 0, .int .i64 0, .int .i64 0, .int .i64 0, .slice none 0 0, .int .i64 0, .bool false, .int .i64 0]], []⟩ 8 (by kernel_rfl) (by kernel_rfl) (by kernel_rfl) (by kernel_rfl)) ?_
  intro W base args ds gs before hval0 hW hcnd hsz0 _
  have hsz : (DataW.weightsEach Try.prog (Try.f6.params.toList ++ []) (ds ++ gs)).all (· ≤ reachBytes) = true := hsz0
  have hval : ∀ (j : Nat) t v, Try.f6.params[j]? = some t → args[j]? = some v → Value.okWide Try.prog W .any base t v := hval0
  have hW' := hW
  obtain ⟨p, q, hA0, hV, rfl, hfz, hnd⟩ := hW
  have hA : DataW.TrodAll enc Try.prog W 0 (fun _ => true) true Try.f6.params.toList args.toList ds p := hA0
  obtain ⟨rfl, rfl⟩ := trodVars_none hV
  have hw : ∀ m ∈ DataW.weightsEach Try.prog Try.f6.params.toList ds, m ≤ reachBytes := by
    intro m hm
    have := List.all_eq_true.1 hsz m (by simpa using hm)
    simpa using this
  have run := row_calls (g := 9) (ts := Try.f6.params.toList) (by kernel_rfl) callStuckWriter (fun j t v h1 h2 => hval j t v (by simpa using h1) (by simpa using h2)) hA hw
  rw [Try.params6] at hA
  obtain ⟨v0, vs0, d0, ds0, p0, q0, h0l, rfl, rfl, k0, r0⟩ := trodAll_cons hA
  have lt0 : ∀ x ∈ p0, x.block < W.heap.size := by obtain ⟨m, hm⟩ := k0; exact DataW.trod_lt m _ _ _ hm
  obtain ⟨rfl, rfl, rfl⟩ := trodAll_nil r0
  obtain rfl : args = #[v0] := by cases args; simp_all
  refine run.mono fun e W' ⟨he, bel⟩ => ?_
  subst he
  exact ⟨_, rfl, _, _, _, [], _, [], hW', trodAll_mk1 (shut_bool Try.underlying4 _), (trodAll_cons_mk (Below.trod laidOut (by kernel_rfl) (of_decide_eq_true (by kernel_rfl)) k0 bel lt0) trodAll_mk0), rfl, bel.frame _, fun h => by cases h⟩
theorem over : Rows.fnExactStuckWriterRow.holds Try.pinned (OpenSpec.ofChange Rows.fnExactStuckWriterSpec) :=
  OpenClaim.holds_of_wide 6 Try.f6 rfl rfl rfl rfl rfl rfl rfl ⟨rfl, rfl, rfl, rfl, rfl⟩ rfl rfl rfl rfl rfl (by kernel_rfl) Try.func6 (by kernel_rfl)
    (of_decide_eq_true (by kernel_rfl)) (by unfold Func.isWrapper; first | (rw [if_pos (by decide +kernel)]; kernel_rfl) | (rw [if_neg (by decide +kernel)]; exact ⟨rfl, rfl⟩))
    (fun os started H enc _ => lifted os started H enc)
theorem proved : Rows.FnExactStuckWriterSaid := over
#print axioms proved
end Go.Proofs.Ytbdlhemakfmadaa.fnExactStuckWriter
namespace Go.Proofs.Ytbdlhemakfmadaa
/-- The row, under a short name, for the claim. -/
theorem fnExactStuckWriter_holds : Rows.FnExactStuckWriterSaid := fnExactStuckWriter.proved
end Go.Proofs.Ytbdlhemakfmadaa

