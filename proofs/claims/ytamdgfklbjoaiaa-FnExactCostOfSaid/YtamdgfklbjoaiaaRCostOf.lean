/- For all arguments, the law FnExactCostOf answers true: the row of the given statement FnExactCostOfSaid. Conditions: none beyond the given statement. -/
import Derived.Test.YtamdgfklbjoaiaaRows
import Derived.Test.YtamdgfklbjoaiaaElCostOf
import Derived.KernelRfl
set_option linter.unusedVariables false
set_option linter.unusedSimpArgs false
namespace Go.Proofs.Ytamdgfklbjoaiaa.Ab
open Go Go.Proofs
theorem inv25 {xs : List D} (h : ShD Try.prog 25 xs) : ∃ a : List Int, xs = [.row 1 (a.map cI)] ∧ okIntS a ∧ wfIntS a := by
  obtain ⟨ys, rfl, hl, hx⟩ := h.inv_sl Try.underlying25
  obtain ⟨zs, rfl, hl', hp⟩ := rows_of (c := cI) (p := fun x : Int => (True) ∧ (wfI x)) (ys := ys) (fun x hxm => by
    obtain ⟨n, rfl, hs⟩ := (hx x hxm).inv_int Try.underlying3
    exact ⟨n, rfl, trivial, wfI_of hs⟩)
  have := reach_lt
  rw [show Try.prog.bytesOf 3 = 8 by kernel_rfl] at hl
  rw [List.length_map] at hl
  exact ⟨zs, by rw [show Try.prog.cellsOf 3 = 1 by kernel_rfl], (show zs.length < 2 ^ 44 by omega), fun x hx => (hp x hx).2⟩
theorem inv62 {xs : List D} (h : ShD Try.prog 62 xs) : ∃ w : TWriter, xs = eWriter w ∧ okWriter w ∧ wfWriter w := by
  replace h := h.inv_st Try.underlying62
  obtain _ | ⟨h0, h⟩ := h
  obtain _ | ⟨h1, h⟩ := h
  obtain _ | ⟨h2, h⟩ := h
  obtain _ | ⟨h3, h⟩ := h
  obtain _ | ⟨h4, h⟩ := h
  obtain _ | ⟨h5, h⟩ := h
  obtain _ | ⟨h6, h⟩ := h
  obtain _ | ⟨h7, h⟩ := h
  obtain _ | ⟨h8, h⟩ := h
  obtain _ | _ := h
  obtain ⟨v0, rfl, w0⟩ := h0.inv_int Try.underlying3
  obtain ⟨v1, rfl, w1⟩ := h1.inv_int Try.underlying3
  obtain ⟨v2, rfl, w2⟩ := h2.inv_int Try.underlying3
  obtain ⟨v3, rfl, w3⟩ := h3.inv_int Try.underlying3
  obtain ⟨v4, rfl, w4⟩ := h4.inv_int Try.underlying3
  obtain ⟨v5, rfl, k5, w5⟩ := inv25 h5
  obtain ⟨v6, rfl, w6⟩ := h6.inv_int Try.underlying3
  obtain ⟨v7, rfl⟩ := h7.inv_bool Try.underlying4
  obtain ⟨v8, rfl, w8⟩ := h8.inv_int Try.underlying3
  exact ⟨⟨v0, v1, v2, v3, v4, v5, v6, v7, v8⟩, rfl, k5, ⟨wfI_of w0, wfI_of w1, wfI_of w2, wfI_of w3, wfI_of w4, w5, wfI_of w6, wfI_of w8⟩⟩
theorem callCostOf : ∀ yss, ShAll Try.prog Try.f8.params.toList yss → CallOk Try.prog 8 (argAVs Try.prog Try.f8.params.toList yss) [] ⟨.d (.sc (.bool true)), [], []⟩ := by
  rw [Try.params8]
  intro yss h
  obtain _ | ⟨h0, h⟩ := h
  obtain _ | ⟨h1, h⟩ := h
  obtain _ | _ := h
  obtain ⟨w0, rfl, ok_aW, wf_aW⟩ := inv62 h0
  obtain ⟨aW_version, aW_stride, aW_roll, aW_base, aW_link, aW_offsets, aW_end, aW_open, aW_code⟩ := w0
  obtain ⟨aRecord, rfl, k1⟩ := h1.inv_str Try.underlying9
  have ok_aRecord := Nat.lt_of_le_of_lt k1 reach_lt
  have e : argAVs Try.prog [62, 9] [(eWriter ⟨aW_version, aW_stride, aW_roll, aW_base, aW_link, aW_offsets, aW_end, aW_open, aW_code⟩), [.sc (.string aRecord)]] = [.agg [.d (.sc (.int .i64 aW_version)), .d (.sc (.int .i64 aW_stride)), .d (.sc (.int .i64 aW_roll)), .d (.sc (.int .i64 aW_base)), .d (.sc (.int .i64 aW_link)), .d (.row 1 (aW_offsets.map cI)), .d (.sc (.int .i64 aW_end)), .d (.sc (.bool aW_open)), .d (.sc (.int .i64 aW_code))], .d (.sc (.string aRecord))] := by
    simp only [argAVs, argAV, Try.underlying62, Try.underlying9]
    try rfl
  show CallOk Try.prog 8 (argAVs Try.prog [62, 9] _) [] _
  rw [e]
  exact T8 rfl ok_aW wf_aW ok_aRecord
end Go.Proofs.Ytamdgfklbjoaiaa.Ab
namespace Go.Proofs.Ytamdgfklbjoaiaa.fnExactCostOf
open Go.ChangeShapes Go.WideShapes Go.ChangeAt Go.RowKit
open Go.Proofs.Ytamdgfklbjoaiaa.Ab
theorem own : ownKnob Try.prog.godebug = none := by kernel_rfl
theorem laidOut : laidOutB Try.prog = true := by kernel_rfl
set_option maxRecDepth 100000 in
theorem lifted (os : Os) (started : os.Started) (H : Type) (enc : TypeId × Value → H) :
    ReturnsInHanded {} Try.checked os 8 .any (Rows.fnExactCostOfSpec.pre6 enc Try.prog Try.f8 Rows.fnExactCostOfRow.domain false) (Rows.fnExactCostOfSpec.post enc Try.prog Try.f8 false true false false) := by
  refine returnsInHanded_of_change_sized (C := Try.checked) own started (by kernel_rfl) Try.func8
    (ChangeSpec.witness6 (enc := enc) (C := Try.checked) false ⟨#[], #[.agg #[.int .i64 0, .int .i64 0, .int .i64 0, .int .i64 0, .int .i64 0, .slice none 0 0, .int .i64 0, .bool false, .int .i64 0], .string default], []⟩ 8 (by kernel_rfl) (by kernel_rfl) (by kernel_rfl) (by kernel_rfl)) ?_
  intro W base args ds gs before hval0 hW hcnd hsz0 _
  have hsz : (DataW.weightsEach Try.prog (Try.f8.params.toList ++ []) (ds ++ gs)).all (· ≤ reachBytes) = true := hsz0
  have hval : ∀ (j : Nat) t v, Try.f8.params[j]? = some t → args[j]? = some v → Value.okWide Try.prog W .any base t v := hval0
  have hW' := hW
  obtain ⟨p, q, hA0, hV, rfl, hfz, hnd⟩ := hW
  have hA : DataW.TrodAll enc Try.prog W 0 (fun _ => true) true Try.f8.params.toList args.toList ds p := hA0
  obtain ⟨rfl, rfl⟩ := trodVars_none hV
  have hw : ∀ m ∈ DataW.weightsEach Try.prog Try.f8.params.toList ds, m ≤ reachBytes := by
    intro m hm
    have := List.all_eq_true.1 hsz m (by simpa using hm)
    simpa using this
  have run := row_calls (g := 9) (ts := Try.f8.params.toList) (by kernel_rfl) callCostOf (fun j t v h1 h2 => hval j t v (by simpa using h1) (by simpa using h2)) hA hw
  rw [Try.params8] at hA
  obtain ⟨v0, vs0, d0, ds0, p0, q0, h0l, rfl, rfl, k0, r0⟩ := trodAll_cons hA
  have lt0 : ∀ x ∈ p0, x.block < W.heap.size := by obtain ⟨m, hm⟩ := k0; exact DataW.trod_lt m _ _ _ hm
  obtain ⟨v1, vs1, d1, ds1, p1, q1, h1l, rfl, rfl, k1, r1⟩ := trodAll_cons r0
  have lt1 : ∀ x ∈ p1, x.block < W.heap.size := by obtain ⟨m, hm⟩ := k1; exact DataW.trod_lt m _ _ _ hm
  subst h1l
  obtain ⟨rfl, rfl, rfl⟩ := trodAll_nil r1
  obtain rfl : args = #[v0, v1] := by cases args; simp_all
  refine run.mono fun e W' ⟨he, bel⟩ => ?_
  subst he
  exact ⟨_, rfl, _, _, _, [], _, [], hW', trodAll_mk1 (shut_bool Try.underlying4 _), (trodAll_cons_mk (Below.trod laidOut (by kernel_rfl) (of_decide_eq_true (by kernel_rfl)) k0 bel lt0) (trodAll_cons_mk (Below.trod laidOut (by kernel_rfl) (of_decide_eq_true (by kernel_rfl)) k1 bel lt1) trodAll_mk0)), rfl, bel.frame _, fun h => by cases h⟩
theorem over : Rows.fnExactCostOfRow.holds Try.pinned (OpenSpec.ofChange Rows.fnExactCostOfSpec) :=
  OpenClaim.holds_of_wide 8 Try.f8 rfl rfl rfl rfl rfl rfl rfl ⟨rfl, rfl, rfl, rfl, rfl⟩ rfl rfl rfl rfl rfl (by kernel_rfl) Try.func8 (by kernel_rfl)
    (of_decide_eq_true (by kernel_rfl)) (by unfold Func.isWrapper; first | (rw [if_pos (by decide +kernel)]; kernel_rfl) | (rw [if_neg (by decide +kernel)]; exact ⟨rfl, rfl⟩))
    (fun os started H enc _ => lifted os started H enc)
theorem proved : Rows.FnExactCostOfSaid := over
#print axioms proved
end Go.Proofs.Ytamdgfklbjoaiaa.fnExactCostOf
namespace Go.Proofs.Ytamdgfklbjoaiaa
/-- The row, under a short name, for the claim. -/
theorem fnExactCostOf_holds : Rows.FnExactCostOfSaid := fnExactCostOf.proved
end Go.Proofs.Ytamdgfklbjoaiaa

