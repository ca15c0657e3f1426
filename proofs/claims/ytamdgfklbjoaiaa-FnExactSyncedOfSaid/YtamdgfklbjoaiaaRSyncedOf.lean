/- For all arguments, the law FnExactSyncedOf answers true: the row of the given statement FnExactSyncedOfSaid. Conditions: none beyond the given statement. -/
import Derived.Test.YtamdgfklbjoaiaaRows
import Derived.Test.YtamdgfklbjoaiaaLSyncedOf
import Derived.KernelRfl
set_option linter.unusedVariables false
set_option linter.unusedSimpArgs false
namespace Go.Proofs.Ytamdgfklbjoaiaa.Ab
open Go Go.Proofs
theorem inv25 {xs : List D} (h : ShD Try.prog 25 xs) : ∃ a : List Int, xs = [.row 1 (a.map cI)] ∧ okIntS a := by
  obtain ⟨ys, rfl, hl, hx⟩ := h.inv_sl Try.underlying25
  obtain ⟨zs, rfl, hl', hp⟩ := rows_of (c := cI) (p := fun _ : Int => True) (ys := ys) (fun x hxm => by
    obtain ⟨n, rfl, hs⟩ := (hx x hxm).inv_int Try.underlying3
    exact ⟨n, rfl, trivial⟩)
  have := reach_lt
  rw [show Try.prog.bytesOf 3 = 8 by kernel_rfl] at hl
  rw [List.length_map] at hl
  exact ⟨zs, by rw [show Try.prog.cellsOf 3 = 1 by kernel_rfl], (show zs.length < 2 ^ 44 by omega)⟩
theorem inv85 {xs : List D} (h : ShD Try.prog 85 xs) : ∃ w : TAct, xs = eAct w ∧ okAct w := by
  replace h := h.inv_st Try.underlying85
  obtain _ | ⟨h0, h⟩ := h
  obtain _ | ⟨h1, h⟩ := h
  obtain _ | ⟨h2, h⟩ := h
  obtain _ | ⟨h3, h⟩ := h
  obtain _ | _ := h
  obtain ⟨v0, rfl, _⟩ := h0.inv_int Try.underlying3
  obtain ⟨v1, rfl, k1⟩ := h1.inv_str Try.underlying9
  obtain ⟨v2, rfl, _⟩ := h2.inv_int Try.underlying3
  obtain ⟨v3, rfl, k3⟩ := inv25 h3
  exact ⟨⟨v0, v1, v2, v3⟩, rfl, ⟨Nat.lt_of_le_of_lt k1 reach_lt, k3⟩⟩
theorem inv24 {xs : List D} (h : ShD Try.prog 24 xs) : ∃ a : List TAct, xs = [.row 4 (a.map eAct)] ∧ okActS a := by
  obtain ⟨ys, rfl, hl, hx⟩ := h.inv_sl Try.underlying24
  obtain ⟨zs, rfl, hl', hp⟩ := rows_of (c := eAct) (p := fun x : TAct => okAct x) (ys := ys) (fun x hxm => by
    obtain ⟨w, rfl, hs⟩ := inv85 (hx x hxm)
    exact ⟨w, rfl, hs⟩)
  have := reach_lt
  rw [show Try.prog.bytesOf 85 = 56 by kernel_rfl] at hl
  rw [List.length_map] at hl
  exact ⟨zs, by rw [show Try.prog.cellsOf 85 = 4 by kernel_rfl], ⟨by omega, hp⟩⟩
theorem callSyncedOf : ∀ yss, ShAll Try.prog Try.f4.params.toList yss → CallOk Try.prog 4 (argAVs Try.prog Try.f4.params.toList yss) [] ⟨.d (.sc (.bool true)), [], []⟩ := by
  rw [Try.params4]
  intro yss h
  obtain _ | ⟨h0, h⟩ := h
  obtain _ | ⟨h1, h⟩ := h
  obtain _ | _ := h
  obtain ⟨aActs, rfl, ok_aActs⟩ := inv24 h0
  obtain ⟨aCodes, rfl, ok_aCodes⟩ := inv25 h1
  have e : argAVs Try.prog [24, 25] [[.row 4 (aActs.map eAct)], [.row 1 (aCodes.map cI)]] = [.d (.row 4 (aActs.map eAct)), .d (.row 1 (aCodes.map cI))] := by
    simp only [argAVs, argAV, Try.underlying24, Try.underlying25]
    try rfl
  show CallOk Try.prog 4 (argAVs Try.prog [24, 25] _) [] _
  rw [e]
  exact T4 rfl rfl ok_aActs ok_aCodes
end Go.Proofs.Ytamdgfklbjoaiaa.Ab
namespace Go.Proofs.Ytamdgfklbjoaiaa.fnExactSyncedOf
open Go.ChangeShapes Go.WideShapes Go.ChangeAt Go.RowKit
open Go.Proofs.Ytamdgfklbjoaiaa.Ab
theorem own : ownKnob Try.prog.godebug = none := by kernel_rfl
theorem laidOut : laidOutB Try.prog = true := by kernel_rfl
set_option maxRecDepth 100000 in
theorem lifted (os : Os) (started : os.Started) (H : Type) (enc : TypeId × Value → H) :
    ReturnsInHanded {} Try.checked os 4 .any (Rows.fnExactSyncedOfSpec.pre6 enc Try.prog Try.f4 Rows.fnExactSyncedOfRow.domain false) (Rows.fnExactSyncedOfSpec.post enc Try.prog Try.f4 false true false false) := by
  refine returnsInHanded_of_change_sized (C := Try.checked) own started (by kernel_rfl) Try.func4
    (ChangeSpec.witness6 (enc := enc) (C := Try.checked) false ⟨#[], #[.slice none 0 0, .slice none 0 0], []⟩ 8 (by kernel_rfl) (by kernel_rfl) (by kernel_rfl) (by kernel_rfl)) ?_
  intro W base args ds gs before hval0 hW hcnd hsz0 _
  have hsz : (DataW.weightsEach Try.prog (Try.f4.params.toList ++ []) (ds ++ gs)).all (· ≤ reachBytes) = true := hsz0
  have hval : ∀ (j : Nat) t v, Try.f4.params[j]? = some t → args[j]? = some v → Value.okWide Try.prog W .any base t v := hval0
  have hW' := hW
  obtain ⟨p, q, hA0, hV, rfl, hfz, hnd⟩ := hW
  have hA : DataW.TrodAll enc Try.prog W 0 (fun _ => true) true Try.f4.params.toList args.toList ds p := hA0
  obtain ⟨rfl, rfl⟩ := trodVars_none hV
  have hw : ∀ m ∈ DataW.weightsEach Try.prog Try.f4.params.toList ds, m ≤ reachBytes := by
    intro m hm
    have := List.all_eq_true.1 hsz m (by simpa using hm)
    simpa using this
  have run := row_calls (g := 9) (ts := Try.f4.params.toList) (by kernel_rfl) callSyncedOf (fun j t v h1 h2 => hval j t v (by simpa using h1) (by simpa using h2)) hA hw
  rw [Try.params4] at hA
  obtain ⟨v0, vs0, d0, ds0, p0, q0, h0l, rfl, rfl, k0, r0⟩ := trodAll_cons hA
  have lt0 : ∀ x ∈ p0, x.block < W.heap.size := by obtain ⟨m, hm⟩ := k0; exact DataW.trod_lt m _ _ _ hm
  obtain ⟨v1, vs1, d1, ds1, p1, q1, h1l, rfl, rfl, k1, r1⟩ := trodAll_cons r0
  have lt1 : ∀ x ∈ p1, x.block < W.heap.size := by obtain ⟨m, hm⟩ := k1; exact DataW.trod_lt m _ _ _ hm
  subst h1l
  obtain ⟨rfl, rfl, rfl⟩ := trodAll_nil r1
  obtain rfl : args = #[v0, v1] := by cases args; simp_all
  refine run.mono fun e W' ⟨he, bel⟩ => ?_
  subst he
  exact ⟨_, rfl, _, _, _, [], _, [], hW', trodAll_mk1 (shut_bool Try.underlying4 _), (trodAll_cons_mk (Below.trod laidOut (by kernel_rfl) (of_decide_eq_true (by kernel_rfl)) k0 bel lt0) (trodAll_cons_mk (Below.trod laidOut (by kernel_rfl) (of_decide_eq_true (by kernel_rfl)) k1 bel lt1) trodAll_mk0)), rfl, bel.frame _, fun h => by cases h⟩
theorem over : Rows.fnExactSyncedOfRow.holds Try.pinned (OpenSpec.ofChange Rows.fnExactSyncedOfSpec) :=
  OpenClaim.holds_of_wide 4 Try.f4 rfl rfl rfl rfl rfl rfl rfl ⟨rfl, rfl, rfl, rfl, rfl⟩ rfl rfl rfl rfl rfl (by kernel_rfl) Try.func4 (by kernel_rfl)
    (of_decide_eq_true (by kernel_rfl)) (by unfold Func.isWrapper; first | (rw [if_pos (by decide +kernel)]; kernel_rfl) | (rw [if_neg (by decide +kernel)]; exact ⟨rfl, rfl⟩))
    (fun os started H enc _ => lifted os started H enc)
theorem proved : Rows.FnExactSyncedOfSaid := over
#print axioms proved
end Go.Proofs.Ytamdgfklbjoaiaa.fnExactSyncedOf
namespace Go.Proofs.Ytamdgfklbjoaiaa
/-- The row, under a short name, for the claim. -/
theorem fnExactSyncedOf_holds : Rows.FnExactSyncedOfSaid := fnExactSyncedOf.proved
end Go.Proofs.Ytamdgfklbjoaiaa

