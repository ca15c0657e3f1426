/- For all arguments, the law FnExactQuiet answers true: the row of the given statement FnExactQuietSaid. Conditions: none beyond the given statement. -/
import Derived.Test.YtbdlhemakfmadaaRows
import Derived.Test.YtbdlhemakfmadaaLQuiet
import Derived.KernelRfl
set_option linter.unusedVariables false
set_option linter.unusedSimpArgs false
namespace Go.Proofs.Ytbdlhemakfmadaa.Ab
open Go Go.Proofs
theorem inv24 {xs : List D} (h : ShD Try.prog 24 xs) : ∃ a : List Int, xs = [.row 1 (a.map cI)] ∧ okIntS a := by
  obtain ⟨ys, rfl, hl, hx⟩ := h.inv_sl Try.underlying24
  obtain ⟨zs, rfl, hl', hp⟩ := rows_of (c := cI) (p := fun _ : Int => True) (ys := ys) (fun x hxm => by
    obtain ⟨n, rfl, hs⟩ := (hx x hxm).inv_int Try.underlying3
    exact ⟨n, rfl, trivial⟩)
  have := reach_lt
  rw [show Try.prog.bytesOf 3 = 8 by kernel_rfl] at hl
  rw [List.length_map] at hl
  exact ⟨zs, by rw [show Try.prog.cellsOf 3 = 1 by kernel_rfl], (show zs.length < 2 ^ 44 by omega)⟩
theorem inv53 {xs : List D} (h : ShD Try.prog 53 xs) : ∃ w : TAct, xs = eAct w ∧ okAct w := by
  replace h := h.inv_st Try.underlying53
  obtain _ | ⟨h0, h⟩ := h
  obtain _ | ⟨h1, h⟩ := h
  obtain _ | ⟨h2, h⟩ := h
  obtain _ | ⟨h3, h⟩ := h
  obtain _ | _ := h
  obtain ⟨v0, rfl, _⟩ := h0.inv_int Try.underlying3
  obtain ⟨v1, rfl, k1⟩ := h1.inv_str Try.underlying9
  obtain ⟨v2, rfl, _⟩ := h2.inv_int Try.underlying3
  obtain ⟨v3, rfl, k3⟩ := inv24 h3
  exact ⟨⟨v0, v1, v2, v3⟩, rfl, ⟨Nat.lt_of_le_of_lt k1 reach_lt, k3⟩⟩
theorem inv41 {xs : List D} (h : ShD Try.prog 41 xs) : ∃ a : List TAct, xs = [.row 4 (a.map eAct)] ∧ okActS a := by
  obtain ⟨ys, rfl, hl, hx⟩ := h.inv_sl Try.underlying41
  obtain ⟨zs, rfl, hl', hp⟩ := rows_of (c := eAct) (p := fun x : TAct => okAct x) (ys := ys) (fun x hxm => by
    obtain ⟨w, rfl, hs⟩ := inv53 (hx x hxm)
    exact ⟨w, rfl, hs⟩)
  have := reach_lt
  rw [show Try.prog.bytesOf 53 = 56 by kernel_rfl] at hl
  rw [List.length_map] at hl
  exact ⟨zs, by rw [show Try.prog.cellsOf 53 = 4 by kernel_rfl], ⟨by omega, hp⟩⟩
theorem callQuiet : ∀ yss, ShAll Try.prog Try.f8.params.toList yss → CallOk Try.prog 8 (argAVs Try.prog Try.f8.params.toList yss) [] ⟨.d (.sc (.bool true)), [], []⟩ := by
  rw [Try.params8]
  intro yss h
  obtain _ | ⟨h0, h⟩ := h
  obtain _ | _ := h
  obtain ⟨aActs, rfl, ok_aActs⟩ := inv41 h0
  have e : argAVs Try.prog [41] [[.row 4 (aActs.map eAct)]] = [.d (.row 4 (aActs.map eAct))] := by
    simp only [argAVs, argAV, Try.underlying41]
    try rfl
  show CallOk Try.prog 8 (argAVs Try.prog [41] _) [] _
  rw [e]
  exact T8 rfl ok_aActs
end Go.Proofs.Ytbdlhemakfmadaa.Ab
namespace Go.Proofs.Ytbdlhemakfmadaa.fnExactQuiet
open Go.ChangeShapes Go.WideShapes Go.ChangeAt Go.RowKit
open Go.Proofs.Ytbdlhemakfmadaa.Ab
theorem own : ownKnob Try.prog.godebug = none := by kernel_rfl
theorem laidOut : laidOutB Try.prog = true := by kernel_rfl
set_option maxRecDepth 100000 in
theorem lifted (os : Os) (started : os.Started) (H : Type) (enc : TypeId × Value → H) :
    ReturnsInHanded {} Try.checked os 8 .any (Rows.fnExactQuietSpec.pre6 enc Try.prog Try.f8 Rows.fnExactQuietRow.domain false) (Rows.fnExactQuietSpec.post enc Try.prog Try.f8 false true false false) := by
  refine returnsInHanded_of_change_sized (C := Try.checked) own started (by kernel_rfl) Try.func8
    (ChangeSpec.witness6 (enc := enc) (C := Try.checked) false ⟨#[], #[.slice none 0 0], []⟩ 8 (by kernel_rfl) (by kernel_rfl) (by kernel_rfl) (by kernel_rfl)) ?_
  intro W base args ds gs before hval0 hW hcnd hsz0 _
  have hsz : (DataW.weightsEach Try.prog (Try.f8.params.toList ++ []) (ds ++ gs)).all (· ≤ reachBytes) = true := hsz0
  have hval : ∀ (j : Nat) t v, Try.f8.params[j]? = some t → args[j]? = some v → Value.okWide Try.prog W .any base t v := hval0
  have hW' := hW
  obtain ⟨p, q, hA0, hV, rfl, hfz, hnd⟩ := hW
  have hA : DataW.TrodAll enc Try.prog W 0 (fun _ => true) true Try.f8.params.toList args.toList ds p := hA0
  obtain ⟨rfl, rfl⟩ := trodVars_none hV
  have hw : ∀ m ∈ DataW.weightsEach Try.prog Try.f8.params.toList ds, m ≤ reachBytes := by
    intro m hm
    have := List.all_eq_true.1 hsz m (by simpa using hm)
    simpa using this
  have run := row_calls (g := 9) (ts := Try.f8.params.toList) (by kernel_rfl) callQuiet (fun j t v h1 h2 => hval j t v (by simpa using h1) (by simpa using h2)) hA hw
  rw [Try.params8] at hA
  obtain ⟨v0, vs0, d0, ds0, p0, q0, h0l, rfl, rfl, k0, r0⟩ := trodAll_cons hA
  have lt0 : ∀ x ∈ p0, x.block < W.heap.size := by obtain ⟨m, hm⟩ := k0; exact DataW.trod_lt m _ _ _ hm
  obtain ⟨rfl, rfl, rfl⟩ := trodAll_nil r0
  obtain rfl : args = #[v0] := by cases args; simp_all
  refine run.mono fun e W' ⟨he, bel⟩ => ?_
  subst he
  exact ⟨_, rfl, _, _, _, [], _, [], hW', trodAll_mk1 (shut_bool Try.underlying4 _), (trodAll_cons_mk (Below.trod laidOut (by kernel_rfl) (of_decide_eq_true (by kernel_rfl)) k0 bel lt0) trodAll_mk0), rfl, bel.frame _, fun h => by cases h⟩
theorem over : Rows.fnExactQuietRow.holds Try.pinned (OpenSpec.ofChange Rows.fnExactQuietSpec) :=
  OpenClaim.holds_of_wide 8 Try.f8 rfl rfl rfl rfl rfl rfl rfl ⟨rfl, rfl, rfl, rfl, rfl⟩ rfl rfl rfl rfl rfl (by kernel_rfl) Try.func8 (by kernel_rfl)
    (of_decide_eq_true (by kernel_rfl)) (by unfold Func.isWrapper; first | (rw [if_pos (by decide +kernel)]; kernel_rfl) | (rw [if_neg (by decide +kernel)]; exact ⟨rfl, rfl⟩))
    (fun os started H enc _ => lifted os started H enc)
theorem proved : Rows.FnExactQuietSaid := over
#print axioms proved
end Go.Proofs.Ytbdlhemakfmadaa.fnExactQuiet
namespace Go.Proofs.Ytbdlhemakfmadaa
/-- The row, under a short name, for the claim. -/
theorem fnExactQuiet_holds : Rows.FnExactQuietSaid := fnExactQuiet.proved
end Go.Proofs.Ytbdlhemakfmadaa

