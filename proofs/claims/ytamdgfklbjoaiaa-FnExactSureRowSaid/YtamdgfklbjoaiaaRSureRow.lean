/- For all arguments, the law FnExactSureRow answers true: the row of the given statement FnExactSureRowSaid. Conditions: none beyond the given statement. -/
import Derived.Test.YtamdgfklbjoaiaaRows
import Derived.Test.YtamdgfklbjoaiaaLSureRow
import Derived.KernelRfl
set_option linter.unusedVariables false
set_option linter.unusedSimpArgs false
namespace Go.Proofs.Ytamdgfklbjoaiaa.Ab
open Go Go.Proofs
theorem inv70 {xs : List D} (h : ShD Try.prog 70 xs) : ∃ w : TSetting, xs = eSetting w ∧ True ∧ wfSetting w := by
  replace h := h.inv_st Try.underlying70
  obtain _ | ⟨h0, h⟩ := h
  obtain _ | ⟨h1, h⟩ := h
  obtain _ | ⟨h2, h⟩ := h
  obtain _ | ⟨h3, h⟩ := h
  obtain _ | _ := h
  obtain ⟨v0, rfl, w0⟩ := h0.inv_int Try.underlying3
  obtain ⟨v1, rfl, w1⟩ := h1.inv_int Try.underlying3
  obtain ⟨v2, rfl, w2⟩ := h2.inv_int Try.underlying3
  obtain ⟨v3, rfl, w3⟩ := h3.inv_int Try.underlying3
  exact ⟨⟨v0, v1, v2, v3⟩, rfl, trivial, ⟨wfI_of w0, wfI_of w1, wfI_of w2, wfI_of w3⟩⟩
theorem inv121 {xs : List D} (h : ShD Try.prog 121 xs) : ∃ w : TNode, xs = eNode w ∧ okNode w ∧ wfNode w := by
  replace h := h.inv_st Try.underlying121
  obtain _ | ⟨h0, h⟩ := h
  obtain _ | ⟨h1, h⟩ := h
  obtain _ | ⟨h2, h⟩ := h
  obtain _ | _ := h
  obtain ⟨v0, rfl, w0⟩ := h0.inv_int Try.underlying3
  obtain ⟨v1, rfl, k1⟩ := h1.inv_str Try.underlying9
  obtain ⟨v2, rfl, w2⟩ := h2.inv_int Try.underlying3
  exact ⟨⟨v0, v1, v2⟩, rfl, Nat.lt_of_le_of_lt k1 reach_lt, ⟨wfI_of w0, wfI_of w2⟩⟩
theorem inv48 {xs : List D} (h : ShD Try.prog 48 xs) : ∃ a : List TNode, xs = [.row 3 (a.map eNode)] ∧ okNodeS a ∧ wfNodeS a := by
  obtain ⟨ys, rfl, hl, hx⟩ := h.inv_sl Try.underlying48
  obtain ⟨zs, rfl, hl', hp⟩ := rows_of (c := eNode) (p := fun x : TNode => (okNode x) ∧ (wfNode x)) (ys := ys) (fun x hxm => by
    obtain ⟨w, rfl, hs, hs2⟩ := inv121 (hx x hxm)
    exact ⟨w, rfl, hs, hs2⟩)
  have := reach_lt
  rw [show Try.prog.bytesOf 121 = 32 by kernel_rfl] at hl
  rw [List.length_map] at hl
  exact ⟨zs, by rw [show Try.prog.cellsOf 121 = 3 by kernel_rfl], ⟨by omega, fun x hx => (hp x hx).1⟩, fun x hx => (hp x hx).2⟩
theorem inv124 {xs : List D} (h : ShD Try.prog 124 xs) : ∃ w : TEntry, xs = eEntry w ∧ okEntry w ∧ wfEntry w := by
  replace h := h.inv_st Try.underlying124
  obtain _ | ⟨h0, h⟩ := h
  obtain _ | ⟨h1, h⟩ := h
  obtain _ | _ := h
  obtain ⟨v0, rfl, k0⟩ := h0.inv_str Try.underlying9
  obtain ⟨v1, rfl, w1⟩ := h1.inv_int Try.underlying3
  exact ⟨⟨v0, v1⟩, rfl, Nat.lt_of_le_of_lt k0 reach_lt, wfI_of w1⟩
theorem inv49 {xs : List D} (h : ShD Try.prog 49 xs) : ∃ a : List TEntry, xs = [.row 2 (a.map eEntry)] ∧ okEntryS a ∧ wfEntryS a := by
  obtain ⟨ys, rfl, hl, hx⟩ := h.inv_sl Try.underlying49
  obtain ⟨zs, rfl, hl', hp⟩ := rows_of (c := eEntry) (p := fun x : TEntry => (okEntry x) ∧ (wfEntry x)) (ys := ys) (fun x hxm => by
    obtain ⟨w, rfl, hs, hs2⟩ := inv124 (hx x hxm)
    exact ⟨w, rfl, hs, hs2⟩)
  have := reach_lt
  rw [show Try.prog.bytesOf 124 = 24 by kernel_rfl] at hl
  rw [List.length_map] at hl
  exact ⟨zs, by rw [show Try.prog.cellsOf 124 = 2 by kernel_rfl], ⟨by omega, fun x hx => (hp x hx).1⟩, fun x hx => (hp x hx).2⟩
theorem inv36 {xs : List D} (h : ShD Try.prog 36 xs) : ∃ a : List ByteArray, xs = [.row 1 (a.map cS)] ∧ okStringS a ∧ True := by
  obtain ⟨ys, rfl, hl, hx⟩ := h.inv_sl Try.underlying36
  obtain ⟨zs, rfl, hl', hp⟩ := rows_of (c := cS) (p := fun x : ByteArray => (x.size < 2 ^ 47) ∧ (True)) (ys := ys) (fun x hxm => by
    obtain ⟨s, rfl, hs⟩ := (hx x hxm).inv_str Try.underlying9
    exact ⟨s, rfl, Nat.lt_of_le_of_lt hs reach_lt, trivial⟩)
  have := reach_lt
  rw [show Try.prog.bytesOf 9 = 16 by kernel_rfl] at hl
  rw [List.length_map] at hl
  exact ⟨zs, by rw [show Try.prog.cellsOf 9 = 1 by kernel_rfl], ⟨by omega, fun x hx => (hp x hx).1⟩, trivial⟩
theorem inv51 {xs : List D} (h : ShD Try.prog 51 xs) : ∃ w : TDisk, xs = eDisk w ∧ okDisk w ∧ wfDisk w := by
  replace h := h.inv_st Try.underlying51
  obtain _ | ⟨h0, h⟩ := h
  obtain _ | ⟨h1, h⟩ := h
  obtain _ | ⟨h2, h⟩ := h
  obtain _ | ⟨h3, h⟩ := h
  obtain _ | ⟨h4, h⟩ := h
  obtain _ | ⟨h5, h⟩ := h
  obtain _ | _ := h
  obtain ⟨v0, rfl, k0, w0⟩ := inv48 h0
  obtain ⟨v1, rfl, k1, w1⟩ := inv49 h1
  obtain ⟨v2, rfl, k2, w2⟩ := inv49 h2
  obtain ⟨v3, rfl, k3, w3⟩ := inv36 h3
  obtain ⟨v4, rfl, w4⟩ := h4.inv_int Try.underlying3
  obtain ⟨v5, rfl, w5⟩ := h5.inv_int Try.underlying3
  exact ⟨⟨v0, v1, v2, v3, v4, v5⟩, rfl, ⟨k0, k1, k2, k3⟩, ⟨w0, w1, w2, wfI_of w4, wfI_of w5⟩⟩
theorem inv25 {xs : List D} (h : ShD Try.prog 25 xs) : ∃ a : List Int, xs = [.row 1 (a.map cI)] ∧ okIntS a ∧ wfIntS a := by
  obtain ⟨ys, rfl, hl, hx⟩ := h.inv_sl Try.underlying25
  obtain ⟨zs, rfl, hl', hp⟩ := rows_of (c := cI) (p := fun x : Int => (True) ∧ (wfI x)) (ys := ys) (fun x hxm => by
    obtain ⟨n, rfl, hs⟩ := (hx x hxm).inv_int Try.underlying3
    exact ⟨n, rfl, trivial, wfI_of hs⟩)
  have := reach_lt
  rw [show Try.prog.bytesOf 3 = 8 by kernel_rfl] at hl
  rw [List.length_map] at hl
  exact ⟨zs, by rw [show Try.prog.cellsOf 3 = 1 by kernel_rfl], (show zs.length < 2 ^ 44 by omega), fun x hx => (hp x hx).2⟩
theorem inv62 {xs : List D} (h : ShD Try.prog 62 xs) : ∃ w : TWriter, xs = eWriter w ∧ okWriter w ∧ wfWriter w := by
  replace h := h.inv_st Try.underlying62
  obtain _ | ⟨h0, h⟩ := h
  obtain _ | ⟨h1, h⟩ := h
  obtain _ | ⟨h2, h⟩ := h
  obtain _ | ⟨h3, h⟩ := h
  obtain _ | ⟨h4, h⟩ := h
  obtain _ | ⟨h5, h⟩ := h
  obtain _ | ⟨h6, h⟩ := h
  obtain _ | ⟨h7, h⟩ := h
  obtain _ | ⟨h8, h⟩ := h
  obtain _ | _ := h
  obtain ⟨v0, rfl, w0⟩ := h0.inv_int Try.underlying3
  obtain ⟨v1, rfl, w1⟩ := h1.inv_int Try.underlying3
  obtain ⟨v2, rfl, w2⟩ := h2.inv_int Try.underlying3
  obtain ⟨v3, rfl, w3⟩ := h3.inv_int Try.underlying3
  obtain ⟨v4, rfl, w4⟩ := h4.inv_int Try.underlying3
  obtain ⟨v5, rfl, k5, w5⟩ := inv25 h5
  obtain ⟨v6, rfl, w6⟩ := h6.inv_int Try.underlying3
  obtain ⟨v7, rfl⟩ := h7.inv_bool Try.underlying4
  obtain ⟨v8, rfl, w8⟩ := h8.inv_int Try.underlying3
  exact ⟨⟨v0, v1, v2, v3, v4, v5, v6, v7, v8⟩, rfl, k5, ⟨wfI_of w0, wfI_of w1, wfI_of w2, wfI_of w3, wfI_of w4, w5, wfI_of w6, wfI_of w8⟩⟩
theorem inv72 {xs : List D} (h : ShD Try.prog 72 xs) : ∃ w : TWorld, xs = eWorld w ∧ okWorld w ∧ wfWorld w := by
  replace h := h.inv_st Try.underlying72
  obtain _ | ⟨h0, h⟩ := h
  obtain _ | ⟨h1, h⟩ := h
  obtain _ | ⟨h2, h⟩ := h
  obtain _ | ⟨h3, h⟩ := h
  obtain _ | ⟨h4, h⟩ := h
  obtain _ | ⟨h5, h⟩ := h
  obtain _ | _ := h
  obtain ⟨v0, rfl, k0, w0⟩ := inv70 h0
  obtain ⟨v1, rfl, k1, w1⟩ := inv51 h1
  obtain ⟨v2, rfl, k2, w2⟩ := inv62 h2
  obtain ⟨v3, rfl, k3, w3⟩ := inv36 h3
  obtain ⟨v4, rfl, w4⟩ := h4.inv_int Try.underlying3
  obtain ⟨v5, rfl, w5⟩ := h5.inv_int Try.underlying3
  exact ⟨⟨v0, v1, v2, v3, v4, v5⟩, rfl, ⟨k1, k2, k3⟩, ⟨w0, w1, w2, wfI_of w4, wfI_of w5⟩⟩
theorem callSureRow : ∀ yss, ShAll Try.prog Try.f9.params.toList yss → CallOk Try.prog 9 (argAVs Try.prog Try.f9.params.toList yss) [] ⟨.d (.sc (.bool true)), [], []⟩ := by
  rw [Try.params9]
  intro yss h
  obtain _ | ⟨h0, h⟩ := h
  obtain _ | _ := h
  obtain ⟨w0, rfl, ok_aW, wf_aW⟩ := inv72 h0
  obtain ⟨⟨aW_set_room, aW_set_version, aW_set_stride, aW_set_roll⟩, ⟨aW_disk_nodes, aW_disk_entries, aW_disk_old, aW_disk_steps, aW_disk_room, aW_disk_next⟩, ⟨aW_writer_version, aW_writer_stride, aW_writer_roll, aW_writer_base, aW_writer_link, aW_writer_offsets, aW_writer_end, aW_writer_open, aW_writer_code⟩, aW_told, aW_sure, aW_falls⟩ := w0
  have e : argAVs Try.prog [72] [(eWorld ⟨⟨aW_set_room, aW_set_version, aW_set_stride, aW_set_roll⟩, ⟨aW_disk_nodes, aW_disk_entries, aW_disk_old, aW_disk_steps, aW_disk_room, aW_disk_next⟩, ⟨aW_writer_version, aW_writer_stride, aW_writer_roll, aW_writer_base, aW_writer_link, aW_writer_offsets, aW_writer_end, aW_writer_open, aW_writer_code⟩, aW_told, aW_sure, aW_falls⟩)] = [.agg [.d (.sc (.int .i64 aW_set_room)), .d (.sc (.int .i64 aW_set_version)), .d (.sc (.int .i64 aW_set_stride)), .d (.sc (.int .i64 aW_set_roll)), .d (.row 3 (aW_disk_nodes.map eNode)), .d (.row 2 (aW_disk_entries.map eEntry)), .d (.row 2 (aW_disk_old.map eEntry)), .d (.row 1 (aW_disk_steps.map cS)), .d (.sc (.int .i64 aW_disk_room)), .d (.sc (.int .i64 aW_disk_next)), .d (.sc (.int .i64 aW_writer_version)), .d (.sc (.int .i64 aW_writer_stride)), .d (.sc (.int .i64 aW_writer_roll)), .d (.sc (.int .i64 aW_writer_base)), .d (.sc (.int .i64 aW_writer_link)), .d (.row 1 (aW_writer_offsets.map cI)), .d (.sc (.int .i64 aW_writer_end)), .d (.sc (.bool aW_writer_open)), .d (.sc (.int .i64 aW_writer_code)), .d (.row 1 (aW_told.map cS)), .d (.sc (.int .i64 aW_sure)), .d (.sc (.int .i64 aW_falls))]] := by
    simp only [argAVs, argAV, Try.underlying72]
    try rfl
  show CallOk Try.prog 9 (argAVs Try.prog [72] _) [] _
  rw [e]
  exact T9 rfl rfl rfl rfl rfl rfl ok_aW wf_aW
end Go.Proofs.Ytamdgfklbjoaiaa.Ab
namespace Go.Proofs.Ytamdgfklbjoaiaa.fnExactSureRow
open Go.ChangeShapes Go.WideShapes Go.ChangeAt Go.RowKit
open Go.Proofs.Ytamdgfklbjoaiaa.Ab
theorem own : ownKnob Try.prog.godebug = none := by kernel_rfl
theorem laidOut : laidOutB Try.prog = true := by kernel_rfl
set_option maxRecDepth 100000 in
theorem lifted (os : Os) (started : os.Started) (H : Type) (enc : TypeId × Value → H) :
    ReturnsInHanded {} Try.checked os 9 .any (Rows.fnExactSureRowSpec.pre6 enc Try.prog Try.f9 Rows.fnExactSureRowRow.domain false) (Rows.fnExactSureRowSpec.post enc Try.prog Try.f9 false true false false) := by
  refine returnsInHanded_of_change_sized (C := Try.checked) own started (by kernel_rfl) Try.func9
    (ChangeSpec.witness6 (enc := enc) (C := Try.checked) false ⟨#[], #[.agg #[.int .i64 0, .int .i64 0, .int .i64 0, .int .i64 0, .slice none 0 0, .slice none 0 0, .slice none 0 0, .slice none 0 0, .int .i64 0, .int .i64 0, .int .i64 0, .int .i64 0, .int .i64 0, .int .i64 0, .int .i64 0, .slice none 0 0, .int .i64 0, .bool false, .int .i64 0, .slice none 0 0, .int .i64 0, .int .i64 0]], []⟩ 8 (by kernel_rfl) (by kernel_rfl) (by kernel_rfl) (by kernel_rfl)) ?_
  intro W base args ds gs before hval0 hW hcnd hsz0 _
  have hsz : (DataW.weightsEach Try.prog (Try.f9.params.toList ++ []) (ds ++ gs)).all (· ≤ reachBytes) = true := hsz0
  have hval : ∀ (j : Nat) t v, Try.f9.params[j]? = some t → args[j]? = some v → Value.okWide Try.prog W .any base t v := hval0
  have hW' := hW
  obtain ⟨p, q, hA0, hV, rfl, hfz, hnd⟩ := hW
  have hA : DataW.TrodAll enc Try.prog W 0 (fun _ => true) true Try.f9.params.toList args.toList ds p := hA0
  obtain ⟨rfl, rfl⟩ := trodVars_none hV
  have hw : ∀ m ∈ DataW.weightsEach Try.prog Try.f9.params.toList ds, m ≤ reachBytes := by
    intro m hm
    have := List.all_eq_true.1 hsz m (by simpa using hm)
    simpa using this
  have run := row_calls (g := 9) (ts := Try.f9.params.toList) (by kernel_rfl) callSureRow (fun j t v h1 h2 => hval j t v (by simpa using h1) (by simpa using h2)) hA hw
  rw [Try.params9] at hA
  obtain ⟨v0, vs0, d0, ds0, p0, q0, h0l, rfl, rfl, k0, r0⟩ := trodAll_cons hA
  have lt0 : ∀ x ∈ p0, x.block < W.heap.size := by obtain ⟨m, hm⟩ := k0; exact DataW.trod_lt m _ _ _ hm
  obtain ⟨rfl, rfl, rfl⟩ := trodAll_nil r0
  obtain rfl : args = #[v0] := by cases args; simp_all
  refine run.mono fun e W' ⟨he, bel⟩ => ?_
  subst he
  exact ⟨_, rfl, _, _, _, [], _, [], hW', trodAll_mk1 (shut_bool Try.underlying4 _), (trodAll_cons_mk (Below.trod laidOut (by kernel_rfl) (of_decide_eq_true (by kernel_rfl)) k0 bel lt0) trodAll_mk0), rfl, bel.frame _, fun h => by cases h⟩
theorem over : Rows.fnExactSureRowRow.holds Try.pinned (OpenSpec.ofChange Rows.fnExactSureRowSpec) :=
  OpenClaim.holds_of_wide 9 Try.f9 rfl rfl rfl rfl rfl rfl rfl ⟨rfl, rfl, rfl, rfl, rfl⟩ rfl rfl rfl rfl rfl (by kernel_rfl) Try.func9 (by kernel_rfl)
    (of_decide_eq_true (by kernel_rfl)) (by unfold Func.isWrapper; first | (rw [if_pos (by decide +kernel)]; kernel_rfl) | (rw [if_neg (by decide +kernel)]; exact ⟨rfl, rfl⟩))
    (fun os started H enc _ => lifted os started H enc)
theorem proved : Rows.FnExactSureRowSaid := over
#print axioms proved
end Go.Proofs.Ytamdgfklbjoaiaa.fnExactSureRow
namespace Go.Proofs.Ytamdgfklbjoaiaa
/-- The row, under a short name, for the claim. -/
theorem fnExactSureRow_holds : Rows.FnExactSureRowSaid := fnExactSureRow.proved
end Go.Proofs.Ytamdgfklbjoaiaa

