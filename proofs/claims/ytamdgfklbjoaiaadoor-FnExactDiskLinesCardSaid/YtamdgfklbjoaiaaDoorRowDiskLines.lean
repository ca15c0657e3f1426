/- For all arguments, the law FnExactDiskLines answers true, the listed package-level variables holding what the program's text lays: the tied card of the given statement FnExactDiskLinesCardSaid. Conditions: none beyond the given statement. -/
import Derived.Test.YtamdgfklbjoaiaaDoorRows
import Derived.Test.YtamdgfklbjoaiaaDoorCards
import Derived.Test.YtamdgfklbjoaiaaDoorTie
import Derived.Test.YtamdgfklbjoaiaaDoorlDiskLines
import Derived.KernelRfl
import Derived.ProofKit
import Derived.LaidMore
import Derived.LaidLaws
import Derived.MakeChecks
import Derived.SevenTiedAt
import Derived.Lib.LaidTab
set_option linter.unusedVariables false
set_option linter.unusedSimpArgs false
namespace Go.Proofs.YtamdgfklbjoaiaaDoor.Ab
open Go Go.Proofs
theorem inv99 {xs : List D} (h : ShD Tryd.prog 99 xs) : ∃ w : TNode, xs = eNode w ∧ okNode w ∧ wfNode w := by
  replace h := h.inv_st Tryd.underlying99
  obtain _ | ⟨h0, h⟩ := h
  obtain _ | ⟨h1, h⟩ := h
  obtain _ | ⟨h2, h⟩ := h
  obtain _ | _ := h
  obtain ⟨v0, rfl, w0⟩ := h0.inv_int Tryd.underlying3
  obtain ⟨v1, rfl, k1⟩ := h1.inv_str Tryd.underlying9
  obtain ⟨v2, rfl, w2⟩ := h2.inv_int Tryd.underlying3
  exact ⟨⟨v0, v1, v2⟩, rfl, Nat.lt_of_le_of_lt k1 reach_lt, ⟨wfI_of w0, wfI_of w2⟩⟩
theorem inv44 {xs : List D} (h : ShD Tryd.prog 44 xs) : ∃ a : List TNode, xs = [.row 3 (a.map eNode)] ∧ okNodeS a ∧ wfNodeS a := by
  obtain ⟨ys, rfl, hl, hx⟩ := h.inv_sl Tryd.underlying44
  obtain ⟨zs, rfl, hl', hp⟩ := rows_of (c := eNode) (p := fun x : TNode => (okNode x) ∧ (wfNode x)) (ys := ys) (fun x hxm => by
    obtain ⟨w, rfl, hs, hs2⟩ := inv99 (hx x hxm)
    exact ⟨w, rfl, hs, hs2⟩)
  have := reach_lt
  rw [show Tryd.prog.bytesOf 99 = 32 by kernel_rfl] at hl
  rw [List.length_map] at hl
  exact ⟨zs, by rw [show Tryd.prog.cellsOf 99 = 3 by kernel_rfl], ⟨by omega, fun x hx => (hp x hx).1⟩, fun x hx => (hp x hx).2⟩
theorem inv101 {xs : List D} (h : ShD Tryd.prog 101 xs) : ∃ w : TEntry, xs = eEntry w ∧ okEntry w ∧ wfEntry w := by
  replace h := h.inv_st Tryd.underlying101
  obtain _ | ⟨h0, h⟩ := h
  obtain _ | ⟨h1, h⟩ := h
  obtain _ | _ := h
  obtain ⟨v0, rfl, k0⟩ := h0.inv_str Tryd.underlying9
  obtain ⟨v1, rfl, w1⟩ := h1.inv_int Tryd.underlying3
  exact ⟨⟨v0, v1⟩, rfl, Nat.lt_of_le_of_lt k0 reach_lt, wfI_of w1⟩
theorem inv45 {xs : List D} (h : ShD Tryd.prog 45 xs) : ∃ a : List TEntry, xs = [.row 2 (a.map eEntry)] ∧ okEntryS a ∧ wfEntryS a := by
  obtain ⟨ys, rfl, hl, hx⟩ := h.inv_sl Tryd.underlying45
  obtain ⟨zs, rfl, hl', hp⟩ := rows_of (c := eEntry) (p := fun x : TEntry => (okEntry x) ∧ (wfEntry x)) (ys := ys) (fun x hxm => by
    obtain ⟨w, rfl, hs, hs2⟩ := inv101 (hx x hxm)
    exact ⟨w, rfl, hs, hs2⟩)
  have := reach_lt
  rw [show Tryd.prog.bytesOf 101 = 24 by kernel_rfl] at hl
  rw [List.length_map] at hl
  exact ⟨zs, by rw [show Tryd.prog.cellsOf 101 = 2 by kernel_rfl], ⟨by omega, fun x hx => (hp x hx).1⟩, fun x hx => (hp x hx).2⟩
theorem inv46 {xs : List D} (h : ShD Tryd.prog 46 xs) : ∃ a : List ByteArray, xs = [.row 1 (a.map cS)] ∧ okStringS a ∧ True := by
  obtain ⟨ys, rfl, hl, hx⟩ := h.inv_sl Tryd.underlying46
  obtain ⟨zs, rfl, hl', hp⟩ := rows_of (c := cS) (p := fun x : ByteArray => (x.size < 2 ^ 47) ∧ (True)) (ys := ys) (fun x hxm => by
    obtain ⟨s, rfl, hs⟩ := (hx x hxm).inv_str Tryd.underlying9
    exact ⟨s, rfl, Nat.lt_of_le_of_lt hs reach_lt, trivial⟩)
  have := reach_lt
  rw [show Tryd.prog.bytesOf 9 = 16 by kernel_rfl] at hl
  rw [List.length_map] at hl
  exact ⟨zs, by rw [show Tryd.prog.cellsOf 9 = 1 by kernel_rfl], ⟨by omega, fun x hx => (hp x hx).1⟩, trivial⟩
theorem inv48 {xs : List D} (h : ShD Tryd.prog 48 xs) : ∃ w : TDisk, xs = eDisk w ∧ okDisk w ∧ wfDisk w := by
  replace h := h.inv_st Tryd.underlying48
  obtain _ | ⟨h0, h⟩ := h
  obtain _ | ⟨h1, h⟩ := h
  obtain _ | ⟨h2, h⟩ := h
  obtain _ | ⟨h3, h⟩ := h
  obtain _ | ⟨h4, h⟩ := h
  obtain _ | ⟨h5, h⟩ := h
  obtain _ | _ := h
  obtain ⟨v0, rfl, k0, w0⟩ := inv44 h0
  obtain ⟨v1, rfl, k1, w1⟩ := inv45 h1
  obtain ⟨v2, rfl, k2, w2⟩ := inv45 h2
  obtain ⟨v3, rfl, k3, w3⟩ := inv46 h3
  obtain ⟨v4, rfl, w4⟩ := h4.inv_int Tryd.underlying3
  obtain ⟨v5, rfl, w5⟩ := h5.inv_int Tryd.underlying3
  exact ⟨⟨v0, v1, v2, v3, v4, v5⟩, rfl, ⟨k0, k1, k2, k3⟩, ⟨w0, w1, w2, wfI_of w4, wfI_of w5⟩⟩
theorem callDiskLines : ∀ yss, ShAll Tryd.prog Tryd.f6.params.toList yss → CallOk Tryd.prog 6 (argAVs Tryd.prog Tryd.f6.params.toList yss) [] ⟨.d (.sc (.bool true)), [], []⟩ := by
  rw [Tryd.params6]
  intro yss h
  obtain _ | ⟨h0, h⟩ := h
  obtain _ | _ := h
  obtain ⟨w0, rfl, ok_aD, wf_aD⟩ := inv48 h0
  obtain ⟨aD_nodes, aD_entries, aD_old, aD_steps, aD_room, aD_next⟩ := w0
  have e : argAVs Tryd.prog [48] [(eDisk ⟨aD_nodes, aD_entries, aD_old, aD_steps, aD_room, aD_next⟩)] = [.agg [.d (.row 3 (aD_nodes.map eNode)), .d (.row 2 (aD_entries.map eEntry)), .d (.row 2 (aD_old.map eEntry)), .d (.row 1 (aD_steps.map cS)), .d (.sc (.int .i64 aD_room)), .d (.sc (.int .i64 aD_next))]] := by
    simp only [argAVs, argAV, Tryd.underlying48]
    try rfl
  show CallOk Tryd.prog 6 (argAVs Tryd.prog [48] _) [] _
  rw [e]
  exact T6 rfl rfl rfl rfl ok_aD wf_aD
end Go.Proofs.YtamdgfklbjoaiaaDoor.Ab
namespace Go.Proofs.YtamdgfklbjoaiaaDoor.fnExactDiskLines
open Go.ChangeShapes Go.WideShapes Go.ChangeAt Go.RowKit
open Go.Proofs.YtamdgfklbjoaiaaDoor.Ab
theorem own : ownKnob Tryd.prog.godebug = none := by kernel_rfl
theorem laidOut : laidOutB Tryd.prog = true := by kernel_rfl
theorem door_met (os : Os) (args : Array Value) : laidMetH Tryd.prog Rows.fnExactDiskLinesRow.laid ((World.doorLaid Tryd.prog 24 os).forCall (fun _ _ => 0) ⟨#[], args, []⟩).memory :=
  laidMetH_of_parts3 (fuel := 8) (laidMet_of_run' 8 (by kernel_rfl) (by kernel_rfl)) (by kernel_rfl) (by kernel_rfl)
set_option maxRecDepth 100000 in
theorem met {W : World} (h : laidMetH Tryd.prog Rows.fnExactDiskLinesRow.laid W) : Globs.ok W fun b => b < W.heap.size := by
  rw [MakeChecks.laidMetH_plain _ _ _ (by kernel_rfl)] at h
  obtain ⟨ps, ⟨g0, t0, cs0, f0, p0, q0, hg0, ht0, hv0, hd0, ⟨g1, t1, cs1, f1, p1, q1, hg1, ht1, hv1, hd1, ⟨g2, t2, cs2, f2, p2, q2, hg2, ht2, hv2, hd2, _, _⟩, _⟩, _⟩, _⟩ := h
  obtain rfl := Option.some.inj (gn1.symm.trans hg0)
  obtain rfl := Option.some.inj ((show (Tryd.prog.globals[1]?).map (·.type) = some 128 by kernel_rfl).symm.trans ht0)
  have c0 := Lib.cells_of_tab (k := .u8) (zs := tabOf1) Tryd.underlying128 Tryd.underlying5 (by kernel_rfl) (by kernel_rfl) (show DataW.trod _ Tryd.prog W 0 _ false f0 128 cs0.toList = some (Lib.tabData .u8 tabOf1, p0) from hd0)
  have s0 : 1 < W.heap.size := by
    unfold World.var? at hv0
    rw [gn1, Option.bind_some] at hv0
    rcases Nat.lt_or_ge 1 W.heap.size with hl | hl
    · exact hl
    · rw [Array.getElem?_eq_none hl] at hv0
      cases hv0
  have m0 : Lib.TabIs Tryd.prog W "math/bits.deBruijn32tab" .u8 tabOf1 := by
    unfold Lib.TabIs
    rw [hv0, ← c0]
  obtain rfl := Option.some.inj (gn2.symm.trans hg1)
  obtain rfl := Option.some.inj ((show (Tryd.prog.globals[2]?).map (·.type) = some 129 by kernel_rfl).symm.trans ht1)
  have c1 := Lib.cells_of_tab (k := .u8) (zs := tabOf2) Tryd.underlying129 Tryd.underlying5 (by kernel_rfl) (by kernel_rfl) (show DataW.trod _ Tryd.prog W 0 _ false f1 129 cs1.toList = some (Lib.tabData .u8 tabOf2, p1) from hd1)
  have s1 : 2 < W.heap.size := by
    unfold World.var? at hv1
    rw [gn2, Option.bind_some] at hv1
    rcases Nat.lt_or_ge 2 W.heap.size with hl | hl
    · exact hl
    · rw [Array.getElem?_eq_none hl] at hv1
      cases hv1
  have m1 : Lib.TabIs Tryd.prog W "math/bits.deBruijn64tab" .u8 tabOf2 := by
    unfold Lib.TabIs
    rw [hv1, ← c1]
  obtain rfl := Option.some.inj (gn0.symm.trans hg2)
  obtain rfl := Option.some.inj ((show (Tryd.prog.globals[0]?).map (·.type) = some 123 by kernel_rfl).symm.trans ht2)
  have c2 := Lib.cells_of_tab (k := .u64) (zs := tabOf0) Tryd.underlying123 Tryd.underlying117 (by kernel_rfl) (by kernel_rfl) (show DataW.trod _ Tryd.prog W 0 _ false f2 123 cs2.toList = some (Lib.tabData .u64 tabOf0, p2) from hd2)
  have s2 : 0 < W.heap.size := by
    unfold World.var? at hv2
    rw [gn0, Option.bind_some] at hv2
    rcases Nat.lt_or_ge 0 W.heap.size with hl | hl
    · exact hl
    · rw [Array.getElem?_eq_none hl] at hv2
      cases hv2
  have m2 : Lib.TabIs Tryd.prog W "internal/strconv.uint64pow10" .u64 tabOf0 := by
    unfold Lib.TabIs
    rw [hv2, ← c2]
  exact (show (1 < W.heap.size ∧ Lib.TabIs Tryd.prog W "math/bits.deBruijn32tab" .u8 tabOf1) ∧ (2 < W.heap.size ∧ Lib.TabIs Tryd.prog W "math/bits.deBruijn64tab" .u8 tabOf2) ∧ (0 < W.heap.size ∧ Lib.TabIs Tryd.prog W "internal/strconv.uint64pow10" .u64 tabOf0) from ⟨⟨s0, m0⟩, ⟨s1, m1⟩, ⟨s2, m2⟩⟩)
set_option maxRecDepth 100000 in
theorem lifted (os : Os) (started : os.Started) (H : Type) (enc : TypeId × Value → H) :
    ReturnsInHanded {} Tryd.checked os 6 .any (fun w args => (Rows.fnExactDiskLinesSpec.pre enc Tryd.prog Tryd.f6 [] false w args ∧ laidMetH Tryd.prog Rows.fnExactDiskLinesRow.laid w) ∧ sizedMet enc Tryd.prog Tryd.f6 (OpenSpec.ofChange Rows.fnExactDiskLinesSpec) false w args)
      (Rows.fnExactDiskLinesSpec.post enc Tryd.prog Tryd.f6 false true false false) := by
  refine returnsInHanded_of_change_and (C := Tryd.checked) (X := fun w _ => laidMetH Tryd.prog Rows.fnExactDiskLinesRow.laid w) (fun _ _ _ hh h => h.of_heap hh) own started (by kernel_rfl) Tryd.func6
    (ChangeSpec.witness_shaped (enc := enc) (C := Tryd.checked) (os := os) (X := fun w _ => laidMetH Tryd.prog Rows.fnExactDiskLinesRow.laid w) false (World.doorLaid Tryd.prog 24 os) #[.agg #[.slice none 0 0, .slice none 0 0, .slice none 0 0, .slice none 0 0, .int .i64 0, .int .i64 0]] 8 rfl (World.shaped_of_RefB (by kernel_rfl) (by kernel_rfl)) (by kernel_rfl) (by kernel_rfl) (by kernel_rfl) (door_met os _)) ?_
  intro W base args ds gs before hval0 hW hcnd hsz0 hL _
  have hsz : (DataW.weightsEach Tryd.prog (Tryd.f6.params.toList ++ []) (ds ++ gs)).all (· ≤ reachBytes) = true := hsz0
  have hval : ∀ (j : Nat) t v, Tryd.f6.params[j]? = some t → args[j]? = some v → Value.okWide Tryd.prog W .any base t v := hval0
  have hW' := hW
  obtain ⟨p, q, hA0, hV, rfl, hfz, hnd⟩ := hW
  have hA : DataW.TrodAll enc Tryd.prog W 0 (fun _ => true) true Tryd.f6.params.toList args.toList ds p := hA0
  obtain ⟨rfl, rfl⟩ := trodVars_none hV
  have hw : ∀ m ∈ DataW.weightsEach Tryd.prog Tryd.f6.params.toList ds, m ≤ reachBytes := by
    intro m hm
    have := List.all_eq_true.1 hsz m (by simpa using hm)
    simpa using this
  have run := row_calls (g := 9) (ts := Tryd.f6.params.toList) (by kernel_rfl) callDiskLines (fun j t v h1 h2 => hval j t v (by simpa using h1) (by simpa using h2)) hA hw (met hL)
  rw [Tryd.params6] at hA
  obtain ⟨v0, vs0, d0, ds0, p0, q0, h0l, rfl, rfl, k0, r0⟩ := trodAll_cons hA
  have lt0 : ∀ x ∈ p0, x.block < W.heap.size := by obtain ⟨m, hm⟩ := k0; exact DataW.trod_lt m _ _ _ hm
  obtain ⟨rfl, rfl, rfl⟩ := trodAll_nil r0
  obtain rfl : args = #[v0] := by cases args; simp_all
  refine run.mono fun e W' ⟨he, bel⟩ => ?_
  subst he
  exact ⟨_, rfl, _, _, _, [], _, [], hW', trodAll_mk1 (shut_bool Tryd.underlying4 _), (trodAll_cons_mk (Below.trod laidOut (by kernel_rfl) (of_decide_eq_true (by kernel_rfl)) k0 bel lt0) trodAll_mk0), rfl, bel.frame _, fun h => by cases h⟩
theorem over : Rows.fnExactDiskLinesRow.holds Tryd.pinned (OpenSpec.ofChange Rows.fnExactDiskLinesSpec) :=
  OpenClaim.holds_of_wide 6 Tryd.f6 rfl rfl rfl rfl rfl rfl rfl ⟨rfl, rfl, rfl, rfl, rfl⟩ rfl rfl rfl rfl rfl (by kernel_rfl) Tryd.func6 (by kernel_rfl)
    (of_decide_eq_true (by kernel_rfl)) (by unfold Func.isWrapper; first | (rw [if_pos (by decide +kernel)]; kernel_rfl) | (rw [if_neg (by decide +kernel)]; exact ⟨rfl, rfl⟩))
    (fun os started H enc _ => lifted os started H enc)
theorem proved : Rows.FnExactDiskLinesCardSaid :=
  Claim7.holds_tied_plain_at .later [] [.data, .data, .data] true (true, "5fee6b4eb8cc3298eda730eb776605b43be4fdadc8a7b0c01ad06cad03bab8ab") false
    over (fun _ h => by cases h) (by kernel_rfl) (fun _ h => by cases h) fnExactDiskLines_row_tie rfl ⟨rfl, rfl⟩ (by kernel_rfl) rfl
    (fun f fn hf hfn => by
      obtain rfl : f = 6 := Option.some.inj ((show Tryd.prog.funcNamed "loop.example/g00971/laws.FnExactDiskLines" = some 6 by kernel_rfl).symm.trans hf) |>.symm
      obtain rfl : fn = Tryd.f6 := (Option.some.inj (Tryd.func6.symm.trans hfn)).symm
      exact ⟨by kernel_rfl, fun j t ht => by
        rw [Tryd.params6] at ht
        have hm : t ∈ [48] := by simpa using Array.mem_of_getElem? ht
        have hall : ([48].all fun u => !Tryd.prog.wantsStandIn u) = true := by kernel_rfl
        exact (show Tryd.prog.wantsStandIn t = false by simpa using List.all_eq_true.1 hall t hm)⟩)
    (by kernel_rfl)
#print axioms proved
end Go.Proofs.YtamdgfklbjoaiaaDoor.fnExactDiskLines
namespace Go.Proofs.YtamdgfklbjoaiaaDoor
theorem fnExactDiskLines_holds : Rows.FnExactDiskLinesCardSaid := fnExactDiskLines.proved
end Go.Proofs.YtamdgfklbjoaiaaDoor
