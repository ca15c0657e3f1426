/- For all arguments, the law FnExactPlanLines answers true, the listed package-level variables holding what the program's text lays: the tied card of the given statement FnExactPlanLinesCardSaid. Conditions: none beyond the given statement. -/
import Derived.Test.YtmhinjjgpabkfaaGreatDoorRows
import Derived.Test.YtmhinjjgpabkfaaGreatDoorCards
import Derived.Test.YtmhinjjgpabkfaaGreatDoorTie
import Derived.Test.YtmhinjjgpabkfaaGreatDoorlPlanLines
import Derived.KernelRfl
import Derived.ProofKit
import Derived.LaidMore
import Derived.LaidLaws
import Derived.MakeChecks
import Derived.SevenTiedAt
import Derived.Lib.LaidTab
set_option linter.unusedVariables false
set_option linter.unusedSimpArgs false
namespace Go.Proofs.YtmhinjjgpabkfaaGreatDoor.Ab
open Go Go.Proofs
theorem trod_iface0 {H : Type} {enc : TypeId × Value → H} {P : Program} {W : World} {base : Nat} {sp : Nat → Bool} {fuel t : Nat} {ms : Array (String × TypeId)} {cs : List Value} {n : String} {d : DataW H} {p : List MemPlace} (ht : P.underlying t = some (.interface ms)) (h : DataW.trod enc P W base sp false fuel t cs = some (.iface n d, p)) : ∃ u v, cs = [.iface u v] := by
  cases fuel with
  | zero => cases h
  | succ k =>
    unfold DataW.trod at h
    rw [ht] at h
    match cs, h with
    | [.iface u v], _ => exact ⟨u, v, rfl⟩
    | [.nilIface], h => cases h
theorem iface_met {P : Program} {W : World} {g : Nat} {nm : String} {cs : Array Value} (hg : P.globalNamed nm = some g) (hv : W.var? P nm = some cs) (h : ∃ u v, cs.toList = [.iface u v]) : g < W.heap.size ∧ IfaceIs W g := by
  unfold World.var? at hv
  rw [hg, Option.bind_some] at hv
  obtain ⟨u, v, e⟩ := h
  have e2 : cs[0]? = some (.iface u v) := by rw [← Array.getElem?_toList, e]; rfl
  split at hv
  · rename_i cs' t fr hh
    obtain rfl := Option.some.inj hv
    refine ⟨?_, .iface u v, ?_, .inr ⟨u, v, rfl⟩⟩
    · exact (Array.getElem?_eq_some_iff.1 hh).1
    · unfold World.cell?
      simp only [hh]
      simpa using e2
  · cases hv
theorem inv137 {xs : List D} (h : ShD Tryz.prog 137 xs) : ∃ w : TNode, xs = eNode w ∧ okNode w ∧ wfNode w := by
  replace h := h.inv_st Tryz.underlying137
  obtain _ | ⟨h0, h⟩ := h
  obtain _ | ⟨h1, h⟩ := h
  obtain _ | ⟨h2, h⟩ := h
  obtain _ | _ := h
  obtain ⟨v0, rfl, w0⟩ := h0.inv_int Tryz.underlying3
  obtain ⟨v1, rfl, k1⟩ := h1.inv_str Tryz.underlying9
  obtain ⟨v2, rfl, w2⟩ := h2.inv_int Tryz.underlying3
  exact ⟨⟨v0, v1, v2⟩, rfl, Nat.lt_of_le_of_lt k1 reach_lt, ⟨wfI_of w0, wfI_of w2⟩⟩
theorem inv39 {xs : List D} (h : ShD Tryz.prog 39 xs) : ∃ a : List TNode, xs = [.row 3 (a.map eNode)] ∧ okNodeS a ∧ wfNodeS a := by
  obtain ⟨ys, rfl, hl, hx⟩ := h.inv_sl Tryz.underlying39
  obtain ⟨zs, rfl, hl', hp⟩ := rows_of (c := eNode) (p := fun x : TNode => (okNode x) ∧ (wfNode x)) (ys := ys) (fun x hxm => by
    obtain ⟨w, rfl, hs, hs2⟩ := inv137 (hx x hxm)
    exact ⟨w, rfl, hs, hs2⟩)
  have := reach_lt
  rw [show Tryz.prog.bytesOf 137 = 32 by kernel_rfl] at hl
  rw [List.length_map] at hl
  exact ⟨zs, by rw [show Tryz.prog.cellsOf 137 = 3 by kernel_rfl], ⟨by omega, fun x hx => (hp x hx).1⟩, fun x hx => (hp x hx).2⟩
theorem inv140 {xs : List D} (h : ShD Tryz.prog 140 xs) : ∃ w : TEntry, xs = eEntry w ∧ okEntry w ∧ wfEntry w := by
  replace h := h.inv_st Tryz.underlying140
  obtain _ | ⟨h0, h⟩ := h
  obtain _ | ⟨h1, h⟩ := h
  obtain _ | _ := h
  obtain ⟨v0, rfl, k0⟩ := h0.inv_str Tryz.underlying9
  obtain ⟨v1, rfl, w1⟩ := h1.inv_int Tryz.underlying3
  exact ⟨⟨v0, v1⟩, rfl, Nat.lt_of_le_of_lt k0 reach_lt, wfI_of w1⟩
theorem inv40 {xs : List D} (h : ShD Tryz.prog 40 xs) : ∃ a : List TEntry, xs = [.row 2 (a.map eEntry)] ∧ okEntryS a ∧ wfEntryS a := by
  obtain ⟨ys, rfl, hl, hx⟩ := h.inv_sl Tryz.underlying40
  obtain ⟨zs, rfl, hl', hp⟩ := rows_of (c := eEntry) (p := fun x : TEntry => (okEntry x) ∧ (wfEntry x)) (ys := ys) (fun x hxm => by
    obtain ⟨w, rfl, hs, hs2⟩ := inv140 (hx x hxm)
    exact ⟨w, rfl, hs, hs2⟩)
  have := reach_lt
  rw [show Tryz.prog.bytesOf 140 = 24 by kernel_rfl] at hl
  rw [List.length_map] at hl
  exact ⟨zs, by rw [show Tryz.prog.cellsOf 140 = 2 by kernel_rfl], ⟨by omega, fun x hx => (hp x hx).1⟩, fun x hx => (hp x hx).2⟩
theorem inv41 {xs : List D} (h : ShD Tryz.prog 41 xs) : ∃ a : List ByteArray, xs = [.row 1 (a.map cS)] ∧ okStringS a ∧ True := by
  obtain ⟨ys, rfl, hl, hx⟩ := h.inv_sl Tryz.underlying41
  obtain ⟨zs, rfl, hl', hp⟩ := rows_of (c := cS) (p := fun x : ByteArray => (x.size < 2 ^ 47) ∧ (True)) (ys := ys) (fun x hxm => by
    obtain ⟨s, rfl, hs⟩ := (hx x hxm).inv_str Tryz.underlying9
    exact ⟨s, rfl, Nat.lt_of_le_of_lt hs reach_lt, trivial⟩)
  have := reach_lt
  rw [show Tryz.prog.bytesOf 9 = 16 by kernel_rfl] at hl
  rw [List.length_map] at hl
  exact ⟨zs, by rw [show Tryz.prog.cellsOf 9 = 1 by kernel_rfl], ⟨by omega, fun x hx => (hp x hx).1⟩, trivial⟩
theorem inv43 {xs : List D} (h : ShD Tryz.prog 43 xs) : ∃ w : TDisk, xs = eDisk w ∧ okDisk w ∧ wfDisk w := by
  replace h := h.inv_st Tryz.underlying43
  obtain _ | ⟨h0, h⟩ := h
  obtain _ | ⟨h1, h⟩ := h
  obtain _ | ⟨h2, h⟩ := h
  obtain _ | ⟨h3, h⟩ := h
  obtain _ | ⟨h4, h⟩ := h
  obtain _ | ⟨h5, h⟩ := h
  obtain _ | _ := h
  obtain ⟨v0, rfl, k0, w0⟩ := inv39 h0
  obtain ⟨v1, rfl, k1, w1⟩ := inv40 h1
  obtain ⟨v2, rfl, k2, w2⟩ := inv40 h2
  obtain ⟨v3, rfl, k3, w3⟩ := inv41 h3
  obtain ⟨v4, rfl, w4⟩ := h4.inv_int Tryz.underlying3
  obtain ⟨v5, rfl, w5⟩ := h5.inv_int Tryz.underlying3
  exact ⟨⟨v0, v1, v2, v3, v4, v5⟩, rfl, ⟨k0, k1, k2, k3⟩, ⟨w0, w1, w2, wfI_of w4, wfI_of w5⟩⟩
theorem callPlanLines : ∀ yss, ShAll Tryz.prog Tryz.f6.params.toList yss → CallOk Tryz.prog 6 (argAVs Tryz.prog Tryz.f6.params.toList yss) [] ⟨.d (.sc (.bool true)), [], []⟩ := by
  rw [Tryz.params6]
  intro yss h
  obtain _ | ⟨h0, h⟩ := h
  obtain _ | ⟨h1, h⟩ := h
  obtain _ | _ := h
  obtain ⟨w0, rfl, ok_aD, wf_aD⟩ := inv43 h0
  obtain ⟨aD_nodes, aD_entries, aD_old, aD_steps, aD_room, aD_next⟩ := w0
  obtain ⟨aVersion, rfl, wf_aVersion'⟩ := h1.inv_int Tryz.underlying3
  have wf_aVersion := wfI_of wf_aVersion'
  have e : argAVs Tryz.prog [43, 3] [(eDisk ⟨aD_nodes, aD_entries, aD_old, aD_steps, aD_room, aD_next⟩), [.sc (.int .i64 aVersion)]] = [.agg [.d (.row 3 (aD_nodes.map eNode)), .d (.row 2 (aD_entries.map eEntry)), .d (.row 2 (aD_old.map eEntry)), .d (.row 1 (aD_steps.map cS)), .d (.sc (.int .i64 aD_room)), .d (.sc (.int .i64 aD_next))], .d (.sc (.int .i64 aVersion))] := by
    simp only [argAVs, argAV, Tryz.underlying3, Tryz.underlying43]
    try rfl
  show CallOk Tryz.prog 6 (argAVs Tryz.prog [43, 3] _) [] _
  rw [e]
  exact T6 rfl rfl rfl rfl ok_aD wf_aD wf_aVersion
end Go.Proofs.YtmhinjjgpabkfaaGreatDoor.Ab
namespace Go.Proofs.YtmhinjjgpabkfaaGreatDoor.fnExactPlanLines
open Go.ChangeShapes Go.WideShapes Go.ChangeAt Go.RowKit
open Go.Proofs.YtmhinjjgpabkfaaGreatDoor.Ab
theorem own : ownKnob Tryz.prog.godebug = none := by kernel_rfl
theorem laidOut : laidOutB Tryz.prog = true := by kernel_rfl
theorem door_met (os : Os) (args : Array Value) : laidMetH Tryz.prog Rows.fnExactPlanLinesRow.laid ((World.doorLaid Tryz.prog 86 os).forCall (fun _ _ => 0) ⟨#[], args, []⟩).memory :=
  laidMetH_of_parts3 (fuel := 8) (laidMet_of_run' 8 (by kernel_rfl) (by kernel_rfl)) (by kernel_rfl) (by kernel_rfl)
set_option maxRecDepth 100000 in
theorem met {W : World} (h : laidMetH Tryz.prog Rows.fnExactPlanLinesRow.laid W) : Globs.ok W fun b => b < W.heap.size := by
  rw [MakeChecks.laidMetH_plain _ _ _ (by kernel_rfl)] at h
  obtain ⟨ps, ⟨g0, t0, cs0, f0, p0, q0, hg0, ht0, hv0, hd0, ⟨g1, t1, cs1, f1, p1, q1, hg1, ht1, hv1, hd1, ⟨g2, t2, cs2, f2, p2, q2, hg2, ht2, hv2, hd2, ⟨g3, t3, cs3, f3, p3, q3, hg3, ht3, hv3, hd3, ⟨g4, t4, cs4, f4, p4, q4, hg4, ht4, hv4, hd4, _, _⟩, _⟩, _⟩, _⟩, _⟩, _⟩ := h
  obtain rfl := Option.some.inj (gn6.symm.trans hg0)
  obtain rfl := Option.some.inj ((show (Tryz.prog.globals[6]?).map (·.type) = some 267 by kernel_rfl).symm.trans ht0)
  have c0 := Lib.cells_of_tab (k := .u8) (zs := tabOf6) Tryz.underlying267 Tryz.underlying5 (by kernel_rfl) (by kernel_rfl) (show DataW.trod _ Tryz.prog W 0 _ false f0 267 cs0.toList = some (Lib.tabData .u8 tabOf6, p0) from hd0)
  have s0 : 6 < W.heap.size := by
    unfold World.var? at hv0
    rw [gn6, Option.bind_some] at hv0
    rcases Nat.lt_or_ge 6 W.heap.size with hl | hl
    · exact hl
    · rw [Array.getElem?_eq_none hl] at hv0
      cases hv0
  have m0 : Lib.TabIs Tryz.prog W "math/bits.deBruijn32tab" .u8 tabOf6 := by
    unfold Lib.TabIs
    rw [hv0, ← c0]
  obtain rfl := Option.some.inj (gn7.symm.trans hg1)
  obtain rfl := Option.some.inj ((show (Tryz.prog.globals[7]?).map (·.type) = some 268 by kernel_rfl).symm.trans ht1)
  have c1 := Lib.cells_of_tab (k := .u8) (zs := tabOf7) Tryz.underlying268 Tryz.underlying5 (by kernel_rfl) (by kernel_rfl) (show DataW.trod _ Tryz.prog W 0 _ false f1 268 cs1.toList = some (Lib.tabData .u8 tabOf7, p1) from hd1)
  have s1 : 7 < W.heap.size := by
    unfold World.var? at hv1
    rw [gn7, Option.bind_some] at hv1
    rcases Nat.lt_or_ge 7 W.heap.size with hl | hl
    · exact hl
    · rw [Array.getElem?_eq_none hl] at hv1
      cases hv1
  have m1 : Lib.TabIs Tryz.prog W "math/bits.deBruijn64tab" .u8 tabOf7 := by
    unfold Lib.TabIs
    rw [hv1, ← c1]
  obtain rfl := Option.some.inj (gn5.symm.trans hg2)
  obtain rfl := Option.some.inj ((show (Tryz.prog.globals[5]?).map (·.type) = some 260 by kernel_rfl).symm.trans ht2)
  have c2 := Lib.cells_of_tab (k := .u64) (zs := tabOf5) Tryz.underlying260 Tryz.underlying183 (by kernel_rfl) (by kernel_rfl) (show DataW.trod _ Tryz.prog W 0 _ false f2 260 cs2.toList = some (Lib.tabData .u64 tabOf5, p2) from hd2)
  have s2 : 5 < W.heap.size := by
    unfold World.var? at hv2
    rw [gn5, Option.bind_some] at hv2
    rcases Nat.lt_or_ge 5 W.heap.size with hl | hl
    · exact hl
    · rw [Array.getElem?_eq_none hl] at hv2
      cases hv2
  have m2 : Lib.TabIs Tryz.prog W "internal/strconv.uint64pow10" .u64 tabOf5 := by
    unfold Lib.TabIs
    rw [hv2, ← c2]
  obtain rfl := Option.some.inj ((show Tryz.prog.globalNamed "strconv.ErrRange" = some 4 by kernel_rfl).symm.trans hg3)
  obtain rfl := Option.some.inj ((show (Tryz.prog.globals[4]?).map (·.type) = some 128 by kernel_rfl).symm.trans ht3)
  have c3 := trod_iface0 Tryz.underlying128 (show DataW.trod _ Tryz.prog W 0 _ false f3 128 cs3.toList = some (.iface _ _, p3) from hd3)
  have m3 : 4 < W.heap.size ∧ IfaceIs W 4 := iface_met (show Tryz.prog.globalNamed "strconv.ErrRange" = some 4 by kernel_rfl) hv3 c3
  obtain rfl := Option.some.inj ((show Tryz.prog.globalNamed "strconv.ErrSyntax" = some 3 by kernel_rfl).symm.trans hg4)
  obtain rfl := Option.some.inj ((show (Tryz.prog.globals[3]?).map (·.type) = some 128 by kernel_rfl).symm.trans ht4)
  have c4 := trod_iface0 Tryz.underlying128 (show DataW.trod _ Tryz.prog W 0 _ false f4 128 cs4.toList = some (.iface _ _, p4) from hd4)
  have m4 : 3 < W.heap.size ∧ IfaceIs W 3 := iface_met (show Tryz.prog.globalNamed "strconv.ErrSyntax" = some 3 by kernel_rfl) hv4 c4
  exact (show (6 < W.heap.size ∧ Lib.TabIs Tryz.prog W "math/bits.deBruijn32tab" .u8 tabOf6) ∧ (7 < W.heap.size ∧ Lib.TabIs Tryz.prog W "math/bits.deBruijn64tab" .u8 tabOf7) ∧ (5 < W.heap.size ∧ Lib.TabIs Tryz.prog W "internal/strconv.uint64pow10" .u64 tabOf5) ∧ (4 < W.heap.size ∧ IfaceIs W 4) ∧ (3 < W.heap.size ∧ IfaceIs W 3) from ⟨⟨s0, m0⟩, ⟨s1, m1⟩, ⟨s2, m2⟩, m3, m4⟩)
set_option maxRecDepth 100000 in
theorem lifted (os : Os) (started : os.Started) (H : Type) (enc : TypeId × Value → H) :
    ReturnsInHanded {} Tryz.checked os 6 .any (fun w args => (Rows.fnExactPlanLinesSpec.pre enc Tryz.prog Tryz.f6 [] false w args ∧ laidMetH Tryz.prog Rows.fnExactPlanLinesRow.laid w) ∧ sizedMet enc Tryz.prog Tryz.f6 (OpenSpec.ofChange Rows.fnExactPlanLinesSpec) false w args)
      (Rows.fnExactPlanLinesSpec.post enc Tryz.prog Tryz.f6 false true false false) := by
  refine returnsInHanded_of_change_and (C := Tryz.checked) (X := fun w _ => laidMetH Tryz.prog Rows.fnExactPlanLinesRow.laid w) (fun _ _ _ hh h => h.of_heap hh) own started (by kernel_rfl) Tryz.func6
    (ChangeSpec.witness_shaped (enc := enc) (C := Tryz.checked) (os := os) (X := fun w _ => laidMetH Tryz.prog Rows.fnExactPlanLinesRow.laid w) false (World.doorLaid Tryz.prog 86 os) #[.agg #[.slice none 0 0, .slice none 0 0, .slice none 0 0, .slice none 0 0, .int .i64 0, .int .i64 0], .int .i64 0] 8 rfl (World.shaped_of_RefB (by kernel_rfl) (by kernel_rfl)) (by kernel_rfl) (by kernel_rfl) (by kernel_rfl) (door_met os _)) ?_
  intro W base args ds gs before hval0 hW hcnd hsz0 hL _
  have hsz : (DataW.weightsEach Tryz.prog (Tryz.f6.params.toList ++ []) (ds ++ gs)).all (· ≤ reachBytes) = true := hsz0
  have hval : ∀ (j : Nat) t v, Tryz.f6.params[j]? = some t → args[j]? = some v → Value.okWide Tryz.prog W .any base t v := hval0
  have hW' := hW
  obtain ⟨p, q, hA0, hV, rfl, hfz, hnd⟩ := hW
  have hA : DataW.TrodAll enc Tryz.prog W 0 (fun _ => true) true Tryz.f6.params.toList args.toList ds p := hA0
  obtain ⟨rfl, rfl⟩ := trodVars_none hV
  have hw : ∀ m ∈ DataW.weightsEach Tryz.prog Tryz.f6.params.toList ds, m ≤ reachBytes := by
    intro m hm
    have := List.all_eq_true.1 hsz m (by simpa using hm)
    simpa using this
  have run := row_calls (g := 9) (ts := Tryz.f6.params.toList) (by kernel_rfl) callPlanLines (fun j t v h1 h2 => hval j t v (by simpa using h1) (by simpa using h2)) hA hw (met hL)
  rw [Tryz.params6] at hA
  obtain ⟨v0, vs0, d0, ds0, p0, q0, h0l, rfl, rfl, k0, r0⟩ := trodAll_cons hA
  have lt0 : ∀ x ∈ p0, x.block < W.heap.size := by obtain ⟨m, hm⟩ := k0; exact DataW.trod_lt m _ _ _ hm
  obtain ⟨v1, vs1, d1, ds1, p1, q1, h1l, rfl, rfl, k1, r1⟩ := trodAll_cons r0
  have lt1 : ∀ x ∈ p1, x.block < W.heap.size := by obtain ⟨m, hm⟩ := k1; exact DataW.trod_lt m _ _ _ hm
  subst h1l
  obtain ⟨rfl, rfl, rfl⟩ := trodAll_nil r1
  obtain rfl : args = #[v0, v1] := by cases args; simp_all
  refine run.mono fun e W' ⟨he, bel⟩ => ?_
  subst he
  exact ⟨_, rfl, _, _, _, [], _, [], hW', trodAll_mk1 (shut_bool Tryz.underlying4 _), (trodAll_cons_mk (Below.trod laidOut (by kernel_rfl) (of_decide_eq_true (by kernel_rfl)) k0 bel lt0) (trodAll_cons_mk (Below.trod laidOut (by kernel_rfl) (of_decide_eq_true (by kernel_rfl)) k1 bel lt1) trodAll_mk0)), rfl, bel.frame _, fun h => by cases h⟩
theorem over : Rows.fnExactPlanLinesRow.holds Tryz.pinned (OpenSpec.ofChange Rows.fnExactPlanLinesSpec) :=
  OpenClaim.holds_of_wide 6 Tryz.f6 rfl rfl rfl rfl rfl rfl rfl ⟨rfl, rfl, rfl, rfl, rfl⟩ rfl rfl rfl rfl rfl (by kernel_rfl) Tryz.func6 (by kernel_rfl)
    (of_decide_eq_true (by kernel_rfl)) (by unfold Func.isWrapper; first | (rw [if_pos (by decide +kernel)]; kernel_rfl) | (rw [if_neg (by decide +kernel)]; exact ⟨rfl, rfl⟩))
    (fun os started H enc _ => lifted os started H enc)
theorem proved : Rows.FnExactPlanLinesCardSaid :=
  Claim7.holds_tied_plain_at .later [] [.data, .data, .data, .sentinel, .sentinel] true (true, "30df1cf96ed7d0b3b1036e51a4c12927ce43977bbc501d7a35fdee88d75bb8cd") true
    over (fun _ h => by cases h) (by kernel_rfl) (fun _ h => by cases h) fnExactPlanLines_row_tie rfl ⟨rfl, rfl⟩ (by kernel_rfl) rfl
    (fun f fn hf hfn => by
      obtain rfl : f = 6 := Option.some.inj ((show Tryz.prog.funcNamed "loop.example/g00971/laws.FnExactPlanLines" = some 6 by kernel_rfl).symm.trans hf) |>.symm
      obtain rfl : fn = Tryz.f6 := (Option.some.inj (Tryz.func6.symm.trans hfn)).symm
      exact ⟨by kernel_rfl, fun j t ht => by
        rw [Tryz.params6] at ht
        have hm : t ∈ [43, 3] := by simpa using Array.mem_of_getElem? ht
        have hall : ([43, 3].all fun u => !Tryz.prog.wantsStandIn u) = true := by kernel_rfl
        exact (show Tryz.prog.wantsStandIn t = false by simpa using List.all_eq_true.1 hall t hm)⟩)
    (by kernel_rfl)
#print axioms proved
end Go.Proofs.YtmhinjjgpabkfaaGreatDoor.fnExactPlanLines
namespace Go.Proofs.YtmhinjjgpabkfaaGreatDoor
theorem fnExactPlanLines_holds : Rows.FnExactPlanLinesCardSaid := fnExactPlanLines.proved
end Go.Proofs.YtmhinjjgpabkfaaGreatDoor
