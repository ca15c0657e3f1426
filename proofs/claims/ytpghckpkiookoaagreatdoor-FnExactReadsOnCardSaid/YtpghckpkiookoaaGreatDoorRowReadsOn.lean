/- For all arguments, the law FnExactReadsOn answers true, the listed package-level variables holding what the program's text lays: the tied card of the given statement FnExactReadsOnCardSaid. Conditions: none beyond the given statement. -/
import Derived.Test.YtpghckpkiookoaaGreatDoorRows
import Derived.Test.YtpghckpkiookoaaGreatDoorCards
import Derived.Test.YtpghckpkiookoaaGreatDoorTie
import Derived.Test.YtpghckpkiookoaaGreatDoorlReadsOn
import Derived.KernelRfl
import Derived.ProofKit
import Derived.LaidMore
import Derived.LaidLaws
import Derived.MakeChecks
import Derived.SevenTiedAt
import Derived.Lib.LaidTab
set_option linter.unusedVariables false
set_option linter.unusedSimpArgs false
namespace Go.Proofs.YtpghckpkiookoaaGreatDoor.Ab
open Go Go.Proofs
theorem inv90 {xs : List D} (h : ShD Tryz.prog 90 xs) : ∃ w : TNode, xs = eNode w ∧ okNode w ∧ wfNode w := by
  replace h := h.inv_st Tryz.underlying90
  obtain _ | ⟨h0, h⟩ := h
  obtain _ | ⟨h1, h⟩ := h
  obtain _ | ⟨h2, h⟩ := h
  obtain _ | _ := h
  obtain ⟨v0, rfl, w0⟩ := h0.inv_int Tryz.underlying3
  obtain ⟨v1, rfl, k1⟩ := h1.inv_str Tryz.underlying9
  obtain ⟨v2, rfl, w2⟩ := h2.inv_int Tryz.underlying3
  exact ⟨⟨v0, v1, v2⟩, rfl, Nat.lt_of_le_of_lt k1 reach_lt, ⟨wfI_of w0, wfI_of w2⟩⟩
theorem inv22 {xs : List D} (h : ShD Tryz.prog 22 xs) : ∃ a : List TNode, xs = [.row 3 (a.map eNode)] ∧ okNodeS a ∧ wfNodeS a := by
  obtain ⟨ys, rfl, hl, hx⟩ := h.inv_sl Tryz.underlying22
  obtain ⟨zs, rfl, hl', hp⟩ := rows_of (c := eNode) (p := fun x : TNode => (okNode x) ∧ (wfNode x)) (ys := ys) (fun x hxm => by
    obtain ⟨w, rfl, hs, hs2⟩ := inv90 (hx x hxm)
    exact ⟨w, rfl, hs, hs2⟩)
  have := reach_lt
  rw [show Tryz.prog.bytesOf 90 = 32 by kernel_rfl] at hl
  rw [List.length_map] at hl
  exact ⟨zs, by rw [show Tryz.prog.cellsOf 90 = 3 by kernel_rfl], ⟨by omega, fun x hx => (hp x hx).1⟩, fun x hx => (hp x hx).2⟩
theorem inv93 {xs : List D} (h : ShD Tryz.prog 93 xs) : ∃ w : TEntry, xs = eEntry w ∧ okEntry w ∧ wfEntry w := by
  replace h := h.inv_st Tryz.underlying93
  obtain _ | ⟨h0, h⟩ := h
  obtain _ | ⟨h1, h⟩ := h
  obtain _ | _ := h
  obtain ⟨v0, rfl, k0⟩ := h0.inv_str Tryz.underlying9
  obtain ⟨v1, rfl, w1⟩ := h1.inv_int Tryz.underlying3
  exact ⟨⟨v0, v1⟩, rfl, Nat.lt_of_le_of_lt k0 reach_lt, wfI_of w1⟩
theorem inv23 {xs : List D} (h : ShD Tryz.prog 23 xs) : ∃ a : List TEntry, xs = [.row 2 (a.map eEntry)] ∧ okEntryS a ∧ wfEntryS a := by
  obtain ⟨ys, rfl, hl, hx⟩ := h.inv_sl Tryz.underlying23
  obtain ⟨zs, rfl, hl', hp⟩ := rows_of (c := eEntry) (p := fun x : TEntry => (okEntry x) ∧ (wfEntry x)) (ys := ys) (fun x hxm => by
    obtain ⟨w, rfl, hs, hs2⟩ := inv93 (hx x hxm)
    exact ⟨w, rfl, hs, hs2⟩)
  have := reach_lt
  rw [show Tryz.prog.bytesOf 93 = 24 by kernel_rfl] at hl
  rw [List.length_map] at hl
  exact ⟨zs, by rw [show Tryz.prog.cellsOf 93 = 2 by kernel_rfl], ⟨by omega, fun x hx => (hp x hx).1⟩, fun x hx => (hp x hx).2⟩
theorem inv24 {xs : List D} (h : ShD Tryz.prog 24 xs) : ∃ a : List ByteArray, xs = [.row 1 (a.map cS)] ∧ okStringS a ∧ True := by
  obtain ⟨ys, rfl, hl, hx⟩ := h.inv_sl Tryz.underlying24
  obtain ⟨zs, rfl, hl', hp⟩ := rows_of (c := cS) (p := fun x : ByteArray => (x.size < 2 ^ 47) ∧ (True)) (ys := ys) (fun x hxm => by
    obtain ⟨s, rfl, hs⟩ := (hx x hxm).inv_str Tryz.underlying9
    exact ⟨s, rfl, Nat.lt_of_le_of_lt hs reach_lt, trivial⟩)
  have := reach_lt
  rw [show Tryz.prog.bytesOf 9 = 16 by kernel_rfl] at hl
  rw [List.length_map] at hl
  exact ⟨zs, by rw [show Tryz.prog.cellsOf 9 = 1 by kernel_rfl], ⟨by omega, fun x hx => (hp x hx).1⟩, trivial⟩
theorem inv26 {xs : List D} (h : ShD Tryz.prog 26 xs) : ∃ w : TDisk, xs = eDisk w ∧ okDisk w ∧ wfDisk w := by
  replace h := h.inv_st Tryz.underlying26
  obtain _ | ⟨h0, h⟩ := h
  obtain _ | ⟨h1, h⟩ := h
  obtain _ | ⟨h2, h⟩ := h
  obtain _ | ⟨h3, h⟩ := h
  obtain _ | ⟨h4, h⟩ := h
  obtain _ | ⟨h5, h⟩ := h
  obtain _ | _ := h
  obtain ⟨v0, rfl, k0, w0⟩ := inv22 h0
  obtain ⟨v1, rfl, k1, w1⟩ := inv23 h1
  obtain ⟨v2, rfl, k2, w2⟩ := inv23 h2
  obtain ⟨v3, rfl, k3, w3⟩ := inv24 h3
  obtain ⟨v4, rfl, w4⟩ := h4.inv_int Tryz.underlying3
  obtain ⟨v5, rfl, w5⟩ := h5.inv_int Tryz.underlying3
  exact ⟨⟨v0, v1, v2, v3, v4, v5⟩, rfl, ⟨k0, k1, k2, k3⟩, ⟨w0, w1, w2, wfI_of w4, wfI_of w5⟩⟩
theorem callReadsOn : ∀ yss, ShAll Tryz.prog Tryz.f11.params.toList yss → CallOk Tryz.prog 11 (argAVs Tryz.prog Tryz.f11.params.toList yss) [] ⟨.d (.sc (.bool true)), [], []⟩ := by
  rw [Tryz.params11]
  intro yss h
  obtain _ | ⟨h0, h⟩ := h
  obtain _ | _ := h
  obtain ⟨w0, rfl, ok_aD, wf_aD⟩ := inv26 h0
  obtain ⟨aD_nodes, aD_entries, aD_old, aD_steps, aD_room, aD_next⟩ := w0
  have e : argAVs Tryz.prog [26] [(eDisk ⟨aD_nodes, aD_entries, aD_old, aD_steps, aD_room, aD_next⟩)] = [.agg [.d (.row 3 (aD_nodes.map eNode)), .d (.row 2 (aD_entries.map eEntry)), .d (.row 2 (aD_old.map eEntry)), .d (.row 1 (aD_steps.map cS)), .d (.sc (.int .i64 aD_room)), .d (.sc (.int .i64 aD_next))]] := by
    simp only [argAVs, argAV, Tryz.underlying26]
    try rfl
  show CallOk Tryz.prog 11 (argAVs Tryz.prog [26] _) [] _
  rw [e]
  exact T11 rfl rfl rfl rfl ok_aD wf_aD
end Go.Proofs.YtpghckpkiookoaaGreatDoor.Ab
namespace Go.Proofs.YtpghckpkiookoaaGreatDoor.fnExactReadsOn
open Go.ChangeShapes Go.WideShapes Go.ChangeAt Go.RowKit
open Go.Proofs.YtpghckpkiookoaaGreatDoor.Ab
theorem own : ownKnob Tryz.prog.godebug = none := by kernel_rfl
theorem laidOut : laidOutB Tryz.prog = true := by kernel_rfl
theorem door_met (os : Os) (args : Array Value) : laidMetH Tryz.prog Rows.fnExactReadsOnRow.laid ((World.doorLaid Tryz.prog 24 os).forCall (fun _ _ => 0) ⟨#[], args, []⟩).memory :=
  laidMetH_of_parts3 (fuel := 8) (laidMet_of_run' 8 (by kernel_rfl) (by kernel_rfl)) (by kernel_rfl) (by kernel_rfl)
set_option maxRecDepth 100000 in
theorem met {W : World} (h : laidMetH Tryz.prog Rows.fnExactReadsOnRow.laid W) : Globs.ok W fun b => b < W.heap.size := by
  rw [MakeChecks.laidMetH_plain _ _ _ (by kernel_rfl)] at h
  obtain ⟨ps, ⟨g0, t0, cs0, f0, p0, q0, hg0, ht0, hv0, hd0, ⟨g1, t1, cs1, f1, p1, q1, hg1, ht1, hv1, hd1, ⟨g2, t2, cs2, f2, p2, q2, hg2, ht2, hv2, hd2, _, _⟩, _⟩, _⟩, _⟩ := h
  obtain rfl := Option.some.inj (gn2.symm.trans hg0)
  obtain rfl := Option.some.inj ((show (Tryz.prog.globals[2]?).map (·.type) = some 190 by kernel_rfl).symm.trans ht0)
  have c0 := Lib.cells_of_tab (k := .u8) (zs := tabOf2) Tryz.underlying190 Tryz.underlying5 (by kernel_rfl) (by kernel_rfl) (show DataW.trod _ Tryz.prog W 0 _ false f0 190 cs0.toList = some (Lib.tabData .u8 tabOf2, p0) from hd0)
  have s0 : 2 < W.heap.size := by
    unfold World.var? at hv0
    rw [gn2, Option.bind_some] at hv0
    rcases Nat.lt_or_ge 2 W.heap.size with hl | hl
    · exact hl
    · rw [Array.getElem?_eq_none hl] at hv0
      cases hv0
  have m0 : Lib.TabIs Tryz.prog W "math/bits.deBruijn32tab" .u8 tabOf2 := by
    unfold Lib.TabIs
    rw [hv0, ← c0]
  obtain rfl := Option.some.inj (gn3.symm.trans hg1)
  obtain rfl := Option.some.inj ((show (Tryz.prog.globals[3]?).map (·.type) = some 191 by kernel_rfl).symm.trans ht1)
  have c1 := Lib.cells_of_tab (k := .u8) (zs := tabOf3) Tryz.underlying191 Tryz.underlying5 (by kernel_rfl) (by kernel_rfl) (show DataW.trod _ Tryz.prog W 0 _ false f1 191 cs1.toList = some (Lib.tabData .u8 tabOf3, p1) from hd1)
  have s1 : 3 < W.heap.size := by
    unfold World.var? at hv1
    rw [gn3, Option.bind_some] at hv1
    rcases Nat.lt_or_ge 3 W.heap.size with hl | hl
    · exact hl
    · rw [Array.getElem?_eq_none hl] at hv1
      cases hv1
  have m1 : Lib.TabIs Tryz.prog W "math/bits.deBruijn64tab" .u8 tabOf3 := by
    unfold Lib.TabIs
    rw [hv1, ← c1]
  obtain rfl := Option.some.inj (gn0.symm.trans hg2)
  obtain rfl := Option.some.inj ((show (Tryz.prog.globals[0]?).map (·.type) = some 185 by kernel_rfl).symm.trans ht2)
  have c2 := Lib.cells_of_tab (k := .u64) (zs := tabOf0) Tryz.underlying185 Tryz.underlying171 (by kernel_rfl) (by kernel_rfl) (show DataW.trod _ Tryz.prog W 0 _ false f2 185 cs2.toList = some (Lib.tabData .u64 tabOf0, p2) from hd2)
  have s2 : 0 < W.heap.size := by
    unfold World.var? at hv2
    rw [gn0, Option.bind_some] at hv2
    rcases Nat.lt_or_ge 0 W.heap.size with hl | hl
    · exact hl
    · rw [Array.getElem?_eq_none hl] at hv2
      cases hv2
  have m2 : Lib.TabIs Tryz.prog W "internal/strconv.uint64pow10" .u64 tabOf0 := by
    unfold Lib.TabIs
    rw [hv2, ← c2]
  exact (show (2 < W.heap.size ∧ Lib.TabIs Tryz.prog W "math/bits.deBruijn32tab" .u8 tabOf2) ∧ (3 < W.heap.size ∧ Lib.TabIs Tryz.prog W "math/bits.deBruijn64tab" .u8 tabOf3) ∧ (0 < W.heap.size ∧ Lib.TabIs Tryz.prog W "internal/strconv.uint64pow10" .u64 tabOf0) from ⟨⟨s0, m0⟩, ⟨s1, m1⟩, ⟨s2, m2⟩⟩)
set_option maxRecDepth 100000 in
theorem lifted (os : Os) (started : os.Started) (H : Type) (enc : TypeId × Value → H) :
    ReturnsInHanded {} Tryz.checked os 11 .any (fun w args => (Rows.fnExactReadsOnSpec.pre enc Tryz.prog Tryz.f11 [] false w args ∧ laidMetH Tryz.prog Rows.fnExactReadsOnRow.laid w) ∧ sizedMet enc Tryz.prog Tryz.f11 (OpenSpec.ofChange Rows.fnExactReadsOnSpec) false w args)
      (Rows.fnExactReadsOnSpec.post enc Tryz.prog Tryz.f11 false true false false) := by
  refine returnsInHanded_of_change_and (C := Tryz.checked) (X := fun w _ => laidMetH Tryz.prog Rows.fnExactReadsOnRow.laid w) (fun _ _ _ hh h => h.of_heap hh) own started (by kernel_rfl) Tryz.func11
    (ChangeSpec.witness_shaped (enc := enc) (C := Tryz.checked) (os := os) (X := fun w _ => laidMetH Tryz.prog Rows.fnExactReadsOnRow.laid w) false (World.doorLaid Tryz.prog 24 os) #[.agg #[.slice none 0 0, .slice none 0 0, .slice none 0 0, .slice none 0 0, .int .i64 0, .int .i64 0]] 8 rfl (World.shaped_of_RefB (by kernel_rfl) (by kernel_rfl)) (by kernel_rfl) (by kernel_rfl) (by kernel_rfl) (door_met os _)) ?_
  intro W base args ds gs before hval0 hW hcnd hsz0 hL _
  have hsz : (DataW.weightsEach Tryz.prog (Tryz.f11.params.toList ++ []) (ds ++ gs)).all (· ≤ reachBytes) = true := hsz0
  have hval : ∀ (j : Nat) t v, Tryz.f11.params[j]? = some t → args[j]? = some v → Value.okWide Tryz.prog W .any base t v := hval0
  have hW' := hW
  obtain ⟨p, q, hA0, hV, rfl, hfz, hnd⟩ := hW
  have hA : DataW.TrodAll enc Tryz.prog W 0 (fun _ => true) true Tryz.f11.params.toList args.toList ds p := hA0
  obtain ⟨rfl, rfl⟩ := trodVars_none hV
  have hw : ∀ m ∈ DataW.weightsEach Tryz.prog Tryz.f11.params.toList ds, m ≤ reachBytes := by
    intro m hm
    have := List.all_eq_true.1 hsz m (by simpa using hm)
    simpa using this
  have run := row_calls (g := 9) (ts := Tryz.f11.params.toList) (by kernel_rfl) callReadsOn (fun j t v h1 h2 => hval j t v (by simpa using h1) (by simpa using h2)) hA hw (met hL)
  rw [Tryz.params11] at hA
  obtain ⟨v0, vs0, d0, ds0, p0, q0, h0l, rfl, rfl, k0, r0⟩ := trodAll_cons hA
  have lt0 : ∀ x ∈ p0, x.block < W.heap.size := by obtain ⟨m, hm⟩ := k0; exact DataW.trod_lt m _ _ _ hm
  obtain ⟨rfl, rfl, rfl⟩ := trodAll_nil r0
  obtain rfl : args = #[v0] := by cases args; simp_all
  refine run.mono fun e W' ⟨he, bel⟩ => ?_
  subst he
  exact ⟨_, rfl, _, _, _, [], _, [], hW', trodAll_mk1 (shut_bool Tryz.underlying4 _), (trodAll_cons_mk (Below.trod laidOut (by kernel_rfl) (of_decide_eq_true (by kernel_rfl)) k0 bel lt0) trodAll_mk0), rfl, bel.frame _, fun h => by cases h⟩
theorem over : Rows.fnExactReadsOnRow.holds Tryz.pinned (OpenSpec.ofChange Rows.fnExactReadsOnSpec) :=
  OpenClaim.holds_of_wide 11 Tryz.f11 rfl rfl rfl rfl rfl rfl rfl ⟨rfl, rfl, rfl, rfl, rfl⟩ rfl rfl rfl rfl rfl (by kernel_rfl) Tryz.func11 (by kernel_rfl)
    (of_decide_eq_true (by kernel_rfl)) (by unfold Func.isWrapper; first | (rw [if_pos (by decide +kernel)]; kernel_rfl) | (rw [if_neg (by decide +kernel)]; exact ⟨rfl, rfl⟩))
    (fun os started H enc _ => lifted os started H enc)
theorem proved : Rows.FnExactReadsOnCardSaid :=
  Claim7.holds_tied_plain_at .later [] [.data, .data, .data] true (true, "2dcce5df7bc3e028ad787f402ff258033608027cb6de3b62e89616a21f2c90d7") false
    over (fun _ h => by cases h) (by kernel_rfl) (fun _ h => by cases h) fnExactReadsOn_row_tie rfl ⟨rfl, rfl⟩ (by kernel_rfl) rfl
    (fun f fn hf hfn => by
      obtain rfl : f = 11 := Option.some.inj ((show Tryz.prog.funcNamed "loop.example/g00971/laws.FnExactReadsOn" = some 11 by kernel_rfl).symm.trans hf) |>.symm
      obtain rfl : fn = Tryz.f11 := (Option.some.inj (Tryz.func11.symm.trans hfn)).symm
      exact ⟨by kernel_rfl, fun j t ht => by
        rw [Tryz.params11] at ht
        have hm : t ∈ [26] := by simpa using Array.mem_of_getElem? ht
        have hall : ([26].all fun u => !Tryz.prog.wantsStandIn u) = true := by kernel_rfl
        exact (show Tryz.prog.wantsStandIn t = false by simpa using List.all_eq_true.1 hall t hm)⟩)
    (by kernel_rfl)
#print axioms proved
end Go.Proofs.YtpghckpkiookoaaGreatDoor.fnExactReadsOn
namespace Go.Proofs.YtpghckpkiookoaaGreatDoor
theorem fnExactReadsOn_holds : Rows.FnExactReadsOnCardSaid := fnExactReadsOn.proved
end Go.Proofs.YtpghckpkiookoaaGreatDoor
