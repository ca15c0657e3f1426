/- For all arguments, the law FnExactActLine answers true, the listed package-level variables holding what the program's text lays: the tied card of the given statement FnExactActLineCardSaid. Conditions: none beyond the given statement. -/
import Derived.Test.YtamdgfklbjoaiaaDoorRows
import Derived.Test.YtamdgfklbjoaiaaDoorCards
import Derived.Test.YtamdgfklbjoaiaaDoorTie
import Derived.Test.YtamdgfklbjoaiaaDoorlActLine
import Derived.KernelRfl
import Derived.ProofKit
import Derived.LaidMore
import Derived.LaidLaws
import Derived.MakeChecks
import Derived.SevenTiedAt
import Derived.Lib.LaidTab
set_option linter.unusedVariables false
set_option linter.unusedSimpArgs false
namespace Go.Proofs.YtamdgfklbjoaiaaDoor.Ab
open Go Go.Proofs
theorem inv35 {xs : List D} (h : ShD Tryd.prog 35 xs) : ∃ a : List Int, xs = [.row 1 (a.map cI)] ∧ okIntS a ∧ wfIntS a := by
  obtain ⟨ys, rfl, hl, hx⟩ := h.inv_sl Tryd.underlying35
  obtain ⟨zs, rfl, hl', hp⟩ := rows_of (c := cI) (p := fun x : Int => (True) ∧ (wfI x)) (ys := ys) (fun x hxm => by
    obtain ⟨n, rfl, hs⟩ := (hx x hxm).inv_int Tryd.underlying3
    exact ⟨n, rfl, trivial, wfI_of hs⟩)
  have := reach_lt
  rw [show Tryd.prog.bytesOf 3 = 8 by kernel_rfl] at hl
  rw [List.length_map] at hl
  exact ⟨zs, by rw [show Tryd.prog.cellsOf 3 = 1 by kernel_rfl], (show zs.length < 2 ^ 44 by omega), fun x hx => (hp x hx).2⟩
theorem inv37 {xs : List D} (h : ShD Tryd.prog 37 xs) : ∃ w : TAct, xs = eAct w ∧ okAct w ∧ wfAct w := by
  replace h := h.inv_st Tryd.underlying37
  obtain _ | ⟨h0, h⟩ := h
  obtain _ | ⟨h1, h⟩ := h
  obtain _ | ⟨h2, h⟩ := h
  obtain _ | ⟨h3, h⟩ := h
  obtain _ | _ := h
  obtain ⟨v0, rfl, w0⟩ := h0.inv_int Tryd.underlying3
  obtain ⟨v1, rfl, k1⟩ := h1.inv_str Tryd.underlying9
  obtain ⟨v2, rfl, w2⟩ := h2.inv_int Tryd.underlying3
  obtain ⟨v3, rfl, k3, w3⟩ := inv35 h3
  exact ⟨⟨v0, v1, v2, v3⟩, rfl, ⟨Nat.lt_of_le_of_lt k1 reach_lt, k3⟩, ⟨wfI_of w0, wfI_of w2, w3⟩⟩
theorem callActLine : ∀ yss, ShAll Tryd.prog Tryd.f5.params.toList yss → CallOk Tryd.prog 5 (argAVs Tryd.prog Tryd.f5.params.toList yss) [] ⟨.d (.sc (.bool true)), [], []⟩ := by
  rw [Tryd.params5]
  intro yss h
  obtain _ | ⟨h0, h⟩ := h
  obtain _ | _ := h
  obtain ⟨w0, rfl, ok_aA, wf_aA⟩ := inv37 h0
  obtain ⟨aA_kind, aA_text, aA_n, aA_keeps⟩ := w0
  have e : argAVs Tryd.prog [37] [(eAct ⟨aA_kind, aA_text, aA_n, aA_keeps⟩)] = [.agg [.d (.sc (.int .i64 aA_kind)), .d (.sc (.string aA_text)), .d (.sc (.int .i64 aA_n)), .d (.row 1 (aA_keeps.map cI))]] := by
    simp only [argAVs, argAV, Tryd.underlying37]
    try rfl
  show CallOk Tryd.prog 5 (argAVs Tryd.prog [37] _) [] _
  rw [e]
  exact T5 rfl ok_aA wf_aA
end Go.Proofs.YtamdgfklbjoaiaaDoor.Ab
namespace Go.Proofs.YtamdgfklbjoaiaaDoor.fnExactActLine
open Go.ChangeShapes Go.WideShapes Go.ChangeAt Go.RowKit
open Go.Proofs.YtamdgfklbjoaiaaDoor.Ab
theorem own : ownKnob Tryd.prog.godebug = none := by kernel_rfl
theorem laidOut : laidOutB Tryd.prog = true := by kernel_rfl
theorem door_met (os : Os) (args : Array Value) : laidMetH Tryd.prog Rows.fnExactActLineRow.laid ((World.doorLaid Tryd.prog 24 os).forCall (fun _ _ => 0) ⟨#[], args, []⟩).memory :=
  laidMetH_of_parts3 (fuel := 8) (laidMet_of_run' 8 (by kernel_rfl) (by kernel_rfl)) (by kernel_rfl) (by kernel_rfl)
set_option maxRecDepth 100000 in
theorem met {W : World} (h : laidMetH Tryd.prog Rows.fnExactActLineRow.laid W) : Globs.ok W fun b => b < W.heap.size := by
  rw [MakeChecks.laidMetH_plain _ _ _ (by kernel_rfl)] at h
  obtain ⟨ps, ⟨g0, t0, cs0, f0, p0, q0, hg0, ht0, hv0, hd0, ⟨g1, t1, cs1, f1, p1, q1, hg1, ht1, hv1, hd1, ⟨g2, t2, cs2, f2, p2, q2, hg2, ht2, hv2, hd2, _, _⟩, _⟩, _⟩, _⟩ := h
  obtain rfl := Option.some.inj (gn1.symm.trans hg0)
  obtain rfl := Option.some.inj ((show (Tryd.prog.globals[1]?).map (·.type) = some 128 by kernel_rfl).symm.trans ht0)
  have c0 := Lib.cells_of_tab (k := .u8) (zs := tabOf1) Tryd.underlying128 Tryd.underlying5 (by kernel_rfl) (by kernel_rfl) (show DataW.trod _ Tryd.prog W 0 _ false f0 128 cs0.toList = some (Lib.tabData .u8 tabOf1, p0) from hd0)
  have s0 : 1 < W.heap.size := by
    unfold World.var? at hv0
    rw [gn1, Option.bind_some] at hv0
    rcases Nat.lt_or_ge 1 W.heap.size with hl | hl
    · exact hl
    · rw [Array.getElem?_eq_none hl] at hv0
      cases hv0
  have m0 : Lib.TabIs Tryd.prog W "math/bits.deBruijn32tab" .u8 tabOf1 := by
    unfold Lib.TabIs
    rw [hv0, ← c0]
  obtain rfl := Option.some.inj (gn2.symm.trans hg1)
  obtain rfl := Option.some.inj ((show (Tryd.prog.globals[2]?).map (·.type) = some 129 by kernel_rfl).symm.trans ht1)
  have c1 := Lib.cells_of_tab (k := .u8) (zs := tabOf2) Tryd.underlying129 Tryd.underlying5 (by kernel_rfl) (by kernel_rfl) (show DataW.trod _ Tryd.prog W 0 _ false f1 129 cs1.toList = some (Lib.tabData .u8 tabOf2, p1) from hd1)
  have s1 : 2 < W.heap.size := by
    unfold World.var? at hv1
    rw [gn2, Option.bind_some] at hv1
    rcases Nat.lt_or_ge 2 W.heap.size with hl | hl
    · exact hl
    · rw [Array.getElem?_eq_none hl] at hv1
      cases hv1
  have m1 : Lib.TabIs Tryd.prog W "math/bits.deBruijn64tab" .u8 tabOf2 := by
    unfold Lib.TabIs
    rw [hv1, ← c1]
  obtain rfl := Option.some.inj (gn0.symm.trans hg2)
  obtain rfl := Option.some.inj ((show (Tryd.prog.globals[0]?).map (·.type) = some 123 by kernel_rfl).symm.trans ht2)
  have c2 := Lib.cells_of_tab (k := .u64) (zs := tabOf0) Tryd.underlying123 Tryd.underlying117 (by kernel_rfl) (by kernel_rfl) (show DataW.trod _ Tryd.prog W 0 _ false f2 123 cs2.toList = some (Lib.tabData .u64 tabOf0, p2) from hd2)
  have s2 : 0 < W.heap.size := by
    unfold World.var? at hv2
    rw [gn0, Option.bind_some] at hv2
    rcases Nat.lt_or_ge 0 W.heap.size with hl | hl
    · exact hl
    · rw [Array.getElem?_eq_none hl] at hv2
      cases hv2
  have m2 : Lib.TabIs Tryd.prog W "internal/strconv.uint64pow10" .u64 tabOf0 := by
    unfold Lib.TabIs
    rw [hv2, ← c2]
  exact (show (1 < W.heap.size ∧ Lib.TabIs Tryd.prog W "math/bits.deBruijn32tab" .u8 tabOf1) ∧ (2 < W.heap.size ∧ Lib.TabIs Tryd.prog W "math/bits.deBruijn64tab" .u8 tabOf2) ∧ (0 < W.heap.size ∧ Lib.TabIs Tryd.prog W "internal/strconv.uint64pow10" .u64 tabOf0) from ⟨⟨s0, m0⟩, ⟨s1, m1⟩, ⟨s2, m2⟩⟩)
set_option maxRecDepth 100000 in
theorem lifted (os : Os) (started : os.Started) (H : Type) (enc : TypeId × Value → H) :
    ReturnsInHanded {} Tryd.checked os 5 .any (fun w args => (Rows.fnExactActLineSpec.pre enc Tryd.prog Tryd.f5 [] false w args ∧ laidMetH Tryd.prog Rows.fnExactActLineRow.laid w) ∧ sizedMet enc Tryd.prog Tryd.f5 (OpenSpec.ofChange Rows.fnExactActLineSpec) false w args)
      (Rows.fnExactActLineSpec.post enc Tryd.prog Tryd.f5 false true false false) := by
  refine returnsInHanded_of_change_and (C := Tryd.checked) (X := fun w _ => laidMetH Tryd.prog Rows.fnExactActLineRow.laid w) (fun _ _ _ hh h => h.of_heap hh) own started (by kernel_rfl) Tryd.func5
    (ChangeSpec.witness_shaped (enc := enc) (C := Tryd.checked) (os := os) (X := fun w _ => laidMetH Tryd.prog Rows.fnExactActLineRow.laid w) false (World.doorLaid Tryd.prog 24 os) #[.agg #[.int .i64 0, .string default, .int .i64 0, .slice none 0 0]] 8 rfl (World.shaped_of_RefB (by kernel_rfl) (by kernel_rfl)) (by kernel_rfl) (by kernel_rfl) (by kernel_rfl) (door_met os _)) ?_
  intro W base args ds gs before hval0 hW hcnd hsz0 hL _
  have hsz : (DataW.weightsEach Tryd.prog (Tryd.f5.params.toList ++ []) (ds ++ gs)).all (· ≤ reachBytes) = true := hsz0
  have hval : ∀ (j : Nat) t v, Tryd.f5.params[j]? = some t → args[j]? = some v → Value.okWide Tryd.prog W .any base t v := hval0
  have hW' := hW
  obtain ⟨p, q, hA0, hV, rfl, hfz, hnd⟩ := hW
  have hA : DataW.TrodAll enc Tryd.prog W 0 (fun _ => true) true Tryd.f5.params.toList args.toList ds p := hA0
  obtain ⟨rfl, rfl⟩ := trodVars_none hV
  have hw : ∀ m ∈ DataW.weightsEach Tryd.prog Tryd.f5.params.toList ds, m ≤ reachBytes := by
    intro m hm
    have := List.all_eq_true.1 hsz m (by simpa using hm)
    simpa using this
  have run := row_calls (g := 9) (ts := Tryd.f5.params.toList) (by kernel_rfl) callActLine (fun j t v h1 h2 => hval j t v (by simpa using h1) (by simpa using h2)) hA hw (met hL)
  rw [Tryd.params5] at hA
  obtain ⟨v0, vs0, d0, ds0, p0, q0, h0l, rfl, rfl, k0, r0⟩ := trodAll_cons hA
  have lt0 : ∀ x ∈ p0, x.block < W.heap.size := by obtain ⟨m, hm⟩ := k0; exact DataW.trod_lt m _ _ _ hm
  obtain ⟨rfl, rfl, rfl⟩ := trodAll_nil r0
  obtain rfl : args = #[v0] := by cases args; simp_all
  refine run.mono fun e W' ⟨he, bel⟩ => ?_
  subst he
  exact ⟨_, rfl, _, _, _, [], _, [], hW', trodAll_mk1 (shut_bool Tryd.underlying4 _), (trodAll_cons_mk (Below.trod laidOut (by kernel_rfl) (of_decide_eq_true (by kernel_rfl)) k0 bel lt0) trodAll_mk0), rfl, bel.frame _, fun h => by cases h⟩
theorem over : Rows.fnExactActLineRow.holds Tryd.pinned (OpenSpec.ofChange Rows.fnExactActLineSpec) :=
  OpenClaim.holds_of_wide 5 Tryd.f5 rfl rfl rfl rfl rfl rfl rfl ⟨rfl, rfl, rfl, rfl, rfl⟩ rfl rfl rfl rfl rfl (by kernel_rfl) Tryd.func5 (by kernel_rfl)
    (of_decide_eq_true (by kernel_rfl)) (by unfold Func.isWrapper; first | (rw [if_pos (by decide +kernel)]; kernel_rfl) | (rw [if_neg (by decide +kernel)]; exact ⟨rfl, rfl⟩))
    (fun os started H enc _ => lifted os started H enc)
theorem proved : Rows.FnExactActLineCardSaid :=
  Claim7.holds_tied_plain_at .later [] [.data, .data, .data] true (true, "5fee6b4eb8cc3298eda730eb776605b43be4fdadc8a7b0c01ad06cad03bab8ab") false
    over (fun _ h => by cases h) (by kernel_rfl) (fun _ h => by cases h) fnExactActLine_row_tie rfl ⟨rfl, rfl⟩ (by kernel_rfl) rfl
    (fun f fn hf hfn => by
      obtain rfl : f = 5 := Option.some.inj ((show Tryd.prog.funcNamed "loop.example/g00971/laws.FnExactActLine" = some 5 by kernel_rfl).symm.trans hf) |>.symm
      obtain rfl : fn = Tryd.f5 := (Option.some.inj (Tryd.func5.symm.trans hfn)).symm
      exact ⟨by kernel_rfl, fun j t ht => by
        rw [Tryd.params5] at ht
        have hm : t ∈ [37] := by simpa using Array.mem_of_getElem? ht
        have hall : ([37].all fun u => !Tryd.prog.wantsStandIn u) = true := by kernel_rfl
        exact (show Tryd.prog.wantsStandIn t = false by simpa using List.all_eq_true.1 hall t hm)⟩)
    (by kernel_rfl)
#print axioms proved
end Go.Proofs.YtamdgfklbjoaiaaDoor.fnExactActLine
namespace Go.Proofs.YtamdgfklbjoaiaaDoor
theorem fnExactActLine_holds : Rows.FnExactActLineCardSaid := fnExactActLine.proved
end Go.Proofs.YtamdgfklbjoaiaaDoor
