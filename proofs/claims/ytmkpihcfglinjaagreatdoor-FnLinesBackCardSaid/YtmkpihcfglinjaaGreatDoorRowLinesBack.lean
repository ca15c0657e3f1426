/- For all arguments, the law FnLinesBack answers true, the listed package-level variables holding what the program's text lays: the tied card of the given statement FnLinesBackCardSaid. Conditions: none beyond the given statement. -/
import Derived.Test.YtmkpihcfglinjaaGreatDoorRows
import Derived.Test.YtmkpihcfglinjaaGreatDoorCards
import Derived.Test.YtmkpihcfglinjaaGreatDoorTie
import Derived.Test.YtmkpihcfglinjaaGreatDoorlLinesBack
import Derived.KernelRfl
import Derived.ProofKit
import Derived.LaidMore
import Derived.LaidLaws
import Derived.MakeChecks
import Derived.SevenTiedAt
import Derived.Lib.LaidTab
set_option linter.unusedVariables false
set_option linter.unusedSimpArgs false
namespace Go.Proofs.YtmkpihcfglinjaaGreatDoor.Ab
open Go Go.Proofs
theorem trod_iface0 {H : Type} {enc : TypeId × Value → H} {P : Program} {W : World} {base : Nat} {sp : Nat → Bool} {fuel t : Nat} {ms : Array (String × TypeId)} {cs : List Value} {n : String} {d : DataW H} {p : List MemPlace} (ht : P.underlying t = some (.interface ms)) (h : DataW.trod enc P W base sp false fuel t cs = some (.iface n d, p)) : ∃ u v, cs = [.iface u v] := by
  cases fuel with
  | zero => cases h
  | succ k =>
    unfold DataW.trod at h
    rw [ht] at h
    match cs, h with
    | [.iface u v], _ => exact ⟨u, v, rfl⟩
    | [.nilIface], h => cases h
theorem iface_met {P : Program} {W : World} {g : Nat} {nm : String} {cs : Array Value} (hg : P.globalNamed nm = some g) (hv : W.var? P nm = some cs) (h : ∃ u v, cs.toList = [.iface u v]) : g < W.heap.size ∧ IfaceIs W g := by
  unfold World.var? at hv
  rw [hg, Option.bind_some] at hv
  obtain ⟨u, v, e⟩ := h
  have e2 : cs[0]? = some (.iface u v) := by rw [← Array.getElem?_toList, e]; rfl
  split at hv
  · rename_i cs' t fr hh
    obtain rfl := Option.some.inj hv
    refine ⟨?_, .iface u v, ?_, .inr ⟨u, v, rfl⟩⟩
    · exact (Array.getElem?_eq_some_iff.1 hh).1
    · unfold World.cell?
      simp only [hh]
      simpa using e2
  · cases hv
theorem inv22 {xs : List D} (h : ShD Tryz.prog 22 xs) : ∃ a : List UInt8, xs = [.row 1 (a.map cB)] ∧ a.length < 2 ^ 47 ∧ True := by
  obtain ⟨ys, rfl, hl, hx⟩ := h.inv_sl Tryz.underlying22
  obtain ⟨zs, rfl, hl', hp⟩ := rows_of (c := cB) (p := fun x : UInt8 => True) (ys := ys) (fun x hxm => by
    obtain ⟨n, rfl, hs⟩ := (hx x hxm).inv_int Tryz.underlying5
    have h' : (decide ((0 : Int) ≤ n) && decide (n ≤ 2 ^ 8 - 1)) = true := hs
    simp only [Bool.and_eq_true, decide_eq_true_eq] at h'
    exact ⟨UInt8.ofNat n.toNat, byte_cell (by omega), trivial⟩)
  have := reach_lt
  rw [show Tryz.prog.bytesOf 5 = 1 by kernel_rfl] at hl
  rw [List.length_map] at hl
  exact ⟨zs, by rw [show Tryz.prog.cellsOf 5 = 1 by kernel_rfl], by omega, trivial⟩
theorem callLinesBack : ∀ yss, ShAll Tryz.prog Tryz.f3.params.toList yss → CallOk Tryz.prog 3 (argAVs Tryz.prog Tryz.f3.params.toList yss) [] ⟨.d (.sc (.bool true)), [], []⟩ := by
  rw [Tryz.params3]
  intro yss h
  obtain _ | ⟨h0, h⟩ := h
  obtain _ | _ := h
  obtain ⟨code, rfl, ok_code, wf_code⟩ := inv22 h0
  have e : argAVs Tryz.prog [22] [[.row 1 (code.map cB)]] = [.d (.row 1 (code.map cB))] := by
    simp only [argAVs, argAV, Tryz.underlying22]
    try rfl
  show CallOk Tryz.prog 3 (argAVs Tryz.prog [22] _) [] _
  rw [e]
  exact T3 rfl ok_code
end Go.Proofs.YtmkpihcfglinjaaGreatDoor.Ab
namespace Go.Proofs.YtmkpihcfglinjaaGreatDoor.fnLinesBack
open Go.ChangeShapes Go.WideShapes Go.ChangeAt Go.RowKit
open Go.Proofs.YtmkpihcfglinjaaGreatDoor.Ab
theorem own : ownKnob Tryz.prog.godebug = none := by kernel_rfl
theorem laidOut : laidOutB Tryz.prog = true := by kernel_rfl
theorem door_met (os : Os) (args : Array Value) : laidMetH Tryz.prog Rows.fnLinesBackRow.laid ((World.doorLaid Tryz.prog 86 os).forCall (fun _ _ => 0) ⟨#[], args, []⟩).memory :=
  laidMetH_of_parts3 (fuel := 8) (laidMet_of_run' 8 (by kernel_rfl) (by kernel_rfl)) (by kernel_rfl) (by kernel_rfl)
set_option maxRecDepth 100000 in
theorem met {W : World} (h : laidMetH Tryz.prog Rows.fnLinesBackRow.laid W) : Globs.ok W fun b => b < W.heap.size := by
  rw [MakeChecks.laidMetH_plain _ _ _ (by kernel_rfl)] at h
  obtain ⟨ps, ⟨g0, t0, cs0, f0, p0, q0, hg0, ht0, hv0, hd0, ⟨g1, t1, cs1, f1, p1, q1, hg1, ht1, hv1, hd1, ⟨g2, t2, cs2, f2, p2, q2, hg2, ht2, hv2, hd2, ⟨g3, t3, cs3, f3, p3, q3, hg3, ht3, hv3, hd3, ⟨g4, t4, cs4, f4, p4, q4, hg4, ht4, hv4, hd4, ⟨g5, t5, cs5, f5, p5, q5, hg5, ht5, hv5, hd5, ⟨g6, t6, cs6, f6, p6, q6, hg6, ht6, hv6, hd6, _, _⟩, _⟩, _⟩, _⟩, _⟩, _⟩, _⟩, _⟩ := h
  obtain rfl := Option.some.inj (gn6.symm.trans hg0)
  obtain rfl := Option.some.inj ((show (Tryz.prog.globals[6]?).map (·.type) = some 150 by kernel_rfl).symm.trans ht0)
  have c0 := Lib.cells_of_tab (k := .u8) (zs := tabOf6) Tryz.underlying150 Tryz.underlying5 (by kernel_rfl) (by kernel_rfl) (show DataW.trod _ Tryz.prog W 0 _ false f0 150 cs0.toList = some (Lib.tabData .u8 tabOf6, p0) from hd0)
  have s0 : 6 < W.heap.size := by
    unfold World.var? at hv0
    rw [gn6, Option.bind_some] at hv0
    rcases Nat.lt_or_ge 6 W.heap.size with hl | hl
    · exact hl
    · rw [Array.getElem?_eq_none hl] at hv0
      cases hv0
  have m0 : Lib.TabIs Tryz.prog W "math/bits.deBruijn32tab" .u8 tabOf6 := by
    unfold Lib.TabIs
    rw [hv0, ← c0]
  obtain rfl := Option.some.inj (gn7.symm.trans hg1)
  obtain rfl := Option.some.inj ((show (Tryz.prog.globals[7]?).map (·.type) = some 151 by kernel_rfl).symm.trans ht1)
  have c1 := Lib.cells_of_tab (k := .u8) (zs := tabOf7) Tryz.underlying151 Tryz.underlying5 (by kernel_rfl) (by kernel_rfl) (show DataW.trod _ Tryz.prog W 0 _ false f1 151 cs1.toList = some (Lib.tabData .u8 tabOf7, p1) from hd1)
  have s1 : 7 < W.heap.size := by
    unfold World.var? at hv1
    rw [gn7, Option.bind_some] at hv1
    rcases Nat.lt_or_ge 7 W.heap.size with hl | hl
    · exact hl
    · rw [Array.getElem?_eq_none hl] at hv1
      cases hv1
  have m1 : Lib.TabIs Tryz.prog W "math/bits.deBruijn64tab" .u8 tabOf7 := by
    unfold Lib.TabIs
    rw [hv1, ← c1]
  obtain rfl := Option.some.inj (gn5.symm.trans hg2)
  obtain rfl := Option.some.inj ((show (Tryz.prog.globals[5]?).map (·.type) = some 142 by kernel_rfl).symm.trans ht2)
  have c2 := Lib.cells_of_tab (k := .u64) (zs := tabOf5) Tryz.underlying142 Tryz.underlying128 (by kernel_rfl) (by kernel_rfl) (show DataW.trod _ Tryz.prog W 0 _ false f2 142 cs2.toList = some (Lib.tabData .u64 tabOf5, p2) from hd2)
  have s2 : 5 < W.heap.size := by
    unfold World.var? at hv2
    rw [gn5, Option.bind_some] at hv2
    rcases Nat.lt_or_ge 5 W.heap.size with hl | hl
    · exact hl
    · rw [Array.getElem?_eq_none hl] at hv2
      cases hv2
  have m2 : Lib.TabIs Tryz.prog W "internal/strconv.uint64pow10" .u64 tabOf5 := by
    unfold Lib.TabIs
    rw [hv2, ← c2]
  obtain rfl := Option.some.inj ((show Tryz.prog.globalNamed "strconv.ErrRange" = some 4 by kernel_rfl).symm.trans hg3)
  obtain rfl := Option.some.inj ((show (Tryz.prog.globals[4]?).map (·.type) = some 80 by kernel_rfl).symm.trans ht3)
  have c3 := trod_iface0 Tryz.underlying80 (show DataW.trod _ Tryz.prog W 0 _ false f3 80 cs3.toList = some (.iface _ _, p3) from hd3)
  have m3 : 4 < W.heap.size ∧ IfaceIs W 4 := iface_met (show Tryz.prog.globalNamed "strconv.ErrRange" = some 4 by kernel_rfl) hv3 c3
  obtain rfl := Option.some.inj ((show Tryz.prog.globalNamed "strconv.ErrSyntax" = some 3 by kernel_rfl).symm.trans hg4)
  obtain rfl := Option.some.inj ((show (Tryz.prog.globals[3]?).map (·.type) = some 80 by kernel_rfl).symm.trans ht4)
  have c4 := trod_iface0 Tryz.underlying80 (show DataW.trod _ Tryz.prog W 0 _ false f4 80 cs4.toList = some (.iface _ _, p4) from hd4)
  have m4 : 3 < W.heap.size ∧ IfaceIs W 3 := iface_met (show Tryz.prog.globalNamed "strconv.ErrSyntax" = some 3 by kernel_rfl) hv4 c4
  obtain rfl := Option.some.inj (gn0.symm.trans hg6)
  obtain rfl := Option.some.inj ((show (Tryz.prog.globals[0]?).map (·.type) = some 89 by kernel_rfl).symm.trans ht6)
  have c6 := Lib.cells_of_tab (k := .u8) (zs := tabOf0) Tryz.underlying89 Tryz.underlying5 (by kernel_rfl) (by kernel_rfl) (show DataW.trod _ Tryz.prog W 0 _ false f6 89 cs6.toList = some (Lib.tabData .u8 tabOf0, p6) from hd6)
  have s6 : 0 < W.heap.size := by
    unfold World.var? at hv6
    rw [gn0, Option.bind_some] at hv6
    rcases Nat.lt_or_ge 0 W.heap.size with hl | hl
    · exact hl
    · rw [Array.getElem?_eq_none hl] at hv6
      cases hv6
  have m6 : Lib.TabIs Tryz.prog W "strings.asciiSpace" .u8 tabOf0 := by
    unfold Lib.TabIs
    rw [hv6, ← c6]
  exact (show (6 < W.heap.size ∧ Lib.TabIs Tryz.prog W "math/bits.deBruijn32tab" .u8 tabOf6) ∧ (7 < W.heap.size ∧ Lib.TabIs Tryz.prog W "math/bits.deBruijn64tab" .u8 tabOf7) ∧ (5 < W.heap.size ∧ Lib.TabIs Tryz.prog W "internal/strconv.uint64pow10" .u64 tabOf5) ∧ (0 < W.heap.size ∧ Lib.TabIs Tryz.prog W "strings.asciiSpace" .u8 tabOf0) ∧ (4 < W.heap.size ∧ IfaceIs W 4) ∧ (3 < W.heap.size ∧ IfaceIs W 3) from ⟨⟨s0, m0⟩, ⟨s1, m1⟩, ⟨s2, m2⟩, ⟨s6, m6⟩, m3, m4⟩)
set_option maxRecDepth 100000 in
theorem lifted (os : Os) (started : os.Started) (H : Type) (enc : TypeId × Value → H) :
    ReturnsInHanded {} Tryz.checked os 3 .any (fun w args => (Rows.fnLinesBackSpec.pre enc Tryz.prog Tryz.f3 [] false w args ∧ laidMetH Tryz.prog Rows.fnLinesBackRow.laid w) ∧ sizedMet enc Tryz.prog Tryz.f3 (OpenSpec.ofChange Rows.fnLinesBackSpec) false w args)
      (Rows.fnLinesBackSpec.post enc Tryz.prog Tryz.f3 false true false false) := by
  refine returnsInHanded_of_change_and (C := Tryz.checked) (X := fun w _ => laidMetH Tryz.prog Rows.fnLinesBackRow.laid w) (fun _ _ _ hh h => h.of_heap hh) own started (by kernel_rfl) Tryz.func3
    (ChangeSpec.witness_shaped (enc := enc) (C := Tryz.checked) (os := os) (X := fun w _ => laidMetH Tryz.prog Rows.fnLinesBackRow.laid w) false (World.doorLaid Tryz.prog 86 os) #[.slice none 0 0] 8 rfl (World.shaped_of_RefB (by kernel_rfl) (by kernel_rfl)) (by kernel_rfl) (by kernel_rfl) (by kernel_rfl) (door_met os _)) ?_
  intro W base args ds gs before hval0 hW hcnd hsz0 hL _
  have hsz : (DataW.weightsEach Tryz.prog (Tryz.f3.params.toList ++ []) (ds ++ gs)).all (· ≤ reachBytes) = true := hsz0
  have hval : ∀ (j : Nat) t v, Tryz.f3.params[j]? = some t → args[j]? = some v → Value.okWide Tryz.prog W .any base t v := hval0
  have hW' := hW
  obtain ⟨p, q, hA0, hV, rfl, hfz, hnd⟩ := hW
  have hA : DataW.TrodAll enc Tryz.prog W 0 (fun _ => true) true Tryz.f3.params.toList args.toList ds p := hA0
  obtain ⟨rfl, rfl⟩ := trodVars_none hV
  have hw : ∀ m ∈ DataW.weightsEach Tryz.prog Tryz.f3.params.toList ds, m ≤ reachBytes := by
    intro m hm
    have := List.all_eq_true.1 hsz m (by simpa using hm)
    simpa using this
  have run := row_calls (g := 9) (ts := Tryz.f3.params.toList) (by kernel_rfl) callLinesBack (fun j t v h1 h2 => hval j t v (by simpa using h1) (by simpa using h2)) hA hw (met hL)
  rw [Tryz.params3] at hA
  obtain ⟨v0, vs0, d0, ds0, p0, q0, h0l, rfl, rfl, k0, r0⟩ := trodAll_cons hA
  have lt0 : ∀ x ∈ p0, x.block < W.heap.size := by obtain ⟨m, hm⟩ := k0; exact DataW.trod_lt m _ _ _ hm
  obtain ⟨rfl, rfl, rfl⟩ := trodAll_nil r0
  obtain rfl : args = #[v0] := by cases args; simp_all
  refine run.mono fun e W' ⟨he, bel⟩ => ?_
  subst he
  exact ⟨_, rfl, _, _, _, [], _, [], hW', trodAll_mk1 (shut_bool Tryz.underlying4 _), (trodAll_cons_mk (Below.trod laidOut (by kernel_rfl) (of_decide_eq_true (by kernel_rfl)) k0 bel lt0) trodAll_mk0), rfl, bel.frame _, fun h => by cases h⟩
theorem over : Rows.fnLinesBackRow.holds Tryz.pinned (OpenSpec.ofChange Rows.fnLinesBackSpec) :=
  OpenClaim.holds_of_wide 3 Tryz.f3 rfl rfl rfl rfl rfl rfl rfl ⟨rfl, rfl, rfl, rfl, rfl⟩ rfl rfl rfl rfl rfl (by kernel_rfl) Tryz.func3 (by kernel_rfl)
    (of_decide_eq_true (by kernel_rfl)) (by unfold Func.isWrapper; first | (rw [if_pos (by decide +kernel)]; kernel_rfl) | (rw [if_neg (by decide +kernel)]; exact ⟨rfl, rfl⟩))
    (fun os started H enc _ => lifted os started H enc)
theorem proved : Rows.FnLinesBackCardSaid :=
  Claim7.holds_tied_plain_at .later [] [.data, .data, .data, .sentinel, .sentinel, .listed, .data] true (true, "68497f7b52a97fa0bc5d23d3a425344755fb3847244a01be763023492adf9886") true
    over (fun _ h => by cases h) (by kernel_rfl) (fun _ h => by cases h) fnLinesBack_row_tie rfl ⟨rfl, rfl⟩ (by kernel_rfl) rfl
    (fun f fn hf hfn => by
      obtain rfl : f = 3 := Option.some.inj ((show Tryz.prog.funcNamed "loop.example/g00971/laws.FnLinesBack" = some 3 by kernel_rfl).symm.trans hf) |>.symm
      obtain rfl : fn = Tryz.f3 := (Option.some.inj (Tryz.func3.symm.trans hfn)).symm
      exact ⟨by kernel_rfl, fun j t ht => by
        rw [Tryz.params3] at ht
        have hm : t ∈ [22] := by simpa using Array.mem_of_getElem? ht
        have hall : ([22].all fun u => !Tryz.prog.wantsStandIn u) = true := by kernel_rfl
        exact (show Tryz.prog.wantsStandIn t = false by simpa using List.all_eq_true.1 hall t hm)⟩)
    (by kernel_rfl)
#print axioms proved
end Go.Proofs.YtmkpihcfglinjaaGreatDoor.fnLinesBack
namespace Go.Proofs.YtmkpihcfglinjaaGreatDoor
theorem fnLinesBack_holds : Rows.FnLinesBackCardSaid := fnLinesBack.proved
end Go.Proofs.YtmkpihcfglinjaaGreatDoor
