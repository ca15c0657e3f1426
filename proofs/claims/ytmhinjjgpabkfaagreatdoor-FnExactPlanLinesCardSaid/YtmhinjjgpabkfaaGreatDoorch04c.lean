/- What functions of the program come to, for all arguments in the given bounds. -/
import Derived.Test.YtmhinjjgpabkfaaGreatDoorch04b
import Derived.Lib.AtoiErrMem
import Derived.Lib.SlicesS
set_option linter.unusedVariables false
set_option linter.unusedSimpArgs false
namespace Go.Proofs.YtmhinjjgpabkfaaGreatDoor.Ab
open Go Go.Proofs
set_option maxRecDepth 20000
set_option maxHeartbeats 4000000
set_option linter.unusedSimpArgs false
set_option linter.unusedVariables false
open Go.RowKit
theorem puPub (t : ByteArray) (h8 : t.size = 8) {w : World} (hi : IfaceIs w 3) : Calls Tryz.prog 159 #[.string t, .int .i64 16, .int .i64 32] w fun e w' =>
    (match hexNumU 0 t.data.toList with | some n => e = .returned (.tuple #[.int .u64 n, .nilIface]) | none => ∃ x T p, e = .returned (.tuple #[.int .u64 x, .iface T p])) ∧ Below w.heap.size w w' := by
  obtain ⟨ev, h1, h2⟩ := hi
  have hp := fun w => pu16 Tryz.lays287 t (by omega) (by omega) w
  have hlt : 3 < w.heap.size := Lib.lt_of_cell h1
  have hbel : Below w.heap.size w (Lib.bytesWorld w (Tryz.lays287_ren.t 5) t) := Lib.bytesWorld_below _ _ _
  cases hh : hexNumU 0 t.data.toList with
  | some n =>
    rw [hh] at hp
    replace hp : ∀ w, Calls Tryz.prog 193 #[.string t, .int .i64 16, .int .i64 32] w fun e w' => e = .returned (.tuple #[.int .u64 n, .nilIface]) ∧ w' = Lib.bytesWorld w (Tryz.lays287_ren.t 5) t := hp
    go_enter Tryz.func159, Tryz.ntmps159
    go_wp2_with (go_at_call 193; refine (hp _).mono ?_; rintro e w' ⟨rfl, rfl⟩)
    go_ret2
    exact ⟨rfl, hbel⟩
  | none =>
    rw [hh] at hp
    replace hp : ∀ w, Calls Tryz.prog 193 #[.string t, .int .i64 16, .int .i64 32] w fun e w' => e = .returned (.tuple #[.int .u64 0, .iface 226 (.int .i64 2)]) ∧ w' = Lib.bytesWorld w (Tryz.lays287_ren.t 5) t := hp
    go_enter Tryz.func159, Tryz.ntmps159
    go_wp2_with (first
      | (go_at_call 193; refine (hp _).mono ?_; rintro e w' ⟨rfl, rfl⟩)
      | (go_at_call 170; refine (Tryz.strconv_toError_syntax _ t _ _ ev _ (by omega) ((hbel.cell hlt).trans h1) h2).mono ?_; rintro e w' ⟨N, rfl, -, -, hb2⟩))
    go_ret2
    exact ⟨⟨_, _, _, rfl⟩, hbel.trans (hb2.mono hbel.size)⟩
theorem txt_ne {a b : ByteArray} (h : ¬ a = b) : (a.toList == b.toList) = false := by
  rw [Bool.eq_false_iff]
  exact fun hh => h ((Lib.bytes_beq_iff _ _).1 hh)
theorem seg_callsO {w : World} (hG : Globs.ok w fun b => b < w.heap.size) {n : Int} {o : ByteArray} (hr : rSegmentName n = o) : Calls Tryz.prog 126 #[.int .i64 n] w fun e w' => e = .returned (.string o) ∧ Below w.heap.size w w' := by
  rw [← hr]; exact seg_calls hG n
theorem temp_calls {w : World} (hG : Globs.ok w fun b => b < w.heap.size) {n : Int} {o : ByteArray} (hr : rTempName n = o) : Calls Tryz.prog 160 #[.int .i64 n] w fun e w' => e = .returned (.string o) ∧ Below w.heap.size w w' := by
  refine (FiTempName (n := n) hr).ok.callsV hG ⟨rfl, ?_⟩
  intro j y hy
  match j, hy with
  | 0, hy => cases hy; exact .d _ _ (.sc _ rfl)
theorem num_calls {w : World} (hG : Globs.ok w fun b => b < w.heap.size) {n : Int} {o : Bool} (hr : risNumber n = o) : Calls Tryz.prog 33 #[.int .i64 n] w fun e w' => e = .returned (.bool o) ∧ Below w.heap.size w w' := by
  refine (FiisNumber (n := n) hr).ok.callsV hG ⟨rfl, ?_⟩
  intro j y hy
  match j, hy with
  | 0, hy => cases hy; exact .d _ _ (.sc _ rfl)
theorem extract_mid {name : ByteArray} (h : 9 ≤ name.size) : (name.extract 1 9).size = 8 ∧ (name.extract 1 9).data.toList = mid name := by
  have h' : 9 ≤ name.data.size := h
  constructor
  · rw [ByteArray.size_extract]; omega
  · unfold mid
    rw [ByteArray.data_extract, Array.toList_extract, List.extract_eq_take_drop]
set_option maxHeartbeats 1000000 in
set_option maxRecDepth 100000 in
theorem readName_calls {name : ByteArray} (hs : name.size ≤ 1048576) {w : World} (hG : Globs.ok w fun b => b < w.heap.size) : Calls Tryz.prog 119 #[.string name] w fun e w' =>
    e = .returned (.tuple #[.int .i64 (rReadName name).1, .int .i64 (rReadName name).2]) ∧ Below w.heap.size w w' := by
  by_cases h9 : name.size < 9
  · rw [read_size (by omega)]
    go_enter Tryz.func119, Tryz.ntmps119
    go_wp2
    go_ret2
    exact ⟨rfl, Below.refl _ _⟩
  obtain ⟨hx8, hxl⟩ := extract_mid (name := name) (by omega)
  have hpu := fun (w : World) (hi : IfaceIs w 3) => puPub (name.extract 1 9) hx8 hi
  rw [hxl] at hpu
  have hG3 : ∀ {w : World}, (Globs.ok w fun b => b < w.heap.size) → IfaceIs w 3 := fun h => globs_3 h
  cases hh : hexNumU 0 (mid name) with
  | none =>
    simp only [hh] at hpu
    rw [read_none (by
      cases h : hexNum 0 (mid name) with
      | none => rfl
      | some n => rw [hexNum_U _ _ _ h] at hh; cases hh)]
    go_enter Tryz.func119, Tryz.ntmps119
    go_wp2_with (go_at_call 159; refine (hpu _ (hG3 hG)).mono ?_; rintro e w' ⟨⟨x, T, p, rfl⟩, hb⟩)
    go_ret2
    exact ⟨rfl, hb⟩
  | some m =>
    simp only [hh] at hpu
    have hm : m < 4294967296 := by
      have := hexNumU_lt _ _ _ hh
      rw [mid_len (by omega)] at this
      omega
    have hmn : ∀ n, hexNum 0 (mid name) = some n → n = m := fun n hn => by
      have := hexNum_U _ _ _ hn
      rw [hh] at this
      exact (Option.some.inj this).symm
    obtain ⟨M, hM⟩ : ∃ M : Int, M = (m : Int) := ⟨_, rfl⟩
    have hM0 : 0 ≤ M := by omega
    have hM1 : M < 4294967296 := by omega
    simp only [← hM] at hpu
    by_cases hnum : M ≤ 1000000000
    · have hrn : risNumber M = true := decide_eq_true ⟨hM0, hnum⟩
      obtain ⟨sg, hsg⟩ : ∃ s, rSegmentName M = s := ⟨_, rfl⟩
      obtain ⟨tp, htp⟩ : ∃ s, rTempName M = s := ⟨_, rfl⟩
      by_cases hse : name = sg
      · have hR : rReadName name = (1, M) := by rw [hse, ← hsg]; exact read_seg ⟨hM0, hnum⟩
        rw [hR]
        dsimp only
        clear hmn hh hxl hR hM
        subst hse
        go_enter Tryz.func119, Tryz.ntmps119
        go_wp2_with (first
          | (go_at_call 159; refine (hpu _ (hG3 hG)).mono ?_; rintro e w1 ⟨rfl, hb1⟩; have hG1 := globs_below hG hb1)
          | (go_at_call 33; refine (num_calls hG1 hrn).mono ?_; rintro e w2 ⟨rfl, hb2⟩; have hG2 := globs_below hG1 hb2)
          | (go_at_call 126; refine (seg_callsO hG2 hsg).mono ?_; rintro e w3 ⟨rfl, hb3⟩; have hG3_ := globs_below hG2 hb3)
          | (go_at_call 160; refine (temp_calls hG3_ htp).mono ?_; rintro e w4 ⟨rfl, hb4⟩))
        go_ret2
        exact ⟨rfl, (hb1.trans (hb2.mono hb1.size)).trans (hb3.mono (hb1.trans (hb2.mono hb1.size)).size)⟩
      · by_cases hte : name = tp
        · have hR : rReadName name = (2, M) := by rw [hte, ← htp]; exact read_temp ⟨hM0, hnum⟩
          rw [hR]
          dsimp only
          clear hmn hh hxl hR hM
          subst hte
          have hs1 := txt_ne hse
          go_enter Tryz.func119, Tryz.ntmps119
          go_wp2_with (first
            | (go_at_call 159; refine (hpu _ (hG3 hG)).mono ?_; rintro e w1 ⟨rfl, hb1⟩; have hG1 := globs_below hG hb1)
            | (go_at_call 33; refine (num_calls hG1 hrn).mono ?_; rintro e w2 ⟨rfl, hb2⟩; have hG2 := globs_below hG1 hb2)
            | (go_at_call 126; refine (seg_callsO hG2 hsg).mono ?_; rintro e w3 ⟨rfl, hb3⟩; have hG3_ := globs_below hG2 hb3)
            | (go_at_call 160; refine (temp_calls hG3_ htp).mono ?_; rintro e w4 ⟨rfl, hb4⟩))
          go_ret2
          exact ⟨rfl, ((hb1.trans (hb2.mono hb1.size)).trans (hb3.mono (hb1.trans (hb2.mono hb1.size)).size)).trans (hb4.mono ((hb1.trans (hb2.mono hb1.size)).trans (hb3.mono (hb1.trans (hb2.mono hb1.size)).size)).size)⟩
        · have hR : rReadName name = (0, 0) := read_other fun n hn => by
            rw [hmn n hn, ← hM, hsg, htp]
            exact ⟨fun e => hse e.symm, fun e => hte e.symm⟩
          rw [hR]
          dsimp only
          clear hmn hh hxl hR hM
          have hs1 := txt_ne hse
          have hs2 := txt_ne hte
          go_enter Tryz.func119, Tryz.ntmps119
          go_wp2_with (first
            | (go_at_call 159; refine (hpu _ (hG3 hG)).mono ?_; rintro e w1 ⟨rfl, hb1⟩; have hG1 := globs_below hG hb1)
            | (go_at_call 33; refine (num_calls hG1 hrn).mono ?_; rintro e w2 ⟨rfl, hb2⟩; have hG2 := globs_below hG1 hb2)
            | (go_at_call 126; refine (seg_callsO hG2 hsg).mono ?_; rintro e w3 ⟨rfl, hb3⟩; have hG3_ := globs_below hG2 hb3)
            | (go_at_call 160; refine (temp_calls hG3_ htp).mono ?_; rintro e w4 ⟨rfl, hb4⟩))
          go_ret2
          exact ⟨rfl, ((hb1.trans (hb2.mono hb1.size)).trans (hb3.mono (hb1.trans (hb2.mono hb1.size)).size)).trans (hb4.mono ((hb1.trans (hb2.mono hb1.size)).trans (hb3.mono (hb1.trans (hb2.mono hb1.size)).size)).size)⟩
    · have hrn : risNumber M = false := decide_eq_false fun h => hnum h.2
      obtain ⟨sg, hsg⟩ : ∃ s, rSegmentName M = s := ⟨_, rfl⟩
      obtain ⟨tp, htp⟩ : ∃ s, rTempName M = s := ⟨_, rfl⟩
      have hR : rReadName name = (0, 0) := read_other fun n hn => by
        rw [hmn n hn, ← hM]
        exact ⟨fun e => hnum (seg_num e (by omega)).2, fun e => hnum (temp_num e (by omega)).2⟩
      rw [hR]
      dsimp only
      clear hmn hh hxl hR hM
      go_enter Tryz.func119, Tryz.ntmps119
      go_wp2_with (first
        | (go_at_call 159; refine (hpu _ (hG3 hG)).mono ?_; rintro e w1 ⟨rfl, hb1⟩; have hG1 := globs_below hG hb1)
        | (go_at_call 33; refine (num_calls hG1 hrn).mono ?_; rintro e w2 ⟨rfl, hb2⟩; have hG2 := globs_below hG1 hb2)
        | (go_at_call 126; refine (seg_callsO hG2 hsg).mono ?_; rintro e w3 ⟨rfl, hb3⟩; have hG3_ := globs_below hG2 hb3)
        | (go_at_call 160; refine (temp_calls hG3_ htp).mono ?_; rintro e w4 ⟨rfl, hb4⟩))
      go_ret2
      exact ⟨rfl, hb1.trans (hb2.mono hb1.size)⟩
theorem FiReadName {name : ByteArray} {oa ob : Int} (hs : name.size ≤ 1048576) (hr : rReadName name = (oa, ob)) : Fn Tryz.prog 119 [S name] [] ⟨.tup [I oa, I ob], [], []⟩ := by
 refine ⟨entered_of Tryz.func119 rfl rfl, CallOk.ofCallsT rfl rfl fun E vs hS hG hA => ?_⟩
 obtain ⟨u, rfl, h1⟩ := args1 hA
 rw [relSc h1]
 have h2 := readName_calls hs (Globs.step hS (fun _ _ => rfl) hG)
 rw [hr] at h2
 exact h2
end Go.Proofs.YtmhinjjgpabkfaaGreatDoor.Ab
