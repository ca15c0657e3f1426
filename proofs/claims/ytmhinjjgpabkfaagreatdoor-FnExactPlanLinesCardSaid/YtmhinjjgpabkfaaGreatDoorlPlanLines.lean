/- What functions of the program come to, for all arguments in the given bounds. -/
import Derived.Test.YtmhinjjgpabkfaaGreatDoorlw
import Derived.Test.YtmhinjjgpabkfaaGreatDoorHsz
import Derived.Test.YtmhinjjgpabkfaaGreatDoorHto
import Derived.Test.YtmhinjjgpabkfaaGreatDoorHeq
import Derived.Test.YtmhinjjgpabkfaaGreatDoorHmA
set_option linter.unusedVariables false
set_option linter.unusedSimpArgs false
namespace Go.Proofs.YtmhinjjgpabkfaaGreatDoor.Ab
open Go Go.Proofs
set_option maxRecDepth 20000
set_option maxHeartbeats 4000000
set_option linter.unusedSimpArgs false
set_option linter.unusedVariables false
theorem lines_sum {l : List TOp} (h : ∀ x ∈ l, okPl x) : totStringS (l.map rOpLine) ≤ (opsW l : Int) + 41 * (l.length : Int) := by
  induction l with
  | nil => simp [totStringS, opsW, sumF]
  | cons x l ih =>
    have h1 := ih fun y hy => h y (List.mem_cons_of_mem _ hy)
    have h2 := rOpLine_b (h x List.mem_cons_self)
    unfold totStringS opsW at *
    rw [List.map_cons, List.length_cons, List.map_cons, List.sum_cons, List.length_cons]
    show (((l.map rOpLine).length + 1 : Nat) : Int) + (((rOpLine x).size : Int) + sumF _ _) ≤ _
    omega
theorem names_sum (l : List TEntry) : (((l.map (·.name_.size)).sum : Nat) : Int) ≤ totEntryS l := by
  induction l with
  | nil => simp [totEntryS, sumF]
  | cons x l ih =>
    unfold totEntryS at *
    rw [List.map_cons, List.sum_cons, List.length_cons]
    show ((x.name_.size + (l.map (·.name_.size)).sum : Nat) : Int) ≤ ((l.length + 1 : Nat) : Int) + (totEntry x + sumF _ _)
    have : totEntry x = (x.name_.size : Int) := rfl
    omega
theorem bPlanLines {d : TDisk} {v : Int} (hb : totDisk d ≤ 1048576) (hw : wfDisk d) (hv : wfI v) : totStringS (rPlanLines d v) ≤ 549755813888 := by
  have hd := okD_of hb
  have h1 := lines_sum (plan_W (v := v) hd).2
  have h2 := (plan_W (v := v) hd).1
  have h3 := plan_len hd (rfl : rPlanOf d v = _)
  have h4 := names_sum d.entries_
  have n1 := totNodeS_nn d.nodes_
  have n3 := totEntryS_nn d.old_
  have n4 := totStringS_nn d.steps_
  unfold totDisk at hb
  unfold rPlanLines
  omega
theorem ent24 : Entered Tryz.prog 24 := ⟨_, Tryz.func24, rfl, rfl⟩
theorem T24 {aD_nodes : List TNode} {xaD_nodes : List (List D)} (haD_nodes : aD_nodes.map eNode = xaD_nodes) {aD_entries : List TEntry} {xaD_entries : List (List D)} (haD_entries : aD_entries.map eEntry = xaD_entries) {aD_old : List TEntry} {xaD_old : List (List D)} (haD_old : aD_old.map eEntry = xaD_old) {aD_steps : List ByteArray} {xaD_steps : List (List D)} (haD_steps : aD_steps.map cS = xaD_steps) {aD_room : Int} {aD_next : Int} {aVersion : Int} (hb : totDisk ⟨aD_nodes, aD_entries, aD_old, aD_steps, aD_room, aD_next⟩ ≤ 1048576) (hw : wfDisk ⟨aD_nodes, aD_entries, aD_old, aD_steps, aD_room, aD_next⟩) (hv : wfI aVersion) : CallOk Tryz.prog 24 [.agg [.d (.row 3 xaD_nodes), .d (.row 2 xaD_entries), .d (.row 2 xaD_old), .d (.row 1 xaD_steps), .d (.sc (.int .i64 aD_room)), .d (.sc (.int .i64 aD_next))], .d (.sc (.int .i64 aVersion))] [] ⟨.d (.row 1 ((rPlanLines ⟨aD_nodes, aD_entries, aD_old, aD_steps, aD_room, aD_next⟩ aVersion).map cS)), [], []⟩ := by
  exact (FsPlanLines haD_nodes haD_entries haD_old haD_steps (okD_of hb) rfl rfl).ok
theorem ent25 : Entered Tryz.prog 25 := ⟨_, Tryz.func25, rfl, rfl⟩
theorem T25R {aD_nodes : List TNode} {xaD_nodes : List (List D)} (haD_nodes : aD_nodes.map eNode = xaD_nodes) {aD_entries : List TEntry} {xaD_entries : List (List D)} (haD_entries : aD_entries.map eEntry = xaD_entries) {aD_old : List TEntry} {xaD_old : List (List D)} (haD_old : aD_old.map eEntry = xaD_old) {aD_steps : List ByteArray} {xaD_steps : List (List D)} (haD_steps : aD_steps.map cS = xaD_steps) {aD_room : Int} {aD_next : Int} {aVersion : Int} (hb : totDisk ⟨aD_nodes, aD_entries, aD_old, aD_steps, aD_room, aD_next⟩ ≤ 1048576) (hw : wfDisk ⟨aD_nodes, aD_entries, aD_old, aD_steps, aD_room, aD_next⟩) (hv : wfI aVersion) : CallOk Tryz.prog 25 [.agg [.d (.row 3 xaD_nodes), .d (.row 2 xaD_entries), .d (.row 2 xaD_old), .d (.row 1 xaD_steps), .d (.sc (.int .i64 aD_room)), .d (.sc (.int .i64 aD_next))], .d (.sc (.int .i64 aVersion))] [] ⟨.ref 0 0 (rPlanLines ⟨aD_nodes, aD_entries, aD_old, aD_steps, aD_room, aD_next⟩ aVersion).length, [.row 1 false ((rPlanLines ⟨aD_nodes, aD_entries, aD_old, aD_steps, aD_room, aD_next⟩ aVersion).map cS)], []⟩ := by
  exact (FiPlanLinesR haD_nodes haD_entries haD_old haD_steps (okD_of hb) rfl rfl rfl).ok
theorem T25 {aD_nodes : List TNode} {xaD_nodes : List (List D)} (haD_nodes : aD_nodes.map eNode = xaD_nodes) {aD_entries : List TEntry} {xaD_entries : List (List D)} (haD_entries : aD_entries.map eEntry = xaD_entries) {aD_old : List TEntry} {xaD_old : List (List D)} (haD_old : aD_old.map eEntry = xaD_old) {aD_steps : List ByteArray} {xaD_steps : List (List D)} (haD_steps : aD_steps.map cS = xaD_steps) {aD_room : Int} {aD_next : Int} {aVersion : Int} (hb : totDisk ⟨aD_nodes, aD_entries, aD_old, aD_steps, aD_room, aD_next⟩ ≤ 1048576) (hw : wfDisk ⟨aD_nodes, aD_entries, aD_old, aD_steps, aD_room, aD_next⟩) (hv : wfI aVersion) : CallOk Tryz.prog 25 [.agg [.d (.row 3 xaD_nodes), .d (.row 2 xaD_entries), .d (.row 2 xaD_old), .d (.row 1 xaD_steps), .d (.sc (.int .i64 aD_room)), .d (.sc (.int .i64 aD_next))], .d (.sc (.int .i64 aVersion))] [] ⟨.d (.row 1 ((rPlanLines ⟨aD_nodes, aD_entries, aD_old, aD_steps, aD_room, aD_next⟩ aVersion).map cS)), [], []⟩ :=
  (T25R haD_nodes haD_entries haD_old haD_steps hb hw hv).rowD rfl (by rw [List.length_map])
noncomputable def c6 : Code := (Tryz.f6.body).getD .skip
theorem T6 {aD_nodes : List TNode} {xaD_nodes : List (List D)} (haD_nodes : aD_nodes.map eNode = xaD_nodes) {aD_entries : List TEntry} {xaD_entries : List (List D)} (haD_entries : aD_entries.map eEntry = xaD_entries) {aD_old : List TEntry} {xaD_old : List (List D)} (haD_old : aD_old.map eEntry = xaD_old) {aD_steps : List ByteArray} {xaD_steps : List (List D)} (haD_steps : aD_steps.map cS = xaD_steps) {aD_room : Int} {aD_next : Int} {aVersion : Int} (ok_aD : okDisk ⟨aD_nodes, aD_entries, aD_old, aD_steps, aD_room, aD_next⟩) (wf_aD : wfDisk ⟨aD_nodes, aD_entries, aD_old, aD_steps, aD_room, aD_next⟩) (wf_aVersion : wfI aVersion) : CallOk Tryz.prog 6 [.agg [.d (.row 3 xaD_nodes), .d (.row 2 xaD_entries), .d (.row 2 xaD_old), .d (.row 1 xaD_steps), .d (.sc (.int .i64 aD_room)), .d (.sc (.int .i64 aD_next))], .d (.sc (.int .i64 aVersion))] [] ⟨.d (.sc (.bool true)), [], []⟩ := by
  have ent17_ := ent17
  have T17_ := @T17
  have ent19_ := ent19
  have T19_ := @T19
  have ent21_ := ent21
  have T21_ := @T21
  have ent24_ := ent24
  have T24_ := @T24
  have ent25_ := ent25
  have T25_ := @T25
  have ent26_ := ent26
  have T26_ := @T26
  have ent27_ := ent27
  have T27_ := @T27
  have ent28_ := ent28
  have T28_ := @T28
  have ent29_ := ent29
  have T29_ := @T29
  have T25_R := @T25R
  have T19_R := @T19R
  refine CallOk.of_bodyD (body := c6) Tryz.func6 rfl (Nat.le_of_ble_eq_true (by kernel_rfl)) rfl ?_
  refine vc_ok tab_ok mixed ?_
  have hT := tab_ok
  have hm := mixed
  generalize hP : Tryz.prog = P at *
  generalize hA : std = A
  obtain ⟨qbin, qsh, qcmp, qscmp, qbcmp, qbnot, qneg, qwrap, qcat, qssize, qssub, qsget, qlen, qrsub, qapp, qelt, qset, qnth, qdrp, qstr, qint, qbool, qrow, qnat, qnadd, qnsub, qband, qofNat, qstrRow, qmkRow, qmx, qmn, qbytes, qemp⟩ := A
  have hE := Ar.eqs hA
  dsimp only at hE
  generalize hQ : EndD P Tryz.f6.results _ = Q
  have hself : (∀ v : Int, qcmp .neq v v = false) ∧ (∀ v : ByteArray, qscmp .neq v v = false) ∧ (∀ v : Bool, qbnot (qbcmp v v) = false) ∧ qbnot true = false := by
    refine ⟨fun v => ?_, fun v => ?_, fun v => ?_, ?_⟩ <;> simp only [hE, std_neq, std_sneq, std_bcmp, std_not] <;> simp
  obtain ⟨hself1, hself2, hself3, hself4⟩ := hself
  obtain ⟨naD_nodes, hnaD_nodes⟩ : ∃ n, n = aD_nodes.length := ⟨_, rfl⟩
  have hl_aD_nodes : naD_nodes = xaD_nodes.length := by rw [hnaD_nodes, ← haD_nodes, List.length_map]
  obtain ⟨naD_entries, hnaD_entries⟩ : ∃ n, n = aD_entries.length := ⟨_, rfl⟩
  have hl_aD_entries : naD_entries = xaD_entries.length := by rw [hnaD_entries, ← haD_entries, List.length_map]
  obtain ⟨naD_old, hnaD_old⟩ : ∃ n, n = aD_old.length := ⟨_, rfl⟩
  have hl_aD_old : naD_old = xaD_old.length := by rw [hnaD_old, ← haD_old, List.length_map]
  obtain ⟨naD_steps, hnaD_steps⟩ : ∃ n, n = aD_steps.length := ⟨_, rfl⟩
  have hl_aD_steps : naD_steps = xaD_steps.length := by rw [hnaD_steps, ← haD_steps, List.length_map]
  cbv
  try simp only [nc] at *
  refine ClW.dd (f := 17) rfl rfl rfl rfl (.cons rfl (.cons rfl .nil)) rfl ent17_ (T17_ haD_nodes haD_entries haD_old haD_steps (by omega) (by omega) ok_aD) rfl ?_
  generalize hl0 : szOf (totDisk (⟨aD_nodes, aD_entries, aD_old, aD_steps, aD_room, aD_next⟩ : TDisk)) 1048576 = left0
  cbv
  try simp only [nc] at *
  split
  · cbv
    try simp only [nc] at *
    rw [← hQ]
    exact endD_one rfl rfl
  rename_i c1
  simp only [hE, List.length_map, std_lss, std_leq, std_gtr, std_geq, std_eql, std_neq, std_len, std_add, std_subI, std_mulI, std_ssize, std_not, std_band, std_bcmp, std_nat, std_ofNat, std_nadd, std_nsub, std_emp, IntKind.wrap_i64, decide_eq_true_eq, decide_eq_false_iff_not, Bool.not_eq_true', Bool.not_eq_false', Option.getD_none, Option.getD_some] at c1
  obtain ⟨g0, g0'⟩ := szOf_ge (t := totDisk (⟨aD_nodes, aD_entries, aD_old, aD_steps, aD_room, aD_next⟩ : TDisk)) (left := 1048576) (by omega)
  have nn0 := totDisk_nn (⟨aD_nodes, aD_entries, aD_old, aD_steps, aD_room, aD_next⟩ : TDisk)
  have bd_aD : totDisk (⟨aD_nodes, aD_entries, aD_old, aD_steps, aD_room, aD_next⟩ : TDisk) ≤ 1048576 := by omega
  cbv
  try simp only [nc] at *
  refine ClW.dd (f := 19) rfl rfl rfl rfl (.cons rfl .nil) rfl ent19_ (T19_ haD_nodes haD_entries haD_old haD_steps bd_aD) rfl ?_
  cbv
  try simp only [nc] at *
  obtain ⟨rr, hrr⟩ : ∃ rr, rr = rPlanLines (⟨aD_nodes, aD_entries, aD_old, aD_steps, aD_room, aD_next⟩ : TDisk) aVersion := ⟨_, rfl⟩
  have bd_rr : totStringS rr ≤ 549755813888 := by rw [hrr]; exact bPlanLines bd_aD wf_aD wf_aVersion
  have bl_rr := totStringS_len rr
  refine ClW.dd (f := 24) rfl rfl rfl rfl (.cons rfl (.cons rfl .nil)) rfl ent24_ (T24_ haD_nodes haD_entries haD_old haD_steps bd_aD wf_aD wf_aVersion) rfl ?_
  rw [← hrr]
  generalize hys : rr.map cS = ys
  obtain ⟨nr, hnr⟩ : ∃ n, n = rr.length := ⟨_, rfl⟩
  have hlr : nr = ys.length := by rw [hnr, ← hys, List.length_map]
  cbv
  try simp only [nc] at *
  refine ClW.ddA (f := 19) rfl rfl rfl rfl (.cons rfl .nil) rfl ent19_ (T19_R haD_nodes haD_entries haD_old haD_steps hnaD_nodes hnaD_entries hnaD_old hnaD_steps bd_aD) rfl rfl rfl (by simp [flat_row (fun _ => rfl) haD_nodes, flat_row (fun _ => rfl) haD_entries, flat_row (fun _ => rfl) haD_old, flat_row (fun _ => rfl) haD_steps]) ?_
  cbv
  try simp only [nc] at *
  have hfl : ([Root.row 1 false ((rPlanLines (⟨aD_nodes, aD_entries, aD_old, aD_steps, aD_room, aD_next⟩ : TDisk) aVersion).map cS)]).all Root.flat = true := flat_map (fun _ => rfl) _
  refine ClW.lntR (f := 25) rfl rfl rfl rfl (.cons rfl (.cons rfl .nil)) (.agg (.ref rfl hl_aD_nodes (.ref rfl hl_aD_entries (.ref rfl hl_aD_old (.ref rfl hl_aD_steps (.d rfl (.d rfl .nil)))))) (.d rfl .nil)) ent25_ (T25_R haD_nodes haD_entries haD_old haD_steps bd_aD wf_aD wf_aVersion) hfl ?_
  rw [← hrr, ← hnr, hys]
  cbv
  try simp only [nc] at *
  refine ClW.lnt (f := 26) rfl rfl rfl rfl (.cons rfl (.cons rfl .nil)) (.ref rfl hlr (.d rfl .nil)) ent26_ (T26_ hys (by omega)) rfl rfl ?_
  cbv
  try simp only [nc] at *
  rw [hself4]
  cbv
  try simp only [nc] at *
  refine ClW.dd (f := 19) rfl rfl rfl rfl (.cons rfl .nil) rfl ent19_ (T19_ haD_nodes haD_entries haD_old haD_steps bd_aD) rfl ?_
  cbv
  try simp only [nc] at *
  refine ClW.lnt (f := 21) rfl rfl rfl rfl (.cons rfl (.cons rfl .nil)) (.agg (.ref rfl hl_aD_nodes (.ref rfl hl_aD_entries (.ref rfl hl_aD_old (.ref rfl hl_aD_steps (.d rfl (.d rfl .nil)))))) (.d rfl .nil)) ent21_ (T21_ haD_nodes haD_entries haD_old haD_steps (by omega)) rfl rfl ?_
  cbv
  try simp only [nc] at *
  rw [hself4]
  cbv
  try simp only [nc] at *
  refine ClW.mutN (f := 27) (π := [1, 2, 3, 4]) rfl rfl rfl rfl (.cons rfl (.cons rfl .nil)) rfl ent27_ (T27_ haD_nodes haD_entries haD_old haD_steps hnaD_nodes hnaD_entries hnaD_old hnaD_steps bd_aD (k := 1) (by omega) (by omega)) rfl (by simp) rfl (by simp) rfl rfl (by simp) ?_
  generalize hkk15 : 1 + 3 * (naD_nodes : Int) + 2 * (naD_entries : Int) + 2 * (naD_old : Int) + 1 * (naD_steps : Int) = kk15
  generalize hmq15_0 : (mkRowNodeS (1) naD_nodes).map eNode = mq15_0
  generalize hmq15_1 : (mkRowEntryS (1 + 3 * (naD_nodes : Int)) naD_entries).map eEntry = mq15_1
  generalize hmq15_2 : (mkRowEntryS (1 + 3 * (naD_nodes : Int) + 2 * (naD_entries : Int)) naD_old).map eEntry = mq15_2
  generalize hmq15_3 : (mkRowStringS (1 + 3 * (naD_nodes : Int) + 2 * (naD_entries : Int) + 2 * (naD_old : Int)) naD_steps).map cS = mq15_3
  cbv
  try simp only [nc] at *
  rw [show qcmp .lss kk15 0 = false by simp only [hE, List.length_map, std_lss, std_leq, std_gtr, std_geq, std_eql, std_neq, std_len, std_add, std_subI, std_mulI, std_ssize, std_not, std_band, std_bcmp, std_nat, std_ofNat, std_nadd, std_nsub, std_emp, IntKind.wrap_i64, decide_eq_true_eq, decide_eq_false_iff_not, Bool.not_eq_true', Bool.not_eq_false', Option.getD_none, Option.getD_some, ]; omega]
  cbv
  try simp only [nc] at *
  refine ClW.lnt (f := 26) rfl rfl rfl rfl (.cons rfl (.cons rfl .nil)) (.ref rfl hlr (.d rfl .nil)) ent26_ (T26_ hys (by omega)) rfl rfl ?_
  cbv
  try simp only [nc] at *
  rw [hself4]
  cbv
  try simp only [nc] at *
  refine ClW.mut1 (f := 28) rfl rfl rfl rfl (.cons rfl (.cons rfl .nil)) rfl ent28_ (T28_ hys hnr (by omega) 1 (by omega) (by omega)) rfl ?_
  generalize hkk20 : (1 : Int) + 1 * (nr : Int) = kk20
  generalize hmk20 : (mkRowStringS 1 nr).map cS = ms20
  have hms20 : nr = ms20.length := by rw [← hmk20, List.length_map, mkRowStringS_length]
  cbv
  try simp only [nc] at *
  refine ClW.lnt (f := 29) rfl rfl rfl rfl (.cons rfl (.cons rfl .nil)) (.ref rfl hms20 (.d rfl .nil)) ent29_ (T29_ (n := nr) (k := 1) hmk20 (by omega) (by omega) (by omega)) rfl rfl ?_
  rw [show (1 : Int) + 1 * (nr : Int) = kk20 by omega]
  cbv
  try simp only [nc] at *
  rw [show qcmp .lss kk20 0 = false by simp only [hE, List.length_map, std_lss, std_leq, std_gtr, std_geq, std_eql, std_neq, std_len, std_add, std_subI, std_mulI, std_ssize, std_not, std_band, std_bcmp, std_nat, std_ofNat, std_nadd, std_nsub, std_emp, IntKind.wrap_i64, decide_eq_true_eq, decide_eq_false_iff_not, Bool.not_eq_true', Bool.not_eq_false', Option.getD_none, Option.getD_some, ]; omega]
  cbv
  try simp only [nc] at *
  rw [hself1]
  cbv
  try simp only [nc] at *
  refine ClW.dd (f := 19) rfl rfl rfl rfl (.cons rfl .nil) rfl ent19_ (T19_ haD_nodes haD_entries haD_old haD_steps bd_aD) rfl ?_
  cbv
  try simp only [nc] at *
  refine ClW.lntR (f := 25) rfl rfl rfl rfl (.cons rfl (.cons rfl .nil)) (.d rfl (.d rfl .nil)) ent25_ (T25_R haD_nodes haD_entries haD_old haD_steps bd_aD wf_aD wf_aVersion) hfl ?_
  rw [← hrr, ← hnr, hys]
  cbv
  try simp only [nc] at *
  refine ClW.lnt (f := 26) rfl rfl rfl rfl (.cons rfl (.cons rfl .nil)) (.ref rfl hlr (.d rfl .nil)) ent26_ (T26_ hys (by omega)) rfl rfl ?_
  cbv
  try simp only [nc] at *
  rw [hself4]
  cbv
  try simp only [nc] at *
  refine ClW.lnt (f := 29) rfl rfl rfl rfl (.cons rfl (.cons rfl .nil)) (.ref rfl hms20 (.d rfl .nil)) ent29_ (T29_ (n := nr) (k := 1) hmk20 (by omega) (by omega) (by omega)) rfl rfl ?_
  rw [show (1 : Int) + 1 * (nr : Int) = kk20 by omega]
  cbv
  try simp only [nc] at *
  rw [show qcmp .lss kk20 0 = false by simp only [hE, List.length_map, std_lss, std_leq, std_gtr, std_geq, std_eql, std_neq, std_len, std_add, std_subI, std_mulI, std_ssize, std_not, std_band, std_bcmp, std_nat, std_ofNat, std_nadd, std_nsub, std_emp, IntKind.wrap_i64, decide_eq_true_eq, decide_eq_false_iff_not, Bool.not_eq_true', Bool.not_eq_false', Option.getD_none, Option.getD_some, ]; omega]
  cbv
  try simp only [nc] at *
  rw [hself1]
  cbv
  try simp only [nc] at *
  rw [← hQ]
  exact endD_one rfl rfl
end Go.Proofs.YtmhinjjgpabkfaaGreatDoor.Ab
