/- What functions of the program come to, for all arguments in the given bounds. -/
import Derived.Test.YtamdgfklbjoaiaaEch26c
import Derived.Test.YtamdgfklbjoaiaaHS
import Derived.Test.YtamdgfklbjoaiaaHT
import Derived.Test.YtamdgfklbjoaiaaHE
set_option linter.unusedVariables false
set_option linter.unusedSimpArgs false
namespace Go.Proofs.Ytamdgfklbjoaiaa.Ab
open Go Go.Proofs
set_option maxRecDepth 20000
set_option maxHeartbeats 4000000
set_option linter.unusedSimpArgs false
set_option linter.unusedVariables false
noncomputable def c39 : Code := (Try.f39.body).getD .skip
theorem ent39 : Entered Try.prog 39 := ⟨_, Try.func39, rfl, rfl⟩
theorem T39 {aW_version : Int} {aW_stride : Int} {aW_roll : Int} {aW_base : Int} {aW_link : Int} {aW_offsets : List Int} {xaW_offsets : List (List D)} (haW_offsets : aW_offsets.map cI = xaW_offsets) {aW_end : Int} {aW_open : Bool} {aW_code : Int} {aRecord : ByteArray} (hb : totWriter ⟨aW_version, aW_stride, aW_roll, aW_base, aW_link, aW_offsets, aW_end, aW_open, aW_code⟩ ≤ 1048576) (hs : (aRecord.size : Int) ≤ 1048576) (hw : wfWriter ⟨aW_version, aW_stride, aW_roll, aW_base, aW_link, aW_offsets, aW_end, aW_open, aW_code⟩) : CallOk Try.prog 39 [.agg [.d (.sc (.int .i64 aW_version)), .d (.sc (.int .i64 aW_stride)), .d (.sc (.int .i64 aW_roll)), .d (.sc (.int .i64 aW_base)), .d (.sc (.int .i64 aW_link)), .d (.row 1 xaW_offsets), .d (.sc (.int .i64 aW_end)), .d (.sc (.bool aW_open)), .d (.sc (.int .i64 aW_code))], .d (.sc (.string aRecord))] [] ⟨.d (.sc (.int .i64 (rCostOf ⟨aW_version, aW_stride, aW_roll, aW_base, aW_link, aW_offsets, aW_end, aW_open, aW_code⟩ aRecord))), [], []⟩ := by
  obtain ⟨w1, w2, w3, w4, w5, w6, w7, w8⟩ := hw
  have hb' : (aW_offsets.length : Int) ≤ 1048576 := hb
  exact (FsCostOf haW_offsets (by omega) w6 w7.2 (by omega) rfl).ok
noncomputable def c41 : Code := (Try.f41.body).getD .skip
theorem ent41 : Entered Try.prog 41 := ⟨_, Try.func41, rfl, rfl⟩
theorem T41 {aW_version : Int} {aW_stride : Int} {aW_roll : Int} {aW_base : Int} {aW_link : Int} {aW_offsets : List Int} {xaW_offsets : List (List D)} (haW_offsets : aW_offsets.map cI = xaW_offsets) {aW_end : Int} {aW_open : Bool} {aW_code : Int} {aRecord : ByteArray} (hb : totWriter ⟨aW_version, aW_stride, aW_roll, aW_base, aW_link, aW_offsets, aW_end, aW_open, aW_code⟩ ≤ 1048576) (hs : (aRecord.size : Int) ≤ 1048576) (hw : wfWriter ⟨aW_version, aW_stride, aW_roll, aW_base, aW_link, aW_offsets, aW_end, aW_open, aW_code⟩) : CallOk Try.prog 41 [.agg [.d (.sc (.int .i64 aW_version)), .d (.sc (.int .i64 aW_stride)), .d (.sc (.int .i64 aW_roll)), .d (.sc (.int .i64 aW_base)), .d (.sc (.int .i64 aW_link)), .d (.row 1 xaW_offsets), .d (.sc (.int .i64 aW_end)), .d (.sc (.bool aW_open)), .d (.sc (.int .i64 aW_code))], .d (.sc (.string aRecord))] [] ⟨.d (.sc (.int .i64 (rCostOf ⟨aW_version, aW_stride, aW_roll, aW_base, aW_link, aW_offsets, aW_end, aW_open, aW_code⟩ aRecord))), [], []⟩ := by
  obtain ⟨w1, w2, w3, w4, w5, w6, w7, w8⟩ := hw
  have hb' : (aW_offsets.length : Int) ≤ 1048576 := hb
  exact (FiCostOf haW_offsets (by omega) w6 w7.2 (by omega) rfl).ok
noncomputable def c8 : Code := (Try.f8.body).getD .skip
theorem ent8 : Entered Try.prog 8 := ⟨_, Try.func8, rfl, rfl⟩
theorem T8 {aW_version : Int} {aW_stride : Int} {aW_roll : Int} {aW_base : Int} {aW_link : Int} {aW_offsets : List Int} {xaW_offsets : List (List D)} (haW_offsets : aW_offsets.map cI = xaW_offsets) {aW_end : Int} {aW_open : Bool} {aW_code : Int} {aRecord : ByteArray} (ok_aW : okWriter ⟨aW_version, aW_stride, aW_roll, aW_base, aW_link, aW_offsets, aW_end, aW_open, aW_code⟩) (wf_aW : wfWriter ⟨aW_version, aW_stride, aW_roll, aW_base, aW_link, aW_offsets, aW_end, aW_open, aW_code⟩) (ok_aRecord : aRecord.size < 2 ^ 47) : CallOk Try.prog 8 [.agg [.d (.sc (.int .i64 aW_version)), .d (.sc (.int .i64 aW_stride)), .d (.sc (.int .i64 aW_roll)), .d (.sc (.int .i64 aW_base)), .d (.sc (.int .i64 aW_link)), .d (.row 1 xaW_offsets), .d (.sc (.int .i64 aW_end)), .d (.sc (.bool aW_open)), .d (.sc (.int .i64 aW_code))], .d (.sc (.string aRecord))] [] ⟨.d (.sc (.bool true)), [], []⟩ := by
  have ent38_ := ent38
  have T38_ := @T38
  have ent39_ := ent39
  have T39_ := @T39
  have ent40_ := ent40
  have T40_ := @T40
  have ent41_ := ent41
  have T41_ := @T41
  have ent42_ := ent42
  have T42_ := @T42
  refine CallOk.of_bodyD (body := c8) Try.func8 rfl (Nat.le_of_ble_eq_true (by kernel_rfl)) rfl ?_
  refine vc_ok tab_ok mixed ?_
  have hT := tab_ok
  have hm := mixed
  generalize hP : Try.prog = P at *
  generalize hA : std = A
  obtain ⟨qbin, qsh, qcmp, qscmp, qbcmp, qbnot, qneg, qwrap, qcat, qssize, qssub, qsget, qlen, qrsub, qapp, qelt, qset, qnth, qdrp, qstr, qint, qbool, qrow, qnat, qnadd, qnsub, qband, qofNat, qstrRow, qmkRow, qmx, qmn, qbytes, qemp⟩ := A
  have hE := Ar.eqs hA
  dsimp only at hE
  generalize hQ : EndD P Try.f8.results _ = Q
  have hself : (∀ v : Int, qcmp .neq v v = false) ∧ (∀ v : ByteArray, qscmp .neq v v = false) ∧ (∀ v : Bool, qbnot (qbcmp v v) = false) ∧ qbnot true = false := by
    refine ⟨fun v => ?_, fun v => ?_, fun v => ?_, ?_⟩ <;> simp only [hE, std_neq, std_sneq, std_bcmp, std_not] <;> simp
  obtain ⟨hself1, hself2, hself3, hself4⟩ := hself
  cbv
  try simp only [nc] at *
  split
  · cbv
    try simp only [nc] at *
    rw [← hQ]
    exact endD_one rfl rfl
  rename_i c0
  simp only [hE, List.length_map, std_lss, std_leq, std_gtr, std_geq, std_eql, std_neq, std_len, std_add, std_subI, std_mulI, std_ssize, std_not, std_band, std_bcmp, std_nat, std_ofNat, std_nadd, std_nsub, std_emp, IntKind.wrap_i64, decide_eq_true_eq, decide_eq_false_iff_not, Bool.not_eq_true', Bool.not_eq_false', Option.getD_none, Option.getD_some] at c0
  have bd_aRecord : (aRecord.size : Int) ≤ 1048576 := by omega
  cbv
  try simp only [nc] at *
  refine ClW.dd (f := 38) rfl rfl rfl rfl (.cons rfl (.cons rfl .nil)) rfl ent38_ (T38_ haW_offsets (by omega) (by omega) ok_aW) rfl ?_
  generalize hl0 : szOf (totWriter (⟨aW_version, aW_stride, aW_roll, aW_base, aW_link, aW_offsets, aW_end, aW_open, aW_code⟩ : TWriter)) 1048576 = left0
  cbv
  try simp only [nc] at *
  split
  · cbv
    try simp only [nc] at *
    rw [← hQ]
    exact endD_one rfl rfl
  rename_i c4
  simp only [hE, List.length_map, std_lss, std_leq, std_gtr, std_geq, std_eql, std_neq, std_len, std_add, std_subI, std_mulI, std_ssize, std_not, std_band, std_bcmp, std_nat, std_ofNat, std_nadd, std_nsub, std_emp, IntKind.wrap_i64, decide_eq_true_eq, decide_eq_false_iff_not, Bool.not_eq_true', Bool.not_eq_false', Option.getD_none, Option.getD_some] at c4
  obtain ⟨g0, g0'⟩ := szOf_ge (t := totWriter (⟨aW_version, aW_stride, aW_roll, aW_base, aW_link, aW_offsets, aW_end, aW_open, aW_code⟩ : TWriter)) (left := 1048576) (by omega)
  have nn0 := totWriter_nn (⟨aW_version, aW_stride, aW_roll, aW_base, aW_link, aW_offsets, aW_end, aW_open, aW_code⟩ : TWriter)
  have bd_aW : totWriter (⟨aW_version, aW_stride, aW_roll, aW_base, aW_link, aW_offsets, aW_end, aW_open, aW_code⟩ : TWriter) ≤ 1048576 := by omega
  cbv
  try simp only [nc] at *
  refine ClW.dd (f := 40) rfl rfl rfl rfl (.cons rfl .nil) rfl ent40_ (T40_ haW_offsets bd_aW) rfl ?_
  cbv
  try simp only [nc] at *
  refine ClW.dd (f := 39) rfl rfl rfl rfl (.cons rfl (.cons rfl .nil)) rfl ent39_ (T39_ haW_offsets bd_aW bd_aRecord wf_aW) rfl ?_
  generalize hr : rCostOf (⟨aW_version, aW_stride, aW_roll, aW_base, aW_link, aW_offsets, aW_end, aW_open, aW_code⟩ : TWriter) aRecord = r
  cbv
  try simp only [nc] at *
  refine ClW.dd (f := 40) rfl rfl rfl rfl (.cons rfl .nil) rfl ent40_ (T40_ haW_offsets bd_aW) rfl ?_
  cbv
  try simp only [nc] at *
  refine ClW.dd (f := 41) rfl rfl rfl rfl (.cons rfl (.cons rfl .nil)) rfl ent41_ (T41_ haW_offsets bd_aW bd_aRecord wf_aW) rfl ?_
  rw [hr]
  cbv
  try simp only [nc] at *
  rw [hself1]
  cbv
  try simp only [nc] at *
  refine ClW.dd (f := 40) rfl rfl rfl rfl (.cons rfl .nil) rfl ent40_ (T40_ haW_offsets bd_aW) rfl ?_
  cbv
  try simp only [nc] at *
  refine ClW.dd (f := 42) rfl rfl rfl rfl (.cons rfl (.cons rfl .nil)) rfl ent42_ (T42_ haW_offsets (by omega)) rfl ?_
  cbv
  try simp only [nc] at *
  rw [hself4]
  cbv
  try simp only [nc] at *
  rw [← hQ]
  exact endD_one rfl rfl
end Go.Proofs.Ytamdgfklbjoaiaa.Ab
