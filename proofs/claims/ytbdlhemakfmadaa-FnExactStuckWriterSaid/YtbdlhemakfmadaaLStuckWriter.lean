/- What functions of the program come to, for all arguments in the given bounds. -/
import Derived.Test.YtbdlhemakfmadaaFB
set_option linter.unusedVariables false
set_option linter.unusedSimpArgs false
namespace Go.Proofs.Ytbdlhemakfmadaa.Ab
open Go Go.Proofs
set_option maxRecDepth 20000
noncomputable def c6 : Code := (Try.f6.body).getD .skip
theorem ent6 : Entered Try.prog 6 := ⟨_, Try.func6, rfl, rfl⟩
theorem T6 {aW_version : Int} {aW_stride : Int} {aW_roll : Int} {aW_base : Int} {aW_link : Int} {aW_offsets : List Int} {xaW_offsets : List (List D)} (haW_offsets : aW_offsets.map cI = xaW_offsets) {aW_end : Int} {aW_open : Bool} {aW_code : Int} (ok_aW : okWriter ⟨aW_version, aW_stride, aW_roll, aW_base, aW_link, aW_offsets, aW_end, aW_open, aW_code⟩) : CallOk Try.prog 6 [.agg [.d (.sc (.int .i64 aW_version)), .d (.sc (.int .i64 aW_stride)), .d (.sc (.int .i64 aW_roll)), .d (.sc (.int .i64 aW_base)), .d (.sc (.int .i64 aW_link)), .d (.row 1 xaW_offsets), .d (.sc (.int .i64 aW_end)), .d (.sc (.bool aW_open)), .d (.sc (.int .i64 aW_code))]] [] ⟨.d (.sc (.bool true)), [], []⟩ := by
  have ent20_ := ent20
  have T20_ := @T20
  have ent21_ := ent21
  have T21_ := @T21
  have ent22_ := ent22
  have T22_ := @T22
  have ent23_ := ent23
  have T23_ := @T23
  have ent24_ := ent24
  have T24_ := @T24
  refine CallOk.of_bodyD (body := c6) Try.func6 rfl (Nat.le_of_ble_eq_true (by kernel_rfl)) rfl ?_
  refine vc_ok tab_ok mixed ?_
  have hT := tab_ok
  have hm := mixed
  generalize hP : Try.prog = P at *
  generalize hA : std = A
  obtain ⟨qbin, qsh, qcmp, qscmp, qbcmp, qbnot, qneg, qwrap, qcat, qssize, qssub, qsget, qlen, qrsub, qapp, qelt, qset, qnth, qdrp, qstr, qint, qbool, qrow, qnat, qnadd, qnsub, qband, qofNat, qstrRow, qmkRow, qmx, qmn, qbytes⟩ := A
  have hE := Ar.eqs hA
  dsimp only at hE
  generalize hQ : EndD P Try.f6.results _ = Q
  have hself : (∀ v : Int, qcmp .neq v v = false) ∧ (∀ v : ByteArray, qscmp .neq v v = false) ∧ (∀ v : Bool, qbnot (qbcmp v v) = false) ∧ qbnot true = false := by
    refine ⟨fun v => ?_, fun v => ?_, fun v => ?_, ?_⟩ <;> simp only [hE, std_neq, std_sneq, std_bcmp, std_not] <;> simp
  obtain ⟨hself1, hself2, hself3, hself4⟩ := hself
  cbv
  try simp only [nc] at *
  refine ClW.dd (f := 20) rfl rfl rfl rfl (.cons rfl (.cons rfl .nil)) rfl ent20_ (T20_ haW_offsets (by omega) (by omega) ok_aW) rfl ?_
  generalize hl0 : szOf (totWriter (⟨aW_version, aW_stride, aW_roll, aW_base, aW_link, aW_offsets, aW_end, aW_open, aW_code⟩ : TWriter)) 1048576 = left0
  cbv
  try simp only [nc] at *
  split
  · cbv
    try simp only [nc] at *
    rw [← hQ]
    exact endD_one rfl rfl
  rename_i c1
  simp only [hE, List.length_map, std_lss, std_leq, std_gtr, std_geq, std_eql, std_neq, std_len, std_add, std_subI, std_mulI, std_ssize, std_not, std_band, std_bcmp, std_nat, std_ofNat, std_nadd, std_nsub, IntKind.wrap_i64, decide_eq_true_eq, decide_eq_false_iff_not, Bool.not_eq_true', Bool.not_eq_false', Option.getD_none, Option.getD_some] at c1
  obtain ⟨g0, g0'⟩ := szOf_ge (t := totWriter (⟨aW_version, aW_stride, aW_roll, aW_base, aW_link, aW_offsets, aW_end, aW_open, aW_code⟩ : TWriter)) (left := 1048576) (by omega)
  have nn0 := totWriter_nn (⟨aW_version, aW_stride, aW_roll, aW_base, aW_link, aW_offsets, aW_end, aW_open, aW_code⟩ : TWriter)
  have bd_aW : totWriter (⟨aW_version, aW_stride, aW_roll, aW_base, aW_link, aW_offsets, aW_end, aW_open, aW_code⟩ : TWriter) ≤ 1048576 := by omega
  cbv
  try simp only [nc] at *
  refine ClW.dd (f := 22) rfl rfl rfl rfl (.cons rfl .nil) rfl ent22_ (T22_ haW_offsets bd_aW) rfl ?_
  cbv
  try simp only [nc] at *
  refine ClW.dd (f := 21) rfl rfl rfl rfl (.cons rfl .nil) rfl ent21_ (T21_ haW_offsets bd_aW) rfl ?_
  generalize hr : rStuckWriter (⟨aW_version, aW_stride, aW_roll, aW_base, aW_link, aW_offsets, aW_end, aW_open, aW_code⟩ : TWriter) = r
  cbv
  try simp only [nc] at *
  refine ClW.dd (f := 22) rfl rfl rfl rfl (.cons rfl .nil) rfl ent22_ (T22_ haW_offsets bd_aW) rfl ?_
  cbv
  try simp only [nc] at *
  refine ClW.dd (f := 23) rfl rfl rfl rfl (.cons rfl .nil) rfl ent23_ (T23_ haW_offsets bd_aW) rfl ?_
  rw [hr]
  cbv
  try simp only [nc] at *
  rw [hself3]
  cbv
  try simp only [nc] at *
  refine ClW.dd (f := 22) rfl rfl rfl rfl (.cons rfl .nil) rfl ent22_ (T22_ haW_offsets bd_aW) rfl ?_
  cbv
  try simp only [nc] at *
  refine ClW.dd (f := 24) rfl rfl rfl rfl (.cons rfl (.cons rfl .nil)) rfl ent24_ (T24_ haW_offsets bd_aW) rfl ?_
  cbv
  try simp only [nc] at *
  rw [hself4]
  cbv
  try simp only [nc] at *
  rw [← hQ]
  exact endD_one rfl rfl
end Go.Proofs.Ytbdlhemakfmadaa.Ab
