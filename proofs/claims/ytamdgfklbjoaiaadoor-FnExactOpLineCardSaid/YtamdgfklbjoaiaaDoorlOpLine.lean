/- What functions of the program come to, for all arguments in the given bounds. -/
import Derived.Test.YtamdgfklbjoaiaaDoorch29
import Derived.Test.YtamdgfklbjoaiaaDoorHsz
import Derived.Test.YtamdgfklbjoaiaaDoorHto
import Derived.Test.YtamdgfklbjoaiaaDoorHeq
set_option linter.unusedVariables false
set_option linter.unusedSimpArgs false
namespace Go.Proofs.YtamdgfklbjoaiaaDoor.Ab
open Go Go.Proofs
set_option maxRecDepth 20000
set_option maxHeartbeats 4000000
set_option linter.unusedSimpArgs false
set_option linter.unusedVariables false
noncomputable def c11 : Code := (Tryd.f11.body).getD .skip
theorem ent11 : Entered Tryd.prog 11 := ⟨_, Tryd.func11, rfl, rfl⟩
theorem T11 {aX_kind : Int} {aX_name : ByteArray} {aX_to : ByteArray} {aX_text : ByteArray} (hb : totOp ⟨aX_kind, aX_name, aX_to, aX_text⟩ ≤ 1048576) : CallOk Tryd.prog 11 [.agg [.d (.sc (.int .i64 aX_kind)), .d (.sc (.string aX_name)), .d (.sc (.string aX_to)), .d (.sc (.string aX_text))]] [] ⟨.d (.sc (.string (rOpLine ⟨aX_kind, aX_name, aX_to, aX_text⟩))), [], []⟩ := by
  have hb2 : (aX_name.size : Int) + (aX_to.size : Int) + (aX_text.size : Int) ≤ 1048576 := hb
  exact (FsOpLine  (by omega) rfl).ok
noncomputable def c13 : Code := (Tryd.f13.body).getD .skip
theorem ent13 : Entered Tryd.prog 13 := ⟨_, Tryd.func13, rfl, rfl⟩
theorem T13 {aX_kind : Int} {aX_name : ByteArray} {aX_to : ByteArray} {aX_text : ByteArray} (hb : totOp ⟨aX_kind, aX_name, aX_to, aX_text⟩ ≤ 1048576) : CallOk Tryd.prog 13 [.agg [.d (.sc (.int .i64 aX_kind)), .d (.sc (.string aX_name)), .d (.sc (.string aX_to)), .d (.sc (.string aX_text))]] [] ⟨.d (.sc (.string (rOpLine ⟨aX_kind, aX_name, aX_to, aX_text⟩))), [], []⟩ := by
  have hb2 : (aX_name.size : Int) + (aX_to.size : Int) + (aX_text.size : Int) ≤ 1048576 := hb
  exact (FiOpLine  (by omega) rfl).ok
noncomputable def c4 : Code := (Tryd.f4.body).getD .skip
theorem ent4 : Entered Tryd.prog 4 := ⟨_, Tryd.func4, rfl, rfl⟩
theorem T4 {aX_kind : Int} {aX_name : ByteArray} {aX_to : ByteArray} {aX_text : ByteArray} (ok_aX : okOp ⟨aX_kind, aX_name, aX_to, aX_text⟩) (wf_aX : wfOp ⟨aX_kind, aX_name, aX_to, aX_text⟩) : CallOk Tryd.prog 4 [.agg [.d (.sc (.int .i64 aX_kind)), .d (.sc (.string aX_name)), .d (.sc (.string aX_to)), .d (.sc (.string aX_text))]] [] ⟨.d (.sc (.bool true)), [], []⟩ := by
  have ent10_ := ent10
  have T10_ := @T10
  have ent11_ := ent11
  have T11_ := @T11
  have ent12_ := ent12
  have T12_ := @T12
  have ent13_ := ent13
  have T13_ := @T13
  refine CallOk.of_bodyD (body := c4) Tryd.func4 rfl (Nat.le_of_ble_eq_true (by kernel_rfl)) rfl ?_
  refine vc_ok tab_ok mixed ?_
  have hT := tab_ok
  have hm := mixed
  generalize hP : Tryd.prog = P at *
  generalize hA : std = A
  obtain ⟨qbin, qsh, qcmp, qscmp, qbcmp, qbnot, qneg, qwrap, qcat, qssize, qssub, qsget, qlen, qrsub, qapp, qelt, qset, qnth, qdrp, qstr, qint, qbool, qrow, qnat, qnadd, qnsub, qband, qofNat, qstrRow, qmkRow, qmx, qmn, qbytes, qemp⟩ := A
  have hE := Ar.eqs hA
  dsimp only at hE
  generalize hQ : EndD P Tryd.f4.results _ = Q
  have hself : (∀ v : Int, qcmp .neq v v = false) ∧ (∀ v : ByteArray, qscmp .neq v v = false) ∧ (∀ v : Bool, qbnot (qbcmp v v) = false) ∧ qbnot true = false := by
    refine ⟨fun v => ?_, fun v => ?_, fun v => ?_, ?_⟩ <;> simp only [hE, std_neq, std_sneq, std_bcmp, std_not] <;> simp
  obtain ⟨hself1, hself2, hself3, hself4⟩ := hself
  cbv
  try simp only [nc] at *
  refine ClW.dd (f := 10) rfl rfl rfl rfl (.cons rfl (.cons rfl .nil)) rfl ent10_ (T10_ (by omega) (by omega) ok_aX) rfl ?_
  generalize hl0 : szOf (totOp (⟨aX_kind, aX_name, aX_to, aX_text⟩ : TOp)) 1048576 = left0
  cbv
  try simp only [nc] at *
  split
  · cbv
    try simp only [nc] at *
    rw [← hQ]
    exact endD_one rfl rfl
  rename_i c1
  simp only [hE, List.length_map, std_lss, std_leq, std_gtr, std_geq, std_eql, std_neq, std_len, std_add, std_subI, std_mulI, std_ssize, std_not, std_band, std_bcmp, std_nat, std_ofNat, std_nadd, std_nsub, std_emp, IntKind.wrap_i64, decide_eq_true_eq, decide_eq_false_iff_not, Bool.not_eq_true', Bool.not_eq_false', Option.getD_none, Option.getD_some] at c1
  obtain ⟨g0, g0'⟩ := szOf_ge (t := totOp (⟨aX_kind, aX_name, aX_to, aX_text⟩ : TOp)) (left := 1048576) (by omega)
  have nn0 := totOp_nn (⟨aX_kind, aX_name, aX_to, aX_text⟩ : TOp)
  have bd_aX : totOp (⟨aX_kind, aX_name, aX_to, aX_text⟩ : TOp) ≤ 1048576 := by omega
  cbv
  try simp only [nc] at *
  refine ClW.dd (f := 12) rfl rfl rfl rfl (.cons rfl .nil) rfl ent12_ (T12_ bd_aX) rfl ?_
  cbv
  try simp only [nc] at *
  refine ClW.dd (f := 11) rfl rfl rfl rfl (.cons rfl .nil) rfl ent11_ (T11_ bd_aX) rfl ?_
  generalize hr : rOpLine (⟨aX_kind, aX_name, aX_to, aX_text⟩ : TOp) = r
  cbv
  try simp only [nc] at *
  refine ClW.dd (f := 12) rfl rfl rfl rfl (.cons rfl .nil) rfl ent12_ (T12_ bd_aX) rfl ?_
  cbv
  try simp only [nc] at *
  refine ClW.dd (f := 13) rfl rfl rfl rfl (.cons rfl .nil) rfl ent13_ (T13_ bd_aX) rfl ?_
  rw [hr]
  cbv
  try simp only [nc] at *
  rw [hself2]
  cbv
  try simp only [nc] at *
  rw [← hQ]
  exact endD_one rfl rfl
end Go.Proofs.YtamdgfklbjoaiaaDoor.Ab
