/- What functions of the program come to, for all arguments in the given bounds. -/
import Derived.Test.YtamdgfklbjoaiaaEch12b
import Derived.Test.YtamdgfklbjoaiaaHS
import Derived.Test.YtamdgfklbjoaiaaHT
import Derived.Test.YtamdgfklbjoaiaaHE
set_option linter.unusedVariables false
set_option linter.unusedSimpArgs false
namespace Go.Proofs.Ytamdgfklbjoaiaa.Ab
open Go Go.Proofs
set_option maxRecDepth 20000
set_option maxHeartbeats 4000000
set_option linter.unusedSimpArgs false
set_option linter.unusedVariables false
noncomputable def c49 : Code := (Try.f49.body).getD .skip
theorem ent49 : Entered Try.prog 49 := ⟨_, Try.func49, rfl, rfl⟩
theorem T49 {aB : ByteArray} (hs : (aB.size : Int) ≤ 1048576) : CallOk Try.prog 49 [.d (.sc (.string aB))] [] ⟨.d (.sc (.int .i64 (rFootBytes aB))), [], []⟩ := by
  exact (FsFootBytes (by omega) rfl).ok
noncomputable def c50 : Code := (Try.f50.body).getD .skip
theorem ent50 : Entered Try.prog 50 := ⟨_, Try.func50, rfl, rfl⟩
theorem T50 {aB : ByteArray} (hs : (aB.size : Int) ≤ 1048576) : CallOk Try.prog 50 [.d (.sc (.string aB))] [] ⟨.d (.sc (.int .i64 (rFootBytes aB))), [], []⟩ := by
  exact (FiFootBytes (by omega) rfl).ok
noncomputable def c10 : Code := (Try.f10.body).getD .skip
theorem ent10 : Entered Try.prog 10 := ⟨_, Try.func10, rfl, rfl⟩
theorem T10 {aB : ByteArray} (ok_aB : aB.size < 2 ^ 47) : CallOk Try.prog 10 [.d (.sc (.string aB))] [] ⟨.d (.sc (.bool true)), [], []⟩ := by
  have ent49_ := ent49
  have T49_ := @T49
  have ent50_ := ent50
  have T50_ := @T50
  refine CallOk.of_bodyD (body := c10) Try.func10 rfl (Nat.le_of_ble_eq_true (by kernel_rfl)) rfl ?_
  refine vc_ok tab_ok mixed ?_
  have hT := tab_ok
  have hm := mixed
  generalize hP : Try.prog = P at *
  generalize hA : std = A
  obtain ⟨qbin, qsh, qcmp, qscmp, qbcmp, qbnot, qneg, qwrap, qcat, qssize, qssub, qsget, qlen, qrsub, qapp, qelt, qset, qnth, qdrp, qstr, qint, qbool, qrow, qnat, qnadd, qnsub, qband, qofNat, qstrRow, qmkRow, qmx, qmn, qbytes, qemp⟩ := A
  have hE := Ar.eqs hA
  dsimp only at hE
  generalize hQ : EndD P Try.f10.results _ = Q
  have hself : (∀ v : Int, qcmp .neq v v = false) ∧ (∀ v : ByteArray, qscmp .neq v v = false) ∧ (∀ v : Bool, qbnot (qbcmp v v) = false) ∧ qbnot true = false := by
    refine ⟨fun v => ?_, fun v => ?_, fun v => ?_, ?_⟩ <;> simp only [hE, std_neq, std_sneq, std_bcmp, std_not] <;> simp
  obtain ⟨hself1, hself2, hself3, hself4⟩ := hself
  cbv
  try simp only [nc] at *
  split
  · cbv
    try simp only [nc] at *
    rw [← hQ]
    exact endD_one rfl rfl
  rename_i c0
  simp only [hE, List.length_map, std_lss, std_leq, std_gtr, std_geq, std_eql, std_neq, std_len, std_add, std_subI, std_mulI, std_ssize, std_not, std_band, std_bcmp, std_nat, std_ofNat, std_nadd, std_nsub, std_emp, IntKind.wrap_i64, decide_eq_true_eq, decide_eq_false_iff_not, Bool.not_eq_true', Bool.not_eq_false', Option.getD_none, Option.getD_some] at c0
  have bd_aB : (aB.size : Int) ≤ 1048576 := by omega
  cbv
  try simp only [nc] at *
  refine ClW.dd (f := 49) rfl rfl rfl rfl (.cons rfl .nil) rfl ent49_ (T49_ bd_aB) rfl ?_
  generalize hr : rFootBytes aB = r
  cbv
  try simp only [nc] at *
  refine ClW.dd (f := 50) rfl rfl rfl rfl (.cons rfl .nil) rfl ent50_ (T50_ bd_aB) rfl ?_
  rw [hr]
  cbv
  try simp only [nc] at *
  rw [hself1]
  cbv
  try simp only [nc] at *
  rw [← hQ]
  exact endD_one rfl rfl
end Go.Proofs.Ytamdgfklbjoaiaa.Ab
