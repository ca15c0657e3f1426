/- What functions of the program come to, for all arguments in the given bounds. -/
import Derived.Test.YtamdgfklbjoaiaaDoorch29
import Derived.Test.YtamdgfklbjoaiaaDoorHsz
import Derived.Test.YtamdgfklbjoaiaaDoorHto
import Derived.Test.YtamdgfklbjoaiaaDoorHeq
set_option linter.unusedVariables false
set_option linter.unusedSimpArgs false
namespace Go.Proofs.YtamdgfklbjoaiaaDoor.Ab
open Go Go.Proofs
set_option maxRecDepth 20000
set_option maxHeartbeats 4000000
set_option linter.unusedSimpArgs false
set_option linter.unusedVariables false
noncomputable def c7 : Code := (Tryd.f7.body).getD .skip
theorem ent7 : Entered Tryd.prog 7 := ⟨_, Tryd.func7, rfl, rfl⟩
theorem T7 {aS_room : Int} {aS_version : Int} {aS_stride : Int} {aS_roll : Int} : CallOk Tryd.prog 7 [.agg [.d (.sc (.int .i64 aS_room)), .d (.sc (.int .i64 aS_version)), .d (.sc (.int .i64 aS_stride)), .d (.sc (.int .i64 aS_roll))]] [] ⟨.d (.sc (.string (rSetLine ⟨aS_room, aS_version, aS_stride, aS_roll⟩))), [], []⟩ := by
  exact (FsSetLine  rfl).ok
noncomputable def c9 : Code := (Tryd.f9.body).getD .skip
theorem ent9 : Entered Tryd.prog 9 := ⟨_, Tryd.func9, rfl, rfl⟩
theorem T9 {aS_room : Int} {aS_version : Int} {aS_stride : Int} {aS_roll : Int} : CallOk Tryd.prog 9 [.agg [.d (.sc (.int .i64 aS_room)), .d (.sc (.int .i64 aS_version)), .d (.sc (.int .i64 aS_stride)), .d (.sc (.int .i64 aS_roll))]] [] ⟨.d (.sc (.string (rSetLine ⟨aS_room, aS_version, aS_stride, aS_roll⟩))), [], []⟩ := by
  exact (FiSetLine  rfl).ok
noncomputable def c3 : Code := (Tryd.f3.body).getD .skip
theorem ent3 : Entered Tryd.prog 3 := ⟨_, Tryd.func3, rfl, rfl⟩
theorem T3 {aS_room : Int} {aS_version : Int} {aS_stride : Int} {aS_roll : Int} (wf_aS : wfSetting ⟨aS_room, aS_version, aS_stride, aS_roll⟩) : CallOk Tryd.prog 3 [.agg [.d (.sc (.int .i64 aS_room)), .d (.sc (.int .i64 aS_version)), .d (.sc (.int .i64 aS_stride)), .d (.sc (.int .i64 aS_roll))]] [] ⟨.d (.sc (.bool true)), [], []⟩ := by
  have ent7_ := ent7
  have T7_ := @T7
  have ent8_ := ent8
  have T8_ := @T8
  have ent9_ := ent9
  have T9_ := @T9
  refine CallOk.of_bodyD (body := c3) Tryd.func3 rfl (Nat.le_of_ble_eq_true (by kernel_rfl)) rfl ?_
  refine vc_ok tab_ok mixed ?_
  have hT := tab_ok
  have hm := mixed
  generalize hP : Tryd.prog = P at *
  generalize hA : std = A
  obtain ⟨qbin, qsh, qcmp, qscmp, qbcmp, qbnot, qneg, qwrap, qcat, qssize, qssub, qsget, qlen, qrsub, qapp, qelt, qset, qnth, qdrp, qstr, qint, qbool, qrow, qnat, qnadd, qnsub, qband, qofNat, qstrRow, qmkRow, qmx, qmn, qbytes, qemp⟩ := A
  have hE := Ar.eqs hA
  dsimp only at hE
  generalize hQ : EndD P Tryd.f3.results _ = Q
  have hself : (∀ v : Int, qcmp .neq v v = false) ∧ (∀ v : ByteArray, qscmp .neq v v = false) ∧ (∀ v : Bool, qbnot (qbcmp v v) = false) ∧ qbnot true = false := by
    refine ⟨fun v => ?_, fun v => ?_, fun v => ?_, ?_⟩ <;> simp only [hE, std_neq, std_sneq, std_bcmp, std_not] <;> simp
  obtain ⟨hself1, hself2, hself3, hself4⟩ := hself
  cbv
  try simp only [nc] at *
  refine ClW.dd (f := 8) rfl rfl rfl rfl (.cons rfl .nil) rfl ent8_ (T8_) rfl ?_
  cbv
  try simp only [nc] at *
  refine ClW.dd (f := 7) rfl rfl rfl rfl (.cons rfl .nil) rfl ent7_ (T7_) rfl ?_
  generalize hr : rSetLine (⟨aS_room, aS_version, aS_stride, aS_roll⟩ : TSetting) = r
  cbv
  try simp only [nc] at *
  refine ClW.dd (f := 8) rfl rfl rfl rfl (.cons rfl .nil) rfl ent8_ (T8_) rfl ?_
  cbv
  try simp only [nc] at *
  refine ClW.dd (f := 9) rfl rfl rfl rfl (.cons rfl .nil) rfl ent9_ (T9_) rfl ?_
  rw [hr]
  cbv
  try simp only [nc] at *
  rw [hself2]
  cbv
  try simp only [nc] at *
  rw [← hQ]
  exact endD_one rfl rfl
end Go.Proofs.YtamdgfklbjoaiaaDoor.Ab
