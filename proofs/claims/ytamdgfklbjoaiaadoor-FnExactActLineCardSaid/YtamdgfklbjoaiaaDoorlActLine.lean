/- What functions of the program come to, for all arguments in the given bounds. -/
import Derived.Test.YtamdgfklbjoaiaaDoorch29b
import Derived.Test.YtamdgfklbjoaiaaDoorHsz
import Derived.Test.YtamdgfklbjoaiaaDoorHto
import Derived.Test.YtamdgfklbjoaiaaDoorHeq
set_option linter.unusedVariables false
set_option linter.unusedSimpArgs false
namespace Go.Proofs.YtamdgfklbjoaiaaDoor.Ab
open Go Go.Proofs
set_option maxRecDepth 20000
set_option maxHeartbeats 4000000
set_option linter.unusedSimpArgs false
set_option linter.unusedVariables false
noncomputable def c15 : Code := (Tryd.f15.body).getD .skip
theorem ent15 : Entered Tryd.prog 15 := ⟨_, Tryd.func15, rfl, rfl⟩
theorem T15 {aA_kind : Int} {aA_text : ByteArray} {aA_n : Int} {aA_keeps : List Int} {xaA_keeps : List (List D)} (haA_keeps : aA_keeps.map cI = xaA_keeps) (hb : totAct ⟨aA_kind, aA_text, aA_n, aA_keeps⟩ ≤ 1048576) : CallOk Tryd.prog 15 [.agg [.d (.sc (.int .i64 aA_kind)), .d (.sc (.string aA_text)), .d (.sc (.int .i64 aA_n)), .d (.row 1 xaA_keeps)]] [] ⟨.d (.sc (.string (rActLine ⟨aA_kind, aA_text, aA_n, aA_keeps⟩))), [], []⟩ := by
  have hb2 : (aA_text.size : Int) + (aA_keeps.length : Int) ≤ 1048576 := hb
  exact (FsActLine haA_keeps (by omega) rfl).ok
noncomputable def c17 : Code := (Tryd.f17.body).getD .skip
theorem ent17 : Entered Tryd.prog 17 := ⟨_, Tryd.func17, rfl, rfl⟩
theorem T17 {aA_kind : Int} {aA_text : ByteArray} {aA_n : Int} {aA_keeps : List Int} {xaA_keeps : List (List D)} (haA_keeps : aA_keeps.map cI = xaA_keeps) (hb : totAct ⟨aA_kind, aA_text, aA_n, aA_keeps⟩ ≤ 1048576) : CallOk Tryd.prog 17 [.agg [.d (.sc (.int .i64 aA_kind)), .d (.sc (.string aA_text)), .d (.sc (.int .i64 aA_n)), .d (.row 1 xaA_keeps)]] [] ⟨.d (.sc (.string (rActLine ⟨aA_kind, aA_text, aA_n, aA_keeps⟩))), [], []⟩ := by
  have hb2 : (aA_text.size : Int) + (aA_keeps.length : Int) ≤ 1048576 := hb
  exact (FiActLine haA_keeps (by omega) rfl).ok
noncomputable def c5 : Code := (Tryd.f5.body).getD .skip
theorem ent5 : Entered Tryd.prog 5 := ⟨_, Tryd.func5, rfl, rfl⟩
theorem T5 {aA_kind : Int} {aA_text : ByteArray} {aA_n : Int} {aA_keeps : List Int} {xaA_keeps : List (List D)} (haA_keeps : aA_keeps.map cI = xaA_keeps) (ok_aA : okAct ⟨aA_kind, aA_text, aA_n, aA_keeps⟩) (wf_aA : wfAct ⟨aA_kind, aA_text, aA_n, aA_keeps⟩) : CallOk Tryd.prog 5 [.agg [.d (.sc (.int .i64 aA_kind)), .d (.sc (.string aA_text)), .d (.sc (.int .i64 aA_n)), .d (.row 1 xaA_keeps)]] [] ⟨.d (.sc (.bool true)), [], []⟩ := by
  have ent14_ := ent14
  have T14_ := @T14
  have ent15_ := ent15
  have T15_ := @T15
  have ent16_ := ent16
  have T16_ := @T16
  have ent17_ := ent17
  have T17_ := @T17
  have ent18_ := ent18
  have T18_ := @T18
  refine CallOk.of_bodyD (body := c5) Tryd.func5 rfl (Nat.le_of_ble_eq_true (by kernel_rfl)) rfl ?_
  refine vc_ok tab_ok mixed ?_
  have hT := tab_ok
  have hm := mixed
  generalize hP : Tryd.prog = P at *
  generalize hA : std = A
  obtain ⟨qbin, qsh, qcmp, qscmp, qbcmp, qbnot, qneg, qwrap, qcat, qssize, qssub, qsget, qlen, qrsub, qapp, qelt, qset, qnth, qdrp, qstr, qint, qbool, qrow, qnat, qnadd, qnsub, qband, qofNat, qstrRow, qmkRow, qmx, qmn, qbytes, qemp⟩ := A
  have hE := Ar.eqs hA
  dsimp only at hE
  generalize hQ : EndD P Tryd.f5.results _ = Q
  have hself : (∀ v : Int, qcmp .neq v v = false) ∧ (∀ v : ByteArray, qscmp .neq v v = false) ∧ (∀ v : Bool, qbnot (qbcmp v v) = false) ∧ qbnot true = false := by
    refine ⟨fun v => ?_, fun v => ?_, fun v => ?_, ?_⟩ <;> simp only [hE, std_neq, std_sneq, std_bcmp, std_not] <;> simp
  obtain ⟨hself1, hself2, hself3, hself4⟩ := hself
  cbv
  try simp only [nc] at *
  refine ClW.dd (f := 14) rfl rfl rfl rfl (.cons rfl (.cons rfl .nil)) rfl ent14_ (T14_ haA_keeps (by omega) (by omega) ok_aA) rfl ?_
  generalize hl0 : szOf (totAct (⟨aA_kind, aA_text, aA_n, aA_keeps⟩ : TAct)) 1048576 = left0
  cbv
  try simp only [nc] at *
  split
  · cbv
    try simp only [nc] at *
    rw [← hQ]
    exact endD_one rfl rfl
  rename_i c1
  simp only [hE, List.length_map, std_lss, std_leq, std_gtr, std_geq, std_eql, std_neq, std_len, std_add, std_subI, std_mulI, std_ssize, std_not, std_band, std_bcmp, std_nat, std_ofNat, std_nadd, std_nsub, std_emp, IntKind.wrap_i64, decide_eq_true_eq, decide_eq_false_iff_not, Bool.not_eq_true', Bool.not_eq_false', Option.getD_none, Option.getD_some] at c1
  obtain ⟨g0, g0'⟩ := szOf_ge (t := totAct (⟨aA_kind, aA_text, aA_n, aA_keeps⟩ : TAct)) (left := 1048576) (by omega)
  have nn0 := totAct_nn (⟨aA_kind, aA_text, aA_n, aA_keeps⟩ : TAct)
  have bd_aA : totAct (⟨aA_kind, aA_text, aA_n, aA_keeps⟩ : TAct) ≤ 1048576 := by omega
  cbv
  try simp only [nc] at *
  refine ClW.dd (f := 16) rfl rfl rfl rfl (.cons rfl .nil) rfl ent16_ (T16_ haA_keeps bd_aA) rfl ?_
  cbv
  try simp only [nc] at *
  refine ClW.dd (f := 15) rfl rfl rfl rfl (.cons rfl .nil) rfl ent15_ (T15_ haA_keeps bd_aA) rfl ?_
  generalize hr : rActLine (⟨aA_kind, aA_text, aA_n, aA_keeps⟩ : TAct) = r
  cbv
  try simp only [nc] at *
  refine ClW.dd (f := 16) rfl rfl rfl rfl (.cons rfl .nil) rfl ent16_ (T16_ haA_keeps bd_aA) rfl ?_
  cbv
  try simp only [nc] at *
  refine ClW.dd (f := 17) rfl rfl rfl rfl (.cons rfl .nil) rfl ent17_ (T17_ haA_keeps bd_aA) rfl ?_
  rw [hr]
  cbv
  try simp only [nc] at *
  rw [hself2]
  cbv
  try simp only [nc] at *
  refine ClW.dd (f := 16) rfl rfl rfl rfl (.cons rfl .nil) rfl ent16_ (T16_ haA_keeps bd_aA) rfl ?_
  cbv
  try simp only [nc] at *
  refine ClW.dd (f := 18) rfl rfl rfl rfl (.cons rfl (.cons rfl .nil)) rfl ent18_ (T18_ haA_keeps (by omega)) rfl ?_
  cbv
  try simp only [nc] at *
  rw [hself4]
  cbv
  try simp only [nc] at *
  rw [← hQ]
  exact endD_one rfl rfl
end Go.Proofs.YtamdgfklbjoaiaaDoor.Ab
