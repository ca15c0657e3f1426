/- What functions of the program come to, for all arguments in the given bounds. -/
import Derived.Test.YtbdlhemakfmadaaFB
set_option linter.unusedVariables false
set_option linter.unusedSimpArgs false
namespace Go.Proofs.Ytbdlhemakfmadaa.Ab
open Go Go.Proofs
set_option maxRecDepth 20000
noncomputable def c8 : Code := (Try.f8.body).getD .skip
theorem ent8 : Entered Try.prog 8 := ⟨_, Try.func8, rfl, rfl⟩
theorem T8 {aActs : List TAct} {xaActs : List (List D)} (haActs : aActs.map eAct = xaActs) (ok_aActs : okActS aActs) : CallOk Try.prog 8 [.d (.row 4 xaActs)] [] ⟨.d (.sc (.bool true)), [], []⟩ := by
  have ent25_ := ent25
  have T25_ := @T25
  have ent27_ := ent27
  have T27_ := @T27
  have ent29_ := ent29
  have T29_ := @T29
  have ent30_ := ent30
  have T30_ := @T30
  have ent31_ := ent31
  have T31_ := @T31
  refine CallOk.of_bodyD (body := c8) Try.func8 rfl (Nat.le_of_ble_eq_true (by kernel_rfl)) rfl ?_
  refine vc_ok tab_ok mixed ?_
  have hT := tab_ok
  have hm := mixed
  generalize hP : Try.prog = P at *
  generalize hA : std = A
  obtain ⟨qbin, qsh, qcmp, qscmp, qbcmp, qbnot, qneg, qwrap, qcat, qssize, qssub, qsget, qlen, qrsub, qapp, qelt, qset, qnth, qdrp, qstr, qint, qbool, qrow, qnat, qnadd, qnsub, qband, qofNat, qstrRow, qmkRow, qmx, qmn, qbytes⟩ := A
  have hE := Ar.eqs hA
  dsimp only at hE
  generalize hQ : EndD P Try.f8.results _ = Q
  have hself : (∀ v : Int, qcmp .neq v v = false) ∧ (∀ v : ByteArray, qscmp .neq v v = false) ∧ (∀ v : Bool, qbnot (qbcmp v v) = false) ∧ qbnot true = false := by
    refine ⟨fun v => ?_, fun v => ?_, fun v => ?_, ?_⟩ <;> simp only [hE, std_neq, std_sneq, std_bcmp, std_not] <;> simp
  obtain ⟨hself1, hself2, hself3, hself4⟩ := hself
  have hn_aActs := rd_n haActs
  cbv
  try simp only [nc] at *
  refine ClW.dd (f := 25) rfl rfl rfl rfl (.cons rfl (.cons rfl .nil)) rfl ent25_ (T25_ haActs (by omega) (by omega) ok_aActs) rfl ?_
  generalize hl0 : szOf (totActS aActs) 1048576 = left0
  cbv
  try simp only [nc] at *
  split
  · cbv
    try simp only [nc] at *
    rw [← hQ]
    exact endD_one rfl rfl
  rename_i c1
  simp only [hE, List.length_map, std_lss, std_leq, std_gtr, std_geq, std_eql, std_neq, std_len, std_add, std_subI, std_mulI, std_ssize, std_not, std_band, std_bcmp, std_nat, std_ofNat, std_nadd, std_nsub, IntKind.wrap_i64, decide_eq_true_eq, decide_eq_false_iff_not, Bool.not_eq_true', Bool.not_eq_false', Option.getD_none, Option.getD_some] at c1
  obtain ⟨g0, g0'⟩ := szOf_ge (t := totActS aActs) (left := 1048576) (by omega)
  have nn0 := totActS_nn aActs
  have bd_aActs : totActS aActs ≤ 1048576 := by omega
  cbv
  try simp only [nc] at *
  refine ClW.dd (f := 27) rfl rfl rfl rfl (.cons rfl .nil) rfl ent27_ (T27_ haActs bd_aActs) rfl ?_
  cbv
  try simp only [nc] at *
  refine ClW.dd (f := 30) rfl rfl rfl rfl (.cons rfl .nil) rfl ent30_ (T30_ haActs bd_aActs) rfl ?_
  generalize hr : rQuiet aActs = r
  cbv
  try simp only [nc] at *
  refine ClW.dd (f := 27) rfl rfl rfl rfl (.cons rfl .nil) rfl ent27_ (T27_ haActs bd_aActs) rfl ?_
  cbv
  try simp only [nc] at *
  refine ClW.dd (f := 31) rfl rfl rfl rfl (.cons rfl .nil) rfl ent31_ (T31_ haActs bd_aActs) rfl ?_
  rw [hr]
  cbv
  try simp only [nc] at *
  rw [hself3]
  cbv
  try simp only [nc] at *
  refine ClW.dd (f := 27) rfl rfl rfl rfl (.cons rfl .nil) rfl ent27_ (T27_ haActs bd_aActs) rfl ?_
  cbv
  try simp only [nc] at *
  refine ClW.dd (f := 29) rfl rfl rfl rfl (.cons rfl (.cons rfl .nil)) rfl ent29_ (T29_ haActs bd_aActs) rfl ?_
  cbv
  try simp only [nc] at *
  rw [hself4]
  cbv
  try simp only [nc] at *
  rw [← hQ]
  exact endD_one rfl rfl
end Go.Proofs.Ytbdlhemakfmadaa.Ab
