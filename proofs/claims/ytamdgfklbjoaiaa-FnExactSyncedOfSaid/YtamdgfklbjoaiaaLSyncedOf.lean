/- What functions of the program come to, for all arguments in the given bounds. -/
import Derived.Test.YtamdgfklbjoaiaaFS
set_option linter.unusedVariables false
set_option linter.unusedSimpArgs false
namespace Go.Proofs.Ytamdgfklbjoaiaa.Ab
open Go Go.Proofs
set_option maxRecDepth 20000
noncomputable def c4 : Code := (Try.f4.body).getD .skip
theorem ent4 : Entered Try.prog 4 := ⟨_, Try.func4, rfl, rfl⟩
theorem T4 {aActs : List TAct} {xaActs : List (List D)} (haActs : aActs.map eAct = xaActs) {aCodes : List Int} {xaCodes : List (List D)} (haCodes : aCodes.map cI = xaCodes) (ok_aActs : okActS aActs) (ok_aCodes : okIntS aCodes) : CallOk Try.prog 4 [.d (.row 4 xaActs), .d (.row 1 xaCodes)] [] ⟨.d (.sc (.bool true)), [], []⟩ := by
  have ent13_ := ent13
  have T13_ := @T13
  have ent14_ := ent14
  have T14_ := @T14
  have ent15_ := ent15
  have T15_ := @T15
  have ent16_ := ent16
  have T16_ := @T16
  have ent17_ := ent17
  have T17_ := @T17
  have ent18_ := ent18
  have T18_ := @T18
  have ent19_ := ent19
  have T19_ := @T19
  refine CallOk.of_bodyD (body := c4) Try.func4 rfl (Nat.le_of_ble_eq_true (by kernel_rfl)) rfl ?_
  refine vc_ok tab_ok mixed ?_
  have hT := tab_ok
  have hm := mixed
  generalize hP : Try.prog = P at *
  generalize hA : std = A
  obtain ⟨qbin, qsh, qcmp, qscmp, qbcmp, qbnot, qneg, qwrap, qcat, qssize, qssub, qsget, qlen, qrsub, qapp, qelt, qset, qnth, qdrp, qstr, qint, qbool, qrow, qnat, qnadd, qnsub, qband, qofNat, qstrRow, qmkRow, qmx, qmn, qbytes⟩ := A
  have hE := Ar.eqs hA
  dsimp only at hE
  generalize hQ : EndD P Try.f4.results _ = Q
  have hself : (∀ v : Int, qcmp .neq v v = false) ∧ (∀ v : ByteArray, qscmp .neq v v = false) ∧ (∀ v : Bool, qbnot (qbcmp v v) = false) ∧ qbnot true = false := by
    refine ⟨fun v => ?_, fun v => ?_, fun v => ?_, ?_⟩ <;> simp only [hE, std_neq, std_sneq, std_bcmp, std_not] <;> simp
  obtain ⟨hself1, hself2, hself3, hself4⟩ := hself
  have hn_aActs := rd_n haActs
  have hn_aCodes := rd_n haCodes
  cbv
  try simp only [nc] at *
  split
  · cbv
    try simp only [nc] at *
    rw [← hQ]
    exact endD_one rfl rfl
  rename_i c0
  simp only [hE, List.length_map, std_lss, std_leq, std_gtr, std_geq, std_eql, std_neq, std_len, std_add, std_subI, std_mulI, std_ssize, std_not, std_band, std_bcmp, std_nat, std_ofNat, std_nadd, std_nsub, IntKind.wrap_i64, decide_eq_true_eq, decide_eq_false_iff_not, Bool.not_eq_true', Bool.not_eq_false', Option.getD_none, Option.getD_some, hn_aCodes] at c0
  have bd_aCodes : totIntS aCodes ≤ 1048576 := by unfold totIntS; omega
  cbv
  try simp only [nc] at *
  refine ClW.dd (f := 13) rfl rfl rfl rfl (.cons rfl (.cons rfl .nil)) rfl ent13_ (T13_ haActs (by omega) (by omega) ok_aActs) rfl ?_
  generalize hl0 : szOf (totActS aActs) 1048576 = left0
  cbv
  try simp only [nc] at *
  split
  · cbv
    try simp only [nc] at *
    rw [← hQ]
    exact endD_one rfl rfl
  rename_i c4
  simp only [hE, List.length_map, std_lss, std_leq, std_gtr, std_geq, std_eql, std_neq, std_len, std_add, std_subI, std_mulI, std_ssize, std_not, std_band, std_bcmp, std_nat, std_ofNat, std_nadd, std_nsub, IntKind.wrap_i64, decide_eq_true_eq, decide_eq_false_iff_not, Bool.not_eq_true', Bool.not_eq_false', Option.getD_none, Option.getD_some] at c4
  obtain ⟨g0, g0'⟩ := szOf_ge (t := totActS aActs) (left := 1048576) (by omega)
  have nn0 := totActS_nn aActs
  have bd_aActs : totActS aActs ≤ 1048576 := by omega
  cbv
  try simp only [nc] at *
  refine ClW.dd (f := 15) rfl rfl rfl rfl (.cons rfl .nil) rfl ent15_ (T15_ haActs bd_aActs) rfl ?_
  cbv
  try simp only [nc] at *
  refine ClW.dd (f := 16) rfl rfl rfl rfl (.cons rfl .nil) rfl ent16_ (T16_ haCodes bd_aCodes) rfl ?_
  cbv
  try simp only [nc] at *
  refine ClW.dd (f := 14) rfl rfl rfl rfl (.cons rfl (.cons rfl .nil)) rfl ent14_ (T14_ haActs haCodes bd_aActs bd_aCodes) rfl ?_
  generalize hr : rSyncedOf aActs aCodes = r
  cbv
  try simp only [nc] at *
  refine ClW.dd (f := 15) rfl rfl rfl rfl (.cons rfl .nil) rfl ent15_ (T15_ haActs bd_aActs) rfl ?_
  cbv
  try simp only [nc] at *
  refine ClW.dd (f := 16) rfl rfl rfl rfl (.cons rfl .nil) rfl ent16_ (T16_ haCodes bd_aCodes) rfl ?_
  cbv
  try simp only [nc] at *
  refine ClW.dd (f := 17) rfl rfl rfl rfl (.cons rfl (.cons rfl .nil)) rfl ent17_ (T17_ haActs haCodes bd_aActs bd_aCodes) rfl ?_
  rw [hr]
  cbv
  try simp only [nc] at *
  rw [hself1]
  cbv
  try simp only [nc] at *
  refine ClW.dd (f := 15) rfl rfl rfl rfl (.cons rfl .nil) rfl ent15_ (T15_ haActs bd_aActs) rfl ?_
  cbv
  try simp only [nc] at *
  refine ClW.dd (f := 18) rfl rfl rfl rfl (.cons rfl (.cons rfl .nil)) rfl ent18_ (T18_ haActs (by omega)) rfl ?_
  cbv
  try simp only [nc] at *
  rw [hself4]
  cbv
  try simp only [nc] at *
  refine ClW.dd (f := 16) rfl rfl rfl rfl (.cons rfl .nil) rfl ent16_ (T16_ haCodes bd_aCodes) rfl ?_
  cbv
  try simp only [nc] at *
  refine ClW.dd (f := 19) rfl rfl rfl rfl (.cons rfl (.cons rfl .nil)) rfl ent19_ (T19_ haCodes (by omega)) rfl ?_
  cbv
  try simp only [nc] at *
  rw [hself4]
  cbv
  try simp only [nc] at *
  rw [← hQ]
  exact endD_one rfl rfl
end Go.Proofs.Ytamdgfklbjoaiaa.Ab
