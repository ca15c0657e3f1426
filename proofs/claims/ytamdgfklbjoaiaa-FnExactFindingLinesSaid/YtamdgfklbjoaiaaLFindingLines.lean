/- What functions of the program come to, for all arguments in the given bounds. -/
import Derived.Test.YtamdgfklbjoaiaaFN
set_option linter.unusedVariables false
set_option linter.unusedSimpArgs false
namespace Go.Proofs.Ytamdgfklbjoaiaa.Ab
open Go Go.Proofs
set_option maxRecDepth 20000
noncomputable def c5 : Code := (Try.f5.body).getD .skip
theorem ent5 : Entered Try.prog 5 := ⟨_, Try.func5, rfl, rfl⟩
theorem T5 {aList : List TFinding} {xaList : List (List D)} (haList : aList.map eFinding = xaList) (ok_aList : okFindingS aList) (wf_aList : wfFindingS aList) : CallOk Try.prog 5 [.d (.row 2 xaList)] [] ⟨.d (.sc (.bool true)), [], []⟩ := by
  have ent20_ := ent20
  have T20_ := @T20
  have ent21_ := ent21
  have T21_ := @T21
  have ent22_ := ent22
  have T22_ := @T22
  have ent23_ := ent23
  have T23_ := @T23
  have ent24_ := ent24
  have T24_ := @T24
  have ent25_ := ent25
  have T25_ := @T25
  have ent26_ := ent26
  have T26_ := @T26
  have ent27_ := ent27
  have T27_ := @T27
  have ent28_ := ent28
  have T28_ := @T28
  have T23_R := @T23R
  have T22_R := @T22R
  refine CallOk.of_bodyD (body := c5) Try.func5 rfl (Nat.le_of_ble_eq_true (by kernel_rfl)) rfl ?_
  refine vc_ok tab_ok mixed ?_
  have hT := tab_ok
  have hm := mixed
  generalize hP : Try.prog = P at *
  generalize hA : std = A
  obtain ⟨qbin, qsh, qcmp, qscmp, qbcmp, qbnot, qneg, qwrap, qcat, qssize, qssub, qsget, qlen, qrsub, qapp, qelt, qset, qnth, qdrp, qstr, qint, qbool, qrow, qnat, qnadd, qnsub, qband, qofNat, qstrRow, qmkRow, qmx, qmn, qbytes, qemp⟩ := A
  have hE := Ar.eqs hA
  dsimp only at hE
  generalize hQ : EndD P Try.f5.results _ = Q
  have hself : (∀ v : Int, qcmp .neq v v = false) ∧ (∀ v : ByteArray, qscmp .neq v v = false) ∧ (∀ v : Bool, qbnot (qbcmp v v) = false) ∧ qbnot true = false := by
    refine ⟨fun v => ?_, fun v => ?_, fun v => ?_, ?_⟩ <;> simp only [hE, std_neq, std_sneq, std_bcmp, std_not] <;> simp
  obtain ⟨hself1, hself2, hself3, hself4⟩ := hself
  have hn_aList := rd_n haList
  obtain ⟨n_aList, hn'_aList⟩ : ∃ n, n = aList.length := ⟨_, rfl⟩
  have hl_aList : n_aList = xaList.length := by omega
  have bl_aList := totFindingS_len aList
  cbv
  try simp only [nc] at *
  refine ClW.dd (f := 20) rfl rfl rfl rfl (.cons rfl (.cons rfl .nil)) rfl ent20_ (T20_ haList (by omega) (by omega) ok_aList) rfl ?_
  generalize hl0 : szOf (totFindingS aList) 1048576 = left0
  cbv
  try simp only [nc] at *
  split
  · cbv
    try simp only [nc] at *
    rw [← hQ]
    exact endD_one rfl rfl
  rename_i c1
  simp only [hE, List.length_map, std_lss, std_leq, std_gtr, std_geq, std_eql, std_neq, std_len, std_add, std_subI, std_mulI, std_ssize, std_not, std_band, std_bcmp, std_nat, std_ofNat, std_nadd, std_nsub, std_emp, IntKind.wrap_i64, decide_eq_true_eq, decide_eq_false_iff_not, Bool.not_eq_true', Bool.not_eq_false', Option.getD_none, Option.getD_some] at c1
  obtain ⟨g0, g0'⟩ := szOf_ge (t := totFindingS aList) (left := 1048576) (by omega)
  have nn0 := totFindingS_nn aList
  have bd_aList : totFindingS aList ≤ 1048576 := by omega
  cbv
  try simp only [nc] at *
  refine ClW.dd (f := 22) rfl rfl rfl rfl (.cons rfl .nil) rfl ent22_ (T22_ haList bd_aList) rfl ?_
  cbv
  try simp only [nc] at *
  obtain ⟨rr, hrr⟩ : ∃ rr, rr = rFindingLines aList := ⟨_, rfl⟩
  have bd_rr : totStringS rr ≤ 549755813888 := by rw [hrr]; exact bFindingLines bd_aList
  have bl_rr := totStringS_len rr
  refine ClW.dd (f := 21) rfl rfl rfl rfl (.cons rfl .nil) rfl ent21_ (T21_ haList bd_aList) rfl ?_
  rw [← hrr]
  generalize hys : rr.map cS = ys
  obtain ⟨nr, hnr⟩ : ∃ n, n = rr.length := ⟨_, rfl⟩
  have hlr : nr = ys.length := by rw [hnr, ← hys, List.length_map]
  cbv
  try simp only [nc] at *
  refine ClW.lntR (f := 22) rfl rfl rfl rfl (.cons rfl .nil) (.d rfl .nil) ent22_ (T22_R haList bd_aList) (by rw [← haList]; exact flat_map (fun _ => rfl) _) ?_
  rw [← hn'_aList]
  cbv
  try simp only [nc] at *
  have hfl : ([Root.row 1 false ((rFindingLines aList).map cS)]).all Root.flat = true := flat_map (fun _ => rfl) _
  refine ClW.lntR (f := 23) rfl rfl rfl rfl (.cons rfl .nil) (.ref rfl hl_aList .nil) ent23_ (T23_R haList bd_aList) hfl ?_
  rw [← hrr, ← hnr, hys]
  cbv
  try simp only [nc] at *
  refine ClW.lnt (f := 24) rfl rfl rfl rfl (.cons rfl (.cons rfl .nil)) (.ref rfl hlr (.d rfl .nil)) ent24_ (T24_ hys (by omega)) rfl rfl ?_
  cbv
  try simp only [nc] at *
  rw [hself4]
  cbv
  try simp only [nc] at *
  refine ClW.dd (f := 22) rfl rfl rfl rfl (.cons rfl .nil) rfl ent22_ (T22_ haList bd_aList) rfl ?_
  cbv
  try simp only [nc] at *
  refine ClW.lnt (f := 25) rfl rfl rfl rfl (.cons rfl (.cons rfl .nil)) (.ref rfl hl_aList (.d rfl .nil)) ent25_ (T25_ haList (by omega)) rfl rfl ?_
  cbv
  try simp only [nc] at *
  rw [hself4]
  cbv
  try simp only [nc] at *
  refine ClW.mut1 (f := 26) rfl rfl rfl rfl (.cons rfl (.cons rfl .nil)) rfl ent26_ (T26_ haList hn'_aList (by omega) 1 (by omega) (by omega)) rfl ?_
  generalize hkk15 : (1 : Int) + 2 * (n_aList : Int) = kk15
  generalize hmk15 : (mkRowFindingS 1 n_aList).map eFinding = ms15
  cbv
  try simp only [nc] at *
  rw [show qcmp .lss kk15 0 = false by simp only [hE, List.length_map, std_lss, std_leq, std_gtr, std_geq, std_eql, std_neq, std_len, std_add, std_subI, std_mulI, std_ssize, std_not, std_band, std_bcmp, std_nat, std_ofNat, std_nadd, std_nsub, std_emp, IntKind.wrap_i64, decide_eq_true_eq, decide_eq_false_iff_not, Bool.not_eq_true', Bool.not_eq_false', Option.getD_none, Option.getD_some, ]; omega]
  cbv
  try simp only [nc] at *
  refine ClW.lnt (f := 24) rfl rfl rfl rfl (.cons rfl (.cons rfl .nil)) (.ref rfl hlr (.d rfl .nil)) ent24_ (T24_ hys (by omega)) rfl rfl ?_
  cbv
  try simp only [nc] at *
  rw [hself4]
  cbv
  try simp only [nc] at *
  refine ClW.mut1 (f := 27) rfl rfl rfl rfl (.cons rfl (.cons rfl .nil)) rfl ent27_ (T27_ hys hnr (by omega) 1 (by omega) (by omega)) rfl ?_
  generalize hkk20 : (1 : Int) + 1 * (nr : Int) = kk20
  generalize hmk20 : (mkRowStringS 1 nr).map cS = ms20
  have hms20 : nr = ms20.length := by rw [← hmk20, List.length_map, mkRowStringS_length]
  cbv
  try simp only [nc] at *
  refine ClW.lnt (f := 28) rfl rfl rfl rfl (.cons rfl (.cons rfl .nil)) (.ref rfl hms20 (.d rfl .nil)) ent28_ (T28_ (n := nr) (k := 1) hmk20 (by omega) (by omega) (by omega)) rfl rfl ?_
  rw [show (1 : Int) + 1 * (nr : Int) = kk20 by omega]
  cbv
  try simp only [nc] at *
  rw [show qcmp .lss kk20 0 = false by simp only [hE, List.length_map, std_lss, std_leq, std_gtr, std_geq, std_eql, std_neq, std_len, std_add, std_subI, std_mulI, std_ssize, std_not, std_band, std_bcmp, std_nat, std_ofNat, std_nadd, std_nsub, std_emp, IntKind.wrap_i64, decide_eq_true_eq, decide_eq_false_iff_not, Bool.not_eq_true', Bool.not_eq_false', Option.getD_none, Option.getD_some, ]; omega]
  cbv
  try simp only [nc] at *
  rw [hself1]
  cbv
  try simp only [nc] at *
  refine ClW.dd (f := 22) rfl rfl rfl rfl (.cons rfl .nil) rfl ent22_ (T22_ haList bd_aList) rfl ?_
  cbv
  try simp only [nc] at *
  refine ClW.lntR (f := 23) rfl rfl rfl rfl (.cons rfl .nil) (.d rfl .nil) ent23_ (T23_R haList bd_aList) hfl ?_
  rw [← hrr, ← hnr, hys]
  cbv
  try simp only [nc] at *
  refine ClW.lnt (f := 24) rfl rfl rfl rfl (.cons rfl (.cons rfl .nil)) (.ref rfl hlr (.d rfl .nil)) ent24_ (T24_ hys (by omega)) rfl rfl ?_
  cbv
  try simp only [nc] at *
  rw [hself4]
  cbv
  try simp only [nc] at *
  refine ClW.lnt (f := 28) rfl rfl rfl rfl (.cons rfl (.cons rfl .nil)) (.ref rfl hms20 (.d rfl .nil)) ent28_ (T28_ (n := nr) (k := 1) hmk20 (by omega) (by omega) (by omega)) rfl rfl ?_
  rw [show (1 : Int) + 1 * (nr : Int) = kk20 by omega]
  cbv
  try simp only [nc] at *
  rw [show qcmp .lss kk20 0 = false by simp only [hE, List.length_map, std_lss, std_leq, std_gtr, std_geq, std_eql, std_neq, std_len, std_add, std_subI, std_mulI, std_ssize, std_not, std_band, std_bcmp, std_nat, std_ofNat, std_nadd, std_nsub, std_emp, IntKind.wrap_i64, decide_eq_true_eq, decide_eq_false_iff_not, Bool.not_eq_true', Bool.not_eq_false', Option.getD_none, Option.getD_some, ]; omega]
  cbv
  try simp only [nc] at *
  rw [hself1]
  cbv
  try simp only [nc] at *
  rw [← hQ]
  exact endD_one rfl rfl
end Go.Proofs.Ytamdgfklbjoaiaa.Ab
