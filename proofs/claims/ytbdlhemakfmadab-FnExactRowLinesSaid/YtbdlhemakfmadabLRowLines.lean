/- What functions of the program come to, for all arguments in the given bounds. -/
import Derived.Test.YtbdlhemakfmadabFG
set_option linter.unusedVariables false
set_option linter.unusedSimpArgs false
namespace Go.Proofs.Ytbdlhemakfmadab.Ab
open Go Go.Proofs
set_option maxRecDepth 20000
noncomputable def c3 : Code := (Try.f3.body).getD .skip
theorem ent3 : Entered Try.prog 3 := ⟨_, Try.func3, rfl, rfl⟩
theorem T3 {aRow : List ByteArray} {xaRow : List (List D)} (haRow : aRow.map cS = xaRow) (ok_aRow : okStringS aRow) : CallOk Try.prog 3 [.d (.row 1 xaRow)] [] ⟨.d (.sc (.bool true)), [], []⟩ := by
  have ent4_ := ent4
  have T4_ := @T4
  have ent5_ := ent5
  have T5_ := @T5
  have ent6_ := ent6
  have T6_ := @T6
  have ent7_ := ent7
  have T7_ := @T7
  have ent8_ := ent8
  have T8_ := @T8
  have ent9_ := ent9
  have T9_ := @T9
  have ent10_ := ent10
  have T10_ := @T10
  have T7_R := @T7R
  have T6_R := @T6R
  refine CallOk.of_bodyD (body := c3) Try.func3 rfl (Nat.le_of_ble_eq_true (by kernel_rfl)) rfl ?_
  refine vc_ok tab_ok mixed ?_
  have hT := tab_ok
  have hm := mixed
  generalize hP : Try.prog = P at *
  generalize hA : std = A
  obtain ⟨qbin, qsh, qcmp, qscmp, qbcmp, qbnot, qneg, qwrap, qcat, qssize, qssub, qsget, qlen, qrsub, qapp, qelt, qset, qnth, qdrp, qstr, qint, qbool, qrow, qnat, qnadd, qnsub, qband, qofNat, qstrRow, qmkRow, qmx, qmn, qbytes⟩ := A
  have hE := Ar.eqs hA
  dsimp only at hE
  generalize hQ : EndD P Try.f3.results _ = Q
  have hself : (∀ v : Int, qcmp .neq v v = false) ∧ (∀ v : ByteArray, qscmp .neq v v = false) ∧ (∀ v : Bool, qbnot (qbcmp v v) = false) ∧ qbnot true = false := by
    refine ⟨fun v => ?_, fun v => ?_, fun v => ?_, ?_⟩ <;> simp only [hE, std_neq, std_sneq, std_bcmp, std_not] <;> simp
  obtain ⟨hself1, hself2, hself3, hself4⟩ := hself
  have hn_aRow := rd_n haRow
  obtain ⟨n_aRow, hn'_aRow⟩ : ∃ n, n = aRow.length := ⟨_, rfl⟩
  have hl_aRow : n_aRow = xaRow.length := by omega
  have bl_aRow := totStringS_len aRow
  cbv
  try simp only [nc] at *
  refine ClW.dd (f := 4) rfl rfl rfl rfl (.cons rfl (.cons rfl .nil)) rfl ent4_ (T4_ haRow (by omega) (by omega) ok_aRow) rfl ?_
  generalize hl0 : szOf (totStringS aRow) 1048576 = left0
  cbv
  try simp only [nc] at *
  split
  · cbv
    try simp only [nc] at *
    rw [← hQ]
    exact endD_one rfl rfl
  rename_i c1
  simp only [hE, List.length_map, std_lss, std_leq, std_gtr, std_geq, std_eql, std_neq, std_len, std_add, std_subI, std_mulI, std_ssize, std_not, std_band, std_bcmp, std_nat, std_ofNat, std_nadd, std_nsub, IntKind.wrap_i64, decide_eq_true_eq, decide_eq_false_iff_not, Bool.not_eq_true', Bool.not_eq_false', Option.getD_none, Option.getD_some] at c1
  obtain ⟨g0, g0'⟩ := szOf_ge (t := totStringS aRow) (left := 1048576) (by omega)
  have nn0 := totStringS_nn aRow
  have bd_aRow : totStringS aRow ≤ 1048576 := by omega
  cbv
  try simp only [nc] at *
  refine ClW.dd (f := 6) rfl rfl rfl rfl (.cons rfl .nil) rfl ent6_ (T6_ haRow bd_aRow) rfl ?_
  cbv
  try simp only [nc] at *
  obtain ⟨rr, hrr⟩ : ∃ rr, rr = rRowLines aRow := ⟨_, rfl⟩
  have bd_rr : totStringS rr ≤ 549755813888 := by rw [hrr]; exact bRowLines bd_aRow
  have bl_rr := totStringS_len rr
  refine ClW.dd (f := 5) rfl rfl rfl rfl (.cons rfl .nil) rfl ent5_ (T5_ haRow bd_aRow) rfl ?_
  rw [← hrr]
  generalize hys : rr.map cS = ys
  obtain ⟨nr, hnr⟩ : ∃ n, n = rr.length := ⟨_, rfl⟩
  have hlr : nr = ys.length := by rw [hnr, ← hys, List.length_map]
  cbv
  try simp only [nc] at *
  refine ClW.lntR (f := 6) rfl rfl rfl rfl (.cons rfl .nil) (.d rfl .nil) ent6_ (T6_R haRow bd_aRow) (by rw [← haRow]; exact flat_map (fun _ => rfl) _) ?_
  rw [← hn'_aRow]
  cbv
  try simp only [nc] at *
  have hfl : ([Root.row 1 false ((rRowLines aRow).map cS)]).all Root.flat = true := flat_map (fun _ => rfl) _
  refine ClW.lntR (f := 7) rfl rfl rfl rfl (.cons rfl .nil) (.ref rfl hl_aRow .nil) ent7_ (T7_R haRow bd_aRow) hfl ?_
  rw [← hrr, ← hnr, hys]
  cbv
  try simp only [nc] at *
  refine ClW.lnt (f := 8) rfl rfl rfl rfl (.cons rfl (.cons rfl .nil)) (.ref rfl hlr (.d rfl .nil)) ent8_ (T8_ hys (by omega)) rfl rfl ?_
  cbv
  try simp only [nc] at *
  rw [hself4]
  cbv
  try simp only [nc] at *
  refine ClW.dd (f := 6) rfl rfl rfl rfl (.cons rfl .nil) rfl ent6_ (T6_ haRow bd_aRow) rfl ?_
  cbv
  try simp only [nc] at *
  refine ClW.lnt (f := 8) rfl rfl rfl rfl (.cons rfl (.cons rfl .nil)) (.ref rfl hl_aRow (.d rfl .nil)) ent8_ (T8_ haRow (by omega)) rfl rfl ?_
  cbv
  try simp only [nc] at *
  rw [hself4]
  cbv
  try simp only [nc] at *
  refine ClW.mut1 (f := 9) rfl rfl rfl rfl (.cons rfl (.cons rfl .nil)) rfl ent9_ (T9_ haRow hn'_aRow (by omega) 1 (by omega) (by omega)) rfl ?_
  generalize hkk15 : (1 : Int) + (n_aRow : Int) = kk15
  generalize hmk15 : (mkRowS 1 n_aRow).map cS = ms15
  cbv
  try simp only [nc] at *
  rw [show qcmp .lss kk15 0 = false by simp only [hE, List.length_map, std_lss, std_leq, std_gtr, std_geq, std_eql, std_neq, std_len, std_add, std_subI, std_mulI, std_ssize, std_not, std_band, std_bcmp, std_nat, std_ofNat, std_nadd, std_nsub, IntKind.wrap_i64, decide_eq_true_eq, decide_eq_false_iff_not, Bool.not_eq_true', Bool.not_eq_false', Option.getD_none, Option.getD_some, ]; omega]
  cbv
  try simp only [nc] at *
  refine ClW.lnt (f := 8) rfl rfl rfl rfl (.cons rfl (.cons rfl .nil)) (.ref rfl hlr (.d rfl .nil)) ent8_ (T8_ hys (by omega)) rfl rfl ?_
  cbv
  try simp only [nc] at *
  rw [hself4]
  cbv
  try simp only [nc] at *
  refine ClW.mut1 (f := 9) rfl rfl rfl rfl (.cons rfl (.cons rfl .nil)) rfl ent9_ (T9_ hys hnr (by omega) 1 (by omega) (by omega)) rfl ?_
  generalize hkk20 : (1 : Int) + (nr : Int) = kk20
  generalize hmk20 : (mkRowS 1 nr).map cS = ms20
  have hms20 : nr = ms20.length := by rw [← hmk20, List.length_map, mkRowS_length]
  cbv
  try simp only [nc] at *
  refine ClW.lnt (f := 10) rfl rfl rfl rfl (.cons rfl (.cons rfl .nil)) (.ref rfl hms20 (.d rfl .nil)) ent10_ (T10_ (n := nr) (k := 1) hmk20 (by omega) (by omega) (by omega)) rfl rfl ?_
  rw [show (1 : Int) + (nr : Int) = kk20 by omega]
  cbv
  try simp only [nc] at *
  rw [show qcmp .lss kk20 0 = false by simp only [hE, List.length_map, std_lss, std_leq, std_gtr, std_geq, std_eql, std_neq, std_len, std_add, std_subI, std_mulI, std_ssize, std_not, std_band, std_bcmp, std_nat, std_ofNat, std_nadd, std_nsub, IntKind.wrap_i64, decide_eq_true_eq, decide_eq_false_iff_not, Bool.not_eq_true', Bool.not_eq_false', Option.getD_none, Option.getD_some, ]; omega]
  cbv
  try simp only [nc] at *
  rw [hself1]
  cbv
  try simp only [nc] at *
  refine ClW.dd (f := 6) rfl rfl rfl rfl (.cons rfl .nil) rfl ent6_ (T6_ haRow bd_aRow) rfl ?_
  cbv
  try simp only [nc] at *
  refine ClW.lntR (f := 7) rfl rfl rfl rfl (.cons rfl .nil) (.d rfl .nil) ent7_ (T7_R haRow bd_aRow) hfl ?_
  rw [← hrr, ← hnr, hys]
  cbv
  try simp only [nc] at *
  refine ClW.lnt (f := 8) rfl rfl rfl rfl (.cons rfl (.cons rfl .nil)) (.ref rfl hlr (.d rfl .nil)) ent8_ (T8_ hys (by omega)) rfl rfl ?_
  cbv
  try simp only [nc] at *
  rw [hself4]
  cbv
  try simp only [nc] at *
  refine ClW.lnt (f := 10) rfl rfl rfl rfl (.cons rfl (.cons rfl .nil)) (.ref rfl hms20 (.d rfl .nil)) ent10_ (T10_ (n := nr) (k := 1) hmk20 (by omega) (by omega) (by omega)) rfl rfl ?_
  rw [show (1 : Int) + (nr : Int) = kk20 by omega]
  cbv
  try simp only [nc] at *
  rw [show qcmp .lss kk20 0 = false by simp only [hE, List.length_map, std_lss, std_leq, std_gtr, std_geq, std_eql, std_neq, std_len, std_add, std_subI, std_mulI, std_ssize, std_not, std_band, std_bcmp, std_nat, std_ofNat, std_nadd, std_nsub, IntKind.wrap_i64, decide_eq_true_eq, decide_eq_false_iff_not, Bool.not_eq_true', Bool.not_eq_false', Option.getD_none, Option.getD_some, ]; omega]
  cbv
  try simp only [nc] at *
  rw [hself1]
  cbv
  try simp only [nc] at *
  rw [← hQ]
  exact endD_one rfl rfl
end Go.Proofs.Ytbdlhemakfmadab.Ab
