/- What functions of the program come to, for all arguments in the given bounds. -/
import Derived.Test.YtamdgfklbjoaiaaFW
set_option linter.unusedVariables false
set_option linter.unusedSimpArgs false
namespace Go.Proofs.Ytamdgfklbjoaiaa.Ab
open Go Go.Proofs
set_option maxRecDepth 20000
/-! Frames. -/
theorem catOk_of {a b : ByteArray} (h : a.size + b.size < 2 ^ 62) : CatOk a b := ⟨by show (((a.size + b.size : Nat)) : Int) ≤ 2 ^ 63 - 1; omega⟩
theorem rFix_size {n w : Int} : (rFix n w).size ≤ 8 := by
  unfold rFix
  split
  · rw [tx_size, fixL_length]; omega
  · decide
theorem rVar_size {n : Int} (h0 : 0 ≤ n) (h1 : n < 128) : (rVar n).size = 1 := by
  unfold rVar
  rw [if_pos ⟨h0, by omega⟩, varL_small (by omega), tx_size]
  rfl
def sumT (s : ByteArray) : Int := (sumN 0 s.data.toList : Nat)
theorem sumT_wf (s : ByteArray) : wfI (sumT s) := by
  have := sumN_lt (x := 0) (by omega) s.data.toList
  unfold sumT wfI
  omega
theorem size_list (s : ByteArray) : s.data.toList.length = s.size := Array.length_toList
def rSized (p n : Int) : ByteArray := rFix n 4 ++ rFix (sumT (rFix p 8 ++ rFix n 4)) 4
theorem rSized_size {p n : Int} : (rSized p n).size ≤ 16 := by
  unfold rSized
  rw [ByteArray.size_append]
  have h1 := rFix_size (n := n) (w := 4)
  have h2 := rFix_size (n := sumT (rFix p 8 ++ rFix n 4)) (w := 4)
  omega
def rFrame (v p : Int) (s : ByteArray) : ByteArray := if (1 ≤ v ∧ v ≤ 2) ∧ (0 ≤ p ∧ p ≤ 1000000000) ∧ s.size ≤ 60 then ((if v = 2 then rSized p s.size else rVar s.size) ++ s) ++ rFix (sumT s) 4 else tx []
noncomputable def c117 : Code := (Try.f117.body).getD .skip
theorem ent117 : Entered Try.prog 117 := ⟨_, Try.func117, rfl, rfl⟩
noncomputable def c120 : Code := (Try.f120.body).getD .skip
theorem ent120 : Entered Try.prog 120 := ⟨_, Try.func120, rfl, rfl⟩
noncomputable def c79 : Code := (Try.f79.body).getD .skip
theorem ent79 : Entered Try.prog 79 := ⟨_, Try.func79, rfl, rfl⟩
noncomputable def c83 : Code := (Try.f83.body).getD .skip
theorem ent83 : Entered Try.prog 83 := ⟨_, Try.func83, rfl, rfl⟩
noncomputable def c51 : Code := (Try.f51.body).getD .skip
theorem ent51 : Entered Try.prog 51 := ⟨_, Try.func51, rfl, rfl⟩
noncomputable def c52 : Code := (Try.f52.body).getD .skip
theorem ent52 : Entered Try.prog 52 := ⟨_, Try.func52, rfl, rfl⟩
noncomputable def c11 : Code := (Try.f11.body).getD .skip
theorem ent11 : Entered Try.prog 11 := ⟨_, Try.func11, rfl, rfl⟩
noncomputable def c12 : Code := (Try.f12.body).getD .skip
theorem ent12 : Entered Try.prog 12 := ⟨_, Try.func12, rfl, rfl⟩
theorem T117 (v : Int) : CallOk Try.prog 117 [.d (.sc (.int .i64 v))] [] ⟨.d (.sc (.bool (decide (1 ≤ v ∧ v ≤ 2)))), [], []⟩ := by
  refine CallOk.of_bodyD (body := c117) Try.func117 rfl (Nat.le_of_ble_eq_true (by kernel_rfl)) rfl ?_
  refine vc_ok tab_ok mixed ?_
  have hT := tab_ok
  have hm := mixed
  generalize hP : Try.prog = P at *
  generalize hA : std = A
  obtain ⟨qbin, qsh, qcmp, qscmp, qbcmp, qbnot, qneg, qwrap, qcat, qssize, qssub, qsget, qlen, qrsub, qapp, qelt, qset, qnth, qdrp, qstr, qint, qbool, qrow, qnat, qnadd, qnsub, qband, qofNat, qstrRow, qmkRow, qmx, qmn, qbytes, qemp⟩ := A
  have hE := Ar.eqs hA
  dsimp only at hE
  generalize hQ : EndD P Try.f117.results _ = Q
  cbv
  try simp only [nc] at *
  split
  · rename_i h
    simp only [hE, List.length_map, std_lss, std_leq, std_gtr, std_geq, std_eql, std_neq, std_len, std_add, std_subI, std_mulI, std_ssize, std_not, std_band, std_bcmp, std_nat, std_ofNat, std_nadd, std_nsub, std_emp, IntKind.wrap_i64, decide_eq_true_eq, decide_eq_false_iff_not, Bool.not_eq_true', Bool.not_eq_false', Option.getD_none, Option.getD_some] at h
    cbv
    try simp only [nc] at *
    rw [← hQ, decide_eq_true (p := 1 ≤ v ∧ v ≤ 2) (by omega)]
    exact endD_one rfl rfl
  · rename_i h
    simp only [hE, List.length_map, std_lss, std_leq, std_gtr, std_geq, std_eql, std_neq, std_len, std_add, std_subI, std_mulI, std_ssize, std_not, std_band, std_bcmp, std_nat, std_ofNat, std_nadd, std_nsub, std_emp, IntKind.wrap_i64, decide_eq_true_eq, decide_eq_false_iff_not, Bool.not_eq_true', Bool.not_eq_false', Option.getD_none, Option.getD_some] at h
    cbv
    try simp only [nc] at *
    rw [← hQ]
    refine endD_val rfl (bool_eq ?_)
    simp only [hE, std_eql]
    exact decide_eq_decide.2 (by omega)
theorem T120 {p n : Int} (hp : wfI p) (hn : wfI n) : CallOk Try.prog 120 [.d (.sc (.int .i64 p)), .d (.sc (.int .i64 n))] [] ⟨.d (.sc (.string (rSized p n))), [], []⟩ := by
  have e1 := ent116
  have t1 := @T116
  have e2 := ent115
  have t2 := @T115
  obtain ⟨r, hr⟩ : ∃ r, r = rSized p n := ⟨_, rfl⟩
  rw [← hr]
  have w4 : wfI 4 := by unfold wfI; omega
  have w8 : wfI 8 := by unfold wfI; omega
  have z1 := rFix_size (n := n) (w := 4)
  have z2 := rFix_size (n := p) (w := 8)
  have z3 := rFix_size (n := sumT (rFix p 8 ++ rFix n 4)) (w := 4)
  have wsum := sumT_wf (rFix p 8 ++ rFix n 4)
  have hr' : r = rFix n 4 ++ rFix (sumT (rFix p 8 ++ rFix n 4)) 4 := hr
  refine CallOk.of_bodyD (body := c120) Try.func120 rfl (Nat.le_of_ble_eq_true (by kernel_rfl)) rfl ?_
  refine vc_ok tab_ok mixed ?_
  have hT := tab_ok
  have hm := mixed
  generalize hP : Try.prog = P at *
  generalize hA : std = A
  obtain ⟨qbin, qsh, qcmp, qscmp, qbcmp, qbnot, qneg, qwrap, qcat, qssize, qssub, qsget, qlen, qrsub, qapp, qelt, qset, qnth, qdrp, qstr, qint, qbool, qrow, qnat, qnadd, qnsub, qband, qofNat, qstrRow, qmkRow, qmx, qmn, qbytes, qemp⟩ := A
  have hE := Ar.eqs hA
  dsimp only at hE
  generalize hQ : EndD P Try.f120.results _ = Q
  cbv
  try simp only [nc] at *
  refine ClW.dd (f := 116) rfl rfl rfl rfl (.cons rfl (.cons rfl .nil)) rfl e1 (t1 hn w4) rfl ?_
  generalize ha : rFix n 4 = a at *
  cbv
  try simp only [nc] at *
  refine ClW.dd (f := 116) rfl rfl rfl rfl (.cons rfl (.cons rfl .nil)) rfl e1 (t1 hp w8) rfl ?_
  generalize hb : rFix p 8 = b at *
  cbv
  try simp only [nc] at *
  refine ⟨catOk_of (by omega), ?_⟩
  rw [show qcat b a = b ++ a by simp only [hE, std_cat]]
  have hcs : (b ++ a).size = b.size + a.size := ByteArray.size_append
  generalize hc : b ++ a = c at *
  refine ClW.dd (f := 115) rfl rfl rfl rfl (.cons rfl .nil) rfl e2 (t2 (tx_data c) (by rw [size_list]; omega)) rfl ?_
  rw [show ((sumN 0 c.data.toList : Nat) : Int) = sumT c from rfl]
  generalize hd : sumT c = d at *
  cbv
  try simp only [nc] at *
  refine ClW.dd (f := 116) rfl rfl rfl rfl (.cons rfl (.cons rfl .nil)) rfl e1 (t1 wsum w4) rfl ?_
  generalize he : rFix d 4 = e at *
  cbv
  try simp only [nc] at *
  refine ⟨catOk_of (by omega), ?_⟩
  rw [← hQ, hr']
  refine endD_val rfl (str_eq ?_)
  simp only [hE, std_cat]
theorem T83 {v p : Int} {s : ByteArray} (hv : wfI v) (hp : wfI p) (hs : s.size < 2 ^ 47) : CallOk Try.prog 83 [.d (.sc (.int .i64 v)), .d (.sc (.int .i64 p)), .d (.sc (.string s))] [] ⟨.d (.sc (.string (rFrame v p s))), [], []⟩ := by
  have e1 := ent116
  have t1 := @T116
  have e2 := ent115
  have t2 := @T115
  have e3 := ent117
  have t3 := @T117
  have e4 := ent118
  have t4 := @T118
  have e5 := ent119
  have t5 := @T119
  have e6 := ent120
  have t6 := @T120
  obtain ⟨r, hr⟩ : ∃ r, r = rFrame v p s := ⟨_, rfl⟩
  rw [← hr]
  have w4 : wfI 4 := by unfold wfI; omega
  have wsz : wfI (s.size : Int) := by unfold wfI; omega
  have z1 := rFix_size (n := sumT s) (w := 4)
  have z2 := rSized_size (p := p) (n := s.size)
  have wsum := sumT_wf s
  have no : ¬ ((1 ≤ v ∧ v ≤ 2) ∧ (0 ≤ p ∧ p ≤ 1000000000) ∧ s.size ≤ 60) → r = tx [] := fun h => by rw [hr]; exact if_neg h
  have yes : ((1 ≤ v ∧ v ≤ 2) ∧ (0 ≤ p ∧ p ≤ 1000000000) ∧ s.size ≤ 60) → r = ((if v = 2 then rSized p s.size else rVar s.size) ++ s) ++ rFix (sumT s) 4 := fun h => by rw [hr]; exact if_pos h
  refine CallOk.of_bodyD (body := c83) Try.func83 rfl (Nat.le_of_ble_eq_true (by kernel_rfl)) rfl ?_
  refine vc_ok tab_ok mixed ?_
  have hT := tab_ok
  have hm := mixed
  generalize hP : Try.prog = P at *
  generalize hA : std = A
  obtain ⟨qbin, qsh, qcmp, qscmp, qbcmp, qbnot, qneg, qwrap, qcat, qssize, qssub, qsget, qlen, qrsub, qapp, qelt, qset, qnth, qdrp, qstr, qint, qbool, qrow, qnat, qnadd, qnsub, qband, qofNat, qstrRow, qmkRow, qmx, qmn, qbytes, qemp⟩ := A
  have hE := Ar.eqs hA
  dsimp only at hE
  generalize hQ : EndD P Try.f83.results _ = Q
  cbv
  try simp only [nc] at *
  refine ClW.dd (f := 117) rfl rfl rfl rfl (.cons rfl .nil) rfl e3 (t3 v) rfl ?_
  cases hb : decide (1 ≤ v ∧ v ≤ 2) with
  | false =>
    have hc := of_decide_eq_false hb
    cbv
    try simp only [nc] at *
    rw [show qbnot false = true by simp only [hE, std_not]; rfl]
    cbv
    try simp only [nc] at *
    rw [← hQ, no (fun h => hc h.1)]
    exact endD_one rfl rfl
  | true =>
  have hv12 := of_decide_eq_true hb
  cbv
  try simp only [nc] at *
  rw [show qbnot true = false by simp only [hE, std_not]; rfl]
  cbv
  try simp only [nc] at *
  refine ClW.dd (f := 118) rfl rfl rfl rfl (.cons rfl .nil) rfl e4 (t4 p) rfl ?_
  cases hb2 : decide (0 ≤ p ∧ p ≤ 1000000000) with
  | false =>
    have hc := of_decide_eq_false hb2
    cbv
    try simp only [nc] at *
    rw [show qbnot false = true by simp only [hE, std_not]; rfl]
    cbv
    try simp only [nc] at *
    rw [← hQ, no (fun h => hc h.2.1)]
    exact endD_one rfl rfl
  | true =>
  have hp12 := of_decide_eq_true hb2
  cbv
  try simp only [nc] at *
  rw [show qbnot true = false by simp only [hE, std_not]; rfl]
  cbv
  try simp only [nc] at *
  split
  · rename_i h
    simp only [hE, List.length_map, std_lss, std_leq, std_gtr, std_geq, std_eql, std_neq, std_len, std_add, std_subI, std_mulI, std_ssize, std_not, std_band, std_bcmp, std_nat, std_ofNat, std_nadd, std_nsub, std_emp, IntKind.wrap_i64, decide_eq_true_eq, decide_eq_false_iff_not, Bool.not_eq_true', Bool.not_eq_false', Option.getD_none, Option.getD_some] at h
    cbv
    try simp only [nc] at *
    rw [← hQ, no (by omega)]
    exact endD_one rfl rfl
  rename_i h
  simp only [hE, List.length_map, std_lss, std_leq, std_gtr, std_geq, std_eql, std_neq, std_len, std_add, std_subI, std_mulI, std_ssize, std_not, std_band, std_bcmp, std_nat, std_ofNat, std_nadd, std_nsub, std_emp, IntKind.wrap_i64, decide_eq_true_eq, decide_eq_false_iff_not, Bool.not_eq_true', Bool.not_eq_false', Option.getD_none, Option.getD_some] at h
  have yes' := yes ⟨hv12, hp12, by omega⟩
  have z3 := rVar_size (n := s.size) (by omega) (by omega)
  generalize hszz : (s.size : Int) = sz at *
  have hszq : qssize s = sz := by simp only [hE, std_ssize]; exact hszz
  cbv
  try simp only [nc] at *
  rw [hszq]
  refine ClW.dd (f := 119) rfl rfl rfl rfl (.cons rfl .nil) rfl e5 (t5 sz) rfl ?_
  generalize ha : rVar sz = a at *
  cbv
  try simp only [nc] at *
  split
  · rename_i h2
    simp only [hE, List.length_map, std_lss, std_leq, std_gtr, std_geq, std_eql, std_neq, std_len, std_add, std_subI, std_mulI, std_ssize, std_not, std_band, std_bcmp, std_nat, std_ofNat, std_nadd, std_nsub, std_emp, IntKind.wrap_i64, decide_eq_true_eq, decide_eq_false_iff_not, Bool.not_eq_true', Bool.not_eq_false', Option.getD_none, Option.getD_some] at h2
    rw [if_pos h2] at yes'
    cbv
    try simp only [nc] at *
    rw [hszq]
    refine ClW.dd (f := 120) rfl rfl rfl rfl (.cons rfl (.cons rfl .nil)) rfl e6 (t6 hp wsz) rfl ?_
    generalize hb3 : rSized p sz = b at *
    cbv
    try simp only [nc] at *
    refine ⟨catOk_of (by omega), ?_⟩
    refine ClW.dd (f := 115) rfl rfl rfl rfl (.cons rfl .nil) rfl e2 (t2 (tx_data s) (by rw [size_list]; omega)) rfl ?_
    rw [show ((sumN 0 s.data.toList : Nat) : Int) = sumT s from rfl]
    generalize hd : sumT s = d at *
    cbv
    try simp only [nc] at *
    refine ClW.dd (f := 116) rfl rfl rfl rfl (.cons rfl (.cons rfl .nil)) rfl e1 (t1 wsum w4) rfl ?_
    generalize he : rFix d 4 = e at *
    have hcs : (qcat b s).size = b.size + s.size := by simp only [hE, std_cat, ByteArray.size_append]
    cbv
    try simp only [nc] at *
    refine ⟨catOk_of (by omega), ?_⟩
    rw [← hQ, yes']
    refine endD_val rfl (str_eq ?_)
    simp only [hE, std_cat]
  · rename_i h2
    simp only [hE, List.length_map, std_lss, std_leq, std_gtr, std_geq, std_eql, std_neq, std_len, std_add, std_subI, std_mulI, std_ssize, std_not, std_band, std_bcmp, std_nat, std_ofNat, std_nadd, std_nsub, std_emp, IntKind.wrap_i64, decide_eq_true_eq, decide_eq_false_iff_not, Bool.not_eq_true', Bool.not_eq_false', Option.getD_none, Option.getD_some] at h2
    rw [if_neg h2] at yes'
    cbv
    try simp only [nc] at *
    refine ⟨catOk_of (by omega), ?_⟩
    refine ClW.dd (f := 115) rfl rfl rfl rfl (.cons rfl .nil) rfl e2 (t2 (tx_data s) (by rw [size_list]; omega)) rfl ?_
    rw [show ((sumN 0 s.data.toList : Nat) : Int) = sumT s from rfl]
    generalize hd : sumT s = d at *
    cbv
    try simp only [nc] at *
    refine ClW.dd (f := 116) rfl rfl rfl rfl (.cons rfl (.cons rfl .nil)) rfl e1 (t1 wsum w4) rfl ?_
    generalize he : rFix d 4 = e at *
    have hcs : (qcat a s).size = a.size + s.size := by simp only [hE, std_cat, ByteArray.size_append]
    cbv
    try simp only [nc] at *
    refine ⟨catOk_of (by omega), ?_⟩
    rw [← hQ, yes']
    refine endD_val rfl (str_eq ?_)
    simp only [hE, std_cat]
theorem T79 {v p : Int} {s : ByteArray} (hv : wfI v) (hp : wfI p) (hs : s.size < 2 ^ 47) : CallOk Try.prog 79 [.d (.sc (.int .i64 v)), .d (.sc (.int .i64 p)), .d (.sc (.string s))] [] ⟨.d (.sc (.string (rFrame v p s))), [], []⟩ := by
  have e1 := ent108
  have t1 := @T108
  have e2 := ent107
  have t2 := @T107
  have e3 := ent95
  have t3 := @T95
  have e5 := ent109
  have t5 := @T109
  obtain ⟨r, hr⟩ : ∃ r, r = rFrame v p s := ⟨_, rfl⟩
  rw [← hr]
  have w4 : wfI 4 := by unfold wfI; omega
  have w8 : wfI 8 := by unfold wfI; omega
  have wsz : wfI (s.size : Int) := by unfold wfI; omega
  have z1 := rFix_size (n := sumT s) (w := 4)
  have z4 := rFix_size (n := p) (w := 8)
  have z5 := rFix_size (n := s.size) (w := 4)
  have z6 := rFix_size (n := sumT (rFix p 8 ++ rFix s.size 4)) (w := 4)
  have wsum := sumT_wf s
  have wsum2 := sumT_wf (rFix p 8 ++ rFix s.size 4)
  have no : ¬ ((1 ≤ v ∧ v ≤ 2) ∧ (0 ≤ p ∧ p ≤ 1000000000) ∧ s.size ≤ 60) → r = tx [] := fun h => by rw [hr]; exact if_neg h
  have yes : ((1 ≤ v ∧ v ≤ 2) ∧ (0 ≤ p ∧ p ≤ 1000000000) ∧ s.size ≤ 60) → r = ((if v = 2 then rFix s.size 4 ++ rFix (sumT (rFix p 8 ++ rFix s.size 4)) 4 else rVar s.size) ++ s) ++ rFix (sumT s) 4 := fun h => by rw [hr]; exact if_pos h
  refine CallOk.of_bodyD (body := c79) Try.func79 rfl (Nat.le_of_ble_eq_true (by kernel_rfl)) rfl ?_
  refine vc_ok tab_ok mixed ?_
  have hT := tab_ok
  have hm := mixed
  generalize hP : Try.prog = P at *
  generalize hA : std = A
  obtain ⟨qbin, qsh, qcmp, qscmp, qbcmp, qbnot, qneg, qwrap, qcat, qssize, qssub, qsget, qlen, qrsub, qapp, qelt, qset, qnth, qdrp, qstr, qint, qbool, qrow, qnat, qnadd, qnsub, qband, qofNat, qstrRow, qmkRow, qmx, qmn, qbytes, qemp⟩ := A
  have hE := Ar.eqs hA
  dsimp only at hE
  generalize hQ : EndD P Try.f79.results _ = Q
  cbv
  try simp only [nc] at *
  refine ClW.dd (f := 95) rfl rfl rfl rfl (.cons rfl (.cons rfl (.cons rfl .nil))) rfl e3 (t3 v 1 2) rfl ?_
  cases hb : decide (1 ≤ v ∧ v ≤ 2) with
  | false =>
    have hc := of_decide_eq_false hb
    cbv
    try simp only [nc] at *
    rw [show qbnot false = true by simp only [hE, std_not]; rfl]
    cbv
    try simp only [nc] at *
    rw [← hQ, no (fun h => hc h.1)]
    exact endD_one rfl rfl
  | true =>
  have hv12 := of_decide_eq_true hb
  cbv
  try simp only [nc] at *
  rw [show qbnot true = false by simp only [hE, std_not]; rfl]
  cbv
  try simp only [nc] at *
  refine ClW.dd (f := 95) rfl rfl rfl rfl (.cons rfl (.cons rfl (.cons rfl .nil))) rfl e3 (t3 p 0 1000000000) rfl ?_
  cases hb2 : decide (0 ≤ p ∧ p ≤ 1000000000) with
  | false =>
    have hc := of_decide_eq_false hb2
    cbv
    try simp only [nc] at *
    rw [show qbnot false = true by simp only [hE, std_not]; rfl]
    cbv
    try simp only [nc] at *
    rw [← hQ, no (fun h => hc h.2.1)]
    exact endD_one rfl rfl
  | true =>
  have hp12 := of_decide_eq_true hb2
  cbv
  try simp only [nc] at *
  rw [show qbnot true = false by simp only [hE, std_not]; rfl]
  cbv
  try simp only [nc] at *
  split
  · rename_i h
    simp only [hE, List.length_map, std_lss, std_leq, std_gtr, std_geq, std_eql, std_neq, std_len, std_add, std_subI, std_mulI, std_ssize, std_not, std_band, std_bcmp, std_nat, std_ofNat, std_nadd, std_nsub, std_emp, IntKind.wrap_i64, decide_eq_true_eq, decide_eq_false_iff_not, Bool.not_eq_true', Bool.not_eq_false', Option.getD_none, Option.getD_some] at h
    cbv
    try simp only [nc] at *
    rw [← hQ, no (by omega)]
    exact endD_one rfl rfl
  rename_i h
  simp only [hE, List.length_map, std_lss, std_leq, std_gtr, std_geq, std_eql, std_neq, std_len, std_add, std_subI, std_mulI, std_ssize, std_not, std_band, std_bcmp, std_nat, std_ofNat, std_nadd, std_nsub, std_emp, IntKind.wrap_i64, decide_eq_true_eq, decide_eq_false_iff_not, Bool.not_eq_true', Bool.not_eq_false', Option.getD_none, Option.getD_some] at h
  have yes' := yes ⟨hv12, hp12, by omega⟩
  have z3 := rVar_size (n := s.size) (by omega) (by omega)
  generalize hszz : (s.size : Int) = sz at *
  have hszq : qssize s = sz := by simp only [hE, std_ssize]; exact hszz
  cbv
  try simp only [nc] at *
  refine ClW.dd (f := 107) rfl rfl rfl rfl (.cons rfl .nil) rfl e2 (t2 (tx_data s) (by rw [size_list]; omega)) rfl ?_
  rw [show ((sumN 0 s.data.toList : Nat) : Int) = sumT s from rfl]
  generalize hd : sumT s = d at *
  cbv
  try simp only [nc] at *
  refine ClW.dd (f := 108) rfl rfl rfl rfl (.cons rfl (.cons rfl .nil)) rfl e1 (t1 wsum w4) rfl ?_
  generalize he : rFix d 4 = e at *
  cbv
  try simp only [nc] at *
  split
  · rename_i h2
    simp only [hE, List.length_map, std_lss, std_leq, std_gtr, std_geq, std_eql, std_neq, std_len, std_add, std_subI, std_mulI, std_ssize, std_not, std_band, std_bcmp, std_nat, std_ofNat, std_nadd, std_nsub, std_emp, IntKind.wrap_i64, decide_eq_true_eq, decide_eq_false_iff_not, Bool.not_eq_true', Bool.not_eq_false', Option.getD_none, Option.getD_some] at h2
    rw [if_neg (by omega)] at yes'
    cbv
    try simp only [nc] at *
    rw [hszq]
    refine ClW.dd (f := 109) rfl rfl rfl rfl (.cons rfl .nil) rfl e5 (t5 sz) rfl ?_
    generalize ha : rVar sz = a at *
    have hcs : (qcat a s).size = a.size + s.size := by simp only [hE, std_cat, ByteArray.size_append]
    cbv
    try simp only [nc] at *
    refine ⟨catOk_of (by omega), catOk_of (by omega), ?_⟩
    rw [← hQ, yes']
    refine endD_val rfl (str_eq ?_)
    simp only [hE, std_cat]
  · rename_i h2
    simp only [hE, List.length_map, std_lss, std_leq, std_gtr, std_geq, std_eql, std_neq, std_len, std_add, std_subI, std_mulI, std_ssize, std_not, std_band, std_bcmp, std_nat, std_ofNat, std_nadd, std_nsub, std_emp, IntKind.wrap_i64, decide_eq_true_eq, decide_eq_false_iff_not, Bool.not_eq_true', Bool.not_eq_false', Option.getD_none, Option.getD_some] at h2
    rw [if_pos (by omega)] at yes'
    cbv
    try simp only [nc] at *
    rw [hszq]
    refine ClW.dd (f := 108) rfl rfl rfl rfl (.cons rfl (.cons rfl .nil)) rfl e1 (t1 wsz w4) rfl ?_
    generalize ha : rFix sz 4 = a at *
    cbv
    try simp only [nc] at *
    refine ClW.dd (f := 108) rfl rfl rfl rfl (.cons rfl (.cons rfl .nil)) rfl e1 (t1 hp w8) rfl ?_
    generalize hbb : rFix p 8 = b at *
    cbv
    try simp only [nc] at *
    refine ⟨catOk_of (by omega), ?_⟩
    rw [show qcat b a = b ++ a by simp only [hE, std_cat]]
    have hcs : (b ++ a).size = b.size + a.size := ByteArray.size_append
    generalize hc : b ++ a = c at *
    refine ClW.dd (f := 107) rfl rfl rfl rfl (.cons rfl .nil) rfl e2 (t2 (tx_data c) (by rw [size_list]; omega)) rfl ?_
    rw [show ((sumN 0 c.data.toList : Nat) : Int) = sumT c from rfl]
    generalize hd2 : sumT c = d2 at *
    cbv
    try simp only [nc] at *
    refine ClW.dd (f := 108) rfl rfl rfl rfl (.cons rfl (.cons rfl .nil)) rfl e1 (t1 wsum2 w4) rfl ?_
    generalize he2 : rFix d2 4 = e2' at *
    have hcs1 : (qcat a e2').size = a.size + e2'.size := by simp only [hE, std_cat, ByteArray.size_append]
    have hcs2 : (qcat (qcat a e2') s).size = a.size + e2'.size + s.size := by simp only [hE, std_cat, ByteArray.size_append]
    cbv
    try simp only [nc] at *
    refine ⟨catOk_of (by omega), catOk_of (by omega), catOk_of (by omega), ?_⟩
    rw [← hQ, yes']
    refine endD_val rfl (str_eq ?_)
    simp only [hE, std_cat]
def rFrameSize (v : Int) (s : ByteArray) : Int := (rFrame v 0 s).size
theorem rFrameSize_le {v : Int} {s : ByteArray} : 0 ≤ rFrameSize v s ∧ rFrameSize v s ≤ 100 := by
  unfold rFrameSize rFrame
  split
  · rename_i h
    have z1 := rFix_size (n := sumT s) (w := 4)
    have z2 := rSized_size (p := 0) (n := s.size)
    have z3 := rVar_size (n := s.size) (by omega) (by omega)
    rw [ByteArray.size_append, ByteArray.size_append]
    split <;> omega
  · exact ⟨by decide, by decide⟩
def rFrameMore (s : ByteArray) : Int := rFrameSize 2 s - rFrameSize 1 s
theorem T51 {v : Int} {s : ByteArray} (hv : wfI v) (hs : s.size < 2 ^ 47) : CallOk Try.prog 51 [.d (.sc (.int .i64 v)), .d (.sc (.string s))] [] ⟨.d (.sc (.int .i64 (rFrameSize v s))), [], []⟩ := by
  have e1 := ent79
  have t1 := @T79
  refine CallOk.of_bodyD (body := c51) Try.func51 rfl (Nat.le_of_ble_eq_true (by kernel_rfl)) rfl ?_
  refine vc_ok tab_ok mixed ?_
  have hT := tab_ok
  have hm := mixed
  generalize hP : Try.prog = P at *
  generalize hA : std = A
  obtain ⟨qbin, qsh, qcmp, qscmp, qbcmp, qbnot, qneg, qwrap, qcat, qssize, qssub, qsget, qlen, qrsub, qapp, qelt, qset, qnth, qdrp, qstr, qint, qbool, qrow, qnat, qnadd, qnsub, qband, qofNat, qstrRow, qmkRow, qmx, qmn, qbytes, qemp⟩ := A
  have hE := Ar.eqs hA
  dsimp only at hE
  generalize hQ : EndD P Try.f51.results _ = Q
  cbv
  try simp only [nc] at *
  refine ClW.dd (f := 79) rfl rfl rfl rfl (.cons rfl (.cons rfl (.cons rfl .nil))) rfl e1 (t1 hv (p := 0) (by unfold wfI; omega) hs) rfl ?_
  generalize hr : rFrame v 0 s = r
  cbv
  try simp only [nc] at *
  rw [← hQ]
  refine endD_val rfl (int_eq ?_)
  unfold rFrameSize
  rw [hr]
  simp only [hE, std_ssize]
theorem T11 {s : ByteArray} (hs : (s.size : Int) ≤ 1048576) : CallOk Try.prog 11 [.d (.sc (.string s))] [] ⟨.d (.sc (.int .i64 (rFrameMore s))), [], []⟩ := by
  have e1 := ent51
  have t1 := @T51
  have b1 := rFrameSize_le (v := 2) (s := s)
  have b2 := rFrameSize_le (v := 1) (s := s)
  refine CallOk.of_bodyD (body := c11) Try.func11 rfl (Nat.le_of_ble_eq_true (by kernel_rfl)) rfl ?_
  refine vc_ok tab_ok mixed ?_
  have hT := tab_ok
  have hm := mixed
  generalize hP : Try.prog = P at *
  generalize hA : std = A
  obtain ⟨qbin, qsh, qcmp, qscmp, qbcmp, qbnot, qneg, qwrap, qcat, qssize, qssub, qsget, qlen, qrsub, qapp, qelt, qset, qnth, qdrp, qstr, qint, qbool, qrow, qnat, qnadd, qnsub, qband, qofNat, qstrRow, qmkRow, qmx, qmn, qbytes, qemp⟩ := A
  have hE := Ar.eqs hA
  dsimp only at hE
  generalize hQ : EndD P Try.f11.results _ = Q
  cbv
  try simp only [nc] at *
  refine ClW.dd (f := 51) rfl rfl rfl rfl (.cons rfl (.cons rfl .nil)) rfl e1 (t1 (by unfold wfI; omega) (by omega)) rfl ?_
  generalize hr : rFrameSize 2 s = r at *
  cbv
  try simp only [nc] at *
  refine ClW.dd (f := 51) rfl rfl rfl rfl (.cons rfl (.cons rfl .nil)) rfl e1 (t1 (by unfold wfI; omega) (by omega)) rfl ?_
  generalize hr1 : rFrameSize 1 s = r1 at *
  cbv
  try simp only [nc] at *
  rw [← hQ]
  refine endD_val rfl (int_eq ?_)
  unfold rFrameMore
  rw [hr, hr1]
  simp only [hE, List.length_map, std_lss, std_leq, std_gtr, std_geq, std_eql, std_neq, std_len, std_add, std_subI, std_mulI, std_ssize, std_not, std_band, std_bcmp, std_nat, std_ofNat, std_nadd, std_nsub, std_emp, IntKind.wrap_i64, decide_eq_true_eq, decide_eq_false_iff_not, Bool.not_eq_true', Bool.not_eq_false', Option.getD_none, Option.getD_some, ]
  omega
theorem T52 {v : Int} {s : ByteArray} (hv : wfI v) (hs : s.size < 2 ^ 47) : CallOk Try.prog 52 [.d (.sc (.int .i64 v)), .d (.sc (.string s))] [] ⟨.d (.sc (.int .i64 (rFrameSize v s))), [], []⟩ := by
  have e1 := ent83
  have t1 := @T83
  refine CallOk.of_bodyD (body := c52) Try.func52 rfl (Nat.le_of_ble_eq_true (by kernel_rfl)) rfl ?_
  refine vc_ok tab_ok mixed ?_
  have hT := tab_ok
  have hm := mixed
  generalize hP : Try.prog = P at *
  generalize hA : std = A
  obtain ⟨qbin, qsh, qcmp, qscmp, qbcmp, qbnot, qneg, qwrap, qcat, qssize, qssub, qsget, qlen, qrsub, qapp, qelt, qset, qnth, qdrp, qstr, qint, qbool, qrow, qnat, qnadd, qnsub, qband, qofNat, qstrRow, qmkRow, qmx, qmn, qbytes, qemp⟩ := A
  have hE := Ar.eqs hA
  dsimp only at hE
  generalize hQ : EndD P Try.f52.results _ = Q
  cbv
  try simp only [nc] at *
  refine ClW.dd (f := 83) rfl rfl rfl rfl (.cons rfl (.cons rfl (.cons rfl .nil))) rfl e1 (t1 hv (p := 0) (by unfold wfI; omega) hs) rfl ?_
  generalize hr : rFrame v 0 s = r
  cbv
  try simp only [nc] at *
  rw [← hQ]
  refine endD_val rfl (int_eq ?_)
  unfold rFrameSize
  rw [hr]
  simp only [hE, std_ssize]
theorem T12 {s : ByteArray} (hs : (s.size : Int) ≤ 1048576) : CallOk Try.prog 12 [.d (.sc (.string s))] [] ⟨.d (.sc (.int .i64 (rFrameMore s))), [], []⟩ := by
  have e1 := ent52
  have t1 := @T52
  have b1 := rFrameSize_le (v := 2) (s := s)
  have b2 := rFrameSize_le (v := 1) (s := s)
  refine CallOk.of_bodyD (body := c12) Try.func12 rfl (Nat.le_of_ble_eq_true (by kernel_rfl)) rfl ?_
  refine vc_ok tab_ok mixed ?_
  have hT := tab_ok
  have hm := mixed
  generalize hP : Try.prog = P at *
  generalize hA : std = A
  obtain ⟨qbin, qsh, qcmp, qscmp, qbcmp, qbnot, qneg, qwrap, qcat, qssize, qssub, qsget, qlen, qrsub, qapp, qelt, qset, qnth, qdrp, qstr, qint, qbool, qrow, qnat, qnadd, qnsub, qband, qofNat, qstrRow, qmkRow, qmx, qmn, qbytes, qemp⟩ := A
  have hE := Ar.eqs hA
  dsimp only at hE
  generalize hQ : EndD P Try.f12.results _ = Q
  cbv
  try simp only [nc] at *
  refine ClW.dd (f := 52) rfl rfl rfl rfl (.cons rfl (.cons rfl .nil)) rfl e1 (t1 (by unfold wfI; omega) (by omega)) rfl ?_
  generalize hr : rFrameSize 2 s = r at *
  cbv
  try simp only [nc] at *
  refine ClW.dd (f := 52) rfl rfl rfl rfl (.cons rfl (.cons rfl .nil)) rfl e1 (t1 (by unfold wfI; omega) (by omega)) rfl ?_
  generalize hr1 : rFrameSize 1 s = r1 at *
  cbv
  try simp only [nc] at *
  rw [← hQ]
  refine endD_val rfl (int_eq ?_)
  unfold rFrameMore
  rw [hr, hr1]
  simp only [hE, List.length_map, std_lss, std_leq, std_gtr, std_geq, std_eql, std_neq, std_len, std_add, std_subI, std_mulI, std_ssize, std_not, std_band, std_bcmp, std_nat, std_ofNat, std_nadd, std_nsub, std_emp, IntKind.wrap_i64, decide_eq_true_eq, decide_eq_false_iff_not, Bool.not_eq_true', Bool.not_eq_false', Option.getD_none, Option.getD_some, ]
  omega
end Go.Proofs.Ytamdgfklbjoaiaa.Ab
