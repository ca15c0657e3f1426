/- What functions of the program come to, for all arguments in the given bounds. -/
import Derived.Test.YtamdgfklbjoaiaaDoorH
set_option linter.unusedVariables false
set_option linter.unusedSimpArgs false
namespace Go.Proofs.YtamdgfklbjoaiaaDoor.Ab
open Go Go.Proofs
set_option maxRecDepth 20000
set_option linter.unusedVariables false
noncomputable def c10 : Code := (Tryd.f10.body).getD .skip
theorem ent10 : Entered Tryd.prog 10 := ⟨_, Tryd.func10, rfl, rfl⟩
theorem T10 {a_kind : Int} {a_name : ByteArray} {a_to : ByteArray} {a_text : ByteArray} {left : Int} (h0 : 0 ≤ left) (h1 : left < 2 ^ 40) (hok : okOp ⟨a_kind, a_name, a_to, a_text⟩) :
    CallOk Tryd.prog 10 [.agg [.d (.sc (.int .i64 a_kind)), .d (.sc (.string a_name)), .d (.sc (.string a_to)), .d (.sc (.string a_text))], .d (.sc (.int .i64 left))] [] ⟨.d (.sc (.int .i64 (szOf (totOp ⟨a_kind, a_name, a_to, a_text⟩) left))), [], []⟩ := by
  refine CallOk.of_bodyD (body := c10) Tryd.func10 rfl (Nat.le_of_ble_eq_true (by kernel_rfl)) rfl ?_
  refine vc_ok tab_ok mixed ?_
  have hT := tab_ok
  have hm := mixed
  generalize hP : Tryd.prog = P at *
  generalize hA : std = A
  obtain ⟨qbin, qsh, qcmp, qscmp, qbcmp, qbnot, qneg, qwrap, qcat, qssize, qssub, qsget, qlen, qrsub, qapp, qelt, qset, qnth, qdrp, qstr, qint, qbool, qrow, qnat, qnadd, qnsub, qband, qofNat, qstrRow, qmkRow, qmx, qmn, qbytes, qemp⟩ := A
  have hE := Ar.eqs hA
  dsimp only at hE
  generalize hQ : EndD P Tryd.f10.results _ = Q
  have hok' : a_name.size < 2 ^ 47 ∧ a_to.size < 2 ^ 47 ∧ a_text.size < 2 ^ 47 := hok
  generalize hto : totOp ⟨a_kind, a_name, a_to, a_text⟩ = to at *
  have hto' : (a_name.size : Int) + (a_to.size : Int) + (a_text.size : Int) = to := hto
  clear hok hto
  obtain ⟨k0, k1, k2⟩ := hok'
  cbv
  try simp only [nc] at *
  obtain ⟨l0, hl0⟩ : ∃ l, l = left - (a_name.size : Int) := ⟨_, rfl⟩
  rw [show qbin .sub .i64 left (qssize a_name) = l0 by simp only [hE, List.length_map, std_lss, std_leq, std_gtr, std_geq, std_eql, std_neq, std_len, std_add, std_subI, std_mulI, std_ssize, std_not, std_band, std_bcmp, std_nat, std_ofNat, std_nadd, std_nsub, std_emp, IntKind.wrap_i64, decide_eq_true_eq, decide_eq_false_iff_not, Bool.not_eq_true', Bool.not_eq_false', Option.getD_none, Option.getD_some, ]; omega]
  split
  · rename_i h2
    simp only [hE, List.length_map, std_lss, std_leq, std_gtr, std_geq, std_eql, std_neq, std_len, std_add, std_subI, std_mulI, std_ssize, std_not, std_band, std_bcmp, std_nat, std_ofNat, std_nadd, std_nsub, std_emp, IntKind.wrap_i64, decide_eq_true_eq, decide_eq_false_iff_not, Bool.not_eq_true', Bool.not_eq_false', Option.getD_none, Option.getD_some] at h2
    cbv
    try simp only [nc] at *
    rw [← hQ, show szOf to left = -1 by unfold szOf; rw [if_neg (by omega)]]
    exact endD_one rfl rfl
  rename_i h20
  simp only [hE, List.length_map, std_lss, std_leq, std_gtr, std_geq, std_eql, std_neq, std_len, std_add, std_subI, std_mulI, std_ssize, std_not, std_band, std_bcmp, std_nat, std_ofNat, std_nadd, std_nsub, std_emp, IntKind.wrap_i64, decide_eq_true_eq, decide_eq_false_iff_not, Bool.not_eq_true', Bool.not_eq_false', Option.getD_none, Option.getD_some] at h20
  cbv
  try simp only [nc] at *
  obtain ⟨l1, hl1⟩ : ∃ l, l = l0 - (a_to.size : Int) := ⟨_, rfl⟩
  rw [show qbin .sub .i64 l0 (qssize a_to) = l1 by simp only [hE, List.length_map, std_lss, std_leq, std_gtr, std_geq, std_eql, std_neq, std_len, std_add, std_subI, std_mulI, std_ssize, std_not, std_band, std_bcmp, std_nat, std_ofNat, std_nadd, std_nsub, std_emp, IntKind.wrap_i64, decide_eq_true_eq, decide_eq_false_iff_not, Bool.not_eq_true', Bool.not_eq_false', Option.getD_none, Option.getD_some, ]; omega]
  split
  · rename_i h2
    simp only [hE, List.length_map, std_lss, std_leq, std_gtr, std_geq, std_eql, std_neq, std_len, std_add, std_subI, std_mulI, std_ssize, std_not, std_band, std_bcmp, std_nat, std_ofNat, std_nadd, std_nsub, std_emp, IntKind.wrap_i64, decide_eq_true_eq, decide_eq_false_iff_not, Bool.not_eq_true', Bool.not_eq_false', Option.getD_none, Option.getD_some] at h2
    cbv
    try simp only [nc] at *
    rw [← hQ, show szOf to left = -1 by unfold szOf; rw [if_neg (by omega)]]
    exact endD_one rfl rfl
  rename_i h21
  simp only [hE, List.length_map, std_lss, std_leq, std_gtr, std_geq, std_eql, std_neq, std_len, std_add, std_subI, std_mulI, std_ssize, std_not, std_band, std_bcmp, std_nat, std_ofNat, std_nadd, std_nsub, std_emp, IntKind.wrap_i64, decide_eq_true_eq, decide_eq_false_iff_not, Bool.not_eq_true', Bool.not_eq_false', Option.getD_none, Option.getD_some] at h21
  cbv
  try simp only [nc] at *
  obtain ⟨l2, hl2⟩ : ∃ l, l = l1 - (a_text.size : Int) := ⟨_, rfl⟩
  rw [show qbin .sub .i64 l1 (qssize a_text) = l2 by simp only [hE, List.length_map, std_lss, std_leq, std_gtr, std_geq, std_eql, std_neq, std_len, std_add, std_subI, std_mulI, std_ssize, std_not, std_band, std_bcmp, std_nat, std_ofNat, std_nadd, std_nsub, std_emp, IntKind.wrap_i64, decide_eq_true_eq, decide_eq_false_iff_not, Bool.not_eq_true', Bool.not_eq_false', Option.getD_none, Option.getD_some, ]; omega]
  split
  · rename_i h2
    simp only [hE, List.length_map, std_lss, std_leq, std_gtr, std_geq, std_eql, std_neq, std_len, std_add, std_subI, std_mulI, std_ssize, std_not, std_band, std_bcmp, std_nat, std_ofNat, std_nadd, std_nsub, std_emp, IntKind.wrap_i64, decide_eq_true_eq, decide_eq_false_iff_not, Bool.not_eq_true', Bool.not_eq_false', Option.getD_none, Option.getD_some] at h2
    cbv
    try simp only [nc] at *
    rw [← hQ, show szOf to left = -1 by unfold szOf; rw [if_neg (by omega)]]
    exact endD_one rfl rfl
  rename_i h22
  simp only [hE, List.length_map, std_lss, std_leq, std_gtr, std_geq, std_eql, std_neq, std_len, std_add, std_subI, std_mulI, std_ssize, std_not, std_band, std_bcmp, std_nat, std_ofNat, std_nadd, std_nsub, std_emp, IntKind.wrap_i64, decide_eq_true_eq, decide_eq_false_iff_not, Bool.not_eq_true', Bool.not_eq_false', Option.getD_none, Option.getD_some] at h22
  cbv
  try simp only [nc] at *
  rw [← hQ, show szOf to left = l2 by unfold szOf; rw [if_pos (by omega)]; omega]
  exact endD_one rfl rfl
noncomputable def c34 : Code := (Tryd.f34.body).getD .skip
theorem ent34 : Entered Tryd.prog 34 := ⟨_, Tryd.func34, rfl, rfl⟩
theorem T34 {a : List Int} {xs : List (List D)} (hx : a.map cI = xs) {left : Int} (h0 : 0 ≤ left) (h1 : left < 2 ^ 40) (hok : okIntS a) :
    CallOk Tryd.prog 34 [.d (.row 1 xs), .d (.sc (.int .i64 left))] [] ⟨.d (.sc (.int .i64 (szOf (totIntS a) left))), [], []⟩ := by
  refine CallOk.of_bodyD (body := c34) Tryd.func34 rfl (Nat.le_of_ble_eq_true (by kernel_rfl)) rfl ?_
  refine vc_ok tab_ok mixed ?_
  have hT := tab_ok
  have hm := mixed
  generalize hP : Tryd.prog = P at *
  generalize hA : std = A
  obtain ⟨qbin, qsh, qcmp, qscmp, qbcmp, qbnot, qneg, qwrap, qcat, qssize, qssub, qsget, qlen, qrsub, qapp, qelt, qset, qnth, qdrp, qstr, qint, qbool, qrow, qnat, qnadd, qnsub, qband, qofNat, qstrRow, qmkRow, qmx, qmn, qbytes, qemp⟩ := A
  have hE := Ar.eqs hA
  dsimp only at hE
  generalize hQ : EndD P Tryd.f34.results _ = Q
  have hn := rd_n hx
  have ha : a.length < 2 ^ 44 := hok
  cbv
  try simp only [nc] at *
  split
  · rename_i h2
    simp only [hE, List.length_map, std_lss, std_leq, std_gtr, std_geq, std_eql, std_neq, std_len, std_add, std_subI, std_mulI, std_ssize, std_not, std_band, std_bcmp, std_nat, std_ofNat, std_nadd, std_nsub, std_emp, IntKind.wrap_i64, decide_eq_true_eq, decide_eq_false_iff_not, Bool.not_eq_true', Bool.not_eq_false', Option.getD_none, Option.getD_some, hn] at h2
    cbv
    try simp only [nc] at *
    rw [← hQ, show szOf (totIntS a) left = -1 by unfold szOf totIntS; rw [if_neg (by omega)]]
    exact endD_one rfl rfl
  · rename_i h2
    simp only [hE, List.length_map, std_lss, std_leq, std_gtr, std_geq, std_eql, std_neq, std_len, std_add, std_subI, std_mulI, std_ssize, std_not, std_band, std_bcmp, std_nat, std_ofNat, std_nadd, std_nsub, std_emp, IntKind.wrap_i64, decide_eq_true_eq, decide_eq_false_iff_not, Bool.not_eq_true', Bool.not_eq_false', Option.getD_none, Option.getD_some, hn] at h2
    cbv
    try simp only [nc] at *
    rw [← hQ, show szOf (totIntS a) left = qbin .sub .i64 left (qlen xs) by unfold szOf totIntS; rw [if_pos (by omega)]; simp only [hE, List.length_map, std_lss, std_leq, std_gtr, std_geq, std_eql, std_neq, std_len, std_add, std_subI, std_mulI, std_ssize, std_not, std_band, std_bcmp, std_nat, std_ofNat, std_nadd, std_nsub, std_emp, IntKind.wrap_i64, decide_eq_true_eq, decide_eq_false_iff_not, Bool.not_eq_true', Bool.not_eq_false', Option.getD_none, Option.getD_some, hn]; omega]
    exact endD_one rfl rfl
noncomputable def c14 : Code := (Tryd.f14.body).getD .skip
theorem ent14 : Entered Tryd.prog 14 := ⟨_, Tryd.func14, rfl, rfl⟩
theorem T14 {a_kind : Int} {a_text : ByteArray} {a_n : Int} {a_keeps : List Int} {xa_keeps : List (List D)} (ha_keeps : a_keeps.map cI = xa_keeps) {left : Int} (h0 : 0 ≤ left) (h1 : left < 2 ^ 40) (hok : okAct ⟨a_kind, a_text, a_n, a_keeps⟩) :
    CallOk Tryd.prog 14 [.agg [.d (.sc (.int .i64 a_kind)), .d (.sc (.string a_text)), .d (.sc (.int .i64 a_n)), .d (.row 1 xa_keeps)], .d (.sc (.int .i64 left))] [] ⟨.d (.sc (.int .i64 (szOf (totAct ⟨a_kind, a_text, a_n, a_keeps⟩) left))), [], []⟩ := by
  have ent34_ := ent34
  have T34_ := @T34
  refine CallOk.of_bodyD (body := c14) Tryd.func14 rfl (Nat.le_of_ble_eq_true (by kernel_rfl)) rfl ?_
  refine vc_ok tab_ok mixed ?_
  have hT := tab_ok
  have hm := mixed
  generalize hP : Tryd.prog = P at *
  generalize hA : std = A
  obtain ⟨qbin, qsh, qcmp, qscmp, qbcmp, qbnot, qneg, qwrap, qcat, qssize, qssub, qsget, qlen, qrsub, qapp, qelt, qset, qnth, qdrp, qstr, qint, qbool, qrow, qnat, qnadd, qnsub, qband, qofNat, qstrRow, qmkRow, qmx, qmn, qbytes, qemp⟩ := A
  have hE := Ar.eqs hA
  dsimp only at hE
  generalize hQ : EndD P Tryd.f14.results _ = Q
  have nna_keeps := totIntS_nn a_keeps
  have hok' : a_text.size < 2 ^ 47 ∧ okIntS a_keeps := hok
  generalize hto : totAct ⟨a_kind, a_text, a_n, a_keeps⟩ = to at *
  have hto' : (a_text.size : Int) + totIntS a_keeps = to := hto
  clear hok hto
  obtain ⟨k0, k1⟩ := hok'
  cbv
  try simp only [nc] at *
  obtain ⟨l0, hl0⟩ : ∃ l, l = left - (a_text.size : Int) := ⟨_, rfl⟩
  rw [show qbin .sub .i64 left (qssize a_text) = l0 by simp only [hE, List.length_map, std_lss, std_leq, std_gtr, std_geq, std_eql, std_neq, std_len, std_add, std_subI, std_mulI, std_ssize, std_not, std_band, std_bcmp, std_nat, std_ofNat, std_nadd, std_nsub, std_emp, IntKind.wrap_i64, decide_eq_true_eq, decide_eq_false_iff_not, Bool.not_eq_true', Bool.not_eq_false', Option.getD_none, Option.getD_some, ]; omega]
  split
  · rename_i h2
    simp only [hE, List.length_map, std_lss, std_leq, std_gtr, std_geq, std_eql, std_neq, std_len, std_add, std_subI, std_mulI, std_ssize, std_not, std_band, std_bcmp, std_nat, std_ofNat, std_nadd, std_nsub, std_emp, IntKind.wrap_i64, decide_eq_true_eq, decide_eq_false_iff_not, Bool.not_eq_true', Bool.not_eq_false', Option.getD_none, Option.getD_some] at h2
    cbv
    try simp only [nc] at *
    rw [← hQ, show szOf to left = -1 by unfold szOf; rw [if_neg (by omega)]]
    exact endD_one rfl rfl
  rename_i h20
  simp only [hE, List.length_map, std_lss, std_leq, std_gtr, std_geq, std_eql, std_neq, std_len, std_add, std_subI, std_mulI, std_ssize, std_not, std_band, std_bcmp, std_nat, std_ofNat, std_nadd, std_nsub, std_emp, IntKind.wrap_i64, decide_eq_true_eq, decide_eq_false_iff_not, Bool.not_eq_true', Bool.not_eq_false', Option.getD_none, Option.getD_some] at h20
  cbv
  try simp only [nc] at *
  refine ClW.dd (f := 34) rfl rfl rfl rfl (.cons rfl (.cons rfl .nil)) rfl ent34_ (T34_ ha_keeps (by omega) (by omega) k1) rfl ?_
  generalize hl1 : szOf (totIntS a_keeps) l0 = l1
  cbv
  try simp only [nc] at *
  split
  · rename_i h2
    simp only [hE, List.length_map, std_lss, std_leq, std_gtr, std_geq, std_eql, std_neq, std_len, std_add, std_subI, std_mulI, std_ssize, std_not, std_band, std_bcmp, std_nat, std_ofNat, std_nadd, std_nsub, std_emp, IntKind.wrap_i64, decide_eq_true_eq, decide_eq_false_iff_not, Bool.not_eq_true', Bool.not_eq_false', Option.getD_none, Option.getD_some] at h2
    cbv
    try simp only [nc] at *
    have hb1 : ¬ totIntS a_keeps ≤ l0 := by intro hle; unfold szOf at hl1; rw [if_pos hle] at hl1; omega
    rw [← hQ, show szOf to left = -1 by unfold szOf; rw [if_neg (by omega)]]
    exact endD_one rfl rfl
  rename_i h21
  simp only [hE, List.length_map, std_lss, std_leq, std_gtr, std_geq, std_eql, std_neq, std_len, std_add, std_subI, std_mulI, std_ssize, std_not, std_band, std_bcmp, std_nat, std_ofNat, std_nadd, std_nsub, std_emp, IntKind.wrap_i64, decide_eq_true_eq, decide_eq_false_iff_not, Bool.not_eq_true', Bool.not_eq_false', Option.getD_none, Option.getD_some] at h21
  obtain ⟨g1, g1'⟩ := szOf_ge (t := totIntS a_keeps) (left := l0) (by omega)
  cbv
  try simp only [nc] at *
  rw [← hQ, show szOf to left = l1 by unfold szOf; rw [if_pos (by omega)]; omega]
  exact endD_one rfl rfl
noncomputable def c68 : Code := (Tryd.f68.body).getD .skip
theorem ent68 : Entered Tryd.prog 68 := ⟨_, Tryd.func68, rfl, rfl⟩
theorem T68 {a_id : Int} {a_text : ByteArray} {a_sure : Int} {left : Int} (h0 : 0 ≤ left) (h1 : left < 2 ^ 40) (hok : okNode ⟨a_id, a_text, a_sure⟩) :
    CallOk Tryd.prog 68 [.agg [.d (.sc (.int .i64 a_id)), .d (.sc (.string a_text)), .d (.sc (.int .i64 a_sure))], .d (.sc (.int .i64 left))] [] ⟨.d (.sc (.int .i64 (szOf (totNode ⟨a_id, a_text, a_sure⟩) left))), [], []⟩ := by
  refine CallOk.of_bodyD (body := c68) Tryd.func68 rfl (Nat.le_of_ble_eq_true (by kernel_rfl)) rfl ?_
  refine vc_ok tab_ok mixed ?_
  have hT := tab_ok
  have hm := mixed
  generalize hP : Tryd.prog = P at *
  generalize hA : std = A
  obtain ⟨qbin, qsh, qcmp, qscmp, qbcmp, qbnot, qneg, qwrap, qcat, qssize, qssub, qsget, qlen, qrsub, qapp, qelt, qset, qnth, qdrp, qstr, qint, qbool, qrow, qnat, qnadd, qnsub, qband, qofNat, qstrRow, qmkRow, qmx, qmn, qbytes, qemp⟩ := A
  have hE := Ar.eqs hA
  dsimp only at hE
  generalize hQ : EndD P Tryd.f68.results _ = Q
  have hok' : a_text.size < 2 ^ 47 := hok
  generalize hto : totNode ⟨a_id, a_text, a_sure⟩ = to at *
  have hto' : (a_text.size : Int) = to := hto
  clear hok hto
  have k0 := hok'
  cbv
  try simp only [nc] at *
  obtain ⟨l0, hl0⟩ : ∃ l, l = left - (a_text.size : Int) := ⟨_, rfl⟩
  rw [show qbin .sub .i64 left (qssize a_text) = l0 by simp only [hE, List.length_map, std_lss, std_leq, std_gtr, std_geq, std_eql, std_neq, std_len, std_add, std_subI, std_mulI, std_ssize, std_not, std_band, std_bcmp, std_nat, std_ofNat, std_nadd, std_nsub, std_emp, IntKind.wrap_i64, decide_eq_true_eq, decide_eq_false_iff_not, Bool.not_eq_true', Bool.not_eq_false', Option.getD_none, Option.getD_some, ]; omega]
  split
  · rename_i h2
    simp only [hE, List.length_map, std_lss, std_leq, std_gtr, std_geq, std_eql, std_neq, std_len, std_add, std_subI, std_mulI, std_ssize, std_not, std_band, std_bcmp, std_nat, std_ofNat, std_nadd, std_nsub, std_emp, IntKind.wrap_i64, decide_eq_true_eq, decide_eq_false_iff_not, Bool.not_eq_true', Bool.not_eq_false', Option.getD_none, Option.getD_some] at h2
    cbv
    try simp only [nc] at *
    rw [← hQ, show szOf to left = -1 by unfold szOf; rw [if_neg (by omega)]]
    exact endD_one rfl rfl
  rename_i h20
  simp only [hE, List.length_map, std_lss, std_leq, std_gtr, std_geq, std_eql, std_neq, std_len, std_add, std_subI, std_mulI, std_ssize, std_not, std_band, std_bcmp, std_nat, std_ofNat, std_nadd, std_nsub, std_emp, IntKind.wrap_i64, decide_eq_true_eq, decide_eq_false_iff_not, Bool.not_eq_true', Bool.not_eq_false', Option.getD_none, Option.getD_some] at h20
  cbv
  try simp only [nc] at *
  rw [← hQ, show szOf to left = l0 by unfold szOf; rw [if_pos (by omega)]; omega]
  exact endD_one rfl rfl
noncomputable def c48 : Code := (Tryd.f48.body).getD .skip
theorem ent48 : Entered Tryd.prog 48 := ⟨_, Tryd.func48, rfl, rfl⟩
theorem T48 {a : List TNode} {xs : List (List D)} (hx : a.map eNode = xs) {left : Int} (h0 : 0 ≤ left) (h1 : left < 2 ^ 40) (hok : okNodeS a) :
    CallOk Tryd.prog 48 [.d (.row 3 xs), .d (.sc (.int .i64 left))] [] ⟨.d (.sc (.int .i64 (szOf (totNodeS a) left))), [], []⟩ := by
  have ent68_ := ent68
  have T68_ := @T68
  obtain ⟨ha, hs⟩ := hok
  refine CallOk.of_bodyD (body := c48) Tryd.func48 rfl (Nat.le_of_ble_eq_true (by kernel_rfl)) rfl ?_
  refine vc_ok tab_ok mixed ?_
  have hT := tab_ok
  have hm := mixed
  generalize hP : Tryd.prog = P at *
  generalize hA : std = A
  obtain ⟨qbin, qsh, qcmp, qscmp, qbcmp, qbnot, qneg, qwrap, qcat, qssize, qssub, qsget, qlen, qrsub, qapp, qelt, qset, qnth, qdrp, qstr, qint, qbool, qrow, qnat, qnadd, qnsub, qband, qofNat, qstrRow, qmkRow, qmx, qmn, qbytes, qemp⟩ := A
  have hE := Ar.eqs hA
  dsimp only at hE
  generalize hQ : EndD P Tryd.f48.results _ = Q
  have hn := rd_n hx
  cbv
  try simp only [nc] at *
  split
  · rename_i h2
    simp only [hE, List.length_map, std_lss, std_leq, std_gtr, std_geq, std_eql, std_neq, std_len, std_add, std_subI, std_mulI, std_ssize, std_not, std_band, std_bcmp, std_nat, std_ofNat, std_nadd, std_nsub, std_emp, IntKind.wrap_i64, decide_eq_true_eq, decide_eq_false_iff_not, Bool.not_eq_true', Bool.not_eq_false', Option.getD_none, Option.getD_some, hn] at h2
    cbv
    try simp only [nc] at *
    have := sumF_nonneg (fun x => totNode x) a (fun x _ => totNodeS_el x)
    rw [← hQ, show szOf (totNodeS a) left = -1 by unfold szOf totNodeS; rw [if_neg (by omega)]]
    exact endD_one rfl rfl
  · rename_i h2
    simp only [hE, List.length_map, std_lss, std_leq, std_gtr, std_geq, std_eql, std_neq, std_len, std_add, std_subI, std_mulI, std_ssize, std_not, std_band, std_bcmp, std_nat, std_ofNat, std_nadd, std_nsub, std_emp, IntKind.wrap_i64, decide_eq_true_eq, decide_eq_false_iff_not, Bool.not_eq_true', Bool.not_eq_false', Option.getD_none, Option.getD_some, hn] at h2
    cbv
    try simp only [nc] at *
    refine LpW.of (κ := Nat) (fun k => k ≤ a.length ∧ 0 ≤ left - (a.length + sumF (fun x => totNode x) (a.take k))) (fun k => a.length - k) (fun k => [(0, .d (.row 3 xs)), (1, .d (.sc (.int .i64 (left - (a.length + sumF (fun x => totNode x) (a.take k)))))), (5, .d (.sc (.int .i64 k)))]) (fun _ => []) 0 ⟨by omega, by simp [sumF]; omega⟩ ?_ (by first | rfl | trivial) ?_
    · refine .cons rfl (.cons ?_ (.cons rfl (.nil _)))
      show AV.d (D.sc (Value.int IntKind.i64 (qbin .sub .i64 left (qlen xs)))) = _
      rw [show qbin .sub .i64 left (qlen xs) = left - a.length by simp only [hE, List.length_map, std_lss, std_leq, std_gtr, std_geq, std_eql, std_neq, std_len, std_add, std_subI, std_mulI, std_ssize, std_not, std_band, std_bcmp, std_nat, std_ofNat, std_nadd, std_nsub, std_emp, IntKind.wrap_i64, decide_eq_true_eq, decide_eq_false_iff_not, Bool.not_eq_true', Bool.not_eq_false', Option.getD_none, Option.getD_some, hn]; omega]
      simp [sumF]
    · rintro k ⟨hk, hl⟩
      generalize hleft : left - (a.length + sumF (fun x => totNode x) (a.take k)) = l at *
      generalize hi : (k : Int) = i
      refine vc_ok hT hm ?_
      rw [hA]
      cbv
      try simp only [nc] at *
      split
      · rename_i h3
        simp only [hE, List.length_map, std_lss, std_leq, std_gtr, std_geq, std_eql, std_neq, std_len, std_add, std_subI, std_mulI, std_ssize, std_not, std_band, std_bcmp, std_nat, std_ofNat, std_nadd, std_nsub, std_emp, IntKind.wrap_i64, decide_eq_true_eq, decide_eq_false_iff_not, Bool.not_eq_true', Bool.not_eq_false', Option.getD_none, Option.getD_some, hn] at h3
        have hk' : k < a.length := by omega
        have hsz := hs a[k] (List.getElem_mem hk')
        have hp := sumF_nonneg (fun x => totNode x) (a.take k) (fun x _ => totNodeS_el x)
        have hsum := sumF_succ (fun x => totNode x) a hk'
        have hle := sumF_take_le (fun x => totNode x) a (fun x _ => totNodeS_el x) (k + 1)
        have hel := totNodeS_el a[k]
        cbv
        try simp only [nc] at *
        repeat (refine And.intro (by first | (simp only [hE]; exact rd_inR hx hi hk') | (simp only [hE, rd_elt hx hi hk']; exact ⟨rfl⟩) | (simp only [hE, rd_elt hx hi hk']; exact ⟨Nat.le_of_ble_eq_true rfl⟩)) ?_)
        obtain ⟨wv, hwv⟩ : ∃ w, w = a[k] := ⟨_, rfl⟩
        have hev : qelt xs i = eNode wv := by simp only [hE]; rw [rd_elt hx hi hk', hwv]
        rw [← hwv] at hsz hsum hel
        obtain ⟨v_id, v_text, v_sure⟩ := wv
        rw [show qint (qnth (qelt xs i) 0) = v_id by rw [hev]; simp only [hE]; rfl, show qstr (qnth (qelt xs i) 1) = v_text by rw [hev]; simp only [hE]; rfl, show qint (qnth (qelt xs i) 2) = v_sure by rw [hev]; simp only [hE]; rfl]
        refine ClW.dd (f := 68) rfl rfl rfl rfl (.cons rfl (.cons rfl .nil)) rfl ent68_ (T68_ (by omega) (by omega) hsz) rfl ?_
        generalize hl' : szOf (totNode (⟨v_id, v_text, v_sure⟩ : TNode)) l = l'
        cbv
        try simp only [nc] at *
        split
        · rename_i h4
          simp only [hE, List.length_map, std_lss, std_leq, std_gtr, std_geq, std_eql, std_neq, std_len, std_add, std_subI, std_mulI, std_ssize, std_not, std_band, std_bcmp, std_nat, std_ofNat, std_nadd, std_nsub, std_emp, IntKind.wrap_i64, decide_eq_true_eq, decide_eq_false_iff_not, Bool.not_eq_true', Bool.not_eq_false', Option.getD_none, Option.getD_some] at h4
          cbv
          try simp only [nc] at *
          have hb : ¬ totNode (⟨v_id, v_text, v_sure⟩ : TNode) ≤ l := by intro hle'; unfold szOf at hl'; rw [if_pos hle'] at hl'; omega
          rw [← hQ, show szOf (totNodeS a) left = -1 by unfold szOf totNodeS; rw [if_neg (by omega)]]
          exact endD_one rfl rfl
        · rename_i h4
          simp only [hE, List.length_map, std_lss, std_leq, std_gtr, std_geq, std_eql, std_neq, std_len, std_add, std_subI, std_mulI, std_ssize, std_not, std_band, std_bcmp, std_nat, std_ofNat, std_nadd, std_nsub, std_emp, IntKind.wrap_i64, decide_eq_true_eq, decide_eq_false_iff_not, Bool.not_eq_true', Bool.not_eq_false', Option.getD_none, Option.getD_some] at h4
          obtain ⟨g, g'⟩ := szOf_ge (t := totNode (⟨v_id, v_text, v_sure⟩ : TNode)) (left := l) (by omega)
          cbv
          try simp only [nc] at *
          refine ⟨k + 1, ⟨by omega, by omega⟩, by omega, ?_, by trivial⟩
          refine .cons rfl (.cons ?_ (.cons ?_ (.nil _)))
          · rw [show left - (a.length + sumF (fun x => totNode x) (a.take (k + 1))) = l' by omega]
            rfl
          · show AV.d (D.sc (Value.int IntKind.i64 (qbin .add .i64 i 1))) = _
            rw [show qbin .add .i64 i 1 = ((k + 1 : Nat) : Int) by simp only [hE, List.length_map, std_lss, std_leq, std_gtr, std_geq, std_eql, std_neq, std_len, std_add, std_subI, std_mulI, std_ssize, std_not, std_band, std_bcmp, std_nat, std_ofNat, std_nadd, std_nsub, std_emp, IntKind.wrap_i64, decide_eq_true_eq, decide_eq_false_iff_not, Bool.not_eq_true', Bool.not_eq_false', Option.getD_none, Option.getD_some, ]; omega]
      · rename_i h3
        simp only [hE, List.length_map, std_lss, std_leq, std_gtr, std_geq, std_eql, std_neq, std_len, std_add, std_subI, std_mulI, std_ssize, std_not, std_band, std_bcmp, std_nat, std_ofNat, std_nadd, std_nsub, std_emp, IntKind.wrap_i64, decide_eq_true_eq, decide_eq_false_iff_not, Bool.not_eq_true', Bool.not_eq_false', Option.getD_none, Option.getD_some, hn] at h3
        cbv
        try simp only [nc] at *
        have hk' : k = a.length := by omega
        subst hk'
        rw [List.take_length] at hleft
        rw [← hQ, show szOf (totNodeS a) left = l by unfold szOf totNodeS; rw [if_pos (by omega)]; omega]
        exact endD_one rfl rfl
noncomputable def c69 : Code := (Tryd.f69.body).getD .skip
theorem ent69 : Entered Tryd.prog 69 := ⟨_, Tryd.func69, rfl, rfl⟩
theorem T69 {a_name : ByteArray} {a_id : Int} {left : Int} (h0 : 0 ≤ left) (h1 : left < 2 ^ 40) (hok : okEntry ⟨a_name, a_id⟩) :
    CallOk Tryd.prog 69 [.agg [.d (.sc (.string a_name)), .d (.sc (.int .i64 a_id))], .d (.sc (.int .i64 left))] [] ⟨.d (.sc (.int .i64 (szOf (totEntry ⟨a_name, a_id⟩) left))), [], []⟩ := by
  refine CallOk.of_bodyD (body := c69) Tryd.func69 rfl (Nat.le_of_ble_eq_true (by kernel_rfl)) rfl ?_
  refine vc_ok tab_ok mixed ?_
  have hT := tab_ok
  have hm := mixed
  generalize hP : Tryd.prog = P at *
  generalize hA : std = A
  obtain ⟨qbin, qsh, qcmp, qscmp, qbcmp, qbnot, qneg, qwrap, qcat, qssize, qssub, qsget, qlen, qrsub, qapp, qelt, qset, qnth, qdrp, qstr, qint, qbool, qrow, qnat, qnadd, qnsub, qband, qofNat, qstrRow, qmkRow, qmx, qmn, qbytes, qemp⟩ := A
  have hE := Ar.eqs hA
  dsimp only at hE
  generalize hQ : EndD P Tryd.f69.results _ = Q
  have hok' : a_name.size < 2 ^ 47 := hok
  generalize hto : totEntry ⟨a_name, a_id⟩ = to at *
  have hto' : (a_name.size : Int) = to := hto
  clear hok hto
  have k0 := hok'
  cbv
  try simp only [nc] at *
  obtain ⟨l0, hl0⟩ : ∃ l, l = left - (a_name.size : Int) := ⟨_, rfl⟩
  rw [show qbin .sub .i64 left (qssize a_name) = l0 by simp only [hE, List.length_map, std_lss, std_leq, std_gtr, std_geq, std_eql, std_neq, std_len, std_add, std_subI, std_mulI, std_ssize, std_not, std_band, std_bcmp, std_nat, std_ofNat, std_nadd, std_nsub, std_emp, IntKind.wrap_i64, decide_eq_true_eq, decide_eq_false_iff_not, Bool.not_eq_true', Bool.not_eq_false', Option.getD_none, Option.getD_some, ]; omega]
  split
  · rename_i h2
    simp only [hE, List.length_map, std_lss, std_leq, std_gtr, std_geq, std_eql, std_neq, std_len, std_add, std_subI, std_mulI, std_ssize, std_not, std_band, std_bcmp, std_nat, std_ofNat, std_nadd, std_nsub, std_emp, IntKind.wrap_i64, decide_eq_true_eq, decide_eq_false_iff_not, Bool.not_eq_true', Bool.not_eq_false', Option.getD_none, Option.getD_some] at h2
    cbv
    try simp only [nc] at *
    rw [← hQ, show szOf to left = -1 by unfold szOf; rw [if_neg (by omega)]]
    exact endD_one rfl rfl
  rename_i h20
  simp only [hE, List.length_map, std_lss, std_leq, std_gtr, std_geq, std_eql, std_neq, std_len, std_add, std_subI, std_mulI, std_ssize, std_not, std_band, std_bcmp, std_nat, std_ofNat, std_nadd, std_nsub, std_emp, IntKind.wrap_i64, decide_eq_true_eq, decide_eq_false_iff_not, Bool.not_eq_true', Bool.not_eq_false', Option.getD_none, Option.getD_some] at h20
  cbv
  try simp only [nc] at *
  rw [← hQ, show szOf to left = l0 by unfold szOf; rw [if_pos (by omega)]; omega]
  exact endD_one rfl rfl
noncomputable def c49 : Code := (Tryd.f49.body).getD .skip
theorem ent49 : Entered Tryd.prog 49 := ⟨_, Tryd.func49, rfl, rfl⟩
theorem T49 {a : List TEntry} {xs : List (List D)} (hx : a.map eEntry = xs) {left : Int} (h0 : 0 ≤ left) (h1 : left < 2 ^ 40) (hok : okEntryS a) :
    CallOk Tryd.prog 49 [.d (.row 2 xs), .d (.sc (.int .i64 left))] [] ⟨.d (.sc (.int .i64 (szOf (totEntryS a) left))), [], []⟩ := by
  have ent69_ := ent69
  have T69_ := @T69
  obtain ⟨ha, hs⟩ := hok
  refine CallOk.of_bodyD (body := c49) Tryd.func49 rfl (Nat.le_of_ble_eq_true (by kernel_rfl)) rfl ?_
  refine vc_ok tab_ok mixed ?_
  have hT := tab_ok
  have hm := mixed
  generalize hP : Tryd.prog = P at *
  generalize hA : std = A
  obtain ⟨qbin, qsh, qcmp, qscmp, qbcmp, qbnot, qneg, qwrap, qcat, qssize, qssub, qsget, qlen, qrsub, qapp, qelt, qset, qnth, qdrp, qstr, qint, qbool, qrow, qnat, qnadd, qnsub, qband, qofNat, qstrRow, qmkRow, qmx, qmn, qbytes, qemp⟩ := A
  have hE := Ar.eqs hA
  dsimp only at hE
  generalize hQ : EndD P Tryd.f49.results _ = Q
  have hn := rd_n hx
  cbv
  try simp only [nc] at *
  split
  · rename_i h2
    simp only [hE, List.length_map, std_lss, std_leq, std_gtr, std_geq, std_eql, std_neq, std_len, std_add, std_subI, std_mulI, std_ssize, std_not, std_band, std_bcmp, std_nat, std_ofNat, std_nadd, std_nsub, std_emp, IntKind.wrap_i64, decide_eq_true_eq, decide_eq_false_iff_not, Bool.not_eq_true', Bool.not_eq_false', Option.getD_none, Option.getD_some, hn] at h2
    cbv
    try simp only [nc] at *
    have := sumF_nonneg (fun x => totEntry x) a (fun x _ => totEntryS_el x)
    rw [← hQ, show szOf (totEntryS a) left = -1 by unfold szOf totEntryS; rw [if_neg (by omega)]]
    exact endD_one rfl rfl
  · rename_i h2
    simp only [hE, List.length_map, std_lss, std_leq, std_gtr, std_geq, std_eql, std_neq, std_len, std_add, std_subI, std_mulI, std_ssize, std_not, std_band, std_bcmp, std_nat, std_ofNat, std_nadd, std_nsub, std_emp, IntKind.wrap_i64, decide_eq_true_eq, decide_eq_false_iff_not, Bool.not_eq_true', Bool.not_eq_false', Option.getD_none, Option.getD_some, hn] at h2
    cbv
    try simp only [nc] at *
    refine LpW.of (κ := Nat) (fun k => k ≤ a.length ∧ 0 ≤ left - (a.length + sumF (fun x => totEntry x) (a.take k))) (fun k => a.length - k) (fun k => [(0, .d (.row 2 xs)), (1, .d (.sc (.int .i64 (left - (a.length + sumF (fun x => totEntry x) (a.take k)))))), (5, .d (.sc (.int .i64 k)))]) (fun _ => []) 0 ⟨by omega, by simp [sumF]; omega⟩ ?_ (by first | rfl | trivial) ?_
    · refine .cons rfl (.cons ?_ (.cons rfl (.nil _)))
      show AV.d (D.sc (Value.int IntKind.i64 (qbin .sub .i64 left (qlen xs)))) = _
      rw [show qbin .sub .i64 left (qlen xs) = left - a.length by simp only [hE, List.length_map, std_lss, std_leq, std_gtr, std_geq, std_eql, std_neq, std_len, std_add, std_subI, std_mulI, std_ssize, std_not, std_band, std_bcmp, std_nat, std_ofNat, std_nadd, std_nsub, std_emp, IntKind.wrap_i64, decide_eq_true_eq, decide_eq_false_iff_not, Bool.not_eq_true', Bool.not_eq_false', Option.getD_none, Option.getD_some, hn]; omega]
      simp [sumF]
    · rintro k ⟨hk, hl⟩
      generalize hleft : left - (a.length + sumF (fun x => totEntry x) (a.take k)) = l at *
      generalize hi : (k : Int) = i
      refine vc_ok hT hm ?_
      rw [hA]
      cbv
      try simp only [nc] at *
      split
      · rename_i h3
        simp only [hE, List.length_map, std_lss, std_leq, std_gtr, std_geq, std_eql, std_neq, std_len, std_add, std_subI, std_mulI, std_ssize, std_not, std_band, std_bcmp, std_nat, std_ofNat, std_nadd, std_nsub, std_emp, IntKind.wrap_i64, decide_eq_true_eq, decide_eq_false_iff_not, Bool.not_eq_true', Bool.not_eq_false', Option.getD_none, Option.getD_some, hn] at h3
        have hk' : k < a.length := by omega
        have hsz := hs a[k] (List.getElem_mem hk')
        have hp := sumF_nonneg (fun x => totEntry x) (a.take k) (fun x _ => totEntryS_el x)
        have hsum := sumF_succ (fun x => totEntry x) a hk'
        have hle := sumF_take_le (fun x => totEntry x) a (fun x _ => totEntryS_el x) (k + 1)
        have hel := totEntryS_el a[k]
        cbv
        try simp only [nc] at *
        repeat (refine And.intro (by first | (simp only [hE]; exact rd_inR hx hi hk') | (simp only [hE, rd_elt hx hi hk']; exact ⟨rfl⟩) | (simp only [hE, rd_elt hx hi hk']; exact ⟨Nat.le_of_ble_eq_true rfl⟩)) ?_)
        obtain ⟨wv, hwv⟩ : ∃ w, w = a[k] := ⟨_, rfl⟩
        have hev : qelt xs i = eEntry wv := by simp only [hE]; rw [rd_elt hx hi hk', hwv]
        rw [← hwv] at hsz hsum hel
        obtain ⟨v_name, v_id⟩ := wv
        rw [show qstr (qnth (qelt xs i) 0) = v_name by rw [hev]; simp only [hE]; rfl, show qint (qnth (qelt xs i) 1) = v_id by rw [hev]; simp only [hE]; rfl]
        refine ClW.dd (f := 69) rfl rfl rfl rfl (.cons rfl (.cons rfl .nil)) rfl ent69_ (T69_ (by omega) (by omega) hsz) rfl ?_
        generalize hl' : szOf (totEntry (⟨v_name, v_id⟩ : TEntry)) l = l'
        cbv
        try simp only [nc] at *
        split
        · rename_i h4
          simp only [hE, List.length_map, std_lss, std_leq, std_gtr, std_geq, std_eql, std_neq, std_len, std_add, std_subI, std_mulI, std_ssize, std_not, std_band, std_bcmp, std_nat, std_ofNat, std_nadd, std_nsub, std_emp, IntKind.wrap_i64, decide_eq_true_eq, decide_eq_false_iff_not, Bool.not_eq_true', Bool.not_eq_false', Option.getD_none, Option.getD_some] at h4
          cbv
          try simp only [nc] at *
          have hb : ¬ totEntry (⟨v_name, v_id⟩ : TEntry) ≤ l := by intro hle'; unfold szOf at hl'; rw [if_pos hle'] at hl'; omega
          rw [← hQ, show szOf (totEntryS a) left = -1 by unfold szOf totEntryS; rw [if_neg (by omega)]]
          exact endD_one rfl rfl
        · rename_i h4
          simp only [hE, List.length_map, std_lss, std_leq, std_gtr, std_geq, std_eql, std_neq, std_len, std_add, std_subI, std_mulI, std_ssize, std_not, std_band, std_bcmp, std_nat, std_ofNat, std_nadd, std_nsub, std_emp, IntKind.wrap_i64, decide_eq_true_eq, decide_eq_false_iff_not, Bool.not_eq_true', Bool.not_eq_false', Option.getD_none, Option.getD_some] at h4
          obtain ⟨g, g'⟩ := szOf_ge (t := totEntry (⟨v_name, v_id⟩ : TEntry)) (left := l) (by omega)
          cbv
          try simp only [nc] at *
          refine ⟨k + 1, ⟨by omega, by omega⟩, by omega, ?_, by trivial⟩
          refine .cons rfl (.cons ?_ (.cons ?_ (.nil _)))
          · rw [show left - (a.length + sumF (fun x => totEntry x) (a.take (k + 1))) = l' by omega]
            rfl
          · show AV.d (D.sc (Value.int IntKind.i64 (qbin .add .i64 i 1))) = _
            rw [show qbin .add .i64 i 1 = ((k + 1 : Nat) : Int) by simp only [hE, List.length_map, std_lss, std_leq, std_gtr, std_geq, std_eql, std_neq, std_len, std_add, std_subI, std_mulI, std_ssize, std_not, std_band, std_bcmp, std_nat, std_ofNat, std_nadd, std_nsub, std_emp, IntKind.wrap_i64, decide_eq_true_eq, decide_eq_false_iff_not, Bool.not_eq_true', Bool.not_eq_false', Option.getD_none, Option.getD_some, ]; omega]
      · rename_i h3
        simp only [hE, List.length_map, std_lss, std_leq, std_gtr, std_geq, std_eql, std_neq, std_len, std_add, std_subI, std_mulI, std_ssize, std_not, std_band, std_bcmp, std_nat, std_ofNat, std_nadd, std_nsub, std_emp, IntKind.wrap_i64, decide_eq_true_eq, decide_eq_false_iff_not, Bool.not_eq_true', Bool.not_eq_false', Option.getD_none, Option.getD_some, hn] at h3
        cbv
        try simp only [nc] at *
        have hk' : k = a.length := by omega
        subst hk'
        rw [List.take_length] at hleft
        rw [← hQ, show szOf (totEntryS a) left = l by unfold szOf totEntryS; rw [if_pos (by omega)]; omega]
        exact endD_one rfl rfl
noncomputable def c50 : Code := (Tryd.f50.body).getD .skip
theorem ent50 : Entered Tryd.prog 50 := ⟨_, Tryd.func50, rfl, rfl⟩
theorem T50 {a : List ByteArray} {xs : List (List D)} (hx : a.map cS = xs) {left : Int} (h0 : 0 ≤ left) (h1 : left < 2 ^ 40) (hok : okStringS a) :
    CallOk Tryd.prog 50 [.d (.row 1 xs), .d (.sc (.int .i64 left))] [] ⟨.d (.sc (.int .i64 (szOf (totStringS a) left))), [], []⟩ := by
  obtain ⟨ha, hs⟩ := hok
  refine CallOk.of_bodyD (body := c50) Tryd.func50 rfl (Nat.le_of_ble_eq_true (by kernel_rfl)) rfl ?_
  refine vc_ok tab_ok mixed ?_
  have hT := tab_ok
  have hm := mixed
  generalize hP : Tryd.prog = P at *
  generalize hA : std = A
  obtain ⟨qbin, qsh, qcmp, qscmp, qbcmp, qbnot, qneg, qwrap, qcat, qssize, qssub, qsget, qlen, qrsub, qapp, qelt, qset, qnth, qdrp, qstr, qint, qbool, qrow, qnat, qnadd, qnsub, qband, qofNat, qstrRow, qmkRow, qmx, qmn, qbytes, qemp⟩ := A
  have hE := Ar.eqs hA
  dsimp only at hE
  generalize hQ : EndD P Tryd.f50.results _ = Q
  have hn := rd_n hx
  cbv
  try simp only [nc] at *
  split
  · rename_i h2
    simp only [hE, List.length_map, std_lss, std_leq, std_gtr, std_geq, std_eql, std_neq, std_len, std_add, std_subI, std_mulI, std_ssize, std_not, std_band, std_bcmp, std_nat, std_ofNat, std_nadd, std_nsub, std_emp, IntKind.wrap_i64, decide_eq_true_eq, decide_eq_false_iff_not, Bool.not_eq_true', Bool.not_eq_false', Option.getD_none, Option.getD_some, hn] at h2
    cbv
    try simp only [nc] at *
    have := sumF_nonneg (fun x => (x.size : Int)) a (fun x _ => totStringS_el x)
    rw [← hQ, show szOf (totStringS a) left = -1 by unfold szOf totStringS; rw [if_neg (by omega)]]
    exact endD_one rfl rfl
  · rename_i h2
    simp only [hE, List.length_map, std_lss, std_leq, std_gtr, std_geq, std_eql, std_neq, std_len, std_add, std_subI, std_mulI, std_ssize, std_not, std_band, std_bcmp, std_nat, std_ofNat, std_nadd, std_nsub, std_emp, IntKind.wrap_i64, decide_eq_true_eq, decide_eq_false_iff_not, Bool.not_eq_true', Bool.not_eq_false', Option.getD_none, Option.getD_some, hn] at h2
    cbv
    try simp only [nc] at *
    refine LpW.of (κ := Nat) (fun k => k ≤ a.length ∧ 0 ≤ left - (a.length + sumF (fun x => (x.size : Int)) (a.take k))) (fun k => a.length - k) (fun k => [(0, .d (.row 1 xs)), (1, .d (.sc (.int .i64 (left - (a.length + sumF (fun x => (x.size : Int)) (a.take k)))))), (5, .d (.sc (.int .i64 k)))]) (fun _ => []) 0 ⟨by omega, by simp [sumF]; omega⟩ ?_ (by first | rfl | trivial) ?_
    · refine .cons rfl (.cons ?_ (.cons rfl (.nil _)))
      show AV.d (D.sc (Value.int IntKind.i64 (qbin .sub .i64 left (qlen xs)))) = _
      rw [show qbin .sub .i64 left (qlen xs) = left - a.length by simp only [hE, List.length_map, std_lss, std_leq, std_gtr, std_geq, std_eql, std_neq, std_len, std_add, std_subI, std_mulI, std_ssize, std_not, std_band, std_bcmp, std_nat, std_ofNat, std_nadd, std_nsub, std_emp, IntKind.wrap_i64, decide_eq_true_eq, decide_eq_false_iff_not, Bool.not_eq_true', Bool.not_eq_false', Option.getD_none, Option.getD_some, hn]; omega]
      simp [sumF]
    · rintro k ⟨hk, hl⟩
      generalize hleft : left - (a.length + sumF (fun x => (x.size : Int)) (a.take k)) = l at *
      generalize hi : (k : Int) = i
      refine vc_ok hT hm ?_
      rw [hA]
      cbv
      try simp only [nc] at *
      split
      · rename_i h3
        simp only [hE, List.length_map, std_lss, std_leq, std_gtr, std_geq, std_eql, std_neq, std_len, std_add, std_subI, std_mulI, std_ssize, std_not, std_band, std_bcmp, std_nat, std_ofNat, std_nadd, std_nsub, std_emp, IntKind.wrap_i64, decide_eq_true_eq, decide_eq_false_iff_not, Bool.not_eq_true', Bool.not_eq_false', Option.getD_none, Option.getD_some, hn] at h3
        have hk' : k < a.length := by omega
        have hsz := hs a[k] (List.getElem_mem hk')
        have hp := sumF_nonneg (fun x => (x.size : Int)) (a.take k) (fun x _ => totStringS_el x)
        have hsum := sumF_succ (fun x => (x.size : Int)) a hk'
        have hle := sumF_take_le (fun x => (x.size : Int)) a (fun x _ => totStringS_el x) (k + 1)
        have hel := totStringS_el a[k]
        cbv
        try simp only [nc] at *
        repeat (refine And.intro (by first | (simp only [hE]; exact rd_inR hx hi hk') | (simp only [hE, rd_elt hx hi hk']; exact ⟨rfl⟩) | (simp only [hE, rd_elt hx hi hk']; exact ⟨Nat.le_of_ble_eq_true rfl⟩)) ?_)
        obtain ⟨s, hsk⟩ : ∃ s, s = a[k] := ⟨_, rfl⟩
        rw [show qstr (qnth (qelt xs i) 0) = s by rw [hsk]; simp only [hE, rd_elt hx hi hk']; rfl]
        rw [← hsk] at hsz hsum hel
        obtain ⟨l', hl'⟩ : ∃ l', l' = l - (s.size : Int) := ⟨_, rfl⟩
        rw [show qbin .sub .i64 l (qssize s) = l' by simp only [hE, List.length_map, std_lss, std_leq, std_gtr, std_geq, std_eql, std_neq, std_len, std_add, std_subI, std_mulI, std_ssize, std_not, std_band, std_bcmp, std_nat, std_ofNat, std_nadd, std_nsub, std_emp, IntKind.wrap_i64, decide_eq_true_eq, decide_eq_false_iff_not, Bool.not_eq_true', Bool.not_eq_false', Option.getD_none, Option.getD_some, ]; omega]
        split
        · rename_i h4
          simp only [hE, List.length_map, std_lss, std_leq, std_gtr, std_geq, std_eql, std_neq, std_len, std_add, std_subI, std_mulI, std_ssize, std_not, std_band, std_bcmp, std_nat, std_ofNat, std_nadd, std_nsub, std_emp, IntKind.wrap_i64, decide_eq_true_eq, decide_eq_false_iff_not, Bool.not_eq_true', Bool.not_eq_false', Option.getD_none, Option.getD_some] at h4
          cbv
          try simp only [nc] at *
          rw [← hQ, show szOf (totStringS a) left = -1 by unfold szOf totStringS; rw [if_neg (by omega)]]
          exact endD_one rfl rfl
        · rename_i h4
          simp only [hE, List.length_map, std_lss, std_leq, std_gtr, std_geq, std_eql, std_neq, std_len, std_add, std_subI, std_mulI, std_ssize, std_not, std_band, std_bcmp, std_nat, std_ofNat, std_nadd, std_nsub, std_emp, IntKind.wrap_i64, decide_eq_true_eq, decide_eq_false_iff_not, Bool.not_eq_true', Bool.not_eq_false', Option.getD_none, Option.getD_some] at h4
          cbv
          try simp only [nc] at *
          refine ⟨k + 1, ⟨by omega, by omega⟩, by omega, ?_, by trivial⟩
          refine .cons rfl (.cons ?_ (.cons ?_ (.nil _)))
          · rw [show left - (a.length + sumF (fun x => (x.size : Int)) (a.take (k + 1))) = l' by omega]
            rfl
          · show AV.d (D.sc (Value.int IntKind.i64 (qbin .add .i64 i 1))) = _
            rw [show qbin .add .i64 i 1 = ((k + 1 : Nat) : Int) by simp only [hE, List.length_map, std_lss, std_leq, std_gtr, std_geq, std_eql, std_neq, std_len, std_add, std_subI, std_mulI, std_ssize, std_not, std_band, std_bcmp, std_nat, std_ofNat, std_nadd, std_nsub, std_emp, IntKind.wrap_i64, decide_eq_true_eq, decide_eq_false_iff_not, Bool.not_eq_true', Bool.not_eq_false', Option.getD_none, Option.getD_some, ]; omega]
      · rename_i h3
        simp only [hE, List.length_map, std_lss, std_leq, std_gtr, std_geq, std_eql, std_neq, std_len, std_add, std_subI, std_mulI, std_ssize, std_not, std_band, std_bcmp, std_nat, std_ofNat, std_nadd, std_nsub, std_emp, IntKind.wrap_i64, decide_eq_true_eq, decide_eq_false_iff_not, Bool.not_eq_true', Bool.not_eq_false', Option.getD_none, Option.getD_some, hn] at h3
        cbv
        try simp only [nc] at *
        have hk' : k = a.length := by omega
        subst hk'
        rw [List.take_length] at hleft
        rw [← hQ, show szOf (totStringS a) left = l by unfold szOf totStringS; rw [if_pos (by omega)]; omega]
        exact endD_one rfl rfl
noncomputable def c19 : Code := (Tryd.f19.body).getD .skip
theorem ent19 : Entered Tryd.prog 19 := ⟨_, Tryd.func19, rfl, rfl⟩
theorem T19 {a_nodes : List TNode} {xa_nodes : List (List D)} (ha_nodes : a_nodes.map eNode = xa_nodes) {a_entries : List TEntry} {xa_entries : List (List D)} (ha_entries : a_entries.map eEntry = xa_entries) {a_old : List TEntry} {xa_old : List (List D)} (ha_old : a_old.map eEntry = xa_old) {a_steps : List ByteArray} {xa_steps : List (List D)} (ha_steps : a_steps.map cS = xa_steps) {a_room : Int} {a_next : Int} {left : Int} (h0 : 0 ≤ left) (h1 : left < 2 ^ 40) (hok : okDisk ⟨a_nodes, a_entries, a_old, a_steps, a_room, a_next⟩) :
    CallOk Tryd.prog 19 [.agg [.d (.row 3 xa_nodes), .d (.row 2 xa_entries), .d (.row 2 xa_old), .d (.row 1 xa_steps), .d (.sc (.int .i64 a_room)), .d (.sc (.int .i64 a_next))], .d (.sc (.int .i64 left))] [] ⟨.d (.sc (.int .i64 (szOf (totDisk ⟨a_nodes, a_entries, a_old, a_steps, a_room, a_next⟩) left))), [], []⟩ := by
  have ent48_ := ent48
  have T48_ := @T48
  have ent49_ := ent49
  have T49_ := @T49
  have ent50_ := ent50
  have T50_ := @T50
  refine CallOk.of_bodyD (body := c19) Tryd.func19 rfl (Nat.le_of_ble_eq_true (by kernel_rfl)) rfl ?_
  refine vc_ok tab_ok mixed ?_
  have hT := tab_ok
  have hm := mixed
  generalize hP : Tryd.prog = P at *
  generalize hA : std = A
  obtain ⟨qbin, qsh, qcmp, qscmp, qbcmp, qbnot, qneg, qwrap, qcat, qssize, qssub, qsget, qlen, qrsub, qapp, qelt, qset, qnth, qdrp, qstr, qint, qbool, qrow, qnat, qnadd, qnsub, qband, qofNat, qstrRow, qmkRow, qmx, qmn, qbytes, qemp⟩ := A
  have hE := Ar.eqs hA
  dsimp only at hE
  generalize hQ : EndD P Tryd.f19.results _ = Q
  have nna_nodes := totNodeS_nn a_nodes
  have nna_entries := totEntryS_nn a_entries
  have nna_old := totEntryS_nn a_old
  have nna_steps := totStringS_nn a_steps
  have hok' : okNodeS a_nodes ∧ okEntryS a_entries ∧ okEntryS a_old ∧ okStringS a_steps := hok
  generalize hto : totDisk ⟨a_nodes, a_entries, a_old, a_steps, a_room, a_next⟩ = to at *
  have hto' : totNodeS a_nodes + totEntryS a_entries + totEntryS a_old + totStringS a_steps = to := hto
  clear hok hto
  obtain ⟨k0, k1, k2, k3⟩ := hok'
  cbv
  try simp only [nc] at *
  refine ClW.dd (f := 48) rfl rfl rfl rfl (.cons rfl (.cons rfl .nil)) rfl ent48_ (T48_ ha_nodes (by omega) (by omega) k0) rfl ?_
  generalize hl0 : szOf (totNodeS a_nodes) left = l0
  cbv
  try simp only [nc] at *
  split
  · rename_i h2
    simp only [hE, List.length_map, std_lss, std_leq, std_gtr, std_geq, std_eql, std_neq, std_len, std_add, std_subI, std_mulI, std_ssize, std_not, std_band, std_bcmp, std_nat, std_ofNat, std_nadd, std_nsub, std_emp, IntKind.wrap_i64, decide_eq_true_eq, decide_eq_false_iff_not, Bool.not_eq_true', Bool.not_eq_false', Option.getD_none, Option.getD_some] at h2
    cbv
    try simp only [nc] at *
    have hb0 : ¬ totNodeS a_nodes ≤ left := by intro hle; unfold szOf at hl0; rw [if_pos hle] at hl0; omega
    rw [← hQ, show szOf to left = -1 by unfold szOf; rw [if_neg (by omega)]]
    exact endD_one rfl rfl
  rename_i h20
  simp only [hE, List.length_map, std_lss, std_leq, std_gtr, std_geq, std_eql, std_neq, std_len, std_add, std_subI, std_mulI, std_ssize, std_not, std_band, std_bcmp, std_nat, std_ofNat, std_nadd, std_nsub, std_emp, IntKind.wrap_i64, decide_eq_true_eq, decide_eq_false_iff_not, Bool.not_eq_true', Bool.not_eq_false', Option.getD_none, Option.getD_some] at h20
  obtain ⟨g0, g0'⟩ := szOf_ge (t := totNodeS a_nodes) (left := left) (by omega)
  cbv
  try simp only [nc] at *
  refine ClW.dd (f := 49) rfl rfl rfl rfl (.cons rfl (.cons rfl .nil)) rfl ent49_ (T49_ ha_entries (by omega) (by omega) k1) rfl ?_
  generalize hl1 : szOf (totEntryS a_entries) l0 = l1
  cbv
  try simp only [nc] at *
  split
  · rename_i h2
    simp only [hE, List.length_map, std_lss, std_leq, std_gtr, std_geq, std_eql, std_neq, std_len, std_add, std_subI, std_mulI, std_ssize, std_not, std_band, std_bcmp, std_nat, std_ofNat, std_nadd, std_nsub, std_emp, IntKind.wrap_i64, decide_eq_true_eq, decide_eq_false_iff_not, Bool.not_eq_true', Bool.not_eq_false', Option.getD_none, Option.getD_some] at h2
    cbv
    try simp only [nc] at *
    have hb1 : ¬ totEntryS a_entries ≤ l0 := by intro hle; unfold szOf at hl1; rw [if_pos hle] at hl1; omega
    rw [← hQ, show szOf to left = -1 by unfold szOf; rw [if_neg (by omega)]]
    exact endD_one rfl rfl
  rename_i h21
  simp only [hE, List.length_map, std_lss, std_leq, std_gtr, std_geq, std_eql, std_neq, std_len, std_add, std_subI, std_mulI, std_ssize, std_not, std_band, std_bcmp, std_nat, std_ofNat, std_nadd, std_nsub, std_emp, IntKind.wrap_i64, decide_eq_true_eq, decide_eq_false_iff_not, Bool.not_eq_true', Bool.not_eq_false', Option.getD_none, Option.getD_some] at h21
  obtain ⟨g1, g1'⟩ := szOf_ge (t := totEntryS a_entries) (left := l0) (by omega)
  cbv
  try simp only [nc] at *
  refine ClW.dd (f := 49) rfl rfl rfl rfl (.cons rfl (.cons rfl .nil)) rfl ent49_ (T49_ ha_old (by omega) (by omega) k2) rfl ?_
  generalize hl2 : szOf (totEntryS a_old) l1 = l2
  cbv
  try simp only [nc] at *
  split
  · rename_i h2
    simp only [hE, List.length_map, std_lss, std_leq, std_gtr, std_geq, std_eql, std_neq, std_len, std_add, std_subI, std_mulI, std_ssize, std_not, std_band, std_bcmp, std_nat, std_ofNat, std_nadd, std_nsub, std_emp, IntKind.wrap_i64, decide_eq_true_eq, decide_eq_false_iff_not, Bool.not_eq_true', Bool.not_eq_false', Option.getD_none, Option.getD_some] at h2
    cbv
    try simp only [nc] at *
    have hb2 : ¬ totEntryS a_old ≤ l1 := by intro hle; unfold szOf at hl2; rw [if_pos hle] at hl2; omega
    rw [← hQ, show szOf to left = -1 by unfold szOf; rw [if_neg (by omega)]]
    exact endD_one rfl rfl
  rename_i h22
  simp only [hE, List.length_map, std_lss, std_leq, std_gtr, std_geq, std_eql, std_neq, std_len, std_add, std_subI, std_mulI, std_ssize, std_not, std_band, std_bcmp, std_nat, std_ofNat, std_nadd, std_nsub, std_emp, IntKind.wrap_i64, decide_eq_true_eq, decide_eq_false_iff_not, Bool.not_eq_true', Bool.not_eq_false', Option.getD_none, Option.getD_some] at h22
  obtain ⟨g2, g2'⟩ := szOf_ge (t := totEntryS a_old) (left := l1) (by omega)
  cbv
  try simp only [nc] at *
  refine ClW.dd (f := 50) rfl rfl rfl rfl (.cons rfl (.cons rfl .nil)) rfl ent50_ (T50_ ha_steps (by omega) (by omega) k3) rfl ?_
  generalize hl3 : szOf (totStringS a_steps) l2 = l3
  cbv
  try simp only [nc] at *
  split
  · rename_i h2
    simp only [hE, List.length_map, std_lss, std_leq, std_gtr, std_geq, std_eql, std_neq, std_len, std_add, std_subI, std_mulI, std_ssize, std_not, std_band, std_bcmp, std_nat, std_ofNat, std_nadd, std_nsub, std_emp, IntKind.wrap_i64, decide_eq_true_eq, decide_eq_false_iff_not, Bool.not_eq_true', Bool.not_eq_false', Option.getD_none, Option.getD_some] at h2
    cbv
    try simp only [nc] at *
    have hb3 : ¬ totStringS a_steps ≤ l2 := by intro hle; unfold szOf at hl3; rw [if_pos hle] at hl3; omega
    rw [← hQ, show szOf to left = -1 by unfold szOf; rw [if_neg (by omega)]]
    exact endD_one rfl rfl
  rename_i h23
  simp only [hE, List.length_map, std_lss, std_leq, std_gtr, std_geq, std_eql, std_neq, std_len, std_add, std_subI, std_mulI, std_ssize, std_not, std_band, std_bcmp, std_nat, std_ofNat, std_nadd, std_nsub, std_emp, IntKind.wrap_i64, decide_eq_true_eq, decide_eq_false_iff_not, Bool.not_eq_true', Bool.not_eq_false', Option.getD_none, Option.getD_some] at h23
  obtain ⟨g3, g3'⟩ := szOf_ge (t := totStringS a_steps) (left := l2) (by omega)
  cbv
  try simp only [nc] at *
  rw [← hQ, show szOf to left = l3 by unfold szOf; rw [if_pos (by omega)]; omega]
  exact endD_one rfl rfl
end Go.Proofs.YtamdgfklbjoaiaaDoor.Ab
