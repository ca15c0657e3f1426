/- What functions of the program come to, for all arguments in the given bounds. -/
import Derived.Test.YtamdgfklbjoaiaaH
set_option linter.unusedVariables false
set_option linter.unusedSimpArgs false
namespace Go.Proofs.Ytamdgfklbjoaiaa.Ab
open Go Go.Proofs
set_option maxRecDepth 20000
noncomputable def c19 : Code := (Try.f19.body).getD .skip
theorem ent19 : Entered Try.prog 19 := ⟨_, Try.func19, rfl, rfl⟩
theorem T19 {a : List Int} {xs : List (List D)} (hx : a.map cI = xs) (hb : totIntS a ≤ 1099511627776) : CallOk Try.prog 19 [.d (.row 1 xs), .d (.row 1 xs)] [] ⟨.d (.sc (.bool true)), [], []⟩ := by
  have hb1 : (a.length : Int) ≤ 1099511627776 := hb
  refine CallOk.of_bodyD (body := c19) Try.func19 rfl (Nat.le_of_ble_eq_true (by kernel_rfl)) rfl ?_
  refine vc_ok tab_ok mixed ?_
  have hT := tab_ok
  have hm := mixed
  generalize hP : Try.prog = P at *
  generalize hA : std = A
  obtain ⟨qbin, qsh, qcmp, qscmp, qbcmp, qbnot, qneg, qwrap, qcat, qssize, qssub, qsget, qlen, qrsub, qapp, qelt, qset, qnth, qdrp, qstr, qint, qbool, qrow, qnat, qnadd, qnsub, qband, qofNat, qstrRow, qmkRow, qmx, qmn, qbytes, qemp⟩ := A
  have hE := Ar.eqs hA
  dsimp only at hE
  generalize hQ : EndD P Try.f19.results _ = Q
  have hn := rd_n hx
  have hself : (∀ v : Int, qcmp .neq v v = false) ∧ (∀ v : ByteArray, qscmp .neq v v = false) ∧ (∀ v : Bool, qbnot (qbcmp v v) = false) ∧ qbnot true = false := by
    refine ⟨fun v => ?_, fun v => ?_, fun v => ?_, ?_⟩ <;> simp only [hE, std_neq, std_sneq, std_bcmp, std_not] <;> simp
  obtain ⟨hself1, hself2, hself3, hself4⟩ := hself
  cbv
  try simp only [nc] at *
  rw [hself1]
  cbv
  try simp only [nc] at *
  refine LpW.of (κ := Nat) (fun k => k ≤ a.length) (fun k => a.length - k) (fun k => [(0, .d (.row 1 xs)), (1, .d (.row 1 xs)), (5, .d (.sc (.int .i64 k)))]) (fun _ => []) 0 (by omega) ?_ (by first | rfl | trivial) ?_
  · exact .cons rfl (.cons rfl (.cons rfl (.nil _)))
  · intro k hk
    generalize hi : (k : Int) = i
    refine vc_ok hT hm ?_
    rw [hA]
    cbv
    try simp only [nc] at *
    split
    · rename_i h3
      simp only [hE, List.length_map, std_lss, std_leq, std_gtr, std_geq, std_eql, std_neq, std_len, std_add, std_subI, std_mulI, std_ssize, std_not, std_band, std_bcmp, std_nat, std_ofNat, std_nadd, std_nsub, std_emp, IntKind.wrap_i64, decide_eq_true_eq, decide_eq_false_iff_not, Bool.not_eq_true', Bool.not_eq_false', Option.getD_none, Option.getD_some, hn] at h3
      have hk' : k < a.length := by omega
      cbv
      try simp only [nc] at *
      repeat (refine And.intro (by first | (simp only [hE]; exact rd_inR hx hi hk') | (simp only [hE, rd_elt hx hi hk']; exact ⟨rfl⟩) | (simp only [hE, rd_elt hx hi hk']; exact ⟨Nat.le_of_ble_eq_true rfl⟩)) ?_)
      rw [hself1]
      cbv
      try simp only [nc] at *
      refine ⟨k + 1, by omega, by omega, ?_, by trivial⟩
      refine .cons rfl (.cons rfl (.cons ?_ (.nil _)))
      show AV.d (D.sc (Value.int IntKind.i64 (qbin .add .i64 i 1))) = _
      simp only [hE, i_next hi (by omega)]
    · rename_i h3
      simp only [hE, List.length_map, std_lss, std_leq, std_gtr, std_geq, std_eql, std_neq, std_len, std_add, std_subI, std_mulI, std_ssize, std_not, std_band, std_bcmp, std_nat, std_ofNat, std_nadd, std_nsub, std_emp, IntKind.wrap_i64, decide_eq_true_eq, decide_eq_false_iff_not, Bool.not_eq_true', Bool.not_eq_false', Option.getD_none, Option.getD_some, hn] at h3
      cbv
      try simp only [nc] at *
      rw [← hQ]
      exact endD_one rfl rfl
noncomputable def c58 : Code := (Try.f58.body).getD .skip
theorem ent58 : Entered Try.prog 58 := ⟨_, Try.func58, rfl, rfl⟩
theorem T58 {a_kind : Int} {a_text : ByteArray} {a_n : Int} {a_keeps : List Int} {xa_keeps : List (List D)} (ha_keeps : a_keeps.map cI = xa_keeps) (hb : totAct ⟨a_kind, a_text, a_n, a_keeps⟩ ≤ 1099511627776) : CallOk Try.prog 58 [.agg [.d (.sc (.int .i64 a_kind)), .d (.sc (.string a_text)), .d (.sc (.int .i64 a_n)), .d (.row 1 xa_keeps)], .agg [.d (.sc (.int .i64 a_kind)), .d (.sc (.string a_text)), .d (.sc (.int .i64 a_n)), .d (.row 1 xa_keeps)]] [] ⟨.d (.sc (.bool true)), [], []⟩ := by
  have ent19_ := ent19
  have T19_ := @T19
  have nna_keeps := totIntS_nn a_keeps
  have hb' : (a_text.size : Int) + totIntS a_keeps ≤ 1099511627776 := hb
  refine CallOk.of_bodyD (body := c58) Try.func58 rfl (Nat.le_of_ble_eq_true (by kernel_rfl)) rfl ?_
  refine vc_ok tab_ok mixed ?_
  have hT := tab_ok
  have hm := mixed
  generalize hP : Try.prog = P at *
  generalize hA : std = A
  obtain ⟨qbin, qsh, qcmp, qscmp, qbcmp, qbnot, qneg, qwrap, qcat, qssize, qssub, qsget, qlen, qrsub, qapp, qelt, qset, qnth, qdrp, qstr, qint, qbool, qrow, qnat, qnadd, qnsub, qband, qofNat, qstrRow, qmkRow, qmx, qmn, qbytes, qemp⟩ := A
  have hE := Ar.eqs hA
  dsimp only at hE
  generalize hQ : EndD P Try.f58.results _ = Q
  have hself : (∀ v : Int, qcmp .neq v v = false) ∧ (∀ v : ByteArray, qscmp .neq v v = false) ∧ (∀ v : Bool, qbnot (qbcmp v v) = false) ∧ qbnot true = false := by
    refine ⟨fun v => ?_, fun v => ?_, fun v => ?_, ?_⟩ <;> simp only [hE, std_neq, std_sneq, std_bcmp, std_not] <;> simp
  obtain ⟨hself1, hself2, hself3, hself4⟩ := hself
  cbv
  try simp only [nc] at *
  rw [hself1]
  cbv
  try simp only [nc] at *
  rw [hself2]
  cbv
  try simp only [nc] at *
  rw [hself1]
  cbv
  try simp only [nc] at *
  refine ClW.dd (f := 19) rfl rfl rfl rfl (.cons rfl (.cons rfl .nil)) rfl ent19_ (T19_ ha_keeps (by omega)) rfl ?_
  cbv
  try simp only [nc] at *
  rw [hself4]
  cbv
  try simp only [nc] at *
  rw [← hQ]
  exact endD_one rfl rfl
noncomputable def c18 : Code := (Try.f18.body).getD .skip
theorem ent18 : Entered Try.prog 18 := ⟨_, Try.func18, rfl, rfl⟩
theorem T18 {a : List TAct} {xs : List (List D)} (hx : a.map eAct = xs) (hb : totActS a ≤ 1099511627776) : CallOk Try.prog 18 [.d (.row 4 xs), .d (.row 4 xs)] [] ⟨.d (.sc (.bool true)), [], []⟩ := by
  have ent58_ := ent58
  have T58_ := @T58
  have hb1 : (a.length : Int) + sumF (fun x => totAct x) a ≤ 1099511627776 := hb
  have hsn := sumF_nonneg (fun x => totAct x) a (fun x _ => totActS_el x)
  refine CallOk.of_bodyD (body := c18) Try.func18 rfl (Nat.le_of_ble_eq_true (by kernel_rfl)) rfl ?_
  refine vc_ok tab_ok mixed ?_
  have hT := tab_ok
  have hm := mixed
  generalize hP : Try.prog = P at *
  generalize hA : std = A
  obtain ⟨qbin, qsh, qcmp, qscmp, qbcmp, qbnot, qneg, qwrap, qcat, qssize, qssub, qsget, qlen, qrsub, qapp, qelt, qset, qnth, qdrp, qstr, qint, qbool, qrow, qnat, qnadd, qnsub, qband, qofNat, qstrRow, qmkRow, qmx, qmn, qbytes, qemp⟩ := A
  have hE := Ar.eqs hA
  dsimp only at hE
  generalize hQ : EndD P Try.f18.results _ = Q
  have hn := rd_n hx
  have hself : (∀ v : Int, qcmp .neq v v = false) ∧ (∀ v : ByteArray, qscmp .neq v v = false) ∧ (∀ v : Bool, qbnot (qbcmp v v) = false) ∧ qbnot true = false := by
    refine ⟨fun v => ?_, fun v => ?_, fun v => ?_, ?_⟩ <;> simp only [hE, std_neq, std_sneq, std_bcmp, std_not] <;> simp
  obtain ⟨hself1, hself2, hself3, hself4⟩ := hself
  cbv
  try simp only [nc] at *
  rw [hself1]
  cbv
  try simp only [nc] at *
  refine LpW.of (κ := Nat) (fun k => k ≤ a.length) (fun k => a.length - k) (fun k => [(0, .d (.row 4 xs)), (1, .d (.row 4 xs)), (5, .d (.sc (.int .i64 k)))]) (fun _ => []) 0 (by omega) ?_ (by first | rfl | trivial) ?_
  · exact .cons rfl (.cons rfl (.cons rfl (.nil _)))
  · intro k hk
    generalize hi : (k : Int) = i
    refine vc_ok hT hm ?_
    rw [hA]
    cbv
    try simp only [nc] at *
    split
    · rename_i h3
      simp only [hE, List.length_map, std_lss, std_leq, std_gtr, std_geq, std_eql, std_neq, std_len, std_add, std_subI, std_mulI, std_ssize, std_not, std_band, std_bcmp, std_nat, std_ofNat, std_nadd, std_nsub, std_emp, IntKind.wrap_i64, decide_eq_true_eq, decide_eq_false_iff_not, Bool.not_eq_true', Bool.not_eq_false', Option.getD_none, Option.getD_some, hn] at h3
      have hk' : k < a.length := by omega
      cbv
      try simp only [nc] at *
      repeat (refine And.intro (by first | (simp only [hE]; exact rd_inR hx hi hk') | (simp only [hE, rd_elt hx hi hk']; exact ⟨rfl⟩) | (simp only [hE, rd_elt hx hi hk']; exact ⟨Nat.le_of_ble_eq_true rfl⟩)) ?_)
      have hmem := sumF_mem_le (fun x => totAct x) (fun x => totActS_el x) (List.getElem_mem hk')
      obtain ⟨wv, hwv⟩ : ∃ w, w = a[k] := ⟨_, rfl⟩
      have hev : qelt xs i = eAct wv := by simp only [hE]; rw [rd_elt hx hi hk', hwv]
      rw [← hwv] at hmem
      obtain ⟨v_kind, v_text, v_n, v_keeps⟩ := wv
      rw [show qint (qnth (qelt xs i) 0) = v_kind by rw [hev]; simp only [hE]; rfl, show qstr (qnth (qelt xs i) 1) = v_text by rw [hev]; simp only [hE]; rfl, show qint (qnth (qelt xs i) 2) = v_n by rw [hev]; simp only [hE]; rfl, show qrow (qnth (qelt xs i) 3) = v_keeps.map cI by rw [hev]; simp only [hE]; rfl]
      generalize hv_keeps : v_keeps.map cI = xv_keeps at *
      refine ClW.dd (f := 58) rfl rfl rfl rfl (.cons rfl (.cons rfl .nil)) rfl ent58_ (T58_ hv_keeps (by omega)) rfl ?_
      cbv
      try simp only [nc] at *
      rw [hself4]
      cbv
      try simp only [nc] at *
      refine ⟨k + 1, by omega, by omega, ?_, by trivial⟩
      refine .cons rfl (.cons rfl (.cons ?_ (.nil _)))
      show AV.d (D.sc (Value.int IntKind.i64 (qbin .add .i64 i 1))) = _
      simp only [hE, i_next hi (by omega)]
    · rename_i h3
      simp only [hE, List.length_map, std_lss, std_leq, std_gtr, std_geq, std_eql, std_neq, std_len, std_add, std_subI, std_mulI, std_ssize, std_not, std_band, std_bcmp, std_nat, std_ofNat, std_nadd, std_nsub, std_emp, IntKind.wrap_i64, decide_eq_true_eq, decide_eq_false_iff_not, Bool.not_eq_true', Bool.not_eq_false', Option.getD_none, Option.getD_some, hn] at h3
      cbv
      try simp only [nc] at *
      rw [← hQ]
      exact endD_one rfl rfl
noncomputable def c63 : Code := (Try.f63.body).getD .skip
theorem ent63 : Entered Try.prog 63 := ⟨_, Try.func63, rfl, rfl⟩
theorem T63 {a_name : ByteArray} {a_code : Int} (hb : totFinding ⟨a_name, a_code⟩ ≤ 1099511627776) : CallOk Try.prog 63 [.agg [.d (.sc (.string a_name)), .d (.sc (.int .i64 a_code))], .agg [.d (.sc (.string a_name)), .d (.sc (.int .i64 a_code))]] [] ⟨.d (.sc (.bool true)), [], []⟩ := by
  have hb' : (a_name.size : Int) ≤ 1099511627776 := hb
  refine CallOk.of_bodyD (body := c63) Try.func63 rfl (Nat.le_of_ble_eq_true (by kernel_rfl)) rfl ?_
  refine vc_ok tab_ok mixed ?_
  have hT := tab_ok
  have hm := mixed
  generalize hP : Try.prog = P at *
  generalize hA : std = A
  obtain ⟨qbin, qsh, qcmp, qscmp, qbcmp, qbnot, qneg, qwrap, qcat, qssize, qssub, qsget, qlen, qrsub, qapp, qelt, qset, qnth, qdrp, qstr, qint, qbool, qrow, qnat, qnadd, qnsub, qband, qofNat, qstrRow, qmkRow, qmx, qmn, qbytes, qemp⟩ := A
  have hE := Ar.eqs hA
  dsimp only at hE
  generalize hQ : EndD P Try.f63.results _ = Q
  have hself : (∀ v : Int, qcmp .neq v v = false) ∧ (∀ v : ByteArray, qscmp .neq v v = false) ∧ (∀ v : Bool, qbnot (qbcmp v v) = false) ∧ qbnot true = false := by
    refine ⟨fun v => ?_, fun v => ?_, fun v => ?_, ?_⟩ <;> simp only [hE, std_neq, std_sneq, std_bcmp, std_not] <;> simp
  obtain ⟨hself1, hself2, hself3, hself4⟩ := hself
  cbv
  try simp only [nc] at *
  rw [hself2]
  cbv
  try simp only [nc] at *
  rw [hself1]
  cbv
  try simp only [nc] at *
  rw [← hQ]
  exact endD_one rfl rfl
noncomputable def c25 : Code := (Try.f25.body).getD .skip
theorem ent25 : Entered Try.prog 25 := ⟨_, Try.func25, rfl, rfl⟩
theorem T25 {a : List TFinding} {xs : List (List D)} (hx : a.map eFinding = xs) (hb : totFindingS a ≤ 1099511627776) : CallOk Try.prog 25 [.d (.row 2 xs), .d (.row 2 xs)] [] ⟨.d (.sc (.bool true)), [], []⟩ := by
  have ent63_ := ent63
  have T63_ := @T63
  have hb1 : (a.length : Int) + sumF (fun x => totFinding x) a ≤ 1099511627776 := hb
  have hsn := sumF_nonneg (fun x => totFinding x) a (fun x _ => totFindingS_el x)
  refine CallOk.of_bodyD (body := c25) Try.func25 rfl (Nat.le_of_ble_eq_true (by kernel_rfl)) rfl ?_
  refine vc_ok tab_ok mixed ?_
  have hT := tab_ok
  have hm := mixed
  generalize hP : Try.prog = P at *
  generalize hA : std = A
  obtain ⟨qbin, qsh, qcmp, qscmp, qbcmp, qbnot, qneg, qwrap, qcat, qssize, qssub, qsget, qlen, qrsub, qapp, qelt, qset, qnth, qdrp, qstr, qint, qbool, qrow, qnat, qnadd, qnsub, qband, qofNat, qstrRow, qmkRow, qmx, qmn, qbytes, qemp⟩ := A
  have hE := Ar.eqs hA
  dsimp only at hE
  generalize hQ : EndD P Try.f25.results _ = Q
  have hn := rd_n hx
  have hself : (∀ v : Int, qcmp .neq v v = false) ∧ (∀ v : ByteArray, qscmp .neq v v = false) ∧ (∀ v : Bool, qbnot (qbcmp v v) = false) ∧ qbnot true = false := by
    refine ⟨fun v => ?_, fun v => ?_, fun v => ?_, ?_⟩ <;> simp only [hE, std_neq, std_sneq, std_bcmp, std_not] <;> simp
  obtain ⟨hself1, hself2, hself3, hself4⟩ := hself
  cbv
  try simp only [nc] at *
  rw [hself1]
  cbv
  try simp only [nc] at *
  refine LpW.of (κ := Nat) (fun k => k ≤ a.length) (fun k => a.length - k) (fun k => [(0, .d (.row 2 xs)), (1, .d (.row 2 xs)), (5, .d (.sc (.int .i64 k)))]) (fun _ => []) 0 (by omega) ?_ (by first | rfl | trivial) ?_
  · exact .cons rfl (.cons rfl (.cons rfl (.nil _)))
  · intro k hk
    generalize hi : (k : Int) = i
    refine vc_ok hT hm ?_
    rw [hA]
    cbv
    try simp only [nc] at *
    split
    · rename_i h3
      simp only [hE, List.length_map, std_lss, std_leq, std_gtr, std_geq, std_eql, std_neq, std_len, std_add, std_subI, std_mulI, std_ssize, std_not, std_band, std_bcmp, std_nat, std_ofNat, std_nadd, std_nsub, std_emp, IntKind.wrap_i64, decide_eq_true_eq, decide_eq_false_iff_not, Bool.not_eq_true', Bool.not_eq_false', Option.getD_none, Option.getD_some, hn] at h3
      have hk' : k < a.length := by omega
      cbv
      try simp only [nc] at *
      repeat (refine And.intro (by first | (simp only [hE]; exact rd_inR hx hi hk') | (simp only [hE, rd_elt hx hi hk']; exact ⟨rfl⟩) | (simp only [hE, rd_elt hx hi hk']; exact ⟨Nat.le_of_ble_eq_true rfl⟩)) ?_)
      have hmem := sumF_mem_le (fun x => totFinding x) (fun x => totFindingS_el x) (List.getElem_mem hk')
      obtain ⟨wv, hwv⟩ : ∃ w, w = a[k] := ⟨_, rfl⟩
      have hev : qelt xs i = eFinding wv := by simp only [hE]; rw [rd_elt hx hi hk', hwv]
      rw [← hwv] at hmem
      obtain ⟨v_name, v_code⟩ := wv
      rw [show qstr (qnth (qelt xs i) 0) = v_name by rw [hev]; simp only [hE]; rfl, show qint (qnth (qelt xs i) 1) = v_code by rw [hev]; simp only [hE]; rfl]
      refine ClW.dd (f := 63) rfl rfl rfl rfl (.cons rfl (.cons rfl .nil)) rfl ent63_ (T63_ (by omega)) rfl ?_
      cbv
      try simp only [nc] at *
      rw [hself4]
      cbv
      try simp only [nc] at *
      refine ⟨k + 1, by omega, by omega, ?_, by trivial⟩
      refine .cons rfl (.cons rfl (.cons ?_ (.nil _)))
      show AV.d (D.sc (Value.int IntKind.i64 (qbin .add .i64 i 1))) = _
      simp only [hE, i_next hi (by omega)]
    · rename_i h3
      simp only [hE, List.length_map, std_lss, std_leq, std_gtr, std_geq, std_eql, std_neq, std_len, std_add, std_subI, std_mulI, std_ssize, std_not, std_band, std_bcmp, std_nat, std_ofNat, std_nadd, std_nsub, std_emp, IntKind.wrap_i64, decide_eq_true_eq, decide_eq_false_iff_not, Bool.not_eq_true', Bool.not_eq_false', Option.getD_none, Option.getD_some, hn] at h3
      cbv
      try simp only [nc] at *
      rw [← hQ]
      exact endD_one rfl rfl
noncomputable def c24 : Code := (Try.f24.body).getD .skip
theorem ent24 : Entered Try.prog 24 := ⟨_, Try.func24, rfl, rfl⟩
theorem T24 {a : List ByteArray} {xs : List (List D)} (hx : a.map cS = xs) (hb : totStringS a ≤ 1099511627776) : CallOk Try.prog 24 [.d (.row 1 xs), .d (.row 1 xs)] [] ⟨.d (.sc (.bool true)), [], []⟩ := by
  have hb1 : (a.length : Int) + sumF (fun x => (x.size : Int)) a ≤ 1099511627776 := hb
  have hsn := sumF_nonneg (fun x => (x.size : Int)) a (fun x _ => totStringS_el x)
  refine CallOk.of_bodyD (body := c24) Try.func24 rfl (Nat.le_of_ble_eq_true (by kernel_rfl)) rfl ?_
  refine vc_ok tab_ok mixed ?_
  have hT := tab_ok
  have hm := mixed
  generalize hP : Try.prog = P at *
  generalize hA : std = A
  obtain ⟨qbin, qsh, qcmp, qscmp, qbcmp, qbnot, qneg, qwrap, qcat, qssize, qssub, qsget, qlen, qrsub, qapp, qelt, qset, qnth, qdrp, qstr, qint, qbool, qrow, qnat, qnadd, qnsub, qband, qofNat, qstrRow, qmkRow, qmx, qmn, qbytes, qemp⟩ := A
  have hE := Ar.eqs hA
  dsimp only at hE
  generalize hQ : EndD P Try.f24.results _ = Q
  have hn := rd_n hx
  have hself : (∀ v : Int, qcmp .neq v v = false) ∧ (∀ v : ByteArray, qscmp .neq v v = false) ∧ (∀ v : Bool, qbnot (qbcmp v v) = false) ∧ qbnot true = false := by
    refine ⟨fun v => ?_, fun v => ?_, fun v => ?_, ?_⟩ <;> simp only [hE, std_neq, std_sneq, std_bcmp, std_not] <;> simp
  obtain ⟨hself1, hself2, hself3, hself4⟩ := hself
  cbv
  try simp only [nc] at *
  rw [hself1]
  cbv
  try simp only [nc] at *
  refine LpW.of (κ := Nat) (fun k => k ≤ a.length) (fun k => a.length - k) (fun k => [(0, .d (.row 1 xs)), (1, .d (.row 1 xs)), (5, .d (.sc (.int .i64 k)))]) (fun _ => []) 0 (by omega) ?_ (by first | rfl | trivial) ?_
  · exact .cons rfl (.cons rfl (.cons rfl (.nil _)))
  · intro k hk
    generalize hi : (k : Int) = i
    refine vc_ok hT hm ?_
    rw [hA]
    cbv
    try simp only [nc] at *
    split
    · rename_i h3
      simp only [hE, List.length_map, std_lss, std_leq, std_gtr, std_geq, std_eql, std_neq, std_len, std_add, std_subI, std_mulI, std_ssize, std_not, std_band, std_bcmp, std_nat, std_ofNat, std_nadd, std_nsub, std_emp, IntKind.wrap_i64, decide_eq_true_eq, decide_eq_false_iff_not, Bool.not_eq_true', Bool.not_eq_false', Option.getD_none, Option.getD_some, hn] at h3
      have hk' : k < a.length := by omega
      cbv
      try simp only [nc] at *
      repeat (refine And.intro (by first | (simp only [hE]; exact rd_inR hx hi hk') | (simp only [hE, rd_elt hx hi hk']; exact ⟨rfl⟩) | (simp only [hE, rd_elt hx hi hk']; exact ⟨Nat.le_of_ble_eq_true rfl⟩)) ?_)
      rw [hself2]
      cbv
      try simp only [nc] at *
      refine ⟨k + 1, by omega, by omega, ?_, by trivial⟩
      refine .cons rfl (.cons rfl (.cons ?_ (.nil _)))
      show AV.d (D.sc (Value.int IntKind.i64 (qbin .add .i64 i 1))) = _
      simp only [hE, i_next hi (by omega)]
    · rename_i h3
      simp only [hE, List.length_map, std_lss, std_leq, std_gtr, std_geq, std_eql, std_neq, std_len, std_add, std_subI, std_mulI, std_ssize, std_not, std_band, std_bcmp, std_nat, std_ofNat, std_nadd, std_nsub, std_emp, IntKind.wrap_i64, decide_eq_true_eq, decide_eq_false_iff_not, Bool.not_eq_true', Bool.not_eq_false', Option.getD_none, Option.getD_some, hn] at h3
      cbv
      try simp only [nc] at *
      rw [← hQ]
      exact endD_one rfl rfl
noncomputable def c100 : Code := (Try.f100.body).getD .skip
theorem ent100 : Entered Try.prog 100 := ⟨_, Try.func100, rfl, rfl⟩
theorem T100 {a_id : Int} {a_text : ByteArray} {a_sure : Int} (hb : totNode ⟨a_id, a_text, a_sure⟩ ≤ 1099511627776) : CallOk Try.prog 100 [.agg [.d (.sc (.int .i64 a_id)), .d (.sc (.string a_text)), .d (.sc (.int .i64 a_sure))], .agg [.d (.sc (.int .i64 a_id)), .d (.sc (.string a_text)), .d (.sc (.int .i64 a_sure))]] [] ⟨.d (.sc (.bool true)), [], []⟩ := by
  have hb' : (a_text.size : Int) ≤ 1099511627776 := hb
  refine CallOk.of_bodyD (body := c100) Try.func100 rfl (Nat.le_of_ble_eq_true (by kernel_rfl)) rfl ?_
  refine vc_ok tab_ok mixed ?_
  have hT := tab_ok
  have hm := mixed
  generalize hP : Try.prog = P at *
  generalize hA : std = A
  obtain ⟨qbin, qsh, qcmp, qscmp, qbcmp, qbnot, qneg, qwrap, qcat, qssize, qssub, qsget, qlen, qrsub, qapp, qelt, qset, qnth, qdrp, qstr, qint, qbool, qrow, qnat, qnadd, qnsub, qband, qofNat, qstrRow, qmkRow, qmx, qmn, qbytes, qemp⟩ := A
  have hE := Ar.eqs hA
  dsimp only at hE
  generalize hQ : EndD P Try.f100.results _ = Q
  have hself : (∀ v : Int, qcmp .neq v v = false) ∧ (∀ v : ByteArray, qscmp .neq v v = false) ∧ (∀ v : Bool, qbnot (qbcmp v v) = false) ∧ qbnot true = false := by
    refine ⟨fun v => ?_, fun v => ?_, fun v => ?_, ?_⟩ <;> simp only [hE, std_neq, std_sneq, std_bcmp, std_not] <;> simp
  obtain ⟨hself1, hself2, hself3, hself4⟩ := hself
  cbv
  try simp only [nc] at *
  rw [hself1]
  cbv
  try simp only [nc] at *
  rw [hself2]
  cbv
  try simp only [nc] at *
  rw [hself1]
  cbv
  try simp only [nc] at *
  rw [← hQ]
  exact endD_one rfl rfl
noncomputable def c73 : Code := (Try.f73.body).getD .skip
theorem ent73 : Entered Try.prog 73 := ⟨_, Try.func73, rfl, rfl⟩
theorem T73 {a : List TNode} {xs : List (List D)} (hx : a.map eNode = xs) (hb : totNodeS a ≤ 1099511627776) : CallOk Try.prog 73 [.d (.row 3 xs), .d (.row 3 xs)] [] ⟨.d (.sc (.bool true)), [], []⟩ := by
  have ent100_ := ent100
  have T100_ := @T100
  have hb1 : (a.length : Int) + sumF (fun x => totNode x) a ≤ 1099511627776 := hb
  have hsn := sumF_nonneg (fun x => totNode x) a (fun x _ => totNodeS_el x)
  refine CallOk.of_bodyD (body := c73) Try.func73 rfl (Nat.le_of_ble_eq_true (by kernel_rfl)) rfl ?_
  refine vc_ok tab_ok mixed ?_
  have hT := tab_ok
  have hm := mixed
  generalize hP : Try.prog = P at *
  generalize hA : std = A
  obtain ⟨qbin, qsh, qcmp, qscmp, qbcmp, qbnot, qneg, qwrap, qcat, qssize, qssub, qsget, qlen, qrsub, qapp, qelt, qset, qnth, qdrp, qstr, qint, qbool, qrow, qnat, qnadd, qnsub, qband, qofNat, qstrRow, qmkRow, qmx, qmn, qbytes, qemp⟩ := A
  have hE := Ar.eqs hA
  dsimp only at hE
  generalize hQ : EndD P Try.f73.results _ = Q
  have hn := rd_n hx
  have hself : (∀ v : Int, qcmp .neq v v = false) ∧ (∀ v : ByteArray, qscmp .neq v v = false) ∧ (∀ v : Bool, qbnot (qbcmp v v) = false) ∧ qbnot true = false := by
    refine ⟨fun v => ?_, fun v => ?_, fun v => ?_, ?_⟩ <;> simp only [hE, std_neq, std_sneq, std_bcmp, std_not] <;> simp
  obtain ⟨hself1, hself2, hself3, hself4⟩ := hself
  cbv
  try simp only [nc] at *
  rw [hself1]
  cbv
  try simp only [nc] at *
  refine LpW.of (κ := Nat) (fun k => k ≤ a.length) (fun k => a.length - k) (fun k => [(0, .d (.row 3 xs)), (1, .d (.row 3 xs)), (5, .d (.sc (.int .i64 k)))]) (fun _ => []) 0 (by omega) ?_ (by first | rfl | trivial) ?_
  · exact .cons rfl (.cons rfl (.cons rfl (.nil _)))
  · intro k hk
    generalize hi : (k : Int) = i
    refine vc_ok hT hm ?_
    rw [hA]
    cbv
    try simp only [nc] at *
    split
    · rename_i h3
      simp only [hE, List.length_map, std_lss, std_leq, std_gtr, std_geq, std_eql, std_neq, std_len, std_add, std_subI, std_mulI, std_ssize, std_not, std_band, std_bcmp, std_nat, std_ofNat, std_nadd, std_nsub, std_emp, IntKind.wrap_i64, decide_eq_true_eq, decide_eq_false_iff_not, Bool.not_eq_true', Bool.not_eq_false', Option.getD_none, Option.getD_some, hn] at h3
      have hk' : k < a.length := by omega
      cbv
      try simp only [nc] at *
      repeat (refine And.intro (by first | (simp only [hE]; exact rd_inR hx hi hk') | (simp only [hE, rd_elt hx hi hk']; exact ⟨rfl⟩) | (simp only [hE, rd_elt hx hi hk']; exact ⟨Nat.le_of_ble_eq_true rfl⟩)) ?_)
      have hmem := sumF_mem_le (fun x => totNode x) (fun x => totNodeS_el x) (List.getElem_mem hk')
      obtain ⟨wv, hwv⟩ : ∃ w, w = a[k] := ⟨_, rfl⟩
      have hev : qelt xs i = eNode wv := by simp only [hE]; rw [rd_elt hx hi hk', hwv]
      rw [← hwv] at hmem
      obtain ⟨v_id, v_text, v_sure⟩ := wv
      rw [show qint (qnth (qelt xs i) 0) = v_id by rw [hev]; simp only [hE]; rfl, show qstr (qnth (qelt xs i) 1) = v_text by rw [hev]; simp only [hE]; rfl, show qint (qnth (qelt xs i) 2) = v_sure by rw [hev]; simp only [hE]; rfl]
      refine ClW.dd (f := 100) rfl rfl rfl rfl (.cons rfl (.cons rfl .nil)) rfl ent100_ (T100_ (by omega)) rfl ?_
      cbv
      try simp only [nc] at *
      rw [hself4]
      cbv
      try simp only [nc] at *
      refine ⟨k + 1, by omega, by omega, ?_, by trivial⟩
      refine .cons rfl (.cons rfl (.cons ?_ (.nil _)))
      show AV.d (D.sc (Value.int IntKind.i64 (qbin .add .i64 i 1))) = _
      simp only [hE, i_next hi (by omega)]
    · rename_i h3
      simp only [hE, List.length_map, std_lss, std_leq, std_gtr, std_geq, std_eql, std_neq, std_len, std_add, std_subI, std_mulI, std_ssize, std_not, std_band, std_bcmp, std_nat, std_ofNat, std_nadd, std_nsub, std_emp, IntKind.wrap_i64, decide_eq_true_eq, decide_eq_false_iff_not, Bool.not_eq_true', Bool.not_eq_false', Option.getD_none, Option.getD_some, hn] at h3
      cbv
      try simp only [nc] at *
      rw [← hQ]
      exact endD_one rfl rfl
noncomputable def c101 : Code := (Try.f101.body).getD .skip
theorem ent101 : Entered Try.prog 101 := ⟨_, Try.func101, rfl, rfl⟩
theorem T101 {a_name : ByteArray} {a_id : Int} (hb : totEntry ⟨a_name, a_id⟩ ≤ 1099511627776) : CallOk Try.prog 101 [.agg [.d (.sc (.string a_name)), .d (.sc (.int .i64 a_id))], .agg [.d (.sc (.string a_name)), .d (.sc (.int .i64 a_id))]] [] ⟨.d (.sc (.bool true)), [], []⟩ := by
  have hb' : (a_name.size : Int) ≤ 1099511627776 := hb
  refine CallOk.of_bodyD (body := c101) Try.func101 rfl (Nat.le_of_ble_eq_true (by kernel_rfl)) rfl ?_
  refine vc_ok tab_ok mixed ?_
  have hT := tab_ok
  have hm := mixed
  generalize hP : Try.prog = P at *
  generalize hA : std = A
  obtain ⟨qbin, qsh, qcmp, qscmp, qbcmp, qbnot, qneg, qwrap, qcat, qssize, qssub, qsget, qlen, qrsub, qapp, qelt, qset, qnth, qdrp, qstr, qint, qbool, qrow, qnat, qnadd, qnsub, qband, qofNat, qstrRow, qmkRow, qmx, qmn, qbytes, qemp⟩ := A
  have hE := Ar.eqs hA
  dsimp only at hE
  generalize hQ : EndD P Try.f101.results _ = Q
  have hself : (∀ v : Int, qcmp .neq v v = false) ∧ (∀ v : ByteArray, qscmp .neq v v = false) ∧ (∀ v : Bool, qbnot (qbcmp v v) = false) ∧ qbnot true = false := by
    refine ⟨fun v => ?_, fun v => ?_, fun v => ?_, ?_⟩ <;> simp only [hE, std_neq, std_sneq, std_bcmp, std_not] <;> simp
  obtain ⟨hself1, hself2, hself3, hself4⟩ := hself
  cbv
  try simp only [nc] at *
  rw [hself2]
  cbv
  try simp only [nc] at *
  rw [hself1]
  cbv
  try simp only [nc] at *
  rw [← hQ]
  exact endD_one rfl rfl
noncomputable def c74 : Code := (Try.f74.body).getD .skip
theorem ent74 : Entered Try.prog 74 := ⟨_, Try.func74, rfl, rfl⟩
theorem T74 {a : List TEntry} {xs : List (List D)} (hx : a.map eEntry = xs) (hb : totEntryS a ≤ 1099511627776) : CallOk Try.prog 74 [.d (.row 2 xs), .d (.row 2 xs)] [] ⟨.d (.sc (.bool true)), [], []⟩ := by
  have ent101_ := ent101
  have T101_ := @T101
  have hb1 : (a.length : Int) + sumF (fun x => totEntry x) a ≤ 1099511627776 := hb
  have hsn := sumF_nonneg (fun x => totEntry x) a (fun x _ => totEntryS_el x)
  refine CallOk.of_bodyD (body := c74) Try.func74 rfl (Nat.le_of_ble_eq_true (by kernel_rfl)) rfl ?_
  refine vc_ok tab_ok mixed ?_
  have hT := tab_ok
  have hm := mixed
  generalize hP : Try.prog = P at *
  generalize hA : std = A
  obtain ⟨qbin, qsh, qcmp, qscmp, qbcmp, qbnot, qneg, qwrap, qcat, qssize, qssub, qsget, qlen, qrsub, qapp, qelt, qset, qnth, qdrp, qstr, qint, qbool, qrow, qnat, qnadd, qnsub, qband, qofNat, qstrRow, qmkRow, qmx, qmn, qbytes, qemp⟩ := A
  have hE := Ar.eqs hA
  dsimp only at hE
  generalize hQ : EndD P Try.f74.results _ = Q
  have hn := rd_n hx
  have hself : (∀ v : Int, qcmp .neq v v = false) ∧ (∀ v : ByteArray, qscmp .neq v v = false) ∧ (∀ v : Bool, qbnot (qbcmp v v) = false) ∧ qbnot true = false := by
    refine ⟨fun v => ?_, fun v => ?_, fun v => ?_, ?_⟩ <;> simp only [hE, std_neq, std_sneq, std_bcmp, std_not] <;> simp
  obtain ⟨hself1, hself2, hself3, hself4⟩ := hself
  cbv
  try simp only [nc] at *
  rw [hself1]
  cbv
  try simp only [nc] at *
  refine LpW.of (κ := Nat) (fun k => k ≤ a.length) (fun k => a.length - k) (fun k => [(0, .d (.row 2 xs)), (1, .d (.row 2 xs)), (5, .d (.sc (.int .i64 k)))]) (fun _ => []) 0 (by omega) ?_ (by first | rfl | trivial) ?_
  · exact .cons rfl (.cons rfl (.cons rfl (.nil _)))
  · intro k hk
    generalize hi : (k : Int) = i
    refine vc_ok hT hm ?_
    rw [hA]
    cbv
    try simp only [nc] at *
    split
    · rename_i h3
      simp only [hE, List.length_map, std_lss, std_leq, std_gtr, std_geq, std_eql, std_neq, std_len, std_add, std_subI, std_mulI, std_ssize, std_not, std_band, std_bcmp, std_nat, std_ofNat, std_nadd, std_nsub, std_emp, IntKind.wrap_i64, decide_eq_true_eq, decide_eq_false_iff_not, Bool.not_eq_true', Bool.not_eq_false', Option.getD_none, Option.getD_some, hn] at h3
      have hk' : k < a.length := by omega
      cbv
      try simp only [nc] at *
      repeat (refine And.intro (by first | (simp only [hE]; exact rd_inR hx hi hk') | (simp only [hE, rd_elt hx hi hk']; exact ⟨rfl⟩) | (simp only [hE, rd_elt hx hi hk']; exact ⟨Nat.le_of_ble_eq_true rfl⟩)) ?_)
      have hmem := sumF_mem_le (fun x => totEntry x) (fun x => totEntryS_el x) (List.getElem_mem hk')
      obtain ⟨wv, hwv⟩ : ∃ w, w = a[k] := ⟨_, rfl⟩
      have hev : qelt xs i = eEntry wv := by simp only [hE]; rw [rd_elt hx hi hk', hwv]
      rw [← hwv] at hmem
      obtain ⟨v_name, v_id⟩ := wv
      rw [show qstr (qnth (qelt xs i) 0) = v_name by rw [hev]; simp only [hE]; rfl, show qint (qnth (qelt xs i) 1) = v_id by rw [hev]; simp only [hE]; rfl]
      refine ClW.dd (f := 101) rfl rfl rfl rfl (.cons rfl (.cons rfl .nil)) rfl ent101_ (T101_ (by omega)) rfl ?_
      cbv
      try simp only [nc] at *
      rw [hself4]
      cbv
      try simp only [nc] at *
      refine ⟨k + 1, by omega, by omega, ?_, by trivial⟩
      refine .cons rfl (.cons rfl (.cons ?_ (.nil _)))
      show AV.d (D.sc (Value.int IntKind.i64 (qbin .add .i64 i 1))) = _
      simp only [hE, i_next hi (by omega)]
    · rename_i h3
      simp only [hE, List.length_map, std_lss, std_leq, std_gtr, std_geq, std_eql, std_neq, std_len, std_add, std_subI, std_mulI, std_ssize, std_not, std_band, std_bcmp, std_nat, std_ofNat, std_nadd, std_nsub, std_emp, IntKind.wrap_i64, decide_eq_true_eq, decide_eq_false_iff_not, Bool.not_eq_true', Bool.not_eq_false', Option.getD_none, Option.getD_some, hn] at h3
      cbv
      try simp only [nc] at *
      rw [← hQ]
      exact endD_one rfl rfl
noncomputable def c37 : Code := (Try.f37.body).getD .skip
theorem ent37 : Entered Try.prog 37 := ⟨_, Try.func37, rfl, rfl⟩
theorem T37 {a_nodes : List TNode} {xa_nodes : List (List D)} (ha_nodes : a_nodes.map eNode = xa_nodes) {a_entries : List TEntry} {xa_entries : List (List D)} (ha_entries : a_entries.map eEntry = xa_entries) {a_old : List TEntry} {xa_old : List (List D)} (ha_old : a_old.map eEntry = xa_old) {a_steps : List ByteArray} {xa_steps : List (List D)} (ha_steps : a_steps.map cS = xa_steps) {a_room : Int} {a_next : Int} (hb : totDisk ⟨a_nodes, a_entries, a_old, a_steps, a_room, a_next⟩ ≤ 1099511627776) : CallOk Try.prog 37 [.agg [.d (.row 3 xa_nodes), .d (.row 2 xa_entries), .d (.row 2 xa_old), .d (.row 1 xa_steps), .d (.sc (.int .i64 a_room)), .d (.sc (.int .i64 a_next))], .agg [.d (.row 3 xa_nodes), .d (.row 2 xa_entries), .d (.row 2 xa_old), .d (.row 1 xa_steps), .d (.sc (.int .i64 a_room)), .d (.sc (.int .i64 a_next))]] [] ⟨.d (.sc (.bool true)), [], []⟩ := by
  have ent24_ := ent24
  have T24_ := @T24
  have ent73_ := ent73
  have T73_ := @T73
  have ent74_ := ent74
  have T74_ := @T74
  have nna_nodes := totNodeS_nn a_nodes
  have nna_entries := totEntryS_nn a_entries
  have nna_old := totEntryS_nn a_old
  have nna_steps := totStringS_nn a_steps
  have hb' : totNodeS a_nodes + totEntryS a_entries + totEntryS a_old + totStringS a_steps ≤ 1099511627776 := hb
  refine CallOk.of_bodyD (body := c37) Try.func37 rfl (Nat.le_of_ble_eq_true (by kernel_rfl)) rfl ?_
  refine vc_ok tab_ok mixed ?_
  have hT := tab_ok
  have hm := mixed
  generalize hP : Try.prog = P at *
  generalize hA : std = A
  obtain ⟨qbin, qsh, qcmp, qscmp, qbcmp, qbnot, qneg, qwrap, qcat, qssize, qssub, qsget, qlen, qrsub, qapp, qelt, qset, qnth, qdrp, qstr, qint, qbool, qrow, qnat, qnadd, qnsub, qband, qofNat, qstrRow, qmkRow, qmx, qmn, qbytes, qemp⟩ := A
  have hE := Ar.eqs hA
  dsimp only at hE
  generalize hQ : EndD P Try.f37.results _ = Q
  have hself : (∀ v : Int, qcmp .neq v v = false) ∧ (∀ v : ByteArray, qscmp .neq v v = false) ∧ (∀ v : Bool, qbnot (qbcmp v v) = false) ∧ qbnot true = false := by
    refine ⟨fun v => ?_, fun v => ?_, fun v => ?_, ?_⟩ <;> simp only [hE, std_neq, std_sneq, std_bcmp, std_not] <;> simp
  obtain ⟨hself1, hself2, hself3, hself4⟩ := hself
  cbv
  try simp only [nc] at *
  refine ClW.dd (f := 73) rfl rfl rfl rfl (.cons rfl (.cons rfl .nil)) rfl ent73_ (T73_ ha_nodes (by omega)) rfl ?_
  cbv
  try simp only [nc] at *
  rw [hself4]
  cbv
  try simp only [nc] at *
  refine ClW.dd (f := 74) rfl rfl rfl rfl (.cons rfl (.cons rfl .nil)) rfl ent74_ (T74_ ha_entries (by omega)) rfl ?_
  cbv
  try simp only [nc] at *
  rw [hself4]
  cbv
  try simp only [nc] at *
  refine ClW.dd (f := 74) rfl rfl rfl rfl (.cons rfl (.cons rfl .nil)) rfl ent74_ (T74_ ha_old (by omega)) rfl ?_
  cbv
  try simp only [nc] at *
  rw [hself4]
  cbv
  try simp only [nc] at *
  refine ClW.dd (f := 24) rfl rfl rfl rfl (.cons rfl (.cons rfl .nil)) rfl ent24_ (T24_ ha_steps (by omega)) rfl ?_
  cbv
  try simp only [nc] at *
  rw [hself4]
  cbv
  try simp only [nc] at *
  rw [hself1]
  cbv
  try simp only [nc] at *
  rw [hself1]
  cbv
  try simp only [nc] at *
  rw [← hQ]
  exact endD_one rfl rfl
noncomputable def c42 : Code := (Try.f42.body).getD .skip
theorem ent42 : Entered Try.prog 42 := ⟨_, Try.func42, rfl, rfl⟩
theorem T42 {a_version : Int} {a_stride : Int} {a_roll : Int} {a_base : Int} {a_link : Int} {a_offsets : List Int} {xa_offsets : List (List D)} (ha_offsets : a_offsets.map cI = xa_offsets) {a_end : Int} {a_open : Bool} {a_code : Int} (hb : totWriter ⟨a_version, a_stride, a_roll, a_base, a_link, a_offsets, a_end, a_open, a_code⟩ ≤ 1099511627776) : CallOk Try.prog 42 [.agg [.d (.sc (.int .i64 a_version)), .d (.sc (.int .i64 a_stride)), .d (.sc (.int .i64 a_roll)), .d (.sc (.int .i64 a_base)), .d (.sc (.int .i64 a_link)), .d (.row 1 xa_offsets), .d (.sc (.int .i64 a_end)), .d (.sc (.bool a_open)), .d (.sc (.int .i64 a_code))], .agg [.d (.sc (.int .i64 a_version)), .d (.sc (.int .i64 a_stride)), .d (.sc (.int .i64 a_roll)), .d (.sc (.int .i64 a_base)), .d (.sc (.int .i64 a_link)), .d (.row 1 xa_offsets), .d (.sc (.int .i64 a_end)), .d (.sc (.bool a_open)), .d (.sc (.int .i64 a_code))]] [] ⟨.d (.sc (.bool true)), [], []⟩ := by
  have ent19_ := ent19
  have T19_ := @T19
  have nna_offsets := totIntS_nn a_offsets
  have hb' : totIntS a_offsets ≤ 1099511627776 := hb
  refine CallOk.of_bodyD (body := c42) Try.func42 rfl (Nat.le_of_ble_eq_true (by kernel_rfl)) rfl ?_
  refine vc_ok tab_ok mixed ?_
  have hT := tab_ok
  have hm := mixed
  generalize hP : Try.prog = P at *
  generalize hA : std = A
  obtain ⟨qbin, qsh, qcmp, qscmp, qbcmp, qbnot, qneg, qwrap, qcat, qssize, qssub, qsget, qlen, qrsub, qapp, qelt, qset, qnth, qdrp, qstr, qint, qbool, qrow, qnat, qnadd, qnsub, qband, qofNat, qstrRow, qmkRow, qmx, qmn, qbytes, qemp⟩ := A
  have hE := Ar.eqs hA
  dsimp only at hE
  generalize hQ : EndD P Try.f42.results _ = Q
  have hself : (∀ v : Int, qcmp .neq v v = false) ∧ (∀ v : ByteArray, qscmp .neq v v = false) ∧ (∀ v : Bool, qbnot (qbcmp v v) = false) ∧ qbnot true = false := by
    refine ⟨fun v => ?_, fun v => ?_, fun v => ?_, ?_⟩ <;> simp only [hE, std_neq, std_sneq, std_bcmp, std_not] <;> simp
  obtain ⟨hself1, hself2, hself3, hself4⟩ := hself
  cbv
  try simp only [nc] at *
  rw [hself1]
  cbv
  try simp only [nc] at *
  rw [hself1]
  cbv
  try simp only [nc] at *
  rw [hself1]
  cbv
  try simp only [nc] at *
  rw [hself1]
  cbv
  try simp only [nc] at *
  rw [hself1]
  cbv
  try simp only [nc] at *
  refine ClW.dd (f := 19) rfl rfl rfl rfl (.cons rfl (.cons rfl .nil)) rfl ent19_ (T19_ ha_offsets (by omega)) rfl ?_
  cbv
  try simp only [nc] at *
  rw [hself4]
  cbv
  try simp only [nc] at *
  rw [hself1]
  cbv
  try simp only [nc] at *
  rw [hself3]
  cbv
  try simp only [nc] at *
  rw [hself1]
  cbv
  try simp only [nc] at *
  rw [← hQ]
  exact endD_one rfl rfl
noncomputable def c88 : Code := (Try.f88.body).getD .skip
theorem ent88 : Entered Try.prog 88 := ⟨_, Try.func88, rfl, rfl⟩
theorem T88 {a_room : Int} {a_version : Int} {a_stride : Int} {a_roll : Int} : CallOk Try.prog 88 [.agg [.d (.sc (.int .i64 a_room)), .d (.sc (.int .i64 a_version)), .d (.sc (.int .i64 a_stride)), .d (.sc (.int .i64 a_roll))], .agg [.d (.sc (.int .i64 a_room)), .d (.sc (.int .i64 a_version)), .d (.sc (.int .i64 a_stride)), .d (.sc (.int .i64 a_roll))]] [] ⟨.d (.sc (.bool true)), [], []⟩ := by
  refine CallOk.of_bodyD (body := c88) Try.func88 rfl (Nat.le_of_ble_eq_true (by kernel_rfl)) rfl ?_
  refine vc_ok tab_ok mixed ?_
  have hT := tab_ok
  have hm := mixed
  generalize hP : Try.prog = P at *
  generalize hA : std = A
  obtain ⟨qbin, qsh, qcmp, qscmp, qbcmp, qbnot, qneg, qwrap, qcat, qssize, qssub, qsget, qlen, qrsub, qapp, qelt, qset, qnth, qdrp, qstr, qint, qbool, qrow, qnat, qnadd, qnsub, qband, qofNat, qstrRow, qmkRow, qmx, qmn, qbytes, qemp⟩ := A
  have hE := Ar.eqs hA
  dsimp only at hE
  generalize hQ : EndD P Try.f88.results _ = Q
  have hself : (∀ v : Int, qcmp .neq v v = false) ∧ (∀ v : ByteArray, qscmp .neq v v = false) ∧ (∀ v : Bool, qbnot (qbcmp v v) = false) ∧ qbnot true = false := by
    refine ⟨fun v => ?_, fun v => ?_, fun v => ?_, ?_⟩ <;> simp only [hE, std_neq, std_sneq, std_bcmp, std_not] <;> simp
  obtain ⟨hself1, hself2, hself3, hself4⟩ := hself
  cbv
  try simp only [nc] at *
  rw [hself1]
  cbv
  try simp only [nc] at *
  rw [hself1]
  cbv
  try simp only [nc] at *
  rw [hself1]
  cbv
  try simp only [nc] at *
  rw [hself1]
  cbv
  try simp only [nc] at *
  rw [← hQ]
  exact endD_one rfl rfl
noncomputable def c47 : Code := (Try.f47.body).getD .skip
theorem ent47 : Entered Try.prog 47 := ⟨_, Try.func47, rfl, rfl⟩
theorem T47 {a_set_room : Int} {a_set_version : Int} {a_set_stride : Int} {a_set_roll : Int} {a_disk_nodes : List TNode} {xa_disk_nodes : List (List D)} (ha_disk_nodes : a_disk_nodes.map eNode = xa_disk_nodes) {a_disk_entries : List TEntry} {xa_disk_entries : List (List D)} (ha_disk_entries : a_disk_entries.map eEntry = xa_disk_entries) {a_disk_old : List TEntry} {xa_disk_old : List (List D)} (ha_disk_old : a_disk_old.map eEntry = xa_disk_old) {a_disk_steps : List ByteArray} {xa_disk_steps : List (List D)} (ha_disk_steps : a_disk_steps.map cS = xa_disk_steps) {a_disk_room : Int} {a_disk_next : Int} {a_writer_version : Int} {a_writer_stride : Int} {a_writer_roll : Int} {a_writer_base : Int} {a_writer_link : Int} {a_writer_offsets : List Int} {xa_writer_offsets : List (List D)} (ha_writer_offsets : a_writer_offsets.map cI = xa_writer_offsets) {a_writer_end : Int} {a_writer_open : Bool} {a_writer_code : Int} {a_told : List ByteArray} {xa_told : List (List D)} (ha_told : a_told.map cS = xa_told) {a_sure : Int} {a_falls : Int} (hb : totWorld ⟨⟨a_set_room, a_set_version, a_set_stride, a_set_roll⟩, ⟨a_disk_nodes, a_disk_entries, a_disk_old, a_disk_steps, a_disk_room, a_disk_next⟩, ⟨a_writer_version, a_writer_stride, a_writer_roll, a_writer_base, a_writer_link, a_writer_offsets, a_writer_end, a_writer_open, a_writer_code⟩, a_told, a_sure, a_falls⟩ ≤ 1099511627776) : CallOk Try.prog 47 [.agg [.d (.sc (.int .i64 a_set_room)), .d (.sc (.int .i64 a_set_version)), .d (.sc (.int .i64 a_set_stride)), .d (.sc (.int .i64 a_set_roll)), .d (.row 3 xa_disk_nodes), .d (.row 2 xa_disk_entries), .d (.row 2 xa_disk_old), .d (.row 1 xa_disk_steps), .d (.sc (.int .i64 a_disk_room)), .d (.sc (.int .i64 a_disk_next)), .d (.sc (.int .i64 a_writer_version)), .d (.sc (.int .i64 a_writer_stride)), .d (.sc (.int .i64 a_writer_roll)), .d (.sc (.int .i64 a_writer_base)), .d (.sc (.int .i64 a_writer_link)), .d (.row 1 xa_writer_offsets), .d (.sc (.int .i64 a_writer_end)), .d (.sc (.bool a_writer_open)), .d (.sc (.int .i64 a_writer_code)), .d (.row 1 xa_told), .d (.sc (.int .i64 a_sure)), .d (.sc (.int .i64 a_falls))], .agg [.d (.sc (.int .i64 a_set_room)), .d (.sc (.int .i64 a_set_version)), .d (.sc (.int .i64 a_set_stride)), .d (.sc (.int .i64 a_set_roll)), .d (.row 3 xa_disk_nodes), .d (.row 2 xa_disk_entries), .d (.row 2 xa_disk_old), .d (.row 1 xa_disk_steps), .d (.sc (.int .i64 a_disk_room)), .d (.sc (.int .i64 a_disk_next)), .d (.sc (.int .i64 a_writer_version)), .d (.sc (.int .i64 a_writer_stride)), .d (.sc (.int .i64 a_writer_roll)), .d (.sc (.int .i64 a_writer_base)), .d (.sc (.int .i64 a_writer_link)), .d (.row 1 xa_writer_offsets), .d (.sc (.int .i64 a_writer_end)), .d (.sc (.bool a_writer_open)), .d (.sc (.int .i64 a_writer_code)), .d (.row 1 xa_told), .d (.sc (.int .i64 a_sure)), .d (.sc (.int .i64 a_falls))]] [] ⟨.d (.sc (.bool true)), [], []⟩ := by
  have ent24_ := ent24
  have T24_ := @T24
  have ent37_ := ent37
  have T37_ := @T37
  have ent42_ := ent42
  have T42_ := @T42
  have ent88_ := ent88
  have T88_ := @T88
  have nna_disk := totDisk_nn (⟨a_disk_nodes, a_disk_entries, a_disk_old, a_disk_steps, a_disk_room, a_disk_next⟩ : TDisk)
  have nna_writer := totWriter_nn (⟨a_writer_version, a_writer_stride, a_writer_roll, a_writer_base, a_writer_link, a_writer_offsets, a_writer_end, a_writer_open, a_writer_code⟩ : TWriter)
  have nna_told := totStringS_nn a_told
  have hb' : totDisk (⟨a_disk_nodes, a_disk_entries, a_disk_old, a_disk_steps, a_disk_room, a_disk_next⟩ : TDisk) + totWriter (⟨a_writer_version, a_writer_stride, a_writer_roll, a_writer_base, a_writer_link, a_writer_offsets, a_writer_end, a_writer_open, a_writer_code⟩ : TWriter) + totStringS a_told ≤ 1099511627776 := hb
  refine CallOk.of_bodyD (body := c47) Try.func47 rfl (Nat.le_of_ble_eq_true (by kernel_rfl)) rfl ?_
  refine vc_ok tab_ok mixed ?_
  have hT := tab_ok
  have hm := mixed
  generalize hP : Try.prog = P at *
  generalize hA : std = A
  obtain ⟨qbin, qsh, qcmp, qscmp, qbcmp, qbnot, qneg, qwrap, qcat, qssize, qssub, qsget, qlen, qrsub, qapp, qelt, qset, qnth, qdrp, qstr, qint, qbool, qrow, qnat, qnadd, qnsub, qband, qofNat, qstrRow, qmkRow, qmx, qmn, qbytes, qemp⟩ := A
  have hE := Ar.eqs hA
  dsimp only at hE
  generalize hQ : EndD P Try.f47.results _ = Q
  have hself : (∀ v : Int, qcmp .neq v v = false) ∧ (∀ v : ByteArray, qscmp .neq v v = false) ∧ (∀ v : Bool, qbnot (qbcmp v v) = false) ∧ qbnot true = false := by
    refine ⟨fun v => ?_, fun v => ?_, fun v => ?_, ?_⟩ <;> simp only [hE, std_neq, std_sneq, std_bcmp, std_not] <;> simp
  obtain ⟨hself1, hself2, hself3, hself4⟩ := hself
  cbv
  try simp only [nc] at *
  refine ClW.dd (f := 88) rfl rfl rfl rfl (.cons rfl (.cons rfl .nil)) rfl ent88_ (T88_) rfl ?_
  cbv
  try simp only [nc] at *
  rw [hself4]
  cbv
  try simp only [nc] at *
  refine ClW.dd (f := 37) rfl rfl rfl rfl (.cons rfl (.cons rfl .nil)) rfl ent37_ (T37_ ha_disk_nodes ha_disk_entries ha_disk_old ha_disk_steps (by omega)) rfl ?_
  cbv
  try simp only [nc] at *
  rw [hself4]
  cbv
  try simp only [nc] at *
  refine ClW.dd (f := 42) rfl rfl rfl rfl (.cons rfl (.cons rfl .nil)) rfl ent42_ (T42_ ha_writer_offsets (by omega)) rfl ?_
  cbv
  try simp only [nc] at *
  rw [hself4]
  cbv
  try simp only [nc] at *
  refine ClW.dd (f := 24) rfl rfl rfl rfl (.cons rfl (.cons rfl .nil)) rfl ent24_ (T24_ ha_told (by omega)) rfl ?_
  cbv
  try simp only [nc] at *
  rw [hself4]
  cbv
  try simp only [nc] at *
  rw [hself1]
  cbv
  try simp only [nc] at *
  rw [hself1]
  cbv
  try simp only [nc] at *
  rw [← hQ]
  exact endD_one rfl rfl
end Go.Proofs.Ytamdgfklbjoaiaa.Ab
