/- What functions of the program come to, for all arguments in the given bounds. -/
import Derived.Test.YtamdgfklbjoaiaaH
set_option linter.unusedVariables false
set_option linter.unusedSimpArgs false
namespace Go.Proofs.Ytamdgfklbjoaiaa.Ab
open Go Go.Proofs
set_option maxRecDepth 20000
noncomputable def c16 : Code := (Try.f16.body).getD .skip
theorem ent16 : Entered Try.prog 16 := ⟨_, Try.func16, rfl, rfl⟩
theorem T16R {a : List Int} {xs : List (List D)} (hx : a.map cI = xs) (hb : totIntS a ≤ 1048576) : CallOk Try.prog 16 [.d (.row 1 xs)] [] ⟨.ref 0 0 a.length, [.row 1 false xs], []⟩ := by
  have hb1 : (a.length : Int) ≤ 1048576 := hb
  refine CallOk.of_body (body := c16) Try.func16 rfl (Nat.le_of_ble_eq_true (by kernel_rfl)) rfl rfl ?_
  refine vc_ok tab_ok mixed ?_
  have hT := tab_ok
  have hm := mixed
  generalize hP : Try.prog = P at *
  generalize hA : std = A
  obtain ⟨qbin, qsh, qcmp, qscmp, qbcmp, qbnot, qneg, qwrap, qcat, qssize, qssub, qsget, qlen, qrsub, qapp, qelt, qset, qnth, qdrp, qstr, qint, qbool, qrow, qnat, qnadd, qnsub, qband, qofNat, qstrRow, qmkRow, qmx, qmn, qbytes, qemp⟩ := A
  have hE := Ar.eqs hA
  dsimp only at hE
  generalize hQ : EndQ P Try.f16.results [] _ = Q
  have hn := rd_n hx
  cbv
  try simp only [nc] at *
  refine ⟨?_, ?_⟩
  · simp only [hE, List.length_map, std_lss, std_leq, std_gtr, std_geq, std_eql, std_neq, std_len, std_add, std_subI, std_mulI, std_ssize, std_not, std_band, std_bcmp, std_nat, std_ofNat, std_nadd, std_nsub, std_emp, IntKind.wrap_i64, decide_eq_true_eq, decide_eq_false_iff_not, Bool.not_eq_true', Bool.not_eq_false', Option.getD_none, Option.getD_some, hn]; exact ⟨by omega, by omega, by omega, by omega⟩
  refine LpW.of (κ := Nat) (fun k => k ≤ a.length) (fun k => a.length - k) (fun k => [(0, .d (.row 1 xs)), (3, .ref 1 0 a.length), (4, .d (.sc (.int .i64 k)))]) (fun k => [.row 1 false [], .row 1 false (cpRow cI a [.sc (.int .i64 0)] k)]) 0 (by simp) ?_ ?_ ?_
  · refine .cons rfl (.cons ?_ (.cons rfl (.nil _)))
    show AV.ref 1 0 (qnat (qlen xs)) = _
    simp only [hE, std_len, std_nat, hn, Int.toNat_natCast]
  · show [Root.row 1 false [], Root.row 1 false (qmkRow (qlen xs) [.sc (.int .i64 0)])] = _
    simp only [hE, std_len, hn, cp_zero]
    rfl
  · intro k hk
    generalize hz : cpRow cI a [.sc (.int .i64 0)] k = zs
    generalize hi : (k : Int) = i
    generalize hm' : a.length = m
    refine vc_ok hT hm ?_
    rw [hA]
    cbv
    try simp only [nc] at *
    split
    · rename_i h2
      simp only [hE, List.length_map, std_lss, std_leq, std_gtr, std_geq, std_eql, std_neq, std_len, std_add, std_subI, std_mulI, std_ssize, std_not, std_band, std_bcmp, std_nat, std_ofNat, std_nadd, std_nsub, std_emp, IntKind.wrap_i64, decide_eq_true_eq, decide_eq_false_iff_not, Bool.not_eq_true', Bool.not_eq_false', Option.getD_none, Option.getD_some, hn] at h2
      have hk' : k < a.length := by omega
      cbv
      try simp only [nc] at *
      repeat (refine And.intro (by first | (simp only [hE]; exact rd_inR hx hi hk') | (simp only [hE, rd_elt hx hi hk']; exact ⟨rfl⟩) | (simp only [hE, rd_elt hx hi hk']; exact ⟨Nat.le_of_ble_eq_true rfl⟩)) ?_)
      refine ⟨?_, ?_, ?_, k + 1, by omega, by omega, ?_, ?_⟩
      · simp only [hE, List.length_map, std_lss, std_leq, std_gtr, std_geq, std_eql, std_neq, std_len, std_add, std_subI, std_mulI, std_ssize, std_not, std_band, std_bcmp, std_nat, std_ofNat, std_nadd, std_nsub, std_emp, IntKind.wrap_i64, decide_eq_true_eq, decide_eq_false_iff_not, Bool.not_eq_true', Bool.not_eq_false', Option.getD_none, Option.getD_some, ]; exact ⟨by omega, by omega⟩
      · simp only [hE]; exact cp_inR hk' hz hi
      · simp only [hE]; exact cp_lenGe hk' hz hi (Nat.le_refl _)
      · refine .cons rfl (.cons rfl (.cons ?_ (.nil _)))
        show AV.d (D.sc (Value.int IntKind.i64 (qbin .add .i64 i 1))) = _
        simp only [hE, i_next hi (by omega)]
      · have e : [D.sc (Value.int IntKind.i64 (qint (qnth (qelt xs i) 0)))] = cI a[k] := by simp only [hE, rd_elt hx hi hk']; rfl
        rw [e]
        simp only [hE]
        rw [cp_set hk' hz hi rfl]
    · rename_i h2
      simp only [hE, List.length_map, std_lss, std_leq, std_gtr, std_geq, std_eql, std_neq, std_len, std_add, std_subI, std_mulI, std_ssize, std_not, std_band, std_bcmp, std_nat, std_ofNat, std_nadd, std_nsub, std_emp, IntKind.wrap_i64, decide_eq_true_eq, decide_eq_false_iff_not, Bool.not_eq_true', Bool.not_eq_false', Option.getD_none, Option.getD_some, hn] at h2
      cbv
      try simp only [nc] at *
      have hk' : k = a.length := by omega
      subst hk'
      rw [← hQ, hm']
      rw [cp_end] at hz
      have hxz : zs = xs := by rw [← hz, hx]
      subst hxz
      exact endR_ref rfl rfl
theorem T16 {a : List Int} {xs : List (List D)} (hx : a.map cI = xs) (hb : totIntS a ≤ 1048576) : CallOk Try.prog 16 [.d (.row 1 xs)] [] ⟨.d (.row 1 xs), [], []⟩ := (T16R hx hb).rowD rfl (by rw [← hx, List.length_map])
noncomputable def c55 : Code := (Try.f55.body).getD .skip
theorem ent55 : Entered Try.prog 55 := ⟨_, Try.func55, rfl, rfl⟩
theorem T55 {a_kind : Int} {a_text : ByteArray} {a_n : Int} {a_keeps : List Int} {xa_keeps : List (List D)} (ha_keeps : a_keeps.map cI = xa_keeps) (hb : totAct ⟨a_kind, a_text, a_n, a_keeps⟩ ≤ 1048576) : CallOk Try.prog 55 [.agg [.d (.sc (.int .i64 a_kind)), .d (.sc (.string a_text)), .d (.sc (.int .i64 a_n)), .d (.row 1 xa_keeps)]] [] ⟨.agg [.d (.sc (.int .i64 a_kind)), .d (.sc (.string a_text)), .d (.sc (.int .i64 a_n)), .d (.row 1 xa_keeps)], [], []⟩ := by
  have ent16_ := ent16
  have T16_ := @T16
  have nna_keeps := totIntS_nn a_keeps
  have hb' : (a_text.size : Int) + totIntS a_keeps ≤ 1048576 := hb
  refine CallOk.of_bodyD (body := c55) Try.func55 rfl (Nat.le_of_ble_eq_true (by kernel_rfl)) rfl ?_
  refine vc_ok tab_ok mixed ?_
  have hT := tab_ok
  have hm := mixed
  generalize hP : Try.prog = P at *
  generalize hA : std = A
  obtain ⟨qbin, qsh, qcmp, qscmp, qbcmp, qbnot, qneg, qwrap, qcat, qssize, qssub, qsget, qlen, qrsub, qapp, qelt, qset, qnth, qdrp, qstr, qint, qbool, qrow, qnat, qnadd, qnsub, qband, qofNat, qstrRow, qmkRow, qmx, qmn, qbytes, qemp⟩ := A
  have hE := Ar.eqs hA
  dsimp only at hE
  generalize hQ : EndD P Try.f55.results _ = Q
  cbv
  try simp only [nc] at *
  refine ClW.dd (f := 16) rfl rfl rfl rfl (.cons rfl .nil) rfl ent16_ (T16_ ha_keeps (by omega)) rfl ?_
  cbv
  try simp only [nc] at *
  rw [← hQ]
  exact endD_cell hT (by rfl) (by rfl) (by rfl) (by rfl) rfl
noncomputable def c15 : Code := (Try.f15.body).getD .skip
theorem ent15 : Entered Try.prog 15 := ⟨_, Try.func15, rfl, rfl⟩
theorem T15R {a : List TAct} {xs : List (List D)} (hx : a.map eAct = xs) (hb : totActS a ≤ 1048576) : CallOk Try.prog 15 [.d (.row 4 xs)] [] ⟨.ref 0 0 a.length, [.row 4 false xs], []⟩ := by
  have ent55_ := ent55
  have T55_ := @T55
  have hb1 : (a.length : Int) + sumF (fun x => totAct x) a ≤ 1048576 := hb
  have hsn := sumF_nonneg (fun x => totAct x) a (fun x _ => totActS_el x)
  refine CallOk.of_body (body := c15) Try.func15 rfl (Nat.le_of_ble_eq_true (by kernel_rfl)) rfl rfl ?_
  refine vc_ok tab_ok mixed ?_
  have hT := tab_ok
  have hm := mixed
  generalize hP : Try.prog = P at *
  generalize hA : std = A
  obtain ⟨qbin, qsh, qcmp, qscmp, qbcmp, qbnot, qneg, qwrap, qcat, qssize, qssub, qsget, qlen, qrsub, qapp, qelt, qset, qnth, qdrp, qstr, qint, qbool, qrow, qnat, qnadd, qnsub, qband, qofNat, qstrRow, qmkRow, qmx, qmn, qbytes, qemp⟩ := A
  have hE := Ar.eqs hA
  dsimp only at hE
  generalize hQ : EndQ P Try.f15.results [] _ = Q
  have hn := rd_n hx
  cbv
  try simp only [nc] at *
  refine ⟨?_, ?_⟩
  · simp only [hE, List.length_map, std_lss, std_leq, std_gtr, std_geq, std_eql, std_neq, std_len, std_add, std_subI, std_mulI, std_ssize, std_not, std_band, std_bcmp, std_nat, std_ofNat, std_nadd, std_nsub, std_emp, IntKind.wrap_i64, decide_eq_true_eq, decide_eq_false_iff_not, Bool.not_eq_true', Bool.not_eq_false', Option.getD_none, Option.getD_some, hn]; exact ⟨by omega, by omega, by omega, by omega⟩
  refine LpW.of (κ := Nat) (fun k => k ≤ a.length) (fun k => a.length - k) (fun k => [(0, .d (.row 4 xs)), (3, .ref 1 0 a.length), (4, .d (.sc (.int .i64 k)))]) (fun k => [.row 4 false [], .row 4 false (cpRow eAct a [.sc (.int .i64 0), .sc (.string default), .sc (.int .i64 0), .row 1 []] k)]) 0 (by simp) ?_ ?_ ?_
  · refine .cons rfl (.cons ?_ (.cons rfl (.nil _)))
    show AV.ref 1 0 (qnat (qlen xs)) = _
    simp only [hE, std_len, std_nat, hn, Int.toNat_natCast]
  · show [Root.row 4 false [], Root.row 4 false (qmkRow (qlen xs) [.sc (.int .i64 0), .sc (.string default), .sc (.int .i64 0), .row 1 []])] = _
    simp only [hE, std_len, hn, cp_zero]
    rfl
  · intro k hk
    generalize hz : cpRow eAct a [.sc (.int .i64 0), .sc (.string default), .sc (.int .i64 0), .row 1 []] k = zs
    generalize hi : (k : Int) = i
    generalize hm' : a.length = m
    refine vc_ok hT hm ?_
    rw [hA]
    cbv
    try simp only [nc] at *
    split
    · rename_i h2
      simp only [hE, List.length_map, std_lss, std_leq, std_gtr, std_geq, std_eql, std_neq, std_len, std_add, std_subI, std_mulI, std_ssize, std_not, std_band, std_bcmp, std_nat, std_ofNat, std_nadd, std_nsub, std_emp, IntKind.wrap_i64, decide_eq_true_eq, decide_eq_false_iff_not, Bool.not_eq_true', Bool.not_eq_false', Option.getD_none, Option.getD_some, hn] at h2
      have hk' : k < a.length := by omega
      cbv
      try simp only [nc] at *
      repeat (refine And.intro (by first | (simp only [hE]; exact rd_inR hx hi hk') | (simp only [hE, rd_elt hx hi hk']; exact ⟨rfl⟩) | (simp only [hE, rd_elt hx hi hk']; exact ⟨Nat.le_of_ble_eq_true rfl⟩)) ?_)
      have hset := cp_set hk' hz hi (by rfl)
      have hmem := sumF_mem_le (fun x => totAct x) (fun x => totActS_el x) (List.getElem_mem hk')
      obtain ⟨wv, hwv⟩ : ∃ w, w = a[k] := ⟨_, rfl⟩
      have hev : qelt xs i = eAct wv := by simp only [hE]; rw [rd_elt hx hi hk', hwv]
      rw [← hwv] at hset hmem
      obtain ⟨v_kind, v_text, v_n, v_keeps⟩ := wv
      rw [show qint (qnth (qelt xs i) 0) = v_kind by rw [hev]; simp only [hE]; rfl, show qstr (qnth (qelt xs i) 1) = v_text by rw [hev]; simp only [hE]; rfl, show qint (qnth (qelt xs i) 2) = v_n by rw [hev]; simp only [hE]; rfl, show qrow (qnth (qelt xs i) 3) = v_keeps.map cI by rw [hev]; simp only [hE]; rfl]
      generalize hv_keeps : v_keeps.map cI = xv_keeps at *
      refine ClW.dd (f := 55) rfl rfl rfl rfl (.cons rfl .nil) rfl ent55_ (T55_ hv_keeps (by omega)) rfl ?_
      cbv
      try simp only [nc] at *
      refine ⟨?_, ?_, ?_, k + 1, by omega, by omega, ?_, ?_⟩
      · simp only [hE, List.length_map, std_lss, std_leq, std_gtr, std_geq, std_eql, std_neq, std_len, std_add, std_subI, std_mulI, std_ssize, std_not, std_band, std_bcmp, std_nat, std_ofNat, std_nadd, std_nsub, std_emp, IntKind.wrap_i64, decide_eq_true_eq, decide_eq_false_iff_not, Bool.not_eq_true', Bool.not_eq_false', Option.getD_none, Option.getD_some, ]; exact ⟨by omega, by omega⟩
      · simp only [hE]; exact cp_inR hk' hz hi
      · simp only [hE]; exact cp_lenGe hk' hz hi (Nat.le_refl _)
      · refine .cons rfl (.cons rfl (.cons ?_ (.nil _)))
        show AV.d (D.sc (Value.int IntKind.i64 (qbin .add .i64 i 1))) = _
        simp only [hE, i_next hi (by omega)]
      · have e : eAct (⟨v_kind, v_text, v_n, v_keeps⟩ : TAct) = [.sc (.int .i64 v_kind), .sc (.string v_text), .sc (.int .i64 v_n), .row 1 (v_keeps.map cI)] := rfl
        rw [hv_keeps] at e
        simp only [hE]
        rw [e] at hset
        rw [← hset]
        try rfl
    · rename_i h2
      simp only [hE, List.length_map, std_lss, std_leq, std_gtr, std_geq, std_eql, std_neq, std_len, std_add, std_subI, std_mulI, std_ssize, std_not, std_band, std_bcmp, std_nat, std_ofNat, std_nadd, std_nsub, std_emp, IntKind.wrap_i64, decide_eq_true_eq, decide_eq_false_iff_not, Bool.not_eq_true', Bool.not_eq_false', Option.getD_none, Option.getD_some, hn] at h2
      cbv
      try simp only [nc] at *
      have hk' : k = a.length := by omega
      subst hk'
      rw [← hQ, hm']
      rw [cp_end] at hz
      have hxz : zs = xs := by rw [← hz, hx]
      subst hxz
      exact endR_ref rfl rfl
theorem T15 {a : List TAct} {xs : List (List D)} (hx : a.map eAct = xs) (hb : totActS a ≤ 1048576) : CallOk Try.prog 15 [.d (.row 4 xs)] [] ⟨.d (.row 4 xs), [], []⟩ := (T15R hx hb).rowD rfl (by rw [← hx, List.length_map])
noncomputable def c61 : Code := (Try.f61.body).getD .skip
theorem ent61 : Entered Try.prog 61 := ⟨_, Try.func61, rfl, rfl⟩
theorem T61 {a_name : ByteArray} {a_code : Int} (hb : totFinding ⟨a_name, a_code⟩ ≤ 1048576) : CallOk Try.prog 61 [.agg [.d (.sc (.string a_name)), .d (.sc (.int .i64 a_code))]] [] ⟨.agg [.d (.sc (.string a_name)), .d (.sc (.int .i64 a_code))], [], []⟩ := by
  have hb' : (a_name.size : Int) ≤ 1048576 := hb
  refine CallOk.of_bodyD (body := c61) Try.func61 rfl (Nat.le_of_ble_eq_true (by kernel_rfl)) rfl ?_
  refine vc_ok tab_ok mixed ?_
  have hT := tab_ok
  have hm := mixed
  generalize hP : Try.prog = P at *
  generalize hA : std = A
  obtain ⟨qbin, qsh, qcmp, qscmp, qbcmp, qbnot, qneg, qwrap, qcat, qssize, qssub, qsget, qlen, qrsub, qapp, qelt, qset, qnth, qdrp, qstr, qint, qbool, qrow, qnat, qnadd, qnsub, qband, qofNat, qstrRow, qmkRow, qmx, qmn, qbytes, qemp⟩ := A
  have hE := Ar.eqs hA
  dsimp only at hE
  generalize hQ : EndD P Try.f61.results _ = Q
  cbv
  try simp only [nc] at *
  rw [← hQ]
  exact endD_cell hT (by rfl) (by rfl) (by rfl) (by rfl) rfl
noncomputable def c22 : Code := (Try.f22.body).getD .skip
theorem ent22 : Entered Try.prog 22 := ⟨_, Try.func22, rfl, rfl⟩
theorem T22R {a : List TFinding} {xs : List (List D)} (hx : a.map eFinding = xs) (hb : totFindingS a ≤ 1048576) : CallOk Try.prog 22 [.d (.row 2 xs)] [] ⟨.ref 0 0 a.length, [.row 2 false xs], []⟩ := by
  have ent61_ := ent61
  have T61_ := @T61
  have hb1 : (a.length : Int) + sumF (fun x => totFinding x) a ≤ 1048576 := hb
  have hsn := sumF_nonneg (fun x => totFinding x) a (fun x _ => totFindingS_el x)
  refine CallOk.of_body (body := c22) Try.func22 rfl (Nat.le_of_ble_eq_true (by kernel_rfl)) rfl rfl ?_
  refine vc_ok tab_ok mixed ?_
  have hT := tab_ok
  have hm := mixed
  generalize hP : Try.prog = P at *
  generalize hA : std = A
  obtain ⟨qbin, qsh, qcmp, qscmp, qbcmp, qbnot, qneg, qwrap, qcat, qssize, qssub, qsget, qlen, qrsub, qapp, qelt, qset, qnth, qdrp, qstr, qint, qbool, qrow, qnat, qnadd, qnsub, qband, qofNat, qstrRow, qmkRow, qmx, qmn, qbytes, qemp⟩ := A
  have hE := Ar.eqs hA
  dsimp only at hE
  generalize hQ : EndQ P Try.f22.results [] _ = Q
  have hn := rd_n hx
  cbv
  try simp only [nc] at *
  refine ⟨?_, ?_⟩
  · simp only [hE, List.length_map, std_lss, std_leq, std_gtr, std_geq, std_eql, std_neq, std_len, std_add, std_subI, std_mulI, std_ssize, std_not, std_band, std_bcmp, std_nat, std_ofNat, std_nadd, std_nsub, std_emp, IntKind.wrap_i64, decide_eq_true_eq, decide_eq_false_iff_not, Bool.not_eq_true', Bool.not_eq_false', Option.getD_none, Option.getD_some, hn]; exact ⟨by omega, by omega, by omega, by omega⟩
  refine LpW.of (κ := Nat) (fun k => k ≤ a.length) (fun k => a.length - k) (fun k => [(0, .d (.row 2 xs)), (3, .ref 1 0 a.length), (4, .d (.sc (.int .i64 k)))]) (fun k => [.row 2 false [], .row 2 false (cpRow eFinding a [.sc (.string default), .sc (.int .i64 0)] k)]) 0 (by simp) ?_ ?_ ?_
  · refine .cons rfl (.cons ?_ (.cons rfl (.nil _)))
    show AV.ref 1 0 (qnat (qlen xs)) = _
    simp only [hE, std_len, std_nat, hn, Int.toNat_natCast]
  · show [Root.row 2 false [], Root.row 2 false (qmkRow (qlen xs) [.sc (.string default), .sc (.int .i64 0)])] = _
    simp only [hE, std_len, hn, cp_zero]
    rfl
  · intro k hk
    generalize hz : cpRow eFinding a [.sc (.string default), .sc (.int .i64 0)] k = zs
    generalize hi : (k : Int) = i
    generalize hm' : a.length = m
    refine vc_ok hT hm ?_
    rw [hA]
    cbv
    try simp only [nc] at *
    split
    · rename_i h2
      simp only [hE, List.length_map, std_lss, std_leq, std_gtr, std_geq, std_eql, std_neq, std_len, std_add, std_subI, std_mulI, std_ssize, std_not, std_band, std_bcmp, std_nat, std_ofNat, std_nadd, std_nsub, std_emp, IntKind.wrap_i64, decide_eq_true_eq, decide_eq_false_iff_not, Bool.not_eq_true', Bool.not_eq_false', Option.getD_none, Option.getD_some, hn] at h2
      have hk' : k < a.length := by omega
      cbv
      try simp only [nc] at *
      repeat (refine And.intro (by first | (simp only [hE]; exact rd_inR hx hi hk') | (simp only [hE, rd_elt hx hi hk']; exact ⟨rfl⟩) | (simp only [hE, rd_elt hx hi hk']; exact ⟨Nat.le_of_ble_eq_true rfl⟩)) ?_)
      have hset := cp_set hk' hz hi (by rfl)
      have hmem := sumF_mem_le (fun x => totFinding x) (fun x => totFindingS_el x) (List.getElem_mem hk')
      obtain ⟨wv, hwv⟩ : ∃ w, w = a[k] := ⟨_, rfl⟩
      have hev : qelt xs i = eFinding wv := by simp only [hE]; rw [rd_elt hx hi hk', hwv]
      rw [← hwv] at hset hmem
      obtain ⟨v_name, v_code⟩ := wv
      rw [show qstr (qnth (qelt xs i) 0) = v_name by rw [hev]; simp only [hE]; rfl, show qint (qnth (qelt xs i) 1) = v_code by rw [hev]; simp only [hE]; rfl]
      refine ClW.dd (f := 61) rfl rfl rfl rfl (.cons rfl .nil) rfl ent61_ (T61_ (by omega)) rfl ?_
      cbv
      try simp only [nc] at *
      refine ⟨?_, ?_, ?_, k + 1, by omega, by omega, ?_, ?_⟩
      · simp only [hE, List.length_map, std_lss, std_leq, std_gtr, std_geq, std_eql, std_neq, std_len, std_add, std_subI, std_mulI, std_ssize, std_not, std_band, std_bcmp, std_nat, std_ofNat, std_nadd, std_nsub, std_emp, IntKind.wrap_i64, decide_eq_true_eq, decide_eq_false_iff_not, Bool.not_eq_true', Bool.not_eq_false', Option.getD_none, Option.getD_some, ]; exact ⟨by omega, by omega⟩
      · simp only [hE]; exact cp_inR hk' hz hi
      · simp only [hE]; exact cp_lenGe hk' hz hi (Nat.le_refl _)
      · refine .cons rfl (.cons rfl (.cons ?_ (.nil _)))
        show AV.d (D.sc (Value.int IntKind.i64 (qbin .add .i64 i 1))) = _
        simp only [hE, i_next hi (by omega)]
      · have e : eFinding (⟨v_name, v_code⟩ : TFinding) = [.sc (.string v_name), .sc (.int .i64 v_code)] := rfl
        simp only [hE]
        rw [e] at hset
        rw [← hset]
        try rfl
    · rename_i h2
      simp only [hE, List.length_map, std_lss, std_leq, std_gtr, std_geq, std_eql, std_neq, std_len, std_add, std_subI, std_mulI, std_ssize, std_not, std_band, std_bcmp, std_nat, std_ofNat, std_nadd, std_nsub, std_emp, IntKind.wrap_i64, decide_eq_true_eq, decide_eq_false_iff_not, Bool.not_eq_true', Bool.not_eq_false', Option.getD_none, Option.getD_some, hn] at h2
      cbv
      try simp only [nc] at *
      have hk' : k = a.length := by omega
      subst hk'
      rw [← hQ, hm']
      rw [cp_end] at hz
      have hxz : zs = xs := by rw [← hz, hx]
      subst hxz
      exact endR_ref rfl rfl
theorem T22 {a : List TFinding} {xs : List (List D)} (hx : a.map eFinding = xs) (hb : totFindingS a ≤ 1048576) : CallOk Try.prog 22 [.d (.row 2 xs)] [] ⟨.d (.row 2 xs), [], []⟩ := (T22R hx hb).rowD rfl (by rw [← hx, List.length_map])
noncomputable def c71 : Code := (Try.f71.body).getD .skip
theorem ent71 : Entered Try.prog 71 := ⟨_, Try.func71, rfl, rfl⟩
theorem T71R {a : List ByteArray} {xs : List (List D)} (hx : a.map cS = xs) (hb : totStringS a ≤ 1048576) : CallOk Try.prog 71 [.d (.row 1 xs)] [] ⟨.ref 0 0 a.length, [.row 1 false xs], []⟩ := by
  have hb1 : (a.length : Int) + sumF (fun x => (x.size : Int)) a ≤ 1048576 := hb
  have hsn := sumF_nonneg (fun x => (x.size : Int)) a (fun x _ => totStringS_el x)
  refine CallOk.of_body (body := c71) Try.func71 rfl (Nat.le_of_ble_eq_true (by kernel_rfl)) rfl rfl ?_
  refine vc_ok tab_ok mixed ?_
  have hT := tab_ok
  have hm := mixed
  generalize hP : Try.prog = P at *
  generalize hA : std = A
  obtain ⟨qbin, qsh, qcmp, qscmp, qbcmp, qbnot, qneg, qwrap, qcat, qssize, qssub, qsget, qlen, qrsub, qapp, qelt, qset, qnth, qdrp, qstr, qint, qbool, qrow, qnat, qnadd, qnsub, qband, qofNat, qstrRow, qmkRow, qmx, qmn, qbytes, qemp⟩ := A
  have hE := Ar.eqs hA
  dsimp only at hE
  generalize hQ : EndQ P Try.f71.results [] _ = Q
  have hn := rd_n hx
  cbv
  try simp only [nc] at *
  refine ⟨?_, ?_⟩
  · simp only [hE, List.length_map, std_lss, std_leq, std_gtr, std_geq, std_eql, std_neq, std_len, std_add, std_subI, std_mulI, std_ssize, std_not, std_band, std_bcmp, std_nat, std_ofNat, std_nadd, std_nsub, std_emp, IntKind.wrap_i64, decide_eq_true_eq, decide_eq_false_iff_not, Bool.not_eq_true', Bool.not_eq_false', Option.getD_none, Option.getD_some, hn]; exact ⟨by omega, by omega, by omega, by omega⟩
  refine LpW.of (κ := Nat) (fun k => k ≤ a.length) (fun k => a.length - k) (fun k => [(0, .d (.row 1 xs)), (3, .ref 1 0 a.length), (4, .d (.sc (.int .i64 k)))]) (fun k => [.row 1 false [], .row 1 false (cpRow cS a [.sc (.string default)] k)]) 0 (by simp) ?_ ?_ ?_
  · refine .cons rfl (.cons ?_ (.cons rfl (.nil _)))
    show AV.ref 1 0 (qnat (qlen xs)) = _
    simp only [hE, std_len, std_nat, hn, Int.toNat_natCast]
  · show [Root.row 1 false [], Root.row 1 false (qmkRow (qlen xs) [.sc (.string default)])] = _
    simp only [hE, std_len, hn, cp_zero]
    rfl
  · intro k hk
    generalize hz : cpRow cS a [.sc (.string default)] k = zs
    generalize hi : (k : Int) = i
    generalize hm' : a.length = m
    refine vc_ok hT hm ?_
    rw [hA]
    cbv
    try simp only [nc] at *
    split
    · rename_i h2
      simp only [hE, List.length_map, std_lss, std_leq, std_gtr, std_geq, std_eql, std_neq, std_len, std_add, std_subI, std_mulI, std_ssize, std_not, std_band, std_bcmp, std_nat, std_ofNat, std_nadd, std_nsub, std_emp, IntKind.wrap_i64, decide_eq_true_eq, decide_eq_false_iff_not, Bool.not_eq_true', Bool.not_eq_false', Option.getD_none, Option.getD_some, hn] at h2
      have hk' : k < a.length := by omega
      cbv
      try simp only [nc] at *
      repeat (refine And.intro (by first | (simp only [hE]; exact rd_inR hx hi hk') | (simp only [hE, rd_elt hx hi hk']; exact ⟨rfl⟩) | (simp only [hE, rd_elt hx hi hk']; exact ⟨Nat.le_of_ble_eq_true rfl⟩)) ?_)
      refine ⟨?_, ?_, ?_, k + 1, by omega, by omega, ?_, ?_⟩
      · simp only [hE, List.length_map, std_lss, std_leq, std_gtr, std_geq, std_eql, std_neq, std_len, std_add, std_subI, std_mulI, std_ssize, std_not, std_band, std_bcmp, std_nat, std_ofNat, std_nadd, std_nsub, std_emp, IntKind.wrap_i64, decide_eq_true_eq, decide_eq_false_iff_not, Bool.not_eq_true', Bool.not_eq_false', Option.getD_none, Option.getD_some, ]; exact ⟨by omega, by omega⟩
      · simp only [hE]; exact cp_inR hk' hz hi
      · simp only [hE]; exact cp_lenGe hk' hz hi (Nat.le_refl _)
      · refine .cons rfl (.cons rfl (.cons ?_ (.nil _)))
        show AV.d (D.sc (Value.int IntKind.i64 (qbin .add .i64 i 1))) = _
        simp only [hE, i_next hi (by omega)]
      · have e : [D.sc (Value.string (qstr (qnth (qelt xs i) 0)))] = cS a[k] := by simp only [hE, rd_elt hx hi hk']; rfl
        rw [e]
        simp only [hE]
        rw [cp_set hk' hz hi rfl]
    · rename_i h2
      simp only [hE, List.length_map, std_lss, std_leq, std_gtr, std_geq, std_eql, std_neq, std_len, std_add, std_subI, std_mulI, std_ssize, std_not, std_band, std_bcmp, std_nat, std_ofNat, std_nadd, std_nsub, std_emp, IntKind.wrap_i64, decide_eq_true_eq, decide_eq_false_iff_not, Bool.not_eq_true', Bool.not_eq_false', Option.getD_none, Option.getD_some, hn] at h2
      cbv
      try simp only [nc] at *
      have hk' : k = a.length := by omega
      subst hk'
      rw [← hQ, hm']
      rw [cp_end] at hz
      have hxz : zs = xs := by rw [← hz, hx]
      subst hxz
      exact endR_ref rfl rfl
theorem T71 {a : List ByteArray} {xs : List (List D)} (hx : a.map cS = xs) (hb : totStringS a ≤ 1048576) : CallOk Try.prog 71 [.d (.row 1 xs)] [] ⟨.d (.row 1 xs), [], []⟩ := (T71R hx hb).rowD rfl (by rw [← hx, List.length_map])
noncomputable def c98 : Code := (Try.f98.body).getD .skip
theorem ent98 : Entered Try.prog 98 := ⟨_, Try.func98, rfl, rfl⟩
theorem T98 {a_id : Int} {a_text : ByteArray} {a_sure : Int} (hb : totNode ⟨a_id, a_text, a_sure⟩ ≤ 1048576) : CallOk Try.prog 98 [.agg [.d (.sc (.int .i64 a_id)), .d (.sc (.string a_text)), .d (.sc (.int .i64 a_sure))]] [] ⟨.agg [.d (.sc (.int .i64 a_id)), .d (.sc (.string a_text)), .d (.sc (.int .i64 a_sure))], [], []⟩ := by
  have hb' : (a_text.size : Int) ≤ 1048576 := hb
  refine CallOk.of_bodyD (body := c98) Try.func98 rfl (Nat.le_of_ble_eq_true (by kernel_rfl)) rfl ?_
  refine vc_ok tab_ok mixed ?_
  have hT := tab_ok
  have hm := mixed
  generalize hP : Try.prog = P at *
  generalize hA : std = A
  obtain ⟨qbin, qsh, qcmp, qscmp, qbcmp, qbnot, qneg, qwrap, qcat, qssize, qssub, qsget, qlen, qrsub, qapp, qelt, qset, qnth, qdrp, qstr, qint, qbool, qrow, qnat, qnadd, qnsub, qband, qofNat, qstrRow, qmkRow, qmx, qmn, qbytes, qemp⟩ := A
  have hE := Ar.eqs hA
  dsimp only at hE
  generalize hQ : EndD P Try.f98.results _ = Q
  cbv
  try simp only [nc] at *
  rw [← hQ]
  exact endD_cell hT (by rfl) (by rfl) (by rfl) (by rfl) rfl
noncomputable def c69 : Code := (Try.f69.body).getD .skip
theorem ent69 : Entered Try.prog 69 := ⟨_, Try.func69, rfl, rfl⟩
theorem T69R {a : List TNode} {xs : List (List D)} (hx : a.map eNode = xs) (hb : totNodeS a ≤ 1048576) : CallOk Try.prog 69 [.d (.row 3 xs)] [] ⟨.ref 0 0 a.length, [.row 3 false xs], []⟩ := by
  have ent98_ := ent98
  have T98_ := @T98
  have hb1 : (a.length : Int) + sumF (fun x => totNode x) a ≤ 1048576 := hb
  have hsn := sumF_nonneg (fun x => totNode x) a (fun x _ => totNodeS_el x)
  refine CallOk.of_body (body := c69) Try.func69 rfl (Nat.le_of_ble_eq_true (by kernel_rfl)) rfl rfl ?_
  refine vc_ok tab_ok mixed ?_
  have hT := tab_ok
  have hm := mixed
  generalize hP : Try.prog = P at *
  generalize hA : std = A
  obtain ⟨qbin, qsh, qcmp, qscmp, qbcmp, qbnot, qneg, qwrap, qcat, qssize, qssub, qsget, qlen, qrsub, qapp, qelt, qset, qnth, qdrp, qstr, qint, qbool, qrow, qnat, qnadd, qnsub, qband, qofNat, qstrRow, qmkRow, qmx, qmn, qbytes, qemp⟩ := A
  have hE := Ar.eqs hA
  dsimp only at hE
  generalize hQ : EndQ P Try.f69.results [] _ = Q
  have hn := rd_n hx
  cbv
  try simp only [nc] at *
  refine ⟨?_, ?_⟩
  · simp only [hE, List.length_map, std_lss, std_leq, std_gtr, std_geq, std_eql, std_neq, std_len, std_add, std_subI, std_mulI, std_ssize, std_not, std_band, std_bcmp, std_nat, std_ofNat, std_nadd, std_nsub, std_emp, IntKind.wrap_i64, decide_eq_true_eq, decide_eq_false_iff_not, Bool.not_eq_true', Bool.not_eq_false', Option.getD_none, Option.getD_some, hn]; exact ⟨by omega, by omega, by omega, by omega⟩
  refine LpW.of (κ := Nat) (fun k => k ≤ a.length) (fun k => a.length - k) (fun k => [(0, .d (.row 3 xs)), (3, .ref 1 0 a.length), (4, .d (.sc (.int .i64 k)))]) (fun k => [.row 3 false [], .row 3 false (cpRow eNode a [.sc (.int .i64 0), .sc (.string default), .sc (.int .i64 0)] k)]) 0 (by simp) ?_ ?_ ?_
  · refine .cons rfl (.cons ?_ (.cons rfl (.nil _)))
    show AV.ref 1 0 (qnat (qlen xs)) = _
    simp only [hE, std_len, std_nat, hn, Int.toNat_natCast]
  · show [Root.row 3 false [], Root.row 3 false (qmkRow (qlen xs) [.sc (.int .i64 0), .sc (.string default), .sc (.int .i64 0)])] = _
    simp only [hE, std_len, hn, cp_zero]
    rfl
  · intro k hk
    generalize hz : cpRow eNode a [.sc (.int .i64 0), .sc (.string default), .sc (.int .i64 0)] k = zs
    generalize hi : (k : Int) = i
    generalize hm' : a.length = m
    refine vc_ok hT hm ?_
    rw [hA]
    cbv
    try simp only [nc] at *
    split
    · rename_i h2
      simp only [hE, List.length_map, std_lss, std_leq, std_gtr, std_geq, std_eql, std_neq, std_len, std_add, std_subI, std_mulI, std_ssize, std_not, std_band, std_bcmp, std_nat, std_ofNat, std_nadd, std_nsub, std_emp, IntKind.wrap_i64, decide_eq_true_eq, decide_eq_false_iff_not, Bool.not_eq_true', Bool.not_eq_false', Option.getD_none, Option.getD_some, hn] at h2
      have hk' : k < a.length := by omega
      cbv
      try simp only [nc] at *
      repeat (refine And.intro (by first | (simp only [hE]; exact rd_inR hx hi hk') | (simp only [hE, rd_elt hx hi hk']; exact ⟨rfl⟩) | (simp only [hE, rd_elt hx hi hk']; exact ⟨Nat.le_of_ble_eq_true rfl⟩)) ?_)
      have hset := cp_set hk' hz hi (by rfl)
      have hmem := sumF_mem_le (fun x => totNode x) (fun x => totNodeS_el x) (List.getElem_mem hk')
      obtain ⟨wv, hwv⟩ : ∃ w, w = a[k] := ⟨_, rfl⟩
      have hev : qelt xs i = eNode wv := by simp only [hE]; rw [rd_elt hx hi hk', hwv]
      rw [← hwv] at hset hmem
      obtain ⟨v_id, v_text, v_sure⟩ := wv
      rw [show qint (qnth (qelt xs i) 0) = v_id by rw [hev]; simp only [hE]; rfl, show qstr (qnth (qelt xs i) 1) = v_text by rw [hev]; simp only [hE]; rfl, show qint (qnth (qelt xs i) 2) = v_sure by rw [hev]; simp only [hE]; rfl]
      refine ClW.dd (f := 98) rfl rfl rfl rfl (.cons rfl .nil) rfl ent98_ (T98_ (by omega)) rfl ?_
      cbv
      try simp only [nc] at *
      refine ⟨?_, ?_, ?_, k + 1, by omega, by omega, ?_, ?_⟩
      · simp only [hE, List.length_map, std_lss, std_leq, std_gtr, std_geq, std_eql, std_neq, std_len, std_add, std_subI, std_mulI, std_ssize, std_not, std_band, std_bcmp, std_nat, std_ofNat, std_nadd, std_nsub, std_emp, IntKind.wrap_i64, decide_eq_true_eq, decide_eq_false_iff_not, Bool.not_eq_true', Bool.not_eq_false', Option.getD_none, Option.getD_some, ]; exact ⟨by omega, by omega⟩
      · simp only [hE]; exact cp_inR hk' hz hi
      · simp only [hE]; exact cp_lenGe hk' hz hi (Nat.le_refl _)
      · refine .cons rfl (.cons rfl (.cons ?_ (.nil _)))
        show AV.d (D.sc (Value.int IntKind.i64 (qbin .add .i64 i 1))) = _
        simp only [hE, i_next hi (by omega)]
      · have e : eNode (⟨v_id, v_text, v_sure⟩ : TNode) = [.sc (.int .i64 v_id), .sc (.string v_text), .sc (.int .i64 v_sure)] := rfl
        simp only [hE]
        rw [e] at hset
        rw [← hset]
        try rfl
    · rename_i h2
      simp only [hE, List.length_map, std_lss, std_leq, std_gtr, std_geq, std_eql, std_neq, std_len, std_add, std_subI, std_mulI, std_ssize, std_not, std_band, std_bcmp, std_nat, std_ofNat, std_nadd, std_nsub, std_emp, IntKind.wrap_i64, decide_eq_true_eq, decide_eq_false_iff_not, Bool.not_eq_true', Bool.not_eq_false', Option.getD_none, Option.getD_some, hn] at h2
      cbv
      try simp only [nc] at *
      have hk' : k = a.length := by omega
      subst hk'
      rw [← hQ, hm']
      rw [cp_end] at hz
      have hxz : zs = xs := by rw [← hz, hx]
      subst hxz
      exact endR_ref rfl rfl
theorem T69 {a : List TNode} {xs : List (List D)} (hx : a.map eNode = xs) (hb : totNodeS a ≤ 1048576) : CallOk Try.prog 69 [.d (.row 3 xs)] [] ⟨.d (.row 3 xs), [], []⟩ := (T69R hx hb).rowD rfl (by rw [← hx, List.length_map])
noncomputable def c99 : Code := (Try.f99.body).getD .skip
theorem ent99 : Entered Try.prog 99 := ⟨_, Try.func99, rfl, rfl⟩
theorem T99 {a_name : ByteArray} {a_id : Int} (hb : totEntry ⟨a_name, a_id⟩ ≤ 1048576) : CallOk Try.prog 99 [.agg [.d (.sc (.string a_name)), .d (.sc (.int .i64 a_id))]] [] ⟨.agg [.d (.sc (.string a_name)), .d (.sc (.int .i64 a_id))], [], []⟩ := by
  have hb' : (a_name.size : Int) ≤ 1048576 := hb
  refine CallOk.of_bodyD (body := c99) Try.func99 rfl (Nat.le_of_ble_eq_true (by kernel_rfl)) rfl ?_
  refine vc_ok tab_ok mixed ?_
  have hT := tab_ok
  have hm := mixed
  generalize hP : Try.prog = P at *
  generalize hA : std = A
  obtain ⟨qbin, qsh, qcmp, qscmp, qbcmp, qbnot, qneg, qwrap, qcat, qssize, qssub, qsget, qlen, qrsub, qapp, qelt, qset, qnth, qdrp, qstr, qint, qbool, qrow, qnat, qnadd, qnsub, qband, qofNat, qstrRow, qmkRow, qmx, qmn, qbytes, qemp⟩ := A
  have hE := Ar.eqs hA
  dsimp only at hE
  generalize hQ : EndD P Try.f99.results _ = Q
  cbv
  try simp only [nc] at *
  rw [← hQ]
  exact endD_cell hT (by rfl) (by rfl) (by rfl) (by rfl) rfl
noncomputable def c70 : Code := (Try.f70.body).getD .skip
theorem ent70 : Entered Try.prog 70 := ⟨_, Try.func70, rfl, rfl⟩
theorem T70R {a : List TEntry} {xs : List (List D)} (hx : a.map eEntry = xs) (hb : totEntryS a ≤ 1048576) : CallOk Try.prog 70 [.d (.row 2 xs)] [] ⟨.ref 0 0 a.length, [.row 2 false xs], []⟩ := by
  have ent99_ := ent99
  have T99_ := @T99
  have hb1 : (a.length : Int) + sumF (fun x => totEntry x) a ≤ 1048576 := hb
  have hsn := sumF_nonneg (fun x => totEntry x) a (fun x _ => totEntryS_el x)
  refine CallOk.of_body (body := c70) Try.func70 rfl (Nat.le_of_ble_eq_true (by kernel_rfl)) rfl rfl ?_
  refine vc_ok tab_ok mixed ?_
  have hT := tab_ok
  have hm := mixed
  generalize hP : Try.prog = P at *
  generalize hA : std = A
  obtain ⟨qbin, qsh, qcmp, qscmp, qbcmp, qbnot, qneg, qwrap, qcat, qssize, qssub, qsget, qlen, qrsub, qapp, qelt, qset, qnth, qdrp, qstr, qint, qbool, qrow, qnat, qnadd, qnsub, qband, qofNat, qstrRow, qmkRow, qmx, qmn, qbytes, qemp⟩ := A
  have hE := Ar.eqs hA
  dsimp only at hE
  generalize hQ : EndQ P Try.f70.results [] _ = Q
  have hn := rd_n hx
  cbv
  try simp only [nc] at *
  refine ⟨?_, ?_⟩
  · simp only [hE, List.length_map, std_lss, std_leq, std_gtr, std_geq, std_eql, std_neq, std_len, std_add, std_subI, std_mulI, std_ssize, std_not, std_band, std_bcmp, std_nat, std_ofNat, std_nadd, std_nsub, std_emp, IntKind.wrap_i64, decide_eq_true_eq, decide_eq_false_iff_not, Bool.not_eq_true', Bool.not_eq_false', Option.getD_none, Option.getD_some, hn]; exact ⟨by omega, by omega, by omega, by omega⟩
  refine LpW.of (κ := Nat) (fun k => k ≤ a.length) (fun k => a.length - k) (fun k => [(0, .d (.row 2 xs)), (3, .ref 1 0 a.length), (4, .d (.sc (.int .i64 k)))]) (fun k => [.row 2 false [], .row 2 false (cpRow eEntry a [.sc (.string default), .sc (.int .i64 0)] k)]) 0 (by simp) ?_ ?_ ?_
  · refine .cons rfl (.cons ?_ (.cons rfl (.nil _)))
    show AV.ref 1 0 (qnat (qlen xs)) = _
    simp only [hE, std_len, std_nat, hn, Int.toNat_natCast]
  · show [Root.row 2 false [], Root.row 2 false (qmkRow (qlen xs) [.sc (.string default), .sc (.int .i64 0)])] = _
    simp only [hE, std_len, hn, cp_zero]
    rfl
  · intro k hk
    generalize hz : cpRow eEntry a [.sc (.string default), .sc (.int .i64 0)] k = zs
    generalize hi : (k : Int) = i
    generalize hm' : a.length = m
    refine vc_ok hT hm ?_
    rw [hA]
    cbv
    try simp only [nc] at *
    split
    · rename_i h2
      simp only [hE, List.length_map, std_lss, std_leq, std_gtr, std_geq, std_eql, std_neq, std_len, std_add, std_subI, std_mulI, std_ssize, std_not, std_band, std_bcmp, std_nat, std_ofNat, std_nadd, std_nsub, std_emp, IntKind.wrap_i64, decide_eq_true_eq, decide_eq_false_iff_not, Bool.not_eq_true', Bool.not_eq_false', Option.getD_none, Option.getD_some, hn] at h2
      have hk' : k < a.length := by omega
      cbv
      try simp only [nc] at *
      repeat (refine And.intro (by first | (simp only [hE]; exact rd_inR hx hi hk') | (simp only [hE, rd_elt hx hi hk']; exact ⟨rfl⟩) | (simp only [hE, rd_elt hx hi hk']; exact ⟨Nat.le_of_ble_eq_true rfl⟩)) ?_)
      have hset := cp_set hk' hz hi (by rfl)
      have hmem := sumF_mem_le (fun x => totEntry x) (fun x => totEntryS_el x) (List.getElem_mem hk')
      obtain ⟨wv, hwv⟩ : ∃ w, w = a[k] := ⟨_, rfl⟩
      have hev : qelt xs i = eEntry wv := by simp only [hE]; rw [rd_elt hx hi hk', hwv]
      rw [← hwv] at hset hmem
      obtain ⟨v_name, v_id⟩ := wv
      rw [show qstr (qnth (qelt xs i) 0) = v_name by rw [hev]; simp only [hE]; rfl, show qint (qnth (qelt xs i) 1) = v_id by rw [hev]; simp only [hE]; rfl]
      refine ClW.dd (f := 99) rfl rfl rfl rfl (.cons rfl .nil) rfl ent99_ (T99_ (by omega)) rfl ?_
      cbv
      try simp only [nc] at *
      refine ⟨?_, ?_, ?_, k + 1, by omega, by omega, ?_, ?_⟩
      · simp only [hE, List.length_map, std_lss, std_leq, std_gtr, std_geq, std_eql, std_neq, std_len, std_add, std_subI, std_mulI, std_ssize, std_not, std_band, std_bcmp, std_nat, std_ofNat, std_nadd, std_nsub, std_emp, IntKind.wrap_i64, decide_eq_true_eq, decide_eq_false_iff_not, Bool.not_eq_true', Bool.not_eq_false', Option.getD_none, Option.getD_some, ]; exact ⟨by omega, by omega⟩
      · simp only [hE]; exact cp_inR hk' hz hi
      · simp only [hE]; exact cp_lenGe hk' hz hi (Nat.le_refl _)
      · refine .cons rfl (.cons rfl (.cons ?_ (.nil _)))
        show AV.d (D.sc (Value.int IntKind.i64 (qbin .add .i64 i 1))) = _
        simp only [hE, i_next hi (by omega)]
      · have e : eEntry (⟨v_name, v_id⟩ : TEntry) = [.sc (.string v_name), .sc (.int .i64 v_id)] := rfl
        simp only [hE]
        rw [e] at hset
        rw [← hset]
        try rfl
    · rename_i h2
      simp only [hE, List.length_map, std_lss, std_leq, std_gtr, std_geq, std_eql, std_neq, std_len, std_add, std_subI, std_mulI, std_ssize, std_not, std_band, std_bcmp, std_nat, std_ofNat, std_nadd, std_nsub, std_emp, IntKind.wrap_i64, decide_eq_true_eq, decide_eq_false_iff_not, Bool.not_eq_true', Bool.not_eq_false', Option.getD_none, Option.getD_some, hn] at h2
      cbv
      try simp only [nc] at *
      have hk' : k = a.length := by omega
      subst hk'
      rw [← hQ, hm']
      rw [cp_end] at hz
      have hxz : zs = xs := by rw [← hz, hx]
      subst hxz
      exact endR_ref rfl rfl
theorem T70 {a : List TEntry} {xs : List (List D)} (hx : a.map eEntry = xs) (hb : totEntryS a ≤ 1048576) : CallOk Try.prog 70 [.d (.row 2 xs)] [] ⟨.d (.row 2 xs), [], []⟩ := (T70R hx hb).rowD rfl (by rw [← hx, List.length_map])
noncomputable def c35 : Code := (Try.f35.body).getD .skip
theorem ent35 : Entered Try.prog 35 := ⟨_, Try.func35, rfl, rfl⟩
theorem T35 {a_nodes : List TNode} {xa_nodes : List (List D)} (ha_nodes : a_nodes.map eNode = xa_nodes) {a_entries : List TEntry} {xa_entries : List (List D)} (ha_entries : a_entries.map eEntry = xa_entries) {a_old : List TEntry} {xa_old : List (List D)} (ha_old : a_old.map eEntry = xa_old) {a_steps : List ByteArray} {xa_steps : List (List D)} (ha_steps : a_steps.map cS = xa_steps) {a_room : Int} {a_next : Int} (hb : totDisk ⟨a_nodes, a_entries, a_old, a_steps, a_room, a_next⟩ ≤ 1048576) : CallOk Try.prog 35 [.agg [.d (.row 3 xa_nodes), .d (.row 2 xa_entries), .d (.row 2 xa_old), .d (.row 1 xa_steps), .d (.sc (.int .i64 a_room)), .d (.sc (.int .i64 a_next))]] [] ⟨.agg [.d (.row 3 xa_nodes), .d (.row 2 xa_entries), .d (.row 2 xa_old), .d (.row 1 xa_steps), .d (.sc (.int .i64 a_room)), .d (.sc (.int .i64 a_next))], [], []⟩ := by
  have ent69_ := ent69
  have T69_ := @T69
  have ent70_ := ent70
  have T70_ := @T70
  have ent71_ := ent71
  have T71_ := @T71
  have nna_nodes := totNodeS_nn a_nodes
  have nna_entries := totEntryS_nn a_entries
  have nna_old := totEntryS_nn a_old
  have nna_steps := totStringS_nn a_steps
  have hb' : totNodeS a_nodes + totEntryS a_entries + totEntryS a_old + totStringS a_steps ≤ 1048576 := hb
  refine CallOk.of_bodyD (body := c35) Try.func35 rfl (Nat.le_of_ble_eq_true (by kernel_rfl)) rfl ?_
  refine vc_ok tab_ok mixed ?_
  have hT := tab_ok
  have hm := mixed
  generalize hP : Try.prog = P at *
  generalize hA : std = A
  obtain ⟨qbin, qsh, qcmp, qscmp, qbcmp, qbnot, qneg, qwrap, qcat, qssize, qssub, qsget, qlen, qrsub, qapp, qelt, qset, qnth, qdrp, qstr, qint, qbool, qrow, qnat, qnadd, qnsub, qband, qofNat, qstrRow, qmkRow, qmx, qmn, qbytes, qemp⟩ := A
  have hE := Ar.eqs hA
  dsimp only at hE
  generalize hQ : EndD P Try.f35.results _ = Q
  cbv
  try simp only [nc] at *
  refine ClW.dd (f := 69) rfl rfl rfl rfl (.cons rfl .nil) rfl ent69_ (T69_ ha_nodes (by omega)) rfl ?_
  cbv
  try simp only [nc] at *
  refine ClW.dd (f := 70) rfl rfl rfl rfl (.cons rfl .nil) rfl ent70_ (T70_ ha_entries (by omega)) rfl ?_
  cbv
  try simp only [nc] at *
  refine ClW.dd (f := 70) rfl rfl rfl rfl (.cons rfl .nil) rfl ent70_ (T70_ ha_old (by omega)) rfl ?_
  cbv
  try simp only [nc] at *
  refine ClW.dd (f := 71) rfl rfl rfl rfl (.cons rfl .nil) rfl ent71_ (T71_ ha_steps (by omega)) rfl ?_
  cbv
  try simp only [nc] at *
  rw [← hQ]
  exact endD_cell hT (by rfl) (by rfl) (by rfl) (by rfl) rfl
noncomputable def c40 : Code := (Try.f40.body).getD .skip
theorem ent40 : Entered Try.prog 40 := ⟨_, Try.func40, rfl, rfl⟩
theorem T40 {a_version : Int} {a_stride : Int} {a_roll : Int} {a_base : Int} {a_link : Int} {a_offsets : List Int} {xa_offsets : List (List D)} (ha_offsets : a_offsets.map cI = xa_offsets) {a_end : Int} {a_open : Bool} {a_code : Int} (hb : totWriter ⟨a_version, a_stride, a_roll, a_base, a_link, a_offsets, a_end, a_open, a_code⟩ ≤ 1048576) : CallOk Try.prog 40 [.agg [.d (.sc (.int .i64 a_version)), .d (.sc (.int .i64 a_stride)), .d (.sc (.int .i64 a_roll)), .d (.sc (.int .i64 a_base)), .d (.sc (.int .i64 a_link)), .d (.row 1 xa_offsets), .d (.sc (.int .i64 a_end)), .d (.sc (.bool a_open)), .d (.sc (.int .i64 a_code))]] [] ⟨.agg [.d (.sc (.int .i64 a_version)), .d (.sc (.int .i64 a_stride)), .d (.sc (.int .i64 a_roll)), .d (.sc (.int .i64 a_base)), .d (.sc (.int .i64 a_link)), .d (.row 1 xa_offsets), .d (.sc (.int .i64 a_end)), .d (.sc (.bool a_open)), .d (.sc (.int .i64 a_code))], [], []⟩ := by
  have ent16_ := ent16
  have T16_ := @T16
  have nna_offsets := totIntS_nn a_offsets
  have hb' : totIntS a_offsets ≤ 1048576 := hb
  refine CallOk.of_bodyD (body := c40) Try.func40 rfl (Nat.le_of_ble_eq_true (by kernel_rfl)) rfl ?_
  refine vc_ok tab_ok mixed ?_
  have hT := tab_ok
  have hm := mixed
  generalize hP : Try.prog = P at *
  generalize hA : std = A
  obtain ⟨qbin, qsh, qcmp, qscmp, qbcmp, qbnot, qneg, qwrap, qcat, qssize, qssub, qsget, qlen, qrsub, qapp, qelt, qset, qnth, qdrp, qstr, qint, qbool, qrow, qnat, qnadd, qnsub, qband, qofNat, qstrRow, qmkRow, qmx, qmn, qbytes, qemp⟩ := A
  have hE := Ar.eqs hA
  dsimp only at hE
  generalize hQ : EndD P Try.f40.results _ = Q
  cbv
  try simp only [nc] at *
  refine ClW.dd (f := 16) rfl rfl rfl rfl (.cons rfl .nil) rfl ent16_ (T16_ ha_offsets (by omega)) rfl ?_
  cbv
  try simp only [nc] at *
  rw [← hQ]
  exact endD_cell hT (by rfl) (by rfl) (by rfl) (by rfl) rfl
noncomputable def c85 : Code := (Try.f85.body).getD .skip
theorem ent85 : Entered Try.prog 85 := ⟨_, Try.func85, rfl, rfl⟩
theorem T85 {a_room : Int} {a_version : Int} {a_stride : Int} {a_roll : Int} : CallOk Try.prog 85 [.agg [.d (.sc (.int .i64 a_room)), .d (.sc (.int .i64 a_version)), .d (.sc (.int .i64 a_stride)), .d (.sc (.int .i64 a_roll))]] [] ⟨.agg [.d (.sc (.int .i64 a_room)), .d (.sc (.int .i64 a_version)), .d (.sc (.int .i64 a_stride)), .d (.sc (.int .i64 a_roll))], [], []⟩ := by
  refine CallOk.of_bodyD (body := c85) Try.func85 rfl (Nat.le_of_ble_eq_true (by kernel_rfl)) rfl ?_
  refine vc_ok tab_ok mixed ?_
  have hT := tab_ok
  have hm := mixed
  generalize hP : Try.prog = P at *
  generalize hA : std = A
  obtain ⟨qbin, qsh, qcmp, qscmp, qbcmp, qbnot, qneg, qwrap, qcat, qssize, qssub, qsget, qlen, qrsub, qapp, qelt, qset, qnth, qdrp, qstr, qint, qbool, qrow, qnat, qnadd, qnsub, qband, qofNat, qstrRow, qmkRow, qmx, qmn, qbytes, qemp⟩ := A
  have hE := Ar.eqs hA
  dsimp only at hE
  generalize hQ : EndD P Try.f85.results _ = Q
  cbv
  try simp only [nc] at *
  rw [← hQ]
  exact endD_cell hT (by rfl) (by rfl) (by rfl) (by rfl) rfl
noncomputable def c45 : Code := (Try.f45.body).getD .skip
theorem ent45 : Entered Try.prog 45 := ⟨_, Try.func45, rfl, rfl⟩
theorem T45 {a_set_room : Int} {a_set_version : Int} {a_set_stride : Int} {a_set_roll : Int} {a_disk_nodes : List TNode} {xa_disk_nodes : List (List D)} (ha_disk_nodes : a_disk_nodes.map eNode = xa_disk_nodes) {a_disk_entries : List TEntry} {xa_disk_entries : List (List D)} (ha_disk_entries : a_disk_entries.map eEntry = xa_disk_entries) {a_disk_old : List TEntry} {xa_disk_old : List (List D)} (ha_disk_old : a_disk_old.map eEntry = xa_disk_old) {a_disk_steps : List ByteArray} {xa_disk_steps : List (List D)} (ha_disk_steps : a_disk_steps.map cS = xa_disk_steps) {a_disk_room : Int} {a_disk_next : Int} {a_writer_version : Int} {a_writer_stride : Int} {a_writer_roll : Int} {a_writer_base : Int} {a_writer_link : Int} {a_writer_offsets : List Int} {xa_writer_offsets : List (List D)} (ha_writer_offsets : a_writer_offsets.map cI = xa_writer_offsets) {a_writer_end : Int} {a_writer_open : Bool} {a_writer_code : Int} {a_told : List ByteArray} {xa_told : List (List D)} (ha_told : a_told.map cS = xa_told) {a_sure : Int} {a_falls : Int} (hb : totWorld ⟨⟨a_set_room, a_set_version, a_set_stride, a_set_roll⟩, ⟨a_disk_nodes, a_disk_entries, a_disk_old, a_disk_steps, a_disk_room, a_disk_next⟩, ⟨a_writer_version, a_writer_stride, a_writer_roll, a_writer_base, a_writer_link, a_writer_offsets, a_writer_end, a_writer_open, a_writer_code⟩, a_told, a_sure, a_falls⟩ ≤ 1048576) : CallOk Try.prog 45 [.agg [.d (.sc (.int .i64 a_set_room)), .d (.sc (.int .i64 a_set_version)), .d (.sc (.int .i64 a_set_stride)), .d (.sc (.int .i64 a_set_roll)), .d (.row 3 xa_disk_nodes), .d (.row 2 xa_disk_entries), .d (.row 2 xa_disk_old), .d (.row 1 xa_disk_steps), .d (.sc (.int .i64 a_disk_room)), .d (.sc (.int .i64 a_disk_next)), .d (.sc (.int .i64 a_writer_version)), .d (.sc (.int .i64 a_writer_stride)), .d (.sc (.int .i64 a_writer_roll)), .d (.sc (.int .i64 a_writer_base)), .d (.sc (.int .i64 a_writer_link)), .d (.row 1 xa_writer_offsets), .d (.sc (.int .i64 a_writer_end)), .d (.sc (.bool a_writer_open)), .d (.sc (.int .i64 a_writer_code)), .d (.row 1 xa_told), .d (.sc (.int .i64 a_sure)), .d (.sc (.int .i64 a_falls))]] [] ⟨.agg [.d (.sc (.int .i64 a_set_room)), .d (.sc (.int .i64 a_set_version)), .d (.sc (.int .i64 a_set_stride)), .d (.sc (.int .i64 a_set_roll)), .d (.row 3 xa_disk_nodes), .d (.row 2 xa_disk_entries), .d (.row 2 xa_disk_old), .d (.row 1 xa_disk_steps), .d (.sc (.int .i64 a_disk_room)), .d (.sc (.int .i64 a_disk_next)), .d (.sc (.int .i64 a_writer_version)), .d (.sc (.int .i64 a_writer_stride)), .d (.sc (.int .i64 a_writer_roll)), .d (.sc (.int .i64 a_writer_base)), .d (.sc (.int .i64 a_writer_link)), .d (.row 1 xa_writer_offsets), .d (.sc (.int .i64 a_writer_end)), .d (.sc (.bool a_writer_open)), .d (.sc (.int .i64 a_writer_code)), .d (.row 1 xa_told), .d (.sc (.int .i64 a_sure)), .d (.sc (.int .i64 a_falls))], [], []⟩ := by
  have ent35_ := ent35
  have T35_ := @T35
  have ent40_ := ent40
  have T40_ := @T40
  have ent71_ := ent71
  have T71_ := @T71
  have ent85_ := ent85
  have T85_ := @T85
  have nna_disk := totDisk_nn (⟨a_disk_nodes, a_disk_entries, a_disk_old, a_disk_steps, a_disk_room, a_disk_next⟩ : TDisk)
  have nna_writer := totWriter_nn (⟨a_writer_version, a_writer_stride, a_writer_roll, a_writer_base, a_writer_link, a_writer_offsets, a_writer_end, a_writer_open, a_writer_code⟩ : TWriter)
  have nna_told := totStringS_nn a_told
  have hb' : totDisk (⟨a_disk_nodes, a_disk_entries, a_disk_old, a_disk_steps, a_disk_room, a_disk_next⟩ : TDisk) + totWriter (⟨a_writer_version, a_writer_stride, a_writer_roll, a_writer_base, a_writer_link, a_writer_offsets, a_writer_end, a_writer_open, a_writer_code⟩ : TWriter) + totStringS a_told ≤ 1048576 := hb
  refine CallOk.of_bodyD (body := c45) Try.func45 rfl (Nat.le_of_ble_eq_true (by kernel_rfl)) rfl ?_
  refine vc_ok tab_ok mixed ?_
  have hT := tab_ok
  have hm := mixed
  generalize hP : Try.prog = P at *
  generalize hA : std = A
  obtain ⟨qbin, qsh, qcmp, qscmp, qbcmp, qbnot, qneg, qwrap, qcat, qssize, qssub, qsget, qlen, qrsub, qapp, qelt, qset, qnth, qdrp, qstr, qint, qbool, qrow, qnat, qnadd, qnsub, qband, qofNat, qstrRow, qmkRow, qmx, qmn, qbytes, qemp⟩ := A
  have hE := Ar.eqs hA
  dsimp only at hE
  generalize hQ : EndD P Try.f45.results _ = Q
  cbv
  try simp only [nc] at *
  refine ClW.dd (f := 85) rfl rfl rfl rfl (.cons rfl .nil) rfl ent85_ (T85_) rfl ?_
  cbv
  try simp only [nc] at *
  refine ClW.dd (f := 35) rfl rfl rfl rfl (.cons rfl .nil) rfl ent35_ (T35_ ha_disk_nodes ha_disk_entries ha_disk_old ha_disk_steps (by omega)) rfl ?_
  cbv
  try simp only [nc] at *
  refine ClW.dd (f := 40) rfl rfl rfl rfl (.cons rfl .nil) rfl ent40_ (T40_ ha_writer_offsets (by omega)) rfl ?_
  cbv
  try simp only [nc] at *
  refine ClW.dd (f := 71) rfl rfl rfl rfl (.cons rfl .nil) rfl ent71_ (T71_ ha_told (by omega)) rfl ?_
  cbv
  try simp only [nc] at *
  rw [← hQ]
  exact endD_cell hT (by rfl) (by rfl) (by rfl) (by rfl) rfl
end Go.Proofs.Ytamdgfklbjoaiaa.Ab
