/- What functions of the program come to, for all arguments in the given bounds. -/
import Derived.Test.YtmhinjjgpabkfaaGreatDoorH
set_option linter.unusedVariables false
set_option linter.unusedSimpArgs false
namespace Go.Proofs.YtmhinjjgpabkfaaGreatDoor.Ab
open Go Go.Proofs
set_option maxRecDepth 20000
set_option linter.unusedVariables false
noncomputable def c111 : Code := (Tryz.f111.body).getD .skip
theorem ent111 : Entered Tryz.prog 111 := ⟨_, Tryz.func111, rfl, rfl⟩
theorem T111 {a_id : Int} {a_text : ByteArray} {a_sure : Int} (hb : totNode ⟨a_id, a_text, a_sure⟩ ≤ 1048576) : CallOk Tryz.prog 111 [.agg [.d (.sc (.int .i64 a_id)), .d (.sc (.string a_text)), .d (.sc (.int .i64 a_sure))]] [] ⟨.agg [.d (.sc (.int .i64 a_id)), .d (.sc (.string a_text)), .d (.sc (.int .i64 a_sure))], [], []⟩ := by
  have hb' : (a_text.size : Int) ≤ 1048576 := hb
  refine CallOk.of_bodyD (body := c111) Tryz.func111 rfl (Nat.le_of_ble_eq_true (by kernel_rfl)) rfl ?_
  refine vc_ok tab_ok mixed ?_
  have hT := tab_ok
  have hm := mixed
  generalize hP : Tryz.prog = P at *
  generalize hA : std = A
  obtain ⟨qbin, qsh, qcmp, qscmp, qbcmp, qbnot, qneg, qwrap, qcat, qssize, qssub, qsget, qlen, qrsub, qapp, qelt, qset, qnth, qdrp, qstr, qint, qbool, qrow, qnat, qnadd, qnsub, qband, qofNat, qstrRow, qmkRow, qmx, qmn, qbytes, qemp⟩ := A
  have hE := Ar.eqs hA
  dsimp only at hE
  generalize hQ : EndD P Tryz.f111.results _ = Q
  cbv
  try simp only [nc] at *
  rw [← hQ]
  exact endD_cell hT (by rfl) (by rfl) (by rfl) (by rfl) rfl
noncomputable def c64 : Code := (Tryz.f64.body).getD .skip
theorem ent64 : Entered Tryz.prog 64 := ⟨_, Tryz.func64, rfl, rfl⟩
theorem T64R {a : List TNode} {xs : List (List D)} (hx : a.map eNode = xs) (hb : totNodeS a ≤ 1048576) : CallOk Tryz.prog 64 [.d (.row 3 xs)] [] ⟨.ref 0 0 a.length, [.row 3 false xs], []⟩ := by
  have ent111_ := ent111
  have T111_ := @T111
  have hb1 : (a.length : Int) + sumF (fun x => totNode x) a ≤ 1048576 := hb
  have hsn := sumF_nonneg (fun x => totNode x) a (fun x _ => totNodeS_el x)
  refine CallOk.of_body (body := c64) Tryz.func64 rfl (Nat.le_of_ble_eq_true (by kernel_rfl)) rfl rfl ?_
  refine vc_ok tab_ok mixed ?_
  have hT := tab_ok
  have hm := mixed
  generalize hP : Tryz.prog = P at *
  generalize hA : std = A
  obtain ⟨qbin, qsh, qcmp, qscmp, qbcmp, qbnot, qneg, qwrap, qcat, qssize, qssub, qsget, qlen, qrsub, qapp, qelt, qset, qnth, qdrp, qstr, qint, qbool, qrow, qnat, qnadd, qnsub, qband, qofNat, qstrRow, qmkRow, qmx, qmn, qbytes, qemp⟩ := A
  have hE := Ar.eqs hA
  dsimp only at hE
  generalize hQ : EndQ P Tryz.f64.results [] _ = Q
  have hn := rd_n hx
  cbv
  try simp only [nc] at *
  refine ⟨?_, ?_⟩
  · simp only [hE, List.length_map, std_lss, std_leq, std_gtr, std_geq, std_eql, std_neq, std_len, std_add, std_subI, std_mulI, std_ssize, std_not, std_band, std_bcmp, std_nat, std_ofNat, std_nadd, std_nsub, std_emp, IntKind.wrap_i64, decide_eq_true_eq, decide_eq_false_iff_not, Bool.not_eq_true', Bool.not_eq_false', Option.getD_none, Option.getD_some, hn]; exact ⟨by omega, by omega, by omega, by omega⟩
  refine LpW.of (κ := Nat) (fun k => k ≤ a.length) (fun k => a.length - k) (fun k => [(0, .d (.row 3 xs)), (3, .ref 1 0 a.length), (4, .d (.sc (.int .i64 k)))]) (fun k => [.row 3 false [], .row 3 false (cpRow eNode a [.sc (.int .i64 0), .sc (.string default), .sc (.int .i64 0)] k)]) 0 (by simp) ?_ ?_ ?_
  · refine .cons rfl (.cons ?_ (.cons rfl (.nil _)))
    show AV.ref 1 0 (qnat (qlen xs)) = _
    simp only [hE, std_len, std_nat, hn, Int.toNat_natCast]
  · show [Root.row 3 false [], Root.row 3 false (qmkRow (qlen xs) [.sc (.int .i64 0), .sc (.string default), .sc (.int .i64 0)])] = _
    simp only [hE, std_len, hn, cp_zero]
    rfl
  · intro k hk
    generalize hz : cpRow eNode a [.sc (.int .i64 0), .sc (.string default), .sc (.int .i64 0)] k = zs
    generalize hi : (k : Int) = i
    generalize hm' : a.length = m
    refine vc_ok hT hm ?_
    rw [hA]
    cbv
    try simp only [nc] at *
    split
    · rename_i h2
      simp only [hE, List.length_map, std_lss, std_leq, std_gtr, std_geq, std_eql, std_neq, std_len, std_add, std_subI, std_mulI, std_ssize, std_not, std_band, std_bcmp, std_nat, std_ofNat, std_nadd, std_nsub, std_emp, IntKind.wrap_i64, decide_eq_true_eq, decide_eq_false_iff_not, Bool.not_eq_true', Bool.not_eq_false', Option.getD_none, Option.getD_some, hn] at h2
      have hk' : k < a.length := by omega
      cbv
      try simp only [nc] at *
      repeat (refine And.intro (by first | (simp only [hE]; exact rd_inR hx hi hk') | (simp only [hE, rd_elt hx hi hk']; exact ⟨rfl⟩) | (simp only [hE, rd_elt hx hi hk']; exact ⟨Nat.le_of_ble_eq_true rfl⟩)) ?_)
      have hset := cp_set hk' hz hi (by rfl)
      have hmem := sumF_mem_le (fun x => totNode x) (fun x => totNodeS_el x) (List.getElem_mem hk')
      obtain ⟨wv, hwv⟩ : ∃ w, w = a[k] := ⟨_, rfl⟩
      have hev : qelt xs i = eNode wv := by simp only [hE]; rw [rd_elt hx hi hk', hwv]
      rw [← hwv] at hset hmem
      obtain ⟨v_id, v_text, v_sure⟩ := wv
      rw [show qint (qnth (qelt xs i) 0) = v_id by rw [hev]; simp only [hE]; rfl, show qstr (qnth (qelt xs i) 1) = v_text by rw [hev]; simp only [hE]; rfl, show qint (qnth (qelt xs i) 2) = v_sure by rw [hev]; simp only [hE]; rfl]
      refine ClW.dd (f := 111) rfl rfl rfl rfl (.cons rfl .nil) rfl ent111_ (T111_ (by omega)) rfl ?_
      cbv
      try simp only [nc] at *
      refine ⟨?_, ?_, ?_, k + 1, by omega, by omega, ?_, ?_⟩
      · simp only [hE, List.length_map, std_lss, std_leq, std_gtr, std_geq, std_eql, std_neq, std_len, std_add, std_subI, std_mulI, std_ssize, std_not, std_band, std_bcmp, std_nat, std_ofNat, std_nadd, std_nsub, std_emp, IntKind.wrap_i64, decide_eq_true_eq, decide_eq_false_iff_not, Bool.not_eq_true', Bool.not_eq_false', Option.getD_none, Option.getD_some, ]; exact ⟨by omega, by omega⟩
      · simp only [hE]; exact cp_inR hk' hz hi
      · simp only [hE]; exact cp_lenGe hk' hz hi (Nat.le_refl _)
      · refine .cons rfl (.cons rfl (.cons ?_ (.nil _)))
        show AV.d (D.sc (Value.int IntKind.i64 (qbin .add .i64 i 1))) = _
        simp only [hE, i_next hi (by omega)]
      · have e : eNode (⟨v_id, v_text, v_sure⟩ : TNode) = [.sc (.int .i64 v_id), .sc (.string v_text), .sc (.int .i64 v_sure)] := rfl
        simp only [hE]
        rw [e] at hset
        rw [← hset]
        try rfl
    · rename_i h2
      simp only [hE, List.length_map, std_lss, std_leq, std_gtr, std_geq, std_eql, std_neq, std_len, std_add, std_subI, std_mulI, std_ssize, std_not, std_band, std_bcmp, std_nat, std_ofNat, std_nadd, std_nsub, std_emp, IntKind.wrap_i64, decide_eq_true_eq, decide_eq_false_iff_not, Bool.not_eq_true', Bool.not_eq_false', Option.getD_none, Option.getD_some, hn] at h2
      cbv
      try simp only [nc] at *
      have hk' : k = a.length := by omega
      subst hk'
      rw [← hQ, hm']
      rw [cp_end] at hz
      have hxz : zs = xs := by rw [← hz, hx]
      subst hxz
      exact endR_ref rfl rfl
theorem T64 {a : List TNode} {xs : List (List D)} (hx : a.map eNode = xs) (hb : totNodeS a ≤ 1048576) : CallOk Tryz.prog 64 [.d (.row 3 xs)] [] ⟨.d (.row 3 xs), [], []⟩ := (T64R hx hb).rowD rfl (by rw [← hx, List.length_map])
noncomputable def c112 : Code := (Tryz.f112.body).getD .skip
theorem ent112 : Entered Tryz.prog 112 := ⟨_, Tryz.func112, rfl, rfl⟩
theorem T112 {a_name : ByteArray} {a_id : Int} (hb : totEntry ⟨a_name, a_id⟩ ≤ 1048576) : CallOk Tryz.prog 112 [.agg [.d (.sc (.string a_name)), .d (.sc (.int .i64 a_id))]] [] ⟨.agg [.d (.sc (.string a_name)), .d (.sc (.int .i64 a_id))], [], []⟩ := by
  have hb' : (a_name.size : Int) ≤ 1048576 := hb
  refine CallOk.of_bodyD (body := c112) Tryz.func112 rfl (Nat.le_of_ble_eq_true (by kernel_rfl)) rfl ?_
  refine vc_ok tab_ok mixed ?_
  have hT := tab_ok
  have hm := mixed
  generalize hP : Tryz.prog = P at *
  generalize hA : std = A
  obtain ⟨qbin, qsh, qcmp, qscmp, qbcmp, qbnot, qneg, qwrap, qcat, qssize, qssub, qsget, qlen, qrsub, qapp, qelt, qset, qnth, qdrp, qstr, qint, qbool, qrow, qnat, qnadd, qnsub, qband, qofNat, qstrRow, qmkRow, qmx, qmn, qbytes, qemp⟩ := A
  have hE := Ar.eqs hA
  dsimp only at hE
  generalize hQ : EndD P Tryz.f112.results _ = Q
  cbv
  try simp only [nc] at *
  rw [← hQ]
  exact endD_cell hT (by rfl) (by rfl) (by rfl) (by rfl) rfl
noncomputable def c65 : Code := (Tryz.f65.body).getD .skip
theorem ent65 : Entered Tryz.prog 65 := ⟨_, Tryz.func65, rfl, rfl⟩
theorem T65R {a : List TEntry} {xs : List (List D)} (hx : a.map eEntry = xs) (hb : totEntryS a ≤ 1048576) : CallOk Tryz.prog 65 [.d (.row 2 xs)] [] ⟨.ref 0 0 a.length, [.row 2 false xs], []⟩ := by
  have ent112_ := ent112
  have T112_ := @T112
  have hb1 : (a.length : Int) + sumF (fun x => totEntry x) a ≤ 1048576 := hb
  have hsn := sumF_nonneg (fun x => totEntry x) a (fun x _ => totEntryS_el x)
  refine CallOk.of_body (body := c65) Tryz.func65 rfl (Nat.le_of_ble_eq_true (by kernel_rfl)) rfl rfl ?_
  refine vc_ok tab_ok mixed ?_
  have hT := tab_ok
  have hm := mixed
  generalize hP : Tryz.prog = P at *
  generalize hA : std = A
  obtain ⟨qbin, qsh, qcmp, qscmp, qbcmp, qbnot, qneg, qwrap, qcat, qssize, qssub, qsget, qlen, qrsub, qapp, qelt, qset, qnth, qdrp, qstr, qint, qbool, qrow, qnat, qnadd, qnsub, qband, qofNat, qstrRow, qmkRow, qmx, qmn, qbytes, qemp⟩ := A
  have hE := Ar.eqs hA
  dsimp only at hE
  generalize hQ : EndQ P Tryz.f65.results [] _ = Q
  have hn := rd_n hx
  cbv
  try simp only [nc] at *
  refine ⟨?_, ?_⟩
  · simp only [hE, List.length_map, std_lss, std_leq, std_gtr, std_geq, std_eql, std_neq, std_len, std_add, std_subI, std_mulI, std_ssize, std_not, std_band, std_bcmp, std_nat, std_ofNat, std_nadd, std_nsub, std_emp, IntKind.wrap_i64, decide_eq_true_eq, decide_eq_false_iff_not, Bool.not_eq_true', Bool.not_eq_false', Option.getD_none, Option.getD_some, hn]; exact ⟨by omega, by omega, by omega, by omega⟩
  refine LpW.of (κ := Nat) (fun k => k ≤ a.length) (fun k => a.length - k) (fun k => [(0, .d (.row 2 xs)), (3, .ref 1 0 a.length), (4, .d (.sc (.int .i64 k)))]) (fun k => [.row 2 false [], .row 2 false (cpRow eEntry a [.sc (.string default), .sc (.int .i64 0)] k)]) 0 (by simp) ?_ ?_ ?_
  · refine .cons rfl (.cons ?_ (.cons rfl (.nil _)))
    show AV.ref 1 0 (qnat (qlen xs)) = _
    simp only [hE, std_len, std_nat, hn, Int.toNat_natCast]
  · show [Root.row 2 false [], Root.row 2 false (qmkRow (qlen xs) [.sc (.string default), .sc (.int .i64 0)])] = _
    simp only [hE, std_len, hn, cp_zero]
    rfl
  · intro k hk
    generalize hz : cpRow eEntry a [.sc (.string default), .sc (.int .i64 0)] k = zs
    generalize hi : (k : Int) = i
    generalize hm' : a.length = m
    refine vc_ok hT hm ?_
    rw [hA]
    cbv
    try simp only [nc] at *
    split
    · rename_i h2
      simp only [hE, List.length_map, std_lss, std_leq, std_gtr, std_geq, std_eql, std_neq, std_len, std_add, std_subI, std_mulI, std_ssize, std_not, std_band, std_bcmp, std_nat, std_ofNat, std_nadd, std_nsub, std_emp, IntKind.wrap_i64, decide_eq_true_eq, decide_eq_false_iff_not, Bool.not_eq_true', Bool.not_eq_false', Option.getD_none, Option.getD_some, hn] at h2
      have hk' : k < a.length := by omega
      cbv
      try simp only [nc] at *
      repeat (refine And.intro (by first | (simp only [hE]; exact rd_inR hx hi hk') | (simp only [hE, rd_elt hx hi hk']; exact ⟨rfl⟩) | (simp only [hE, rd_elt hx hi hk']; exact ⟨Nat.le_of_ble_eq_true rfl⟩)) ?_)
      have hset := cp_set hk' hz hi (by rfl)
      have hmem := sumF_mem_le (fun x => totEntry x) (fun x => totEntryS_el x) (List.getElem_mem hk')
      obtain ⟨wv, hwv⟩ : ∃ w, w = a[k] := ⟨_, rfl⟩
      have hev : qelt xs i = eEntry wv := by simp only [hE]; rw [rd_elt hx hi hk', hwv]
      rw [← hwv] at hset hmem
      obtain ⟨v_name, v_id⟩ := wv
      rw [show qstr (qnth (qelt xs i) 0) = v_name by rw [hev]; simp only [hE]; rfl, show qint (qnth (qelt xs i) 1) = v_id by rw [hev]; simp only [hE]; rfl]
      refine ClW.dd (f := 112) rfl rfl rfl rfl (.cons rfl .nil) rfl ent112_ (T112_ (by omega)) rfl ?_
      cbv
      try simp only [nc] at *
      refine ⟨?_, ?_, ?_, k + 1, by omega, by omega, ?_, ?_⟩
      · simp only [hE, List.length_map, std_lss, std_leq, std_gtr, std_geq, std_eql, std_neq, std_len, std_add, std_subI, std_mulI, std_ssize, std_not, std_band, std_bcmp, std_nat, std_ofNat, std_nadd, std_nsub, std_emp, IntKind.wrap_i64, decide_eq_true_eq, decide_eq_false_iff_not, Bool.not_eq_true', Bool.not_eq_false', Option.getD_none, Option.getD_some, ]; exact ⟨by omega, by omega⟩
      · simp only [hE]; exact cp_inR hk' hz hi
      · simp only [hE]; exact cp_lenGe hk' hz hi (Nat.le_refl _)
      · refine .cons rfl (.cons rfl (.cons ?_ (.nil _)))
        show AV.d (D.sc (Value.int IntKind.i64 (qbin .add .i64 i 1))) = _
        simp only [hE, i_next hi (by omega)]
      · have e : eEntry (⟨v_name, v_id⟩ : TEntry) = [.sc (.string v_name), .sc (.int .i64 v_id)] := rfl
        simp only [hE]
        rw [e] at hset
        rw [← hset]
        try rfl
    · rename_i h2
      simp only [hE, List.length_map, std_lss, std_leq, std_gtr, std_geq, std_eql, std_neq, std_len, std_add, std_subI, std_mulI, std_ssize, std_not, std_band, std_bcmp, std_nat, std_ofNat, std_nadd, std_nsub, std_emp, IntKind.wrap_i64, decide_eq_true_eq, decide_eq_false_iff_not, Bool.not_eq_true', Bool.not_eq_false', Option.getD_none, Option.getD_some, hn] at h2
      cbv
      try simp only [nc] at *
      have hk' : k = a.length := by omega
      subst hk'
      rw [← hQ, hm']
      rw [cp_end] at hz
      have hxz : zs = xs := by rw [← hz, hx]
      subst hxz
      exact endR_ref rfl rfl
theorem T65 {a : List TEntry} {xs : List (List D)} (hx : a.map eEntry = xs) (hb : totEntryS a ≤ 1048576) : CallOk Tryz.prog 65 [.d (.row 2 xs)] [] ⟨.d (.row 2 xs), [], []⟩ := (T65R hx hb).rowD rfl (by rw [← hx, List.length_map])
noncomputable def c66 : Code := (Tryz.f66.body).getD .skip
theorem ent66 : Entered Tryz.prog 66 := ⟨_, Tryz.func66, rfl, rfl⟩
theorem T66R {a : List ByteArray} {xs : List (List D)} (hx : a.map cS = xs) (hb : totStringS a ≤ 1048576) : CallOk Tryz.prog 66 [.d (.row 1 xs)] [] ⟨.ref 0 0 a.length, [.row 1 false xs], []⟩ := by
  have hb1 : (a.length : Int) + sumF (fun x => (x.size : Int)) a ≤ 1048576 := hb
  have hsn := sumF_nonneg (fun x => (x.size : Int)) a (fun x _ => totStringS_el x)
  refine CallOk.of_body (body := c66) Tryz.func66 rfl (Nat.le_of_ble_eq_true (by kernel_rfl)) rfl rfl ?_
  refine vc_ok tab_ok mixed ?_
  have hT := tab_ok
  have hm := mixed
  generalize hP : Tryz.prog = P at *
  generalize hA : std = A
  obtain ⟨qbin, qsh, qcmp, qscmp, qbcmp, qbnot, qneg, qwrap, qcat, qssize, qssub, qsget, qlen, qrsub, qapp, qelt, qset, qnth, qdrp, qstr, qint, qbool, qrow, qnat, qnadd, qnsub, qband, qofNat, qstrRow, qmkRow, qmx, qmn, qbytes, qemp⟩ := A
  have hE := Ar.eqs hA
  dsimp only at hE
  generalize hQ : EndQ P Tryz.f66.results [] _ = Q
  have hn := rd_n hx
  cbv
  try simp only [nc] at *
  refine ⟨?_, ?_⟩
  · simp only [hE, List.length_map, std_lss, std_leq, std_gtr, std_geq, std_eql, std_neq, std_len, std_add, std_subI, std_mulI, std_ssize, std_not, std_band, std_bcmp, std_nat, std_ofNat, std_nadd, std_nsub, std_emp, IntKind.wrap_i64, decide_eq_true_eq, decide_eq_false_iff_not, Bool.not_eq_true', Bool.not_eq_false', Option.getD_none, Option.getD_some, hn]; exact ⟨by omega, by omega, by omega, by omega⟩
  refine LpW.of (κ := Nat) (fun k => k ≤ a.length) (fun k => a.length - k) (fun k => [(0, .d (.row 1 xs)), (3, .ref 1 0 a.length), (4, .d (.sc (.int .i64 k)))]) (fun k => [.row 1 false [], .row 1 false (cpRow cS a [.sc (.string default)] k)]) 0 (by simp) ?_ ?_ ?_
  · refine .cons rfl (.cons ?_ (.cons rfl (.nil _)))
    show AV.ref 1 0 (qnat (qlen xs)) = _
    simp only [hE, std_len, std_nat, hn, Int.toNat_natCast]
  · show [Root.row 1 false [], Root.row 1 false (qmkRow (qlen xs) [.sc (.string default)])] = _
    simp only [hE, std_len, hn, cp_zero]
    rfl
  · intro k hk
    generalize hz : cpRow cS a [.sc (.string default)] k = zs
    generalize hi : (k : Int) = i
    generalize hm' : a.length = m
    refine vc_ok hT hm ?_
    rw [hA]
    cbv
    try simp only [nc] at *
    split
    · rename_i h2
      simp only [hE, List.length_map, std_lss, std_leq, std_gtr, std_geq, std_eql, std_neq, std_len, std_add, std_subI, std_mulI, std_ssize, std_not, std_band, std_bcmp, std_nat, std_ofNat, std_nadd, std_nsub, std_emp, IntKind.wrap_i64, decide_eq_true_eq, decide_eq_false_iff_not, Bool.not_eq_true', Bool.not_eq_false', Option.getD_none, Option.getD_some, hn] at h2
      have hk' : k < a.length := by omega
      cbv
      try simp only [nc] at *
      repeat (refine And.intro (by first | (simp only [hE]; exact rd_inR hx hi hk') | (simp only [hE, rd_elt hx hi hk']; exact ⟨rfl⟩) | (simp only [hE, rd_elt hx hi hk']; exact ⟨Nat.le_of_ble_eq_true rfl⟩)) ?_)
      refine ⟨?_, ?_, ?_, k + 1, by omega, by omega, ?_, ?_⟩
      · simp only [hE, List.length_map, std_lss, std_leq, std_gtr, std_geq, std_eql, std_neq, std_len, std_add, std_subI, std_mulI, std_ssize, std_not, std_band, std_bcmp, std_nat, std_ofNat, std_nadd, std_nsub, std_emp, IntKind.wrap_i64, decide_eq_true_eq, decide_eq_false_iff_not, Bool.not_eq_true', Bool.not_eq_false', Option.getD_none, Option.getD_some, ]; exact ⟨by omega, by omega⟩
      · simp only [hE]; exact cp_inR hk' hz hi
      · simp only [hE]; exact cp_lenGe hk' hz hi (Nat.le_refl _)
      · refine .cons rfl (.cons rfl (.cons ?_ (.nil _)))
        show AV.d (D.sc (Value.int IntKind.i64 (qbin .add .i64 i 1))) = _
        simp only [hE, i_next hi (by omega)]
      · have e : [D.sc (Value.string (qstr (qnth (qelt xs i) 0)))] = cS a[k] := by simp only [hE, rd_elt hx hi hk']; rfl
        rw [e]
        simp only [hE]
        rw [cp_set hk' hz hi rfl]
    · rename_i h2
      simp only [hE, List.length_map, std_lss, std_leq, std_gtr, std_geq, std_eql, std_neq, std_len, std_add, std_subI, std_mulI, std_ssize, std_not, std_band, std_bcmp, std_nat, std_ofNat, std_nadd, std_nsub, std_emp, IntKind.wrap_i64, decide_eq_true_eq, decide_eq_false_iff_not, Bool.not_eq_true', Bool.not_eq_false', Option.getD_none, Option.getD_some, hn] at h2
      cbv
      try simp only [nc] at *
      have hk' : k = a.length := by omega
      subst hk'
      rw [← hQ, hm']
      rw [cp_end] at hz
      have hxz : zs = xs := by rw [← hz, hx]
      subst hxz
      exact endR_ref rfl rfl
theorem T66 {a : List ByteArray} {xs : List (List D)} (hx : a.map cS = xs) (hb : totStringS a ≤ 1048576) : CallOk Tryz.prog 66 [.d (.row 1 xs)] [] ⟨.d (.row 1 xs), [], []⟩ := (T66R hx hb).rowD rfl (by rw [← hx, List.length_map])
noncomputable def c19 : Code := (Tryz.f19.body).getD .skip
theorem ent19 : Entered Tryz.prog 19 := ⟨_, Tryz.func19, rfl, rfl⟩
theorem T19 {a_nodes : List TNode} {xa_nodes : List (List D)} (ha_nodes : a_nodes.map eNode = xa_nodes) {a_entries : List TEntry} {xa_entries : List (List D)} (ha_entries : a_entries.map eEntry = xa_entries) {a_old : List TEntry} {xa_old : List (List D)} (ha_old : a_old.map eEntry = xa_old) {a_steps : List ByteArray} {xa_steps : List (List D)} (ha_steps : a_steps.map cS = xa_steps) {a_room : Int} {a_next : Int} (hb : totDisk ⟨a_nodes, a_entries, a_old, a_steps, a_room, a_next⟩ ≤ 1048576) : CallOk Tryz.prog 19 [.agg [.d (.row 3 xa_nodes), .d (.row 2 xa_entries), .d (.row 2 xa_old), .d (.row 1 xa_steps), .d (.sc (.int .i64 a_room)), .d (.sc (.int .i64 a_next))]] [] ⟨.agg [.d (.row 3 xa_nodes), .d (.row 2 xa_entries), .d (.row 2 xa_old), .d (.row 1 xa_steps), .d (.sc (.int .i64 a_room)), .d (.sc (.int .i64 a_next))], [], []⟩ := by
  have ent64_ := ent64
  have T64_ := @T64
  have ent65_ := ent65
  have T65_ := @T65
  have ent66_ := ent66
  have T66_ := @T66
  have nna_nodes := totNodeS_nn a_nodes
  have nna_entries := totEntryS_nn a_entries
  have nna_old := totEntryS_nn a_old
  have nna_steps := totStringS_nn a_steps
  have hb' : totNodeS a_nodes + totEntryS a_entries + totEntryS a_old + totStringS a_steps ≤ 1048576 := hb
  refine CallOk.of_bodyD (body := c19) Tryz.func19 rfl (Nat.le_of_ble_eq_true (by kernel_rfl)) rfl ?_
  refine vc_ok tab_ok mixed ?_
  have hT := tab_ok
  have hm := mixed
  generalize hP : Tryz.prog = P at *
  generalize hA : std = A
  obtain ⟨qbin, qsh, qcmp, qscmp, qbcmp, qbnot, qneg, qwrap, qcat, qssize, qssub, qsget, qlen, qrsub, qapp, qelt, qset, qnth, qdrp, qstr, qint, qbool, qrow, qnat, qnadd, qnsub, qband, qofNat, qstrRow, qmkRow, qmx, qmn, qbytes, qemp⟩ := A
  have hE := Ar.eqs hA
  dsimp only at hE
  generalize hQ : EndD P Tryz.f19.results _ = Q
  cbv
  try simp only [nc] at *
  refine ClW.dd (f := 64) rfl rfl rfl rfl (.cons rfl .nil) rfl ent64_ (T64_ ha_nodes (by omega)) rfl ?_
  cbv
  try simp only [nc] at *
  refine ClW.dd (f := 65) rfl rfl rfl rfl (.cons rfl .nil) rfl ent65_ (T65_ ha_entries (by omega)) rfl ?_
  cbv
  try simp only [nc] at *
  refine ClW.dd (f := 65) rfl rfl rfl rfl (.cons rfl .nil) rfl ent65_ (T65_ ha_old (by omega)) rfl ?_
  cbv
  try simp only [nc] at *
  refine ClW.dd (f := 66) rfl rfl rfl rfl (.cons rfl .nil) rfl ent66_ (T66_ ha_steps (by omega)) rfl ?_
  cbv
  try simp only [nc] at *
  rw [← hQ]
  exact endD_cell hT (by rfl) (by rfl) (by rfl) (by rfl) rfl
end Go.Proofs.YtmhinjjgpabkfaaGreatDoor.Ab
