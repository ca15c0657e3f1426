/- What functions of the program come to, for all arguments in the given bounds. -/
import Derived.Test.YtmhinjjgpabkfaaGreatDoorH
set_option linter.unusedVariables false
set_option linter.unusedSimpArgs false
namespace Go.Proofs.YtmhinjjgpabkfaaGreatDoor.Ab
open Go Go.Proofs
set_option maxRecDepth 20000
set_option linter.unusedVariables false
noncomputable def c122 : Code := (Tryz.f122.body).getD .skip
theorem ent122 : Entered Tryz.prog 122 := ⟨_, Tryz.func122, rfl, rfl⟩
theorem T122 {a_id : Int} {a_text : ByteArray} {a_sure : Int} (hb : totNode ⟨a_id, a_text, a_sure⟩ ≤ 1099511627776) : CallOk Tryz.prog 122 [.agg [.d (.sc (.int .i64 a_id)), .d (.sc (.string a_text)), .d (.sc (.int .i64 a_sure))], .agg [.d (.sc (.int .i64 a_id)), .d (.sc (.string a_text)), .d (.sc (.int .i64 a_sure))]] [] ⟨.d (.sc (.bool true)), [], []⟩ := by
  have hb' : (a_text.size : Int) ≤ 1099511627776 := hb
  refine CallOk.of_bodyD (body := c122) Tryz.func122 rfl (Nat.le_of_ble_eq_true (by kernel_rfl)) rfl ?_
  refine vc_ok tab_ok mixed ?_
  have hT := tab_ok
  have hm := mixed
  generalize hP : Tryz.prog = P at *
  generalize hA : std = A
  obtain ⟨qbin, qsh, qcmp, qscmp, qbcmp, qbnot, qneg, qwrap, qcat, qssize, qssub, qsget, qlen, qrsub, qapp, qelt, qset, qnth, qdrp, qstr, qint, qbool, qrow, qnat, qnadd, qnsub, qband, qofNat, qstrRow, qmkRow, qmx, qmn, qbytes, qemp⟩ := A
  have hE := Ar.eqs hA
  dsimp only at hE
  generalize hQ : EndD P Tryz.f122.results _ = Q
  have hself : (∀ v : Int, qcmp .neq v v = false) ∧ (∀ v : ByteArray, qscmp .neq v v = false) ∧ (∀ v : Bool, qbnot (qbcmp v v) = false) ∧ qbnot true = false := by
    refine ⟨fun v => ?_, fun v => ?_, fun v => ?_, ?_⟩ <;> simp only [hE, std_neq, std_sneq, std_bcmp, std_not] <;> simp
  obtain ⟨hself1, hself2, hself3, hself4⟩ := hself
  cbv
  try simp only [nc] at *
  rw [hself1]
  cbv
  try simp only [nc] at *
  rw [hself2]
  cbv
  try simp only [nc] at *
  rw [hself1]
  cbv
  try simp only [nc] at *
  rw [← hQ]
  exact endD_one rfl rfl
noncomputable def c72 : Code := (Tryz.f72.body).getD .skip
theorem ent72 : Entered Tryz.prog 72 := ⟨_, Tryz.func72, rfl, rfl⟩
theorem T72 {a : List TNode} {xs : List (List D)} (hx : a.map eNode = xs) (hb : totNodeS a ≤ 1099511627776) : CallOk Tryz.prog 72 [.d (.row 3 xs), .d (.row 3 xs)] [] ⟨.d (.sc (.bool true)), [], []⟩ := by
  have ent122_ := ent122
  have T122_ := @T122
  have hb1 : (a.length : Int) + sumF (fun x => totNode x) a ≤ 1099511627776 := hb
  have hsn := sumF_nonneg (fun x => totNode x) a (fun x _ => totNodeS_el x)
  refine CallOk.of_bodyD (body := c72) Tryz.func72 rfl (Nat.le_of_ble_eq_true (by kernel_rfl)) rfl ?_
  refine vc_ok tab_ok mixed ?_
  have hT := tab_ok
  have hm := mixed
  generalize hP : Tryz.prog = P at *
  generalize hA : std = A
  obtain ⟨qbin, qsh, qcmp, qscmp, qbcmp, qbnot, qneg, qwrap, qcat, qssize, qssub, qsget, qlen, qrsub, qapp, qelt, qset, qnth, qdrp, qstr, qint, qbool, qrow, qnat, qnadd, qnsub, qband, qofNat, qstrRow, qmkRow, qmx, qmn, qbytes, qemp⟩ := A
  have hE := Ar.eqs hA
  dsimp only at hE
  generalize hQ : EndD P Tryz.f72.results _ = Q
  have hn := rd_n hx
  have hself : (∀ v : Int, qcmp .neq v v = false) ∧ (∀ v : ByteArray, qscmp .neq v v = false) ∧ (∀ v : Bool, qbnot (qbcmp v v) = false) ∧ qbnot true = false := by
    refine ⟨fun v => ?_, fun v => ?_, fun v => ?_, ?_⟩ <;> simp only [hE, std_neq, std_sneq, std_bcmp, std_not] <;> simp
  obtain ⟨hself1, hself2, hself3, hself4⟩ := hself
  cbv
  try simp only [nc] at *
  rw [hself1]
  cbv
  try simp only [nc] at *
  refine LpW.of (κ := Nat) (fun k => k ≤ a.length) (fun k => a.length - k) (fun k => [(0, .d (.row 3 xs)), (1, .d (.row 3 xs)), (5, .d (.sc (.int .i64 k)))]) (fun _ => []) 0 (by omega) ?_ (by first | rfl | trivial) ?_
  · exact .cons rfl (.cons rfl (.cons rfl (.nil _)))
  · intro k hk
    generalize hi : (k : Int) = i
    refine vc_ok hT hm ?_
    rw [hA]
    cbv
    try simp only [nc] at *
    split
    · rename_i h3
      simp only [hE, List.length_map, std_lss, std_leq, std_gtr, std_geq, std_eql, std_neq, std_len, std_add, std_subI, std_mulI, std_ssize, std_not, std_band, std_bcmp, std_nat, std_ofNat, std_nadd, std_nsub, std_emp, IntKind.wrap_i64, decide_eq_true_eq, decide_eq_false_iff_not, Bool.not_eq_true', Bool.not_eq_false', Option.getD_none, Option.getD_some, hn] at h3
      have hk' : k < a.length := by omega
      cbv
      try simp only [nc] at *
      repeat (refine And.intro (by first | (simp only [hE]; exact rd_inR hx hi hk') | (simp only [hE, rd_elt hx hi hk']; exact ⟨rfl⟩) | (simp only [hE, rd_elt hx hi hk']; exact ⟨Nat.le_of_ble_eq_true rfl⟩)) ?_)
      have hmem := sumF_mem_le (fun x => totNode x) (fun x => totNodeS_el x) (List.getElem_mem hk')
      obtain ⟨wv, hwv⟩ : ∃ w, w = a[k] := ⟨_, rfl⟩
      have hev : qelt xs i = eNode wv := by simp only [hE]; rw [rd_elt hx hi hk', hwv]
      rw [← hwv] at hmem
      obtain ⟨v_id, v_text, v_sure⟩ := wv
      rw [show qint (qnth (qelt xs i) 0) = v_id by rw [hev]; simp only [hE]; rfl, show qstr (qnth (qelt xs i) 1) = v_text by rw [hev]; simp only [hE]; rfl, show qint (qnth (qelt xs i) 2) = v_sure by rw [hev]; simp only [hE]; rfl]
      refine ClW.dd (f := 122) rfl rfl rfl rfl (.cons rfl (.cons rfl .nil)) rfl ent122_ (T122_ (by omega)) rfl ?_
      cbv
      try simp only [nc] at *
      rw [hself4]
      cbv
      try simp only [nc] at *
      refine ⟨k + 1, by omega, by omega, ?_, by trivial⟩
      refine .cons rfl (.cons rfl (.cons ?_ (.nil _)))
      show AV.d (D.sc (Value.int IntKind.i64 (qbin .add .i64 i 1))) = _
      simp only [hE, i_next hi (by omega)]
    · rename_i h3
      simp only [hE, List.length_map, std_lss, std_leq, std_gtr, std_geq, std_eql, std_neq, std_len, std_add, std_subI, std_mulI, std_ssize, std_not, std_band, std_bcmp, std_nat, std_ofNat, std_nadd, std_nsub, std_emp, IntKind.wrap_i64, decide_eq_true_eq, decide_eq_false_iff_not, Bool.not_eq_true', Bool.not_eq_false', Option.getD_none, Option.getD_some, hn] at h3
      cbv
      try simp only [nc] at *
      rw [← hQ]
      exact endD_one rfl rfl
noncomputable def c123 : Code := (Tryz.f123.body).getD .skip
theorem ent123 : Entered Tryz.prog 123 := ⟨_, Tryz.func123, rfl, rfl⟩
theorem T123 {a_name : ByteArray} {a_id : Int} (hb : totEntry ⟨a_name, a_id⟩ ≤ 1099511627776) : CallOk Tryz.prog 123 [.agg [.d (.sc (.string a_name)), .d (.sc (.int .i64 a_id))], .agg [.d (.sc (.string a_name)), .d (.sc (.int .i64 a_id))]] [] ⟨.d (.sc (.bool true)), [], []⟩ := by
  have hb' : (a_name.size : Int) ≤ 1099511627776 := hb
  refine CallOk.of_bodyD (body := c123) Tryz.func123 rfl (Nat.le_of_ble_eq_true (by kernel_rfl)) rfl ?_
  refine vc_ok tab_ok mixed ?_
  have hT := tab_ok
  have hm := mixed
  generalize hP : Tryz.prog = P at *
  generalize hA : std = A
  obtain ⟨qbin, qsh, qcmp, qscmp, qbcmp, qbnot, qneg, qwrap, qcat, qssize, qssub, qsget, qlen, qrsub, qapp, qelt, qset, qnth, qdrp, qstr, qint, qbool, qrow, qnat, qnadd, qnsub, qband, qofNat, qstrRow, qmkRow, qmx, qmn, qbytes, qemp⟩ := A
  have hE := Ar.eqs hA
  dsimp only at hE
  generalize hQ : EndD P Tryz.f123.results _ = Q
  have hself : (∀ v : Int, qcmp .neq v v = false) ∧ (∀ v : ByteArray, qscmp .neq v v = false) ∧ (∀ v : Bool, qbnot (qbcmp v v) = false) ∧ qbnot true = false := by
    refine ⟨fun v => ?_, fun v => ?_, fun v => ?_, ?_⟩ <;> simp only [hE, std_neq, std_sneq, std_bcmp, std_not] <;> simp
  obtain ⟨hself1, hself2, hself3, hself4⟩ := hself
  cbv
  try simp only [nc] at *
  rw [hself2]
  cbv
  try simp only [nc] at *
  rw [hself1]
  cbv
  try simp only [nc] at *
  rw [← hQ]
  exact endD_one rfl rfl
noncomputable def c73 : Code := (Tryz.f73.body).getD .skip
theorem ent73 : Entered Tryz.prog 73 := ⟨_, Tryz.func73, rfl, rfl⟩
theorem T73 {a : List TEntry} {xs : List (List D)} (hx : a.map eEntry = xs) (hb : totEntryS a ≤ 1099511627776) : CallOk Tryz.prog 73 [.d (.row 2 xs), .d (.row 2 xs)] [] ⟨.d (.sc (.bool true)), [], []⟩ := by
  have ent123_ := ent123
  have T123_ := @T123
  have hb1 : (a.length : Int) + sumF (fun x => totEntry x) a ≤ 1099511627776 := hb
  have hsn := sumF_nonneg (fun x => totEntry x) a (fun x _ => totEntryS_el x)
  refine CallOk.of_bodyD (body := c73) Tryz.func73 rfl (Nat.le_of_ble_eq_true (by kernel_rfl)) rfl ?_
  refine vc_ok tab_ok mixed ?_
  have hT := tab_ok
  have hm := mixed
  generalize hP : Tryz.prog = P at *
  generalize hA : std = A
  obtain ⟨qbin, qsh, qcmp, qscmp, qbcmp, qbnot, qneg, qwrap, qcat, qssize, qssub, qsget, qlen, qrsub, qapp, qelt, qset, qnth, qdrp, qstr, qint, qbool, qrow, qnat, qnadd, qnsub, qband, qofNat, qstrRow, qmkRow, qmx, qmn, qbytes, qemp⟩ := A
  have hE := Ar.eqs hA
  dsimp only at hE
  generalize hQ : EndD P Tryz.f73.results _ = Q
  have hn := rd_n hx
  have hself : (∀ v : Int, qcmp .neq v v = false) ∧ (∀ v : ByteArray, qscmp .neq v v = false) ∧ (∀ v : Bool, qbnot (qbcmp v v) = false) ∧ qbnot true = false := by
    refine ⟨fun v => ?_, fun v => ?_, fun v => ?_, ?_⟩ <;> simp only [hE, std_neq, std_sneq, std_bcmp, std_not] <;> simp
  obtain ⟨hself1, hself2, hself3, hself4⟩ := hself
  cbv
  try simp only [nc] at *
  rw [hself1]
  cbv
  try simp only [nc] at *
  refine LpW.of (κ := Nat) (fun k => k ≤ a.length) (fun k => a.length - k) (fun k => [(0, .d (.row 2 xs)), (1, .d (.row 2 xs)), (5, .d (.sc (.int .i64 k)))]) (fun _ => []) 0 (by omega) ?_ (by first | rfl | trivial) ?_
  · exact .cons rfl (.cons rfl (.cons rfl (.nil _)))
  · intro k hk
    generalize hi : (k : Int) = i
    refine vc_ok hT hm ?_
    rw [hA]
    cbv
    try simp only [nc] at *
    split
    · rename_i h3
      simp only [hE, List.length_map, std_lss, std_leq, std_gtr, std_geq, std_eql, std_neq, std_len, std_add, std_subI, std_mulI, std_ssize, std_not, std_band, std_bcmp, std_nat, std_ofNat, std_nadd, std_nsub, std_emp, IntKind.wrap_i64, decide_eq_true_eq, decide_eq_false_iff_not, Bool.not_eq_true', Bool.not_eq_false', Option.getD_none, Option.getD_some, hn] at h3
      have hk' : k < a.length := by omega
      cbv
      try simp only [nc] at *
      repeat (refine And.intro (by first | (simp only [hE]; exact rd_inR hx hi hk') | (simp only [hE, rd_elt hx hi hk']; exact ⟨rfl⟩) | (simp only [hE, rd_elt hx hi hk']; exact ⟨Nat.le_of_ble_eq_true rfl⟩)) ?_)
      have hmem := sumF_mem_le (fun x => totEntry x) (fun x => totEntryS_el x) (List.getElem_mem hk')
      obtain ⟨wv, hwv⟩ : ∃ w, w = a[k] := ⟨_, rfl⟩
      have hev : qelt xs i = eEntry wv := by simp only [hE]; rw [rd_elt hx hi hk', hwv]
      rw [← hwv] at hmem
      obtain ⟨v_name, v_id⟩ := wv
      rw [show qstr (qnth (qelt xs i) 0) = v_name by rw [hev]; simp only [hE]; rfl, show qint (qnth (qelt xs i) 1) = v_id by rw [hev]; simp only [hE]; rfl]
      refine ClW.dd (f := 123) rfl rfl rfl rfl (.cons rfl (.cons rfl .nil)) rfl ent123_ (T123_ (by omega)) rfl ?_
      cbv
      try simp only [nc] at *
      rw [hself4]
      cbv
      try simp only [nc] at *
      refine ⟨k + 1, by omega, by omega, ?_, by trivial⟩
      refine .cons rfl (.cons rfl (.cons ?_ (.nil _)))
      show AV.d (D.sc (Value.int IntKind.i64 (qbin .add .i64 i 1))) = _
      simp only [hE, i_next hi (by omega)]
    · rename_i h3
      simp only [hE, List.length_map, std_lss, std_leq, std_gtr, std_geq, std_eql, std_neq, std_len, std_add, std_subI, std_mulI, std_ssize, std_not, std_band, std_bcmp, std_nat, std_ofNat, std_nadd, std_nsub, std_emp, IntKind.wrap_i64, decide_eq_true_eq, decide_eq_false_iff_not, Bool.not_eq_true', Bool.not_eq_false', Option.getD_none, Option.getD_some, hn] at h3
      cbv
      try simp only [nc] at *
      rw [← hQ]
      exact endD_one rfl rfl
noncomputable def c26 : Code := (Tryz.f26.body).getD .skip
theorem ent26 : Entered Tryz.prog 26 := ⟨_, Tryz.func26, rfl, rfl⟩
theorem T26 {a : List ByteArray} {xs : List (List D)} (hx : a.map cS = xs) (hb : totStringS a ≤ 1099511627776) : CallOk Tryz.prog 26 [.d (.row 1 xs), .d (.row 1 xs)] [] ⟨.d (.sc (.bool true)), [], []⟩ := by
  have hb1 : (a.length : Int) + sumF (fun x => (x.size : Int)) a ≤ 1099511627776 := hb
  have hsn := sumF_nonneg (fun x => (x.size : Int)) a (fun x _ => totStringS_el x)
  refine CallOk.of_bodyD (body := c26) Tryz.func26 rfl (Nat.le_of_ble_eq_true (by kernel_rfl)) rfl ?_
  refine vc_ok tab_ok mixed ?_
  have hT := tab_ok
  have hm := mixed
  generalize hP : Tryz.prog = P at *
  generalize hA : std = A
  obtain ⟨qbin, qsh, qcmp, qscmp, qbcmp, qbnot, qneg, qwrap, qcat, qssize, qssub, qsget, qlen, qrsub, qapp, qelt, qset, qnth, qdrp, qstr, qint, qbool, qrow, qnat, qnadd, qnsub, qband, qofNat, qstrRow, qmkRow, qmx, qmn, qbytes, qemp⟩ := A
  have hE := Ar.eqs hA
  dsimp only at hE
  generalize hQ : EndD P Tryz.f26.results _ = Q
  have hn := rd_n hx
  have hself : (∀ v : Int, qcmp .neq v v = false) ∧ (∀ v : ByteArray, qscmp .neq v v = false) ∧ (∀ v : Bool, qbnot (qbcmp v v) = false) ∧ qbnot true = false := by
    refine ⟨fun v => ?_, fun v => ?_, fun v => ?_, ?_⟩ <;> simp only [hE, std_neq, std_sneq, std_bcmp, std_not] <;> simp
  obtain ⟨hself1, hself2, hself3, hself4⟩ := hself
  cbv
  try simp only [nc] at *
  rw [hself1]
  cbv
  try simp only [nc] at *
  refine LpW.of (κ := Nat) (fun k => k ≤ a.length) (fun k => a.length - k) (fun k => [(0, .d (.row 1 xs)), (1, .d (.row 1 xs)), (5, .d (.sc (.int .i64 k)))]) (fun _ => []) 0 (by omega) ?_ (by first | rfl | trivial) ?_
  · exact .cons rfl (.cons rfl (.cons rfl (.nil _)))
  · intro k hk
    generalize hi : (k : Int) = i
    refine vc_ok hT hm ?_
    rw [hA]
    cbv
    try simp only [nc] at *
    split
    · rename_i h3
      simp only [hE, List.length_map, std_lss, std_leq, std_gtr, std_geq, std_eql, std_neq, std_len, std_add, std_subI, std_mulI, std_ssize, std_not, std_band, std_bcmp, std_nat, std_ofNat, std_nadd, std_nsub, std_emp, IntKind.wrap_i64, decide_eq_true_eq, decide_eq_false_iff_not, Bool.not_eq_true', Bool.not_eq_false', Option.getD_none, Option.getD_some, hn] at h3
      have hk' : k < a.length := by omega
      cbv
      try simp only [nc] at *
      repeat (refine And.intro (by first | (simp only [hE]; exact rd_inR hx hi hk') | (simp only [hE, rd_elt hx hi hk']; exact ⟨rfl⟩) | (simp only [hE, rd_elt hx hi hk']; exact ⟨Nat.le_of_ble_eq_true rfl⟩)) ?_)
      rw [hself2]
      cbv
      try simp only [nc] at *
      refine ⟨k + 1, by omega, by omega, ?_, by trivial⟩
      refine .cons rfl (.cons rfl (.cons ?_ (.nil _)))
      show AV.d (D.sc (Value.int IntKind.i64 (qbin .add .i64 i 1))) = _
      simp only [hE, i_next hi (by omega)]
    · rename_i h3
      simp only [hE, List.length_map, std_lss, std_leq, std_gtr, std_geq, std_eql, std_neq, std_len, std_add, std_subI, std_mulI, std_ssize, std_not, std_band, std_bcmp, std_nat, std_ofNat, std_nadd, std_nsub, std_emp, IntKind.wrap_i64, decide_eq_true_eq, decide_eq_false_iff_not, Bool.not_eq_true', Bool.not_eq_false', Option.getD_none, Option.getD_some, hn] at h3
      cbv
      try simp only [nc] at *
      rw [← hQ]
      exact endD_one rfl rfl
noncomputable def c21 : Code := (Tryz.f21.body).getD .skip
theorem ent21 : Entered Tryz.prog 21 := ⟨_, Tryz.func21, rfl, rfl⟩
theorem T21 {a_nodes : List TNode} {xa_nodes : List (List D)} (ha_nodes : a_nodes.map eNode = xa_nodes) {a_entries : List TEntry} {xa_entries : List (List D)} (ha_entries : a_entries.map eEntry = xa_entries) {a_old : List TEntry} {xa_old : List (List D)} (ha_old : a_old.map eEntry = xa_old) {a_steps : List ByteArray} {xa_steps : List (List D)} (ha_steps : a_steps.map cS = xa_steps) {a_room : Int} {a_next : Int} (hb : totDisk ⟨a_nodes, a_entries, a_old, a_steps, a_room, a_next⟩ ≤ 1099511627776) : CallOk Tryz.prog 21 [.agg [.d (.row 3 xa_nodes), .d (.row 2 xa_entries), .d (.row 2 xa_old), .d (.row 1 xa_steps), .d (.sc (.int .i64 a_room)), .d (.sc (.int .i64 a_next))], .agg [.d (.row 3 xa_nodes), .d (.row 2 xa_entries), .d (.row 2 xa_old), .d (.row 1 xa_steps), .d (.sc (.int .i64 a_room)), .d (.sc (.int .i64 a_next))]] [] ⟨.d (.sc (.bool true)), [], []⟩ := by
  have ent26_ := ent26
  have T26_ := @T26
  have ent72_ := ent72
  have T72_ := @T72
  have ent73_ := ent73
  have T73_ := @T73
  have nna_nodes := totNodeS_nn a_nodes
  have nna_entries := totEntryS_nn a_entries
  have nna_old := totEntryS_nn a_old
  have nna_steps := totStringS_nn a_steps
  have hb' : totNodeS a_nodes + totEntryS a_entries + totEntryS a_old + totStringS a_steps ≤ 1099511627776 := hb
  refine CallOk.of_bodyD (body := c21) Tryz.func21 rfl (Nat.le_of_ble_eq_true (by kernel_rfl)) rfl ?_
  refine vc_ok tab_ok mixed ?_
  have hT := tab_ok
  have hm := mixed
  generalize hP : Tryz.prog = P at *
  generalize hA : std = A
  obtain ⟨qbin, qsh, qcmp, qscmp, qbcmp, qbnot, qneg, qwrap, qcat, qssize, qssub, qsget, qlen, qrsub, qapp, qelt, qset, qnth, qdrp, qstr, qint, qbool, qrow, qnat, qnadd, qnsub, qband, qofNat, qstrRow, qmkRow, qmx, qmn, qbytes, qemp⟩ := A
  have hE := Ar.eqs hA
  dsimp only at hE
  generalize hQ : EndD P Tryz.f21.results _ = Q
  have hself : (∀ v : Int, qcmp .neq v v = false) ∧ (∀ v : ByteArray, qscmp .neq v v = false) ∧ (∀ v : Bool, qbnot (qbcmp v v) = false) ∧ qbnot true = false := by
    refine ⟨fun v => ?_, fun v => ?_, fun v => ?_, ?_⟩ <;> simp only [hE, std_neq, std_sneq, std_bcmp, std_not] <;> simp
  obtain ⟨hself1, hself2, hself3, hself4⟩ := hself
  cbv
  try simp only [nc] at *
  refine ClW.dd (f := 72) rfl rfl rfl rfl (.cons rfl (.cons rfl .nil)) rfl ent72_ (T72_ ha_nodes (by omega)) rfl ?_
  cbv
  try simp only [nc] at *
  rw [hself4]
  cbv
  try simp only [nc] at *
  refine ClW.dd (f := 73) rfl rfl rfl rfl (.cons rfl (.cons rfl .nil)) rfl ent73_ (T73_ ha_entries (by omega)) rfl ?_
  cbv
  try simp only [nc] at *
  rw [hself4]
  cbv
  try simp only [nc] at *
  refine ClW.dd (f := 73) rfl rfl rfl rfl (.cons rfl (.cons rfl .nil)) rfl ent73_ (T73_ ha_old (by omega)) rfl ?_
  cbv
  try simp only [nc] at *
  rw [hself4]
  cbv
  try simp only [nc] at *
  refine ClW.dd (f := 26) rfl rfl rfl rfl (.cons rfl (.cons rfl .nil)) rfl ent26_ (T26_ ha_steps (by omega)) rfl ?_
  cbv
  try simp only [nc] at *
  rw [hself4]
  cbv
  try simp only [nc] at *
  rw [hself1]
  cbv
  try simp only [nc] at *
  rw [hself1]
  cbv
  try simp only [nc] at *
  rw [← hQ]
  exact endD_one rfl rfl
end Go.Proofs.YtmhinjjgpabkfaaGreatDoor.Ab
