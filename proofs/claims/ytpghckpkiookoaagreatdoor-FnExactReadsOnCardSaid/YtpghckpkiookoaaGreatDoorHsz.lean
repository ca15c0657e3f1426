/- What functions of the program come to, for all arguments in the given bounds. -/
import Derived.Test.YtpghckpkiookoaaGreatDoorH
set_option linter.unusedVariables false
set_option linter.unusedSimpArgs false
namespace Go.Proofs.YtpghckpkiookoaaGreatDoor.Ab
open Go Go.Proofs
set_option maxRecDepth 20000
set_option linter.unusedVariables false
noncomputable def c76 : Code := (Tryz.f76.body).getD .skip
theorem ent76 : Entered Tryz.prog 76 := ⟨_, Tryz.func76, rfl, rfl⟩
theorem T76 {a_id : Int} {a_text : ByteArray} {a_sure : Int} {left : Int} (h0 : 0 ≤ left) (h1 : left < 2 ^ 40) (hok : okNode ⟨a_id, a_text, a_sure⟩) :
    CallOk Tryz.prog 76 [.agg [.d (.sc (.int .i64 a_id)), .d (.sc (.string a_text)), .d (.sc (.int .i64 a_sure))], .d (.sc (.int .i64 left))] [] ⟨.d (.sc (.int .i64 (szOf (totNode ⟨a_id, a_text, a_sure⟩) left))), [], []⟩ := by
  refine CallOk.of_bodyD (body := c76) Tryz.func76 rfl (Nat.le_of_ble_eq_true (by kernel_rfl)) rfl ?_
  refine vc_ok tab_ok mixed ?_
  have hT := tab_ok
  have hm := mixed
  generalize hP : Tryz.prog = P at *
  generalize hA : std = A
  obtain ⟨qbin, qsh, qcmp, qscmp, qbcmp, qbnot, qneg, qwrap, qcat, qssize, qssub, qsget, qlen, qrsub, qapp, qelt, qset, qnth, qdrp, qstr, qint, qbool, qrow, qnat, qnadd, qnsub, qband, qofNat, qstrRow, qmkRow, qmx, qmn, qbytes, qemp⟩ := A
  have hE := Ar.eqs hA
  dsimp only at hE
  generalize hQ : EndD P Tryz.f76.results _ = Q
  have hok' : a_text.size < 2 ^ 47 := hok
  generalize hto : totNode ⟨a_id, a_text, a_sure⟩ = to at *
  have hto' : (a_text.size : Int) = to := hto
  clear hok hto
  have k0 := hok'
  cbv
  try simp only [nc] at *
  obtain ⟨l0, hl0⟩ : ∃ l, l = left - (a_text.size : Int) := ⟨_, rfl⟩
  rw [show qbin .sub .i64 left (qssize a_text) = l0 by simp only [hE, List.length_map, std_lss, std_leq, std_gtr, std_geq, std_eql, std_neq, std_len, std_add, std_subI, std_mulI, std_ssize, std_not, std_band, std_bcmp, std_nat, std_ofNat, std_nadd, std_nsub, std_emp, IntKind.wrap_i64, decide_eq_true_eq, decide_eq_false_iff_not, Bool.not_eq_true', Bool.not_eq_false', Option.getD_none, Option.getD_some, ]; omega]
  split
  · rename_i h2
    simp only [hE, List.length_map, std_lss, std_leq, std_gtr, std_geq, std_eql, std_neq, std_len, std_add, std_subI, std_mulI, std_ssize, std_not, std_band, std_bcmp, std_nat, std_ofNat, std_nadd, std_nsub, std_emp, IntKind.wrap_i64, decide_eq_true_eq, decide_eq_false_iff_not, Bool.not_eq_true', Bool.not_eq_false', Option.getD_none, Option.getD_some] at h2
    cbv
    try simp only [nc] at *
    rw [← hQ, show szOf to left = -1 by unfold szOf; rw [if_neg (by omega)]]
    exact endD_one rfl rfl
  rename_i h20
  simp only [hE, List.length_map, std_lss, std_leq, std_gtr, std_geq, std_eql, std_neq, std_len, std_add, std_subI, std_mulI, std_ssize, std_not, std_band, std_bcmp, std_nat, std_ofNat, std_nadd, std_nsub, std_emp, IntKind.wrap_i64, decide_eq_true_eq, decide_eq_false_iff_not, Bool.not_eq_true', Bool.not_eq_false', Option.getD_none, Option.getD_some] at h20
  cbv
  try simp only [nc] at *
  rw [← hQ, show szOf to left = l0 by unfold szOf; rw [if_pos (by omega)]; omega]
  exact endD_one rfl rfl
noncomputable def c36 : Code := (Tryz.f36.body).getD .skip
theorem ent36 : Entered Tryz.prog 36 := ⟨_, Tryz.func36, rfl, rfl⟩
theorem T36 {a : List TNode} {xs : List (List D)} (hx : a.map eNode = xs) {left : Int} (h0 : 0 ≤ left) (h1 : left < 2 ^ 40) (hok : okNodeS a) :
    CallOk Tryz.prog 36 [.d (.row 3 xs), .d (.sc (.int .i64 left))] [] ⟨.d (.sc (.int .i64 (szOf (totNodeS a) left))), [], []⟩ := by
  have ent76_ := ent76
  have T76_ := @T76
  obtain ⟨ha, hs⟩ := hok
  refine CallOk.of_bodyD (body := c36) Tryz.func36 rfl (Nat.le_of_ble_eq_true (by kernel_rfl)) rfl ?_
  refine vc_ok tab_ok mixed ?_
  have hT := tab_ok
  have hm := mixed
  generalize hP : Tryz.prog = P at *
  generalize hA : std = A
  obtain ⟨qbin, qsh, qcmp, qscmp, qbcmp, qbnot, qneg, qwrap, qcat, qssize, qssub, qsget, qlen, qrsub, qapp, qelt, qset, qnth, qdrp, qstr, qint, qbool, qrow, qnat, qnadd, qnsub, qband, qofNat, qstrRow, qmkRow, qmx, qmn, qbytes, qemp⟩ := A
  have hE := Ar.eqs hA
  dsimp only at hE
  generalize hQ : EndD P Tryz.f36.results _ = Q
  have hn := rd_n hx
  cbv
  try simp only [nc] at *
  split
  · rename_i h2
    simp only [hE, List.length_map, std_lss, std_leq, std_gtr, std_geq, std_eql, std_neq, std_len, std_add, std_subI, std_mulI, std_ssize, std_not, std_band, std_bcmp, std_nat, std_ofNat, std_nadd, std_nsub, std_emp, IntKind.wrap_i64, decide_eq_true_eq, decide_eq_false_iff_not, Bool.not_eq_true', Bool.not_eq_false', Option.getD_none, Option.getD_some, hn] at h2
    cbv
    try simp only [nc] at *
    have := sumF_nonneg (fun x => totNode x) a (fun x _ => totNodeS_el x)
    rw [← hQ, show szOf (totNodeS a) left = -1 by unfold szOf totNodeS; rw [if_neg (by omega)]]
    exact endD_one rfl rfl
  · rename_i h2
    simp only [hE, List.length_map, std_lss, std_leq, std_gtr, std_geq, std_eql, std_neq, std_len, std_add, std_subI, std_mulI, std_ssize, std_not, std_band, std_bcmp, std_nat, std_ofNat, std_nadd, std_nsub, std_emp, IntKind.wrap_i64, decide_eq_true_eq, decide_eq_false_iff_not, Bool.not_eq_true', Bool.not_eq_false', Option.getD_none, Option.getD_some, hn] at h2
    cbv
    try simp only [nc] at *
    refine LpW.of (κ := Nat) (fun k => k ≤ a.length ∧ 0 ≤ left - (a.length + sumF (fun x => totNode x) (a.take k))) (fun k => a.length - k) (fun k => [(0, .d (.row 3 xs)), (1, .d (.sc (.int .i64 (left - (a.length + sumF (fun x => totNode x) (a.take k)))))), (5, .d (.sc (.int .i64 k)))]) (fun _ => []) 0 ⟨by omega, by simp [sumF]; omega⟩ ?_ (by first | rfl | trivial) ?_
    · refine .cons rfl (.cons ?_ (.cons rfl (.nil _)))
      show AV.d (D.sc (Value.int IntKind.i64 (qbin .sub .i64 left (qlen xs)))) = _
      rw [show qbin .sub .i64 left (qlen xs) = left - a.length by simp only [hE, List.length_map, std_lss, std_leq, std_gtr, std_geq, std_eql, std_neq, std_len, std_add, std_subI, std_mulI, std_ssize, std_not, std_band, std_bcmp, std_nat, std_ofNat, std_nadd, std_nsub, std_emp, IntKind.wrap_i64, decide_eq_true_eq, decide_eq_false_iff_not, Bool.not_eq_true', Bool.not_eq_false', Option.getD_none, Option.getD_some, hn]; omega]
      simp [sumF]
    · rintro k ⟨hk, hl⟩
      generalize hleft : left - (a.length + sumF (fun x => totNode x) (a.take k)) = l at *
      generalize hi : (k : Int) = i
      refine vc_ok hT hm ?_
      rw [hA]
      cbv
      try simp only [nc] at *
      split
      · rename_i h3
        simp only [hE, List.length_map, std_lss, std_leq, std_gtr, std_geq, std_eql, std_neq, std_len, std_add, std_subI, std_mulI, std_ssize, std_not, std_band, std_bcmp, std_nat, std_ofNat, std_nadd, std_nsub, std_emp, IntKind.wrap_i64, decide_eq_true_eq, decide_eq_false_iff_not, Bool.not_eq_true', Bool.not_eq_false', Option.getD_none, Option.getD_some, hn] at h3
        have hk' : k < a.length := by omega
        have hsz := hs a[k] (List.getElem_mem hk')
        have hp := sumF_nonneg (fun x => totNode x) (a.take k) (fun x _ => totNodeS_el x)
        have hsum := sumF_succ (fun x => totNode x) a hk'
        have hle := sumF_take_le (fun x => totNode x) a (fun x _ => totNodeS_el x) (k + 1)
        have hel := totNodeS_el a[k]
        cbv
        try simp only [nc] at *
        repeat (refine And.intro (by first | (simp only [hE]; exact rd_inR hx hi hk') | (simp only [hE, rd_elt hx hi hk']; exact ⟨rfl⟩) | (simp only [hE, rd_elt hx hi hk']; exact ⟨Nat.le_of_ble_eq_true rfl⟩)) ?_)
        obtain ⟨wv, hwv⟩ : ∃ w, w = a[k] := ⟨_, rfl⟩
        have hev : qelt xs i = eNode wv := by simp only [hE]; rw [rd_elt hx hi hk', hwv]
        rw [← hwv] at hsz hsum hel
        obtain ⟨v_id, v_text, v_sure⟩ := wv
        rw [show qint (qnth (qelt xs i) 0) = v_id by rw [hev]; simp only [hE]; rfl, show qstr (qnth (qelt xs i) 1) = v_text by rw [hev]; simp only [hE]; rfl, show qint (qnth (qelt xs i) 2) = v_sure by rw [hev]; simp only [hE]; rfl]
        refine ClW.dd (f := 76) rfl rfl rfl rfl (.cons rfl (.cons rfl .nil)) rfl ent76_ (T76_ (by omega) (by omega) hsz) rfl ?_
        generalize hl' : szOf (totNode (⟨v_id, v_text, v_sure⟩ : TNode)) l = l'
        cbv
        try simp only [nc] at *
        split
        · rename_i h4
          simp only [hE, List.length_map, std_lss, std_leq, std_gtr, std_geq, std_eql, std_neq, std_len, std_add, std_subI, std_mulI, std_ssize, std_not, std_band, std_bcmp, std_nat, std_ofNat, std_nadd, std_nsub, std_emp, IntKind.wrap_i64, decide_eq_true_eq, decide_eq_false_iff_not, Bool.not_eq_true', Bool.not_eq_false', Option.getD_none, Option.getD_some] at h4
          cbv
          try simp only [nc] at *
          have hb : ¬ totNode (⟨v_id, v_text, v_sure⟩ : TNode) ≤ l := by intro hle'; unfold szOf at hl'; rw [if_pos hle'] at hl'; omega
          rw [← hQ, show szOf (totNodeS a) left = -1 by unfold szOf totNodeS; rw [if_neg (by omega)]]
          exact endD_one rfl rfl
        · rename_i h4
          simp only [hE, List.length_map, std_lss, std_leq, std_gtr, std_geq, std_eql, std_neq, std_len, std_add, std_subI, std_mulI, std_ssize, std_not, std_band, std_bcmp, std_nat, std_ofNat, std_nadd, std_nsub, std_emp, IntKind.wrap_i64, decide_eq_true_eq, decide_eq_false_iff_not, Bool.not_eq_true', Bool.not_eq_false', Option.getD_none, Option.getD_some] at h4
          obtain ⟨g, g'⟩ := szOf_ge (t := totNode (⟨v_id, v_text, v_sure⟩ : TNode)) (left := l) (by omega)
          cbv
          try simp only [nc] at *
          refine ⟨k + 1, ⟨by omega, by omega⟩, by omega, ?_, by trivial⟩
          refine .cons rfl (.cons ?_ (.cons ?_ (.nil _)))
          · rw [show left - (a.length + sumF (fun x => totNode x) (a.take (k + 1))) = l' by omega]
            rfl
          · show AV.d (D.sc (Value.int IntKind.i64 (qbin .add .i64 i 1))) = _
            rw [show qbin .add .i64 i 1 = ((k + 1 : Nat) : Int) by simp only [hE, List.length_map, std_lss, std_leq, std_gtr, std_geq, std_eql, std_neq, std_len, std_add, std_subI, std_mulI, std_ssize, std_not, std_band, std_bcmp, std_nat, std_ofNat, std_nadd, std_nsub, std_emp, IntKind.wrap_i64, decide_eq_true_eq, decide_eq_false_iff_not, Bool.not_eq_true', Bool.not_eq_false', Option.getD_none, Option.getD_some, ]; omega]
      · rename_i h3
        simp only [hE, List.length_map, std_lss, std_leq, std_gtr, std_geq, std_eql, std_neq, std_len, std_add, std_subI, std_mulI, std_ssize, std_not, std_band, std_bcmp, std_nat, std_ofNat, std_nadd, std_nsub, std_emp, IntKind.wrap_i64, decide_eq_true_eq, decide_eq_false_iff_not, Bool.not_eq_true', Bool.not_eq_false', Option.getD_none, Option.getD_some, hn] at h3
        cbv
        try simp only [nc] at *
        have hk' : k = a.length := by omega
        subst hk'
        rw [List.take_length] at hleft
        rw [← hQ, show szOf (totNodeS a) left = l by unfold szOf totNodeS; rw [if_pos (by omega)]; omega]
        exact endD_one rfl rfl
noncomputable def c77 : Code := (Tryz.f77.body).getD .skip
theorem ent77 : Entered Tryz.prog 77 := ⟨_, Tryz.func77, rfl, rfl⟩
theorem T77 {a_name : ByteArray} {a_id : Int} {left : Int} (h0 : 0 ≤ left) (h1 : left < 2 ^ 40) (hok : okEntry ⟨a_name, a_id⟩) :
    CallOk Tryz.prog 77 [.agg [.d (.sc (.string a_name)), .d (.sc (.int .i64 a_id))], .d (.sc (.int .i64 left))] [] ⟨.d (.sc (.int .i64 (szOf (totEntry ⟨a_name, a_id⟩) left))), [], []⟩ := by
  refine CallOk.of_bodyD (body := c77) Tryz.func77 rfl (Nat.le_of_ble_eq_true (by kernel_rfl)) rfl ?_
  refine vc_ok tab_ok mixed ?_
  have hT := tab_ok
  have hm := mixed
  generalize hP : Tryz.prog = P at *
  generalize hA : std = A
  obtain ⟨qbin, qsh, qcmp, qscmp, qbcmp, qbnot, qneg, qwrap, qcat, qssize, qssub, qsget, qlen, qrsub, qapp, qelt, qset, qnth, qdrp, qstr, qint, qbool, qrow, qnat, qnadd, qnsub, qband, qofNat, qstrRow, qmkRow, qmx, qmn, qbytes, qemp⟩ := A
  have hE := Ar.eqs hA
  dsimp only at hE
  generalize hQ : EndD P Tryz.f77.results _ = Q
  have hok' : a_name.size < 2 ^ 47 := hok
  generalize hto : totEntry ⟨a_name, a_id⟩ = to at *
  have hto' : (a_name.size : Int) = to := hto
  clear hok hto
  have k0 := hok'
  cbv
  try simp only [nc] at *
  obtain ⟨l0, hl0⟩ : ∃ l, l = left - (a_name.size : Int) := ⟨_, rfl⟩
  rw [show qbin .sub .i64 left (qssize a_name) = l0 by simp only [hE, List.length_map, std_lss, std_leq, std_gtr, std_geq, std_eql, std_neq, std_len, std_add, std_subI, std_mulI, std_ssize, std_not, std_band, std_bcmp, std_nat, std_ofNat, std_nadd, std_nsub, std_emp, IntKind.wrap_i64, decide_eq_true_eq, decide_eq_false_iff_not, Bool.not_eq_true', Bool.not_eq_false', Option.getD_none, Option.getD_some, ]; omega]
  split
  · rename_i h2
    simp only [hE, List.length_map, std_lss, std_leq, std_gtr, std_geq, std_eql, std_neq, std_len, std_add, std_subI, std_mulI, std_ssize, std_not, std_band, std_bcmp, std_nat, std_ofNat, std_nadd, std_nsub, std_emp, IntKind.wrap_i64, decide_eq_true_eq, decide_eq_false_iff_not, Bool.not_eq_true', Bool.not_eq_false', Option.getD_none, Option.getD_some] at h2
    cbv
    try simp only [nc] at *
    rw [← hQ, show szOf to left = -1 by unfold szOf; rw [if_neg (by omega)]]
    exact endD_one rfl rfl
  rename_i h20
  simp only [hE, List.length_map, std_lss, std_leq, std_gtr, std_geq, std_eql, std_neq, std_len, std_add, std_subI, std_mulI, std_ssize, std_not, std_band, std_bcmp, std_nat, std_ofNat, std_nadd, std_nsub, std_emp, IntKind.wrap_i64, decide_eq_true_eq, decide_eq_false_iff_not, Bool.not_eq_true', Bool.not_eq_false', Option.getD_none, Option.getD_some] at h20
  cbv
  try simp only [nc] at *
  rw [← hQ, show szOf to left = l0 by unfold szOf; rw [if_pos (by omega)]; omega]
  exact endD_one rfl rfl
noncomputable def c37 : Code := (Tryz.f37.body).getD .skip
theorem ent37 : Entered Tryz.prog 37 := ⟨_, Tryz.func37, rfl, rfl⟩
theorem T37 {a : List TEntry} {xs : List (List D)} (hx : a.map eEntry = xs) {left : Int} (h0 : 0 ≤ left) (h1 : left < 2 ^ 40) (hok : okEntryS a) :
    CallOk Tryz.prog 37 [.d (.row 2 xs), .d (.sc (.int .i64 left))] [] ⟨.d (.sc (.int .i64 (szOf (totEntryS a) left))), [], []⟩ := by
  have ent77_ := ent77
  have T77_ := @T77
  obtain ⟨ha, hs⟩ := hok
  refine CallOk.of_bodyD (body := c37) Tryz.func37 rfl (Nat.le_of_ble_eq_true (by kernel_rfl)) rfl ?_
  refine vc_ok tab_ok mixed ?_
  have hT := tab_ok
  have hm := mixed
  generalize hP : Tryz.prog = P at *
  generalize hA : std = A
  obtain ⟨qbin, qsh, qcmp, qscmp, qbcmp, qbnot, qneg, qwrap, qcat, qssize, qssub, qsget, qlen, qrsub, qapp, qelt, qset, qnth, qdrp, qstr, qint, qbool, qrow, qnat, qnadd, qnsub, qband, qofNat, qstrRow, qmkRow, qmx, qmn, qbytes, qemp⟩ := A
  have hE := Ar.eqs hA
  dsimp only at hE
  generalize hQ : EndD P Tryz.f37.results _ = Q
  have hn := rd_n hx
  cbv
  try simp only [nc] at *
  split
  · rename_i h2
    simp only [hE, List.length_map, std_lss, std_leq, std_gtr, std_geq, std_eql, std_neq, std_len, std_add, std_subI, std_mulI, std_ssize, std_not, std_band, std_bcmp, std_nat, std_ofNat, std_nadd, std_nsub, std_emp, IntKind.wrap_i64, decide_eq_true_eq, decide_eq_false_iff_not, Bool.not_eq_true', Bool.not_eq_false', Option.getD_none, Option.getD_some, hn] at h2
    cbv
    try simp only [nc] at *
    have := sumF_nonneg (fun x => totEntry x) a (fun x _ => totEntryS_el x)
    rw [← hQ, show szOf (totEntryS a) left = -1 by unfold szOf totEntryS; rw [if_neg (by omega)]]
    exact endD_one rfl rfl
  · rename_i h2
    simp only [hE, List.length_map, std_lss, std_leq, std_gtr, std_geq, std_eql, std_neq, std_len, std_add, std_subI, std_mulI, std_ssize, std_not, std_band, std_bcmp, std_nat, std_ofNat, std_nadd, std_nsub, std_emp, IntKind.wrap_i64, decide_eq_true_eq, decide_eq_false_iff_not, Bool.not_eq_true', Bool.not_eq_false', Option.getD_none, Option.getD_some, hn] at h2
    cbv
    try simp only [nc] at *
    refine LpW.of (κ := Nat) (fun k => k ≤ a.length ∧ 0 ≤ left - (a.length + sumF (fun x => totEntry x) (a.take k))) (fun k => a.length - k) (fun k => [(0, .d (.row 2 xs)), (1, .d (.sc (.int .i64 (left - (a.length + sumF (fun x => totEntry x) (a.take k)))))), (5, .d (.sc (.int .i64 k)))]) (fun _ => []) 0 ⟨by omega, by simp [sumF]; omega⟩ ?_ (by first | rfl | trivial) ?_
    · refine .cons rfl (.cons ?_ (.cons rfl (.nil _)))
      show AV.d (D.sc (Value.int IntKind.i64 (qbin .sub .i64 left (qlen xs)))) = _
      rw [show qbin .sub .i64 left (qlen xs) = left - a.length by simp only [hE, List.length_map, std_lss, std_leq, std_gtr, std_geq, std_eql, std_neq, std_len, std_add, std_subI, std_mulI, std_ssize, std_not, std_band, std_bcmp, std_nat, std_ofNat, std_nadd, std_nsub, std_emp, IntKind.wrap_i64, decide_eq_true_eq, decide_eq_false_iff_not, Bool.not_eq_true', Bool.not_eq_false', Option.getD_none, Option.getD_some, hn]; omega]
      simp [sumF]
    · rintro k ⟨hk, hl⟩
      generalize hleft : left - (a.length + sumF (fun x => totEntry x) (a.take k)) = l at *
      generalize hi : (k : Int) = i
      refine vc_ok hT hm ?_
      rw [hA]
      cbv
      try simp only [nc] at *
      split
      · rename_i h3
        simp only [hE, List.length_map, std_lss, std_leq, std_gtr, std_geq, std_eql, std_neq, std_len, std_add, std_subI, std_mulI, std_ssize, std_not, std_band, std_bcmp, std_nat, std_ofNat, std_nadd, std_nsub, std_emp, IntKind.wrap_i64, decide_eq_true_eq, decide_eq_false_iff_not, Bool.not_eq_true', Bool.not_eq_false', Option.getD_none, Option.getD_some, hn] at h3
        have hk' : k < a.length := by omega
        have hsz := hs a[k] (List.getElem_mem hk')
        have hp := sumF_nonneg (fun x => totEntry x) (a.take k) (fun x _ => totEntryS_el x)
        have hsum := sumF_succ (fun x => totEntry x) a hk'
        have hle := sumF_take_le (fun x => totEntry x) a (fun x _ => totEntryS_el x) (k + 1)
        have hel := totEntryS_el a[k]
        cbv
        try simp only [nc] at *
        repeat (refine And.intro (by first | (simp only [hE]; exact rd_inR hx hi hk') | (simp only [hE, rd_elt hx hi hk']; exact ⟨rfl⟩) | (simp only [hE, rd_elt hx hi hk']; exact ⟨Nat.le_of_ble_eq_true rfl⟩)) ?_)
        obtain ⟨wv, hwv⟩ : ∃ w, w = a[k] := ⟨_, rfl⟩
        have hev : qelt xs i = eEntry wv := by simp only [hE]; rw [rd_elt hx hi hk', hwv]
        rw [← hwv] at hsz hsum hel
        obtain ⟨v_name, v_id⟩ := wv
        rw [show qstr (qnth (qelt xs i) 0) = v_name by rw [hev]; simp only [hE]; rfl, show qint (qnth (qelt xs i) 1) = v_id by rw [hev]; simp only [hE]; rfl]
        refine ClW.dd (f := 77) rfl rfl rfl rfl (.cons rfl (.cons rfl .nil)) rfl ent77_ (T77_ (by omega) (by omega) hsz) rfl ?_
        generalize hl' : szOf (totEntry (⟨v_name, v_id⟩ : TEntry)) l = l'
        cbv
        try simp only [nc] at *
        split
        · rename_i h4
          simp only [hE, List.length_map, std_lss, std_leq, std_gtr, std_geq, std_eql, std_neq, std_len, std_add, std_subI, std_mulI, std_ssize, std_not, std_band, std_bcmp, std_nat, std_ofNat, std_nadd, std_nsub, std_emp, IntKind.wrap_i64, decide_eq_true_eq, decide_eq_false_iff_not, Bool.not_eq_true', Bool.not_eq_false', Option.getD_none, Option.getD_some] at h4
          cbv
          try simp only [nc] at *
          have hb : ¬ totEntry (⟨v_name, v_id⟩ : TEntry) ≤ l := by intro hle'; unfold szOf at hl'; rw [if_pos hle'] at hl'; omega
          rw [← hQ, show szOf (totEntryS a) left = -1 by unfold szOf totEntryS; rw [if_neg (by omega)]]
          exact endD_one rfl rfl
        · rename_i h4
          simp only [hE, List.length_map, std_lss, std_leq, std_gtr, std_geq, std_eql, std_neq, std_len, std_add, std_subI, std_mulI, std_ssize, std_not, std_band, std_bcmp, std_nat, std_ofNat, std_nadd, std_nsub, std_emp, IntKind.wrap_i64, decide_eq_true_eq, decide_eq_false_iff_not, Bool.not_eq_true', Bool.not_eq_false', Option.getD_none, Option.getD_some] at h4
          obtain ⟨g, g'⟩ := szOf_ge (t := totEntry (⟨v_name, v_id⟩ : TEntry)) (left := l) (by omega)
          cbv
          try simp only [nc] at *
          refine ⟨k + 1, ⟨by omega, by omega⟩, by omega, ?_, by trivial⟩
          refine .cons rfl (.cons ?_ (.cons ?_ (.nil _)))
          · rw [show left - (a.length + sumF (fun x => totEntry x) (a.take (k + 1))) = l' by omega]
            rfl
          · show AV.d (D.sc (Value.int IntKind.i64 (qbin .add .i64 i 1))) = _
            rw [show qbin .add .i64 i 1 = ((k + 1 : Nat) : Int) by simp only [hE, List.length_map, std_lss, std_leq, std_gtr, std_geq, std_eql, std_neq, std_len, std_add, std_subI, std_mulI, std_ssize, std_not, std_band, std_bcmp, std_nat, std_ofNat, std_nadd, std_nsub, std_emp, IntKind.wrap_i64, decide_eq_true_eq, decide_eq_false_iff_not, Bool.not_eq_true', Bool.not_eq_false', Option.getD_none, Option.getD_some, ]; omega]
      · rename_i h3
        simp only [hE, List.length_map, std_lss, std_leq, std_gtr, std_geq, std_eql, std_neq, std_len, std_add, std_subI, std_mulI, std_ssize, std_not, std_band, std_bcmp, std_nat, std_ofNat, std_nadd, std_nsub, std_emp, IntKind.wrap_i64, decide_eq_true_eq, decide_eq_false_iff_not, Bool.not_eq_true', Bool.not_eq_false', Option.getD_none, Option.getD_some, hn] at h3
        cbv
        try simp only [nc] at *
        have hk' : k = a.length := by omega
        subst hk'
        rw [List.take_length] at hleft
        rw [← hQ, show szOf (totEntryS a) left = l by unfold szOf totEntryS; rw [if_pos (by omega)]; omega]
        exact endD_one rfl rfl
noncomputable def c38 : Code := (Tryz.f38.body).getD .skip
theorem ent38 : Entered Tryz.prog 38 := ⟨_, Tryz.func38, rfl, rfl⟩
theorem T38 {a : List ByteArray} {xs : List (List D)} (hx : a.map cS = xs) {left : Int} (h0 : 0 ≤ left) (h1 : left < 2 ^ 40) (hok : okStringS a) :
    CallOk Tryz.prog 38 [.d (.row 1 xs), .d (.sc (.int .i64 left))] [] ⟨.d (.sc (.int .i64 (szOf (totStringS a) left))), [], []⟩ := by
  obtain ⟨ha, hs⟩ := hok
  refine CallOk.of_bodyD (body := c38) Tryz.func38 rfl (Nat.le_of_ble_eq_true (by kernel_rfl)) rfl ?_
  refine vc_ok tab_ok mixed ?_
  have hT := tab_ok
  have hm := mixed
  generalize hP : Tryz.prog = P at *
  generalize hA : std = A
  obtain ⟨qbin, qsh, qcmp, qscmp, qbcmp, qbnot, qneg, qwrap, qcat, qssize, qssub, qsget, qlen, qrsub, qapp, qelt, qset, qnth, qdrp, qstr, qint, qbool, qrow, qnat, qnadd, qnsub, qband, qofNat, qstrRow, qmkRow, qmx, qmn, qbytes, qemp⟩ := A
  have hE := Ar.eqs hA
  dsimp only at hE
  generalize hQ : EndD P Tryz.f38.results _ = Q
  have hn := rd_n hx
  cbv
  try simp only [nc] at *
  split
  · rename_i h2
    simp only [hE, List.length_map, std_lss, std_leq, std_gtr, std_geq, std_eql, std_neq, std_len, std_add, std_subI, std_mulI, std_ssize, std_not, std_band, std_bcmp, std_nat, std_ofNat, std_nadd, std_nsub, std_emp, IntKind.wrap_i64, decide_eq_true_eq, decide_eq_false_iff_not, Bool.not_eq_true', Bool.not_eq_false', Option.getD_none, Option.getD_some, hn] at h2
    cbv
    try simp only [nc] at *
    have := sumF_nonneg (fun x => (x.size : Int)) a (fun x _ => totStringS_el x)
    rw [← hQ, show szOf (totStringS a) left = -1 by unfold szOf totStringS; rw [if_neg (by omega)]]
    exact endD_one rfl rfl
  · rename_i h2
    simp only [hE, List.length_map, std_lss, std_leq, std_gtr, std_geq, std_eql, std_neq, std_len, std_add, std_subI, std_mulI, std_ssize, std_not, std_band, std_bcmp, std_nat, std_ofNat, std_nadd, std_nsub, std_emp, IntKind.wrap_i64, decide_eq_true_eq, decide_eq_false_iff_not, Bool.not_eq_true', Bool.not_eq_false', Option.getD_none, Option.getD_some, hn] at h2
    cbv
    try simp only [nc] at *
    refine LpW.of (κ := Nat) (fun k => k ≤ a.length ∧ 0 ≤ left - (a.length + sumF (fun x => (x.size : Int)) (a.take k))) (fun k => a.length - k) (fun k => [(0, .d (.row 1 xs)), (1, .d (.sc (.int .i64 (left - (a.length + sumF (fun x => (x.size : Int)) (a.take k)))))), (5, .d (.sc (.int .i64 k)))]) (fun _ => []) 0 ⟨by omega, by simp [sumF]; omega⟩ ?_ (by first | rfl | trivial) ?_
    · refine .cons rfl (.cons ?_ (.cons rfl (.nil _)))
      show AV.d (D.sc (Value.int IntKind.i64 (qbin .sub .i64 left (qlen xs)))) = _
      rw [show qbin .sub .i64 left (qlen xs) = left - a.length by simp only [hE, List.length_map, std_lss, std_leq, std_gtr, std_geq, std_eql, std_neq, std_len, std_add, std_subI, std_mulI, std_ssize, std_not, std_band, std_bcmp, std_nat, std_ofNat, std_nadd, std_nsub, std_emp, IntKind.wrap_i64, decide_eq_true_eq, decide_eq_false_iff_not, Bool.not_eq_true', Bool.not_eq_false', Option.getD_none, Option.getD_some, hn]; omega]
      simp [sumF]
    · rintro k ⟨hk, hl⟩
      generalize hleft : left - (a.length + sumF (fun x => (x.size : Int)) (a.take k)) = l at *
      generalize hi : (k : Int) = i
      refine vc_ok hT hm ?_
      rw [hA]
      cbv
      try simp only [nc] at *
      split
      · rename_i h3
        simp only [hE, List.length_map, std_lss, std_leq, std_gtr, std_geq, std_eql, std_neq, std_len, std_add, std_subI, std_mulI, std_ssize, std_not, std_band, std_bcmp, std_nat, std_ofNat, std_nadd, std_nsub, std_emp, IntKind.wrap_i64, decide_eq_true_eq, decide_eq_false_iff_not, Bool.not_eq_true', Bool.not_eq_false', Option.getD_none, Option.getD_some, hn] at h3
        have hk' : k < a.length := by omega
        have hsz := hs a[k] (List.getElem_mem hk')
        have hp := sumF_nonneg (fun x => (x.size : Int)) (a.take k) (fun x _ => totStringS_el x)
        have hsum := sumF_succ (fun x => (x.size : Int)) a hk'
        have hle := sumF_take_le (fun x => (x.size : Int)) a (fun x _ => totStringS_el x) (k + 1)
        have hel := totStringS_el a[k]
        cbv
        try simp only [nc] at *
        repeat (refine And.intro (by first | (simp only [hE]; exact rd_inR hx hi hk') | (simp only [hE, rd_elt hx hi hk']; exact ⟨rfl⟩) | (simp only [hE, rd_elt hx hi hk']; exact ⟨Nat.le_of_ble_eq_true rfl⟩)) ?_)
        obtain ⟨s, hsk⟩ : ∃ s, s = a[k] := ⟨_, rfl⟩
        rw [show qstr (qnth (qelt xs i) 0) = s by rw [hsk]; simp only [hE, rd_elt hx hi hk']; rfl]
        rw [← hsk] at hsz hsum hel
        obtain ⟨l', hl'⟩ : ∃ l', l' = l - (s.size : Int) := ⟨_, rfl⟩
        rw [show qbin .sub .i64 l (qssize s) = l' by simp only [hE, List.length_map, std_lss, std_leq, std_gtr, std_geq, std_eql, std_neq, std_len, std_add, std_subI, std_mulI, std_ssize, std_not, std_band, std_bcmp, std_nat, std_ofNat, std_nadd, std_nsub, std_emp, IntKind.wrap_i64, decide_eq_true_eq, decide_eq_false_iff_not, Bool.not_eq_true', Bool.not_eq_false', Option.getD_none, Option.getD_some, ]; omega]
        split
        · rename_i h4
          simp only [hE, List.length_map, std_lss, std_leq, std_gtr, std_geq, std_eql, std_neq, std_len, std_add, std_subI, std_mulI, std_ssize, std_not, std_band, std_bcmp, std_nat, std_ofNat, std_nadd, std_nsub, std_emp, IntKind.wrap_i64, decide_eq_true_eq, decide_eq_false_iff_not, Bool.not_eq_true', Bool.not_eq_false', Option.getD_none, Option.getD_some] at h4
          cbv
          try simp only [nc] at *
          rw [← hQ, show szOf (totStringS a) left = -1 by unfold szOf totStringS; rw [if_neg (by omega)]]
          exact endD_one rfl rfl
        · rename_i h4
          simp only [hE, List.length_map, std_lss, std_leq, std_gtr, std_geq, std_eql, std_neq, std_len, std_add, std_subI, std_mulI, std_ssize, std_not, std_band, std_bcmp, std_nat, std_ofNat, std_nadd, std_nsub, std_emp, IntKind.wrap_i64, decide_eq_true_eq, decide_eq_false_iff_not, Bool.not_eq_true', Bool.not_eq_false', Option.getD_none, Option.getD_some] at h4
          cbv
          try simp only [nc] at *
          refine ⟨k + 1, ⟨by omega, by omega⟩, by omega, ?_, by trivial⟩
          refine .cons rfl (.cons ?_ (.cons ?_ (.nil _)))
          · rw [show left - (a.length + sumF (fun x => (x.size : Int)) (a.take (k + 1))) = l' by omega]
            rfl
          · show AV.d (D.sc (Value.int IntKind.i64 (qbin .add .i64 i 1))) = _
            rw [show qbin .add .i64 i 1 = ((k + 1 : Nat) : Int) by simp only [hE, List.length_map, std_lss, std_leq, std_gtr, std_geq, std_eql, std_neq, std_len, std_add, std_subI, std_mulI, std_ssize, std_not, std_band, std_bcmp, std_nat, std_ofNat, std_nadd, std_nsub, std_emp, IntKind.wrap_i64, decide_eq_true_eq, decide_eq_false_iff_not, Bool.not_eq_true', Bool.not_eq_false', Option.getD_none, Option.getD_some, ]; omega]
      · rename_i h3
        simp only [hE, List.length_map, std_lss, std_leq, std_gtr, std_geq, std_eql, std_neq, std_len, std_add, std_subI, std_mulI, std_ssize, std_not, std_band, std_bcmp, std_nat, std_ofNat, std_nadd, std_nsub, std_emp, IntKind.wrap_i64, decide_eq_true_eq, decide_eq_false_iff_not, Bool.not_eq_true', Bool.not_eq_false', Option.getD_none, Option.getD_some, hn] at h3
        cbv
        try simp only [nc] at *
        have hk' : k = a.length := by omega
        subst hk'
        rw [List.take_length] at hleft
        rw [← hQ, show szOf (totStringS a) left = l by unfold szOf totStringS; rw [if_pos (by omega)]; omega]
        exact endD_one rfl rfl
noncomputable def c12 : Code := (Tryz.f12.body).getD .skip
theorem ent12 : Entered Tryz.prog 12 := ⟨_, Tryz.func12, rfl, rfl⟩
theorem T12 {a_nodes : List TNode} {xa_nodes : List (List D)} (ha_nodes : a_nodes.map eNode = xa_nodes) {a_entries : List TEntry} {xa_entries : List (List D)} (ha_entries : a_entries.map eEntry = xa_entries) {a_old : List TEntry} {xa_old : List (List D)} (ha_old : a_old.map eEntry = xa_old) {a_steps : List ByteArray} {xa_steps : List (List D)} (ha_steps : a_steps.map cS = xa_steps) {a_room : Int} {a_next : Int} {left : Int} (h0 : 0 ≤ left) (h1 : left < 2 ^ 40) (hok : okDisk ⟨a_nodes, a_entries, a_old, a_steps, a_room, a_next⟩) :
    CallOk Tryz.prog 12 [.agg [.d (.row 3 xa_nodes), .d (.row 2 xa_entries), .d (.row 2 xa_old), .d (.row 1 xa_steps), .d (.sc (.int .i64 a_room)), .d (.sc (.int .i64 a_next))], .d (.sc (.int .i64 left))] [] ⟨.d (.sc (.int .i64 (szOf (totDisk ⟨a_nodes, a_entries, a_old, a_steps, a_room, a_next⟩) left))), [], []⟩ := by
  have ent36_ := ent36
  have T36_ := @T36
  have ent37_ := ent37
  have T37_ := @T37
  have ent38_ := ent38
  have T38_ := @T38
  refine CallOk.of_bodyD (body := c12) Tryz.func12 rfl (Nat.le_of_ble_eq_true (by kernel_rfl)) rfl ?_
  refine vc_ok tab_ok mixed ?_
  have hT := tab_ok
  have hm := mixed
  generalize hP : Tryz.prog = P at *
  generalize hA : std = A
  obtain ⟨qbin, qsh, qcmp, qscmp, qbcmp, qbnot, qneg, qwrap, qcat, qssize, qssub, qsget, qlen, qrsub, qapp, qelt, qset, qnth, qdrp, qstr, qint, qbool, qrow, qnat, qnadd, qnsub, qband, qofNat, qstrRow, qmkRow, qmx, qmn, qbytes, qemp⟩ := A
  have hE := Ar.eqs hA
  dsimp only at hE
  generalize hQ : EndD P Tryz.f12.results _ = Q
  have nna_nodes := totNodeS_nn a_nodes
  have nna_entries := totEntryS_nn a_entries
  have nna_old := totEntryS_nn a_old
  have nna_steps := totStringS_nn a_steps
  have hok' : okNodeS a_nodes ∧ okEntryS a_entries ∧ okEntryS a_old ∧ okStringS a_steps := hok
  generalize hto : totDisk ⟨a_nodes, a_entries, a_old, a_steps, a_room, a_next⟩ = to at *
  have hto' : totNodeS a_nodes + totEntryS a_entries + totEntryS a_old + totStringS a_steps = to := hto
  clear hok hto
  obtain ⟨k0, k1, k2, k3⟩ := hok'
  cbv
  try simp only [nc] at *
  refine ClW.dd (f := 36) rfl rfl rfl rfl (.cons rfl (.cons rfl .nil)) rfl ent36_ (T36_ ha_nodes (by omega) (by omega) k0) rfl ?_
  generalize hl0 : szOf (totNodeS a_nodes) left = l0
  cbv
  try simp only [nc] at *
  split
  · rename_i h2
    simp only [hE, List.length_map, std_lss, std_leq, std_gtr, std_geq, std_eql, std_neq, std_len, std_add, std_subI, std_mulI, std_ssize, std_not, std_band, std_bcmp, std_nat, std_ofNat, std_nadd, std_nsub, std_emp, IntKind.wrap_i64, decide_eq_true_eq, decide_eq_false_iff_not, Bool.not_eq_true', Bool.not_eq_false', Option.getD_none, Option.getD_some] at h2
    cbv
    try simp only [nc] at *
    have hb0 : ¬ totNodeS a_nodes ≤ left := by intro hle; unfold szOf at hl0; rw [if_pos hle] at hl0; omega
    rw [← hQ, show szOf to left = -1 by unfold szOf; rw [if_neg (by omega)]]
    exact endD_one rfl rfl
  rename_i h20
  simp only [hE, List.length_map, std_lss, std_leq, std_gtr, std_geq, std_eql, std_neq, std_len, std_add, std_subI, std_mulI, std_ssize, std_not, std_band, std_bcmp, std_nat, std_ofNat, std_nadd, std_nsub, std_emp, IntKind.wrap_i64, decide_eq_true_eq, decide_eq_false_iff_not, Bool.not_eq_true', Bool.not_eq_false', Option.getD_none, Option.getD_some] at h20
  obtain ⟨g0, g0'⟩ := szOf_ge (t := totNodeS a_nodes) (left := left) (by omega)
  cbv
  try simp only [nc] at *
  refine ClW.dd (f := 37) rfl rfl rfl rfl (.cons rfl (.cons rfl .nil)) rfl ent37_ (T37_ ha_entries (by omega) (by omega) k1) rfl ?_
  generalize hl1 : szOf (totEntryS a_entries) l0 = l1
  cbv
  try simp only [nc] at *
  split
  · rename_i h2
    simp only [hE, List.length_map, std_lss, std_leq, std_gtr, std_geq, std_eql, std_neq, std_len, std_add, std_subI, std_mulI, std_ssize, std_not, std_band, std_bcmp, std_nat, std_ofNat, std_nadd, std_nsub, std_emp, IntKind.wrap_i64, decide_eq_true_eq, decide_eq_false_iff_not, Bool.not_eq_true', Bool.not_eq_false', Option.getD_none, Option.getD_some] at h2
    cbv
    try simp only [nc] at *
    have hb1 : ¬ totEntryS a_entries ≤ l0 := by intro hle; unfold szOf at hl1; rw [if_pos hle] at hl1; omega
    rw [← hQ, show szOf to left = -1 by unfold szOf; rw [if_neg (by omega)]]
    exact endD_one rfl rfl
  rename_i h21
  simp only [hE, List.length_map, std_lss, std_leq, std_gtr, std_geq, std_eql, std_neq, std_len, std_add, std_subI, std_mulI, std_ssize, std_not, std_band, std_bcmp, std_nat, std_ofNat, std_nadd, std_nsub, std_emp, IntKind.wrap_i64, decide_eq_true_eq, decide_eq_false_iff_not, Bool.not_eq_true', Bool.not_eq_false', Option.getD_none, Option.getD_some] at h21
  obtain ⟨g1, g1'⟩ := szOf_ge (t := totEntryS a_entries) (left := l0) (by omega)
  cbv
  try simp only [nc] at *
  refine ClW.dd (f := 37) rfl rfl rfl rfl (.cons rfl (.cons rfl .nil)) rfl ent37_ (T37_ ha_old (by omega) (by omega) k2) rfl ?_
  generalize hl2 : szOf (totEntryS a_old) l1 = l2
  cbv
  try simp only [nc] at *
  split
  · rename_i h2
    simp only [hE, List.length_map, std_lss, std_leq, std_gtr, std_geq, std_eql, std_neq, std_len, std_add, std_subI, std_mulI, std_ssize, std_not, std_band, std_bcmp, std_nat, std_ofNat, std_nadd, std_nsub, std_emp, IntKind.wrap_i64, decide_eq_true_eq, decide_eq_false_iff_not, Bool.not_eq_true', Bool.not_eq_false', Option.getD_none, Option.getD_some] at h2
    cbv
    try simp only [nc] at *
    have hb2 : ¬ totEntryS a_old ≤ l1 := by intro hle; unfold szOf at hl2; rw [if_pos hle] at hl2; omega
    rw [← hQ, show szOf to left = -1 by unfold szOf; rw [if_neg (by omega)]]
    exact endD_one rfl rfl
  rename_i h22
  simp only [hE, List.length_map, std_lss, std_leq, std_gtr, std_geq, std_eql, std_neq, std_len, std_add, std_subI, std_mulI, std_ssize, std_not, std_band, std_bcmp, std_nat, std_ofNat, std_nadd, std_nsub, std_emp, IntKind.wrap_i64, decide_eq_true_eq, decide_eq_false_iff_not, Bool.not_eq_true', Bool.not_eq_false', Option.getD_none, Option.getD_some] at h22
  obtain ⟨g2, g2'⟩ := szOf_ge (t := totEntryS a_old) (left := l1) (by omega)
  cbv
  try simp only [nc] at *
  refine ClW.dd (f := 38) rfl rfl rfl rfl (.cons rfl (.cons rfl .nil)) rfl ent38_ (T38_ ha_steps (by omega) (by omega) k3) rfl ?_
  generalize hl3 : szOf (totStringS a_steps) l2 = l3
  cbv
  try simp only [nc] at *
  split
  · rename_i h2
    simp only [hE, List.length_map, std_lss, std_leq, std_gtr, std_geq, std_eql, std_neq, std_len, std_add, std_subI, std_mulI, std_ssize, std_not, std_band, std_bcmp, std_nat, std_ofNat, std_nadd, std_nsub, std_emp, IntKind.wrap_i64, decide_eq_true_eq, decide_eq_false_iff_not, Bool.not_eq_true', Bool.not_eq_false', Option.getD_none, Option.getD_some] at h2
    cbv
    try simp only [nc] at *
    have hb3 : ¬ totStringS a_steps ≤ l2 := by intro hle; unfold szOf at hl3; rw [if_pos hle] at hl3; omega
    rw [← hQ, show szOf to left = -1 by unfold szOf; rw [if_neg (by omega)]]
    exact endD_one rfl rfl
  rename_i h23
  simp only [hE, List.length_map, std_lss, std_leq, std_gtr, std_geq, std_eql, std_neq, std_len, std_add, std_subI, std_mulI, std_ssize, std_not, std_band, std_bcmp, std_nat, std_ofNat, std_nadd, std_nsub, std_emp, IntKind.wrap_i64, decide_eq_true_eq, decide_eq_false_iff_not, Bool.not_eq_true', Bool.not_eq_false', Option.getD_none, Option.getD_some] at h23
  obtain ⟨g3, g3'⟩ := szOf_ge (t := totStringS a_steps) (left := l2) (by omega)
  cbv
  try simp only [nc] at *
  rw [← hQ, show szOf to left = l3 by unfold szOf; rw [if_pos (by omega)]; omega]
  exact endD_one rfl rfl
noncomputable def c96 : Code := (Tryz.f96.body).getD .skip
theorem ent96 : Entered Tryz.prog 96 := ⟨_, Tryz.func96, rfl, rfl⟩
theorem T96 {a : List Int} {xs : List (List D)} (hx : a.map cI = xs) {left : Int} (h0 : 0 ≤ left) (h1 : left < 2 ^ 40) (hok : okIntS a) :
    CallOk Tryz.prog 96 [.d (.row 1 xs), .d (.sc (.int .i64 left))] [] ⟨.d (.sc (.int .i64 (szOf (totIntS a) left))), [], []⟩ := by
  refine CallOk.of_bodyD (body := c96) Tryz.func96 rfl (Nat.le_of_ble_eq_true (by kernel_rfl)) rfl ?_
  refine vc_ok tab_ok mixed ?_
  have hT := tab_ok
  have hm := mixed
  generalize hP : Tryz.prog = P at *
  generalize hA : std = A
  obtain ⟨qbin, qsh, qcmp, qscmp, qbcmp, qbnot, qneg, qwrap, qcat, qssize, qssub, qsget, qlen, qrsub, qapp, qelt, qset, qnth, qdrp, qstr, qint, qbool, qrow, qnat, qnadd, qnsub, qband, qofNat, qstrRow, qmkRow, qmx, qmn, qbytes, qemp⟩ := A
  have hE := Ar.eqs hA
  dsimp only at hE
  generalize hQ : EndD P Tryz.f96.results _ = Q
  have hn := rd_n hx
  have ha : a.length < 2 ^ 44 := hok
  cbv
  try simp only [nc] at *
  split
  · rename_i h2
    simp only [hE, List.length_map, std_lss, std_leq, std_gtr, std_geq, std_eql, std_neq, std_len, std_add, std_subI, std_mulI, std_ssize, std_not, std_band, std_bcmp, std_nat, std_ofNat, std_nadd, std_nsub, std_emp, IntKind.wrap_i64, decide_eq_true_eq, decide_eq_false_iff_not, Bool.not_eq_true', Bool.not_eq_false', Option.getD_none, Option.getD_some, hn] at h2
    cbv
    try simp only [nc] at *
    rw [← hQ, show szOf (totIntS a) left = -1 by unfold szOf totIntS; rw [if_neg (by omega)]]
    exact endD_one rfl rfl
  · rename_i h2
    simp only [hE, List.length_map, std_lss, std_leq, std_gtr, std_geq, std_eql, std_neq, std_len, std_add, std_subI, std_mulI, std_ssize, std_not, std_band, std_bcmp, std_nat, std_ofNat, std_nadd, std_nsub, std_emp, IntKind.wrap_i64, decide_eq_true_eq, decide_eq_false_iff_not, Bool.not_eq_true', Bool.not_eq_false', Option.getD_none, Option.getD_some, hn] at h2
    cbv
    try simp only [nc] at *
    rw [← hQ, show szOf (totIntS a) left = qbin .sub .i64 left (qlen xs) by unfold szOf totIntS; rw [if_pos (by omega)]; simp only [hE, List.length_map, std_lss, std_leq, std_gtr, std_geq, std_eql, std_neq, std_len, std_add, std_subI, std_mulI, std_ssize, std_not, std_band, std_bcmp, std_nat, std_ofNat, std_nadd, std_nsub, std_emp, IntKind.wrap_i64, decide_eq_true_eq, decide_eq_false_iff_not, Bool.not_eq_true', Bool.not_eq_false', Option.getD_none, Option.getD_some, hn]; omega]
    exact endD_one rfl rfl
noncomputable def c62 : Code := (Tryz.f62.body).getD .skip
theorem ent62 : Entered Tryz.prog 62 := ⟨_, Tryz.func62, rfl, rfl⟩
theorem T62 {a_version : Int} {a_stride : Int} {a_roll : Int} {a_base : Int} {a_link : Int} {a_offsets : List Int} {xa_offsets : List (List D)} (ha_offsets : a_offsets.map cI = xa_offsets) {a_end : Int} {a_open : Bool} {a_code : Int} {left : Int} (h0 : 0 ≤ left) (h1 : left < 2 ^ 40) (hok : okWriter ⟨a_version, a_stride, a_roll, a_base, a_link, a_offsets, a_end, a_open, a_code⟩) :
    CallOk Tryz.prog 62 [.agg [.d (.sc (.int .i64 a_version)), .d (.sc (.int .i64 a_stride)), .d (.sc (.int .i64 a_roll)), .d (.sc (.int .i64 a_base)), .d (.sc (.int .i64 a_link)), .d (.row 1 xa_offsets), .d (.sc (.int .i64 a_end)), .d (.sc (.bool a_open)), .d (.sc (.int .i64 a_code))], .d (.sc (.int .i64 left))] [] ⟨.d (.sc (.int .i64 (szOf (totWriter ⟨a_version, a_stride, a_roll, a_base, a_link, a_offsets, a_end, a_open, a_code⟩) left))), [], []⟩ := by
  have ent96_ := ent96
  have T96_ := @T96
  refine CallOk.of_bodyD (body := c62) Tryz.func62 rfl (Nat.le_of_ble_eq_true (by kernel_rfl)) rfl ?_
  refine vc_ok tab_ok mixed ?_
  have hT := tab_ok
  have hm := mixed
  generalize hP : Tryz.prog = P at *
  generalize hA : std = A
  obtain ⟨qbin, qsh, qcmp, qscmp, qbcmp, qbnot, qneg, qwrap, qcat, qssize, qssub, qsget, qlen, qrsub, qapp, qelt, qset, qnth, qdrp, qstr, qint, qbool, qrow, qnat, qnadd, qnsub, qband, qofNat, qstrRow, qmkRow, qmx, qmn, qbytes, qemp⟩ := A
  have hE := Ar.eqs hA
  dsimp only at hE
  generalize hQ : EndD P Tryz.f62.results _ = Q
  have nna_offsets := totIntS_nn a_offsets
  have hok' : okIntS a_offsets := hok
  generalize hto : totWriter ⟨a_version, a_stride, a_roll, a_base, a_link, a_offsets, a_end, a_open, a_code⟩ = to at *
  have hto' : totIntS a_offsets = to := hto
  clear hok hto
  have k0 := hok'
  cbv
  try simp only [nc] at *
  refine ClW.dd (f := 96) rfl rfl rfl rfl (.cons rfl (.cons rfl .nil)) rfl ent96_ (T96_ ha_offsets (by omega) (by omega) k0) rfl ?_
  generalize hl0 : szOf (totIntS a_offsets) left = l0
  cbv
  try simp only [nc] at *
  split
  · rename_i h2
    simp only [hE, List.length_map, std_lss, std_leq, std_gtr, std_geq, std_eql, std_neq, std_len, std_add, std_subI, std_mulI, std_ssize, std_not, std_band, std_bcmp, std_nat, std_ofNat, std_nadd, std_nsub, std_emp, IntKind.wrap_i64, decide_eq_true_eq, decide_eq_false_iff_not, Bool.not_eq_true', Bool.not_eq_false', Option.getD_none, Option.getD_some] at h2
    cbv
    try simp only [nc] at *
    have hb0 : ¬ totIntS a_offsets ≤ left := by intro hle; unfold szOf at hl0; rw [if_pos hle] at hl0; omega
    rw [← hQ, show szOf to left = -1 by unfold szOf; rw [if_neg (by omega)]]
    exact endD_one rfl rfl
  rename_i h20
  simp only [hE, List.length_map, std_lss, std_leq, std_gtr, std_geq, std_eql, std_neq, std_len, std_add, std_subI, std_mulI, std_ssize, std_not, std_band, std_bcmp, std_nat, std_ofNat, std_nadd, std_nsub, std_emp, IntKind.wrap_i64, decide_eq_true_eq, decide_eq_false_iff_not, Bool.not_eq_true', Bool.not_eq_false', Option.getD_none, Option.getD_some] at h20
  obtain ⟨g0, g0'⟩ := szOf_ge (t := totIntS a_offsets) (left := left) (by omega)
  cbv
  try simp only [nc] at *
  rw [← hQ, show szOf to left = l0 by unfold szOf; rw [if_pos (by omega)]; omega]
  exact endD_one rfl rfl
noncomputable def c27 : Code := (Tryz.f27.body).getD .skip
theorem ent27 : Entered Tryz.prog 27 := ⟨_, Tryz.func27, rfl, rfl⟩
theorem T27 {a_set_room : Int} {a_set_version : Int} {a_set_stride : Int} {a_set_roll : Int} {a_disk_nodes : List TNode} {xa_disk_nodes : List (List D)} (ha_disk_nodes : a_disk_nodes.map eNode = xa_disk_nodes) {a_disk_entries : List TEntry} {xa_disk_entries : List (List D)} (ha_disk_entries : a_disk_entries.map eEntry = xa_disk_entries) {a_disk_old : List TEntry} {xa_disk_old : List (List D)} (ha_disk_old : a_disk_old.map eEntry = xa_disk_old) {a_disk_steps : List ByteArray} {xa_disk_steps : List (List D)} (ha_disk_steps : a_disk_steps.map cS = xa_disk_steps) {a_disk_room : Int} {a_disk_next : Int} {a_writer_version : Int} {a_writer_stride : Int} {a_writer_roll : Int} {a_writer_base : Int} {a_writer_link : Int} {a_writer_offsets : List Int} {xa_writer_offsets : List (List D)} (ha_writer_offsets : a_writer_offsets.map cI = xa_writer_offsets) {a_writer_end : Int} {a_writer_open : Bool} {a_writer_code : Int} {a_told : List ByteArray} {xa_told : List (List D)} (ha_told : a_told.map cS = xa_told) {a_sure : Int} {a_falls : Int} {left : Int} (h0 : 0 ≤ left) (h1 : left < 2 ^ 40) (hok : okWorld ⟨⟨a_set_room, a_set_version, a_set_stride, a_set_roll⟩, ⟨a_disk_nodes, a_disk_entries, a_disk_old, a_disk_steps, a_disk_room, a_disk_next⟩, ⟨a_writer_version, a_writer_stride, a_writer_roll, a_writer_base, a_writer_link, a_writer_offsets, a_writer_end, a_writer_open, a_writer_code⟩, a_told, a_sure, a_falls⟩) :
    CallOk Tryz.prog 27 [.agg [.d (.sc (.int .i64 a_set_room)), .d (.sc (.int .i64 a_set_version)), .d (.sc (.int .i64 a_set_stride)), .d (.sc (.int .i64 a_set_roll)), .d (.row 3 xa_disk_nodes), .d (.row 2 xa_disk_entries), .d (.row 2 xa_disk_old), .d (.row 1 xa_disk_steps), .d (.sc (.int .i64 a_disk_room)), .d (.sc (.int .i64 a_disk_next)), .d (.sc (.int .i64 a_writer_version)), .d (.sc (.int .i64 a_writer_stride)), .d (.sc (.int .i64 a_writer_roll)), .d (.sc (.int .i64 a_writer_base)), .d (.sc (.int .i64 a_writer_link)), .d (.row 1 xa_writer_offsets), .d (.sc (.int .i64 a_writer_end)), .d (.sc (.bool a_writer_open)), .d (.sc (.int .i64 a_writer_code)), .d (.row 1 xa_told), .d (.sc (.int .i64 a_sure)), .d (.sc (.int .i64 a_falls))], .d (.sc (.int .i64 left))] [] ⟨.d (.sc (.int .i64 (szOf (totWorld ⟨⟨a_set_room, a_set_version, a_set_stride, a_set_roll⟩, ⟨a_disk_nodes, a_disk_entries, a_disk_old, a_disk_steps, a_disk_room, a_disk_next⟩, ⟨a_writer_version, a_writer_stride, a_writer_roll, a_writer_base, a_writer_link, a_writer_offsets, a_writer_end, a_writer_open, a_writer_code⟩, a_told, a_sure, a_falls⟩) left))), [], []⟩ := by
  have ent12_ := ent12
  have T12_ := @T12
  have ent38_ := ent38
  have T38_ := @T38
  have ent62_ := ent62
  have T62_ := @T62
  refine CallOk.of_bodyD (body := c27) Tryz.func27 rfl (Nat.le_of_ble_eq_true (by kernel_rfl)) rfl ?_
  refine vc_ok tab_ok mixed ?_
  have hT := tab_ok
  have hm := mixed
  generalize hP : Tryz.prog = P at *
  generalize hA : std = A
  obtain ⟨qbin, qsh, qcmp, qscmp, qbcmp, qbnot, qneg, qwrap, qcat, qssize, qssub, qsget, qlen, qrsub, qapp, qelt, qset, qnth, qdrp, qstr, qint, qbool, qrow, qnat, qnadd, qnsub, qband, qofNat, qstrRow, qmkRow, qmx, qmn, qbytes, qemp⟩ := A
  have hE := Ar.eqs hA
  dsimp only at hE
  generalize hQ : EndD P Tryz.f27.results _ = Q
  have nna_disk := totDisk_nn (⟨a_disk_nodes, a_disk_entries, a_disk_old, a_disk_steps, a_disk_room, a_disk_next⟩ : TDisk)
  have nna_writer := totWriter_nn (⟨a_writer_version, a_writer_stride, a_writer_roll, a_writer_base, a_writer_link, a_writer_offsets, a_writer_end, a_writer_open, a_writer_code⟩ : TWriter)
  have nna_told := totStringS_nn a_told
  have hok' : okDisk (⟨a_disk_nodes, a_disk_entries, a_disk_old, a_disk_steps, a_disk_room, a_disk_next⟩ : TDisk) ∧ okWriter (⟨a_writer_version, a_writer_stride, a_writer_roll, a_writer_base, a_writer_link, a_writer_offsets, a_writer_end, a_writer_open, a_writer_code⟩ : TWriter) ∧ okStringS a_told := hok
  generalize hto : totWorld ⟨⟨a_set_room, a_set_version, a_set_stride, a_set_roll⟩, ⟨a_disk_nodes, a_disk_entries, a_disk_old, a_disk_steps, a_disk_room, a_disk_next⟩, ⟨a_writer_version, a_writer_stride, a_writer_roll, a_writer_base, a_writer_link, a_writer_offsets, a_writer_end, a_writer_open, a_writer_code⟩, a_told, a_sure, a_falls⟩ = to at *
  have hto' : totDisk (⟨a_disk_nodes, a_disk_entries, a_disk_old, a_disk_steps, a_disk_room, a_disk_next⟩ : TDisk) + totWriter (⟨a_writer_version, a_writer_stride, a_writer_roll, a_writer_base, a_writer_link, a_writer_offsets, a_writer_end, a_writer_open, a_writer_code⟩ : TWriter) + totStringS a_told = to := hto
  clear hok hto
  obtain ⟨k0, k1, k2⟩ := hok'
  cbv
  try simp only [nc] at *
  refine ClW.dd (f := 12) rfl rfl rfl rfl (.cons rfl (.cons rfl .nil)) rfl ent12_ (T12_ ha_disk_nodes ha_disk_entries ha_disk_old ha_disk_steps (by omega) (by omega) k0) rfl ?_
  generalize hl0 : szOf (totDisk (⟨a_disk_nodes, a_disk_entries, a_disk_old, a_disk_steps, a_disk_room, a_disk_next⟩ : TDisk)) left = l0
  cbv
  try simp only [nc] at *
  split
  · rename_i h2
    simp only [hE, List.length_map, std_lss, std_leq, std_gtr, std_geq, std_eql, std_neq, std_len, std_add, std_subI, std_mulI, std_ssize, std_not, std_band, std_bcmp, std_nat, std_ofNat, std_nadd, std_nsub, std_emp, IntKind.wrap_i64, decide_eq_true_eq, decide_eq_false_iff_not, Bool.not_eq_true', Bool.not_eq_false', Option.getD_none, Option.getD_some] at h2
    cbv
    try simp only [nc] at *
    have hb0 : ¬ totDisk (⟨a_disk_nodes, a_disk_entries, a_disk_old, a_disk_steps, a_disk_room, a_disk_next⟩ : TDisk) ≤ left := by intro hle; unfold szOf at hl0; rw [if_pos hle] at hl0; omega
    rw [← hQ, show szOf to left = -1 by unfold szOf; rw [if_neg (by omega)]]
    exact endD_one rfl rfl
  rename_i h20
  simp only [hE, List.length_map, std_lss, std_leq, std_gtr, std_geq, std_eql, std_neq, std_len, std_add, std_subI, std_mulI, std_ssize, std_not, std_band, std_bcmp, std_nat, std_ofNat, std_nadd, std_nsub, std_emp, IntKind.wrap_i64, decide_eq_true_eq, decide_eq_false_iff_not, Bool.not_eq_true', Bool.not_eq_false', Option.getD_none, Option.getD_some] at h20
  obtain ⟨g0, g0'⟩ := szOf_ge (t := totDisk (⟨a_disk_nodes, a_disk_entries, a_disk_old, a_disk_steps, a_disk_room, a_disk_next⟩ : TDisk)) (left := left) (by omega)
  cbv
  try simp only [nc] at *
  refine ClW.dd (f := 62) rfl rfl rfl rfl (.cons rfl (.cons rfl .nil)) rfl ent62_ (T62_ ha_writer_offsets (by omega) (by omega) k1) rfl ?_
  generalize hl1 : szOf (totWriter (⟨a_writer_version, a_writer_stride, a_writer_roll, a_writer_base, a_writer_link, a_writer_offsets, a_writer_end, a_writer_open, a_writer_code⟩ : TWriter)) l0 = l1
  cbv
  try simp only [nc] at *
  split
  · rename_i h2
    simp only [hE, List.length_map, std_lss, std_leq, std_gtr, std_geq, std_eql, std_neq, std_len, std_add, std_subI, std_mulI, std_ssize, std_not, std_band, std_bcmp, std_nat, std_ofNat, std_nadd, std_nsub, std_emp, IntKind.wrap_i64, decide_eq_true_eq, decide_eq_false_iff_not, Bool.not_eq_true', Bool.not_eq_false', Option.getD_none, Option.getD_some] at h2
    cbv
    try simp only [nc] at *
    have hb1 : ¬ totWriter (⟨a_writer_version, a_writer_stride, a_writer_roll, a_writer_base, a_writer_link, a_writer_offsets, a_writer_end, a_writer_open, a_writer_code⟩ : TWriter) ≤ l0 := by intro hle; unfold szOf at hl1; rw [if_pos hle] at hl1; omega
    rw [← hQ, show szOf to left = -1 by unfold szOf; rw [if_neg (by omega)]]
    exact endD_one rfl rfl
  rename_i h21
  simp only [hE, List.length_map, std_lss, std_leq, std_gtr, std_geq, std_eql, std_neq, std_len, std_add, std_subI, std_mulI, std_ssize, std_not, std_band, std_bcmp, std_nat, std_ofNat, std_nadd, std_nsub, std_emp, IntKind.wrap_i64, decide_eq_true_eq, decide_eq_false_iff_not, Bool.not_eq_true', Bool.not_eq_false', Option.getD_none, Option.getD_some] at h21
  obtain ⟨g1, g1'⟩ := szOf_ge (t := totWriter (⟨a_writer_version, a_writer_stride, a_writer_roll, a_writer_base, a_writer_link, a_writer_offsets, a_writer_end, a_writer_open, a_writer_code⟩ : TWriter)) (left := l0) (by omega)
  cbv
  try simp only [nc] at *
  refine ClW.dd (f := 38) rfl rfl rfl rfl (.cons rfl (.cons rfl .nil)) rfl ent38_ (T38_ ha_told (by omega) (by omega) k2) rfl ?_
  generalize hl2 : szOf (totStringS a_told) l1 = l2
  cbv
  try simp only [nc] at *
  split
  · rename_i h2
    simp only [hE, List.length_map, std_lss, std_leq, std_gtr, std_geq, std_eql, std_neq, std_len, std_add, std_subI, std_mulI, std_ssize, std_not, std_band, std_bcmp, std_nat, std_ofNat, std_nadd, std_nsub, std_emp, IntKind.wrap_i64, decide_eq_true_eq, decide_eq_false_iff_not, Bool.not_eq_true', Bool.not_eq_false', Option.getD_none, Option.getD_some] at h2
    cbv
    try simp only [nc] at *
    have hb2 : ¬ totStringS a_told ≤ l1 := by intro hle; unfold szOf at hl2; rw [if_pos hle] at hl2; omega
    rw [← hQ, show szOf to left = -1 by unfold szOf; rw [if_neg (by omega)]]
    exact endD_one rfl rfl
  rename_i h22
  simp only [hE, List.length_map, std_lss, std_leq, std_gtr, std_geq, std_eql, std_neq, std_len, std_add, std_subI, std_mulI, std_ssize, std_not, std_band, std_bcmp, std_nat, std_ofNat, std_nadd, std_nsub, std_emp, IntKind.wrap_i64, decide_eq_true_eq, decide_eq_false_iff_not, Bool.not_eq_true', Bool.not_eq_false', Option.getD_none, Option.getD_some] at h22
  obtain ⟨g2, g2'⟩ := szOf_ge (t := totStringS a_told) (left := l1) (by omega)
  cbv
  try simp only [nc] at *
  rw [← hQ, show szOf to left = l2 by unfold szOf; rw [if_pos (by omega)]; omega]
  exact endD_one rfl rfl
end Go.Proofs.YtpghckpkiookoaaGreatDoor.Ab
