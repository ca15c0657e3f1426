/- What functions of the program come to, for all arguments in the given bounds. -/
import Derived.Test.YtmhinjjgpabkfaaGreatDoorH
set_option linter.unusedVariables false
set_option linter.unusedSimpArgs false
namespace Go.Proofs.YtmhinjjgpabkfaaGreatDoor.Ab
open Go Go.Proofs
set_option maxRecDepth 20000
set_option linter.unusedVariables false
noncomputable def c100 : Code := (Tryz.f100.body).getD .skip
theorem ent100 : Entered Tryz.prog 100 := ⟨_, Tryz.func100, rfl, rfl⟩
theorem T100 {a_id : Int} {a_text : ByteArray} {a_sure : Int} {left : Int} (h0 : 0 ≤ left) (h1 : left < 2 ^ 40) (hok : okNode ⟨a_id, a_text, a_sure⟩) :
    CallOk Tryz.prog 100 [.agg [.d (.sc (.int .i64 a_id)), .d (.sc (.string a_text)), .d (.sc (.int .i64 a_sure))], .d (.sc (.int .i64 left))] [] ⟨.d (.sc (.int .i64 (szOf (totNode ⟨a_id, a_text, a_sure⟩) left))), [], []⟩ := by
  refine CallOk.of_bodyD (body := c100) Tryz.func100 rfl (Nat.le_of_ble_eq_true (by kernel_rfl)) rfl ?_
  refine vc_ok tab_ok mixed ?_
  have hT := tab_ok
  have hm := mixed
  generalize hP : Tryz.prog = P at *
  generalize hA : std = A
  obtain ⟨qbin, qsh, qcmp, qscmp, qbcmp, qbnot, qneg, qwrap, qcat, qssize, qssub, qsget, qlen, qrsub, qapp, qelt, qset, qnth, qdrp, qstr, qint, qbool, qrow, qnat, qnadd, qnsub, qband, qofNat, qstrRow, qmkRow, qmx, qmn, qbytes, qemp⟩ := A
  have hE := Ar.eqs hA
  dsimp only at hE
  generalize hQ : EndD P Tryz.f100.results _ = Q
  have hok' : a_text.size < 2 ^ 47 := hok
  generalize hto : totNode ⟨a_id, a_text, a_sure⟩ = to at *
  have hto' : (a_text.size : Int) = to := hto
  clear hok hto
  have k0 := hok'
  cbv
  try simp only [nc] at *
  obtain ⟨l0, hl0⟩ : ∃ l, l = left - (a_text.size : Int) := ⟨_, rfl⟩
  rw [show qbin .sub .i64 left (qssize a_text) = l0 by simp only [hE, List.length_map, std_lss, std_leq, std_gtr, std_geq, std_eql, std_neq, std_len, std_add, std_subI, std_mulI, std_ssize, std_not, std_band, std_bcmp, std_nat, std_ofNat, std_nadd, std_nsub, std_emp, IntKind.wrap_i64, decide_eq_true_eq, decide_eq_false_iff_not, Bool.not_eq_true', Bool.not_eq_false', Option.getD_none, Option.getD_some, ]; omega]
  split
  · rename_i h2
    simp only [hE, List.length_map, std_lss, std_leq, std_gtr, std_geq, std_eql, std_neq, std_len, std_add, std_subI, std_mulI, std_ssize, std_not, std_band, std_bcmp, std_nat, std_ofNat, std_nadd, std_nsub, std_emp, IntKind.wrap_i64, decide_eq_true_eq, decide_eq_false_iff_not, Bool.not_eq_true', Bool.not_eq_false', Option.getD_none, Option.getD_some] at h2
    cbv
    try simp only [nc] at *
    rw [← hQ, show szOf to left = -1 by unfold szOf; rw [if_neg (by omega)]]
    exact endD_one rfl rfl
  rename_i h20
  simp only [hE, List.length_map, std_lss, std_leq, std_gtr, std_geq, std_eql, std_neq, std_len, std_add, std_subI, std_mulI, std_ssize, std_not, std_band, std_bcmp, std_nat, std_ofNat, std_nadd, std_nsub, std_emp, IntKind.wrap_i64, decide_eq_true_eq, decide_eq_false_iff_not, Bool.not_eq_true', Bool.not_eq_false', Option.getD_none, Option.getD_some] at h20
  cbv
  try simp only [nc] at *
  rw [← hQ, show szOf to left = l0 by unfold szOf; rw [if_pos (by omega)]; omega]
  exact endD_one rfl rfl
noncomputable def c55 : Code := (Tryz.f55.body).getD .skip
theorem ent55 : Entered Tryz.prog 55 := ⟨_, Tryz.func55, rfl, rfl⟩
theorem T55 {a : List TNode} {xs : List (List D)} (hx : a.map eNode = xs) {left : Int} (h0 : 0 ≤ left) (h1 : left < 2 ^ 40) (hok : okNodeS a) :
    CallOk Tryz.prog 55 [.d (.row 3 xs), .d (.sc (.int .i64 left))] [] ⟨.d (.sc (.int .i64 (szOf (totNodeS a) left))), [], []⟩ := by
  have ent100_ := ent100
  have T100_ := @T100
  obtain ⟨ha, hs⟩ := hok
  refine CallOk.of_bodyD (body := c55) Tryz.func55 rfl (Nat.le_of_ble_eq_true (by kernel_rfl)) rfl ?_
  refine vc_ok tab_ok mixed ?_
  have hT := tab_ok
  have hm := mixed
  generalize hP : Tryz.prog = P at *
  generalize hA : std = A
  obtain ⟨qbin, qsh, qcmp, qscmp, qbcmp, qbnot, qneg, qwrap, qcat, qssize, qssub, qsget, qlen, qrsub, qapp, qelt, qset, qnth, qdrp, qstr, qint, qbool, qrow, qnat, qnadd, qnsub, qband, qofNat, qstrRow, qmkRow, qmx, qmn, qbytes, qemp⟩ := A
  have hE := Ar.eqs hA
  dsimp only at hE
  generalize hQ : EndD P Tryz.f55.results _ = Q
  have hn := rd_n hx
  cbv
  try simp only [nc] at *
  split
  · rename_i h2
    simp only [hE, List.length_map, std_lss, std_leq, std_gtr, std_geq, std_eql, std_neq, std_len, std_add, std_subI, std_mulI, std_ssize, std_not, std_band, std_bcmp, std_nat, std_ofNat, std_nadd, std_nsub, std_emp, IntKind.wrap_i64, decide_eq_true_eq, decide_eq_false_iff_not, Bool.not_eq_true', Bool.not_eq_false', Option.getD_none, Option.getD_some, hn] at h2
    cbv
    try simp only [nc] at *
    have := sumF_nonneg (fun x => totNode x) a (fun x _ => totNodeS_el x)
    rw [← hQ, show szOf (totNodeS a) left = -1 by unfold szOf totNodeS; rw [if_neg (by omega)]]
    exact endD_one rfl rfl
  · rename_i h2
    simp only [hE, List.length_map, std_lss, std_leq, std_gtr, std_geq, std_eql, std_neq, std_len, std_add, std_subI, std_mulI, std_ssize, std_not, std_band, std_bcmp, std_nat, std_ofNat, std_nadd, std_nsub, std_emp, IntKind.wrap_i64, decide_eq_true_eq, decide_eq_false_iff_not, Bool.not_eq_true', Bool.not_eq_false', Option.getD_none, Option.getD_some, hn] at h2
    cbv
    try simp only [nc] at *
    refine LpW.of (κ := Nat) (fun k => k ≤ a.length ∧ 0 ≤ left - (a.length + sumF (fun x => totNode x) (a.take k))) (fun k => a.length - k) (fun k => [(0, .d (.row 3 xs)), (1, .d (.sc (.int .i64 (left - (a.length + sumF (fun x => totNode x) (a.take k)))))), (5, .d (.sc (.int .i64 k)))]) (fun _ => []) 0 ⟨by omega, by simp [sumF]; omega⟩ ?_ (by first | rfl | trivial) ?_
    · refine .cons rfl (.cons ?_ (.cons rfl (.nil _)))
      show AV.d (D.sc (Value.int IntKind.i64 (qbin .sub .i64 left (qlen xs)))) = _
      rw [show qbin .sub .i64 left (qlen xs) = left - a.length by simp only [hE, List.length_map, std_lss, std_leq, std_gtr, std_geq, std_eql, std_neq, std_len, std_add, std_subI, std_mulI, std_ssize, std_not, std_band, std_bcmp, std_nat, std_ofNat, std_nadd, std_nsub, std_emp, IntKind.wrap_i64, decide_eq_true_eq, decide_eq_false_iff_not, Bool.not_eq_true', Bool.not_eq_false', Option.getD_none, Option.getD_some, hn]; omega]
      simp [sumF]
    · rintro k ⟨hk, hl⟩
      generalize hleft : left - (a.length + sumF (fun x => totNode x) (a.take k)) = l at *
      generalize hi : (k : Int) = i
      refine vc_ok hT hm ?_
      rw [hA]
      cbv
      try simp only [nc] at *
      split
      · rename_i h3
        simp only [hE, List.length_map, std_lss, std_leq, std_gtr, std_geq, std_eql, std_neq, std_len, std_add, std_subI, std_mulI, std_ssize, std_not, std_band, std_bcmp, std_nat, std_ofNat, std_nadd, std_nsub, std_emp, IntKind.wrap_i64, decide_eq_true_eq, decide_eq_false_iff_not, Bool.not_eq_true', Bool.not_eq_false', Option.getD_none, Option.getD_some, hn] at h3
        have hk' : k < a.length := by omega
        have hsz := hs a[k] (List.getElem_mem hk')
        have hp := sumF_nonneg (fun x => totNode x) (a.take k) (fun x _ => totNodeS_el x)
        have hsum := sumF_succ (fun x => totNode x) a hk'
        have hle := sumF_take_le (fun x => totNode x) a (fun x _ => totNodeS_el x) (k + 1)
        have hel := totNodeS_el a[k]
        cbv
        try simp only [nc] at *
        repeat (refine And.intro (by first | (simp only [hE]; exact rd_inR hx hi hk') | (simp only [hE, rd_elt hx hi hk']; exact ⟨rfl⟩) | (simp only [hE, rd_elt hx hi hk']; exact ⟨Nat.le_of_ble_eq_true rfl⟩)) ?_)
        obtain ⟨wv, hwv⟩ : ∃ w, w = a[k] := ⟨_, rfl⟩
        have hev : qelt xs i = eNode wv := by simp only [hE]; rw [rd_elt hx hi hk', hwv]
        rw [← hwv] at hsz hsum hel
        obtain ⟨v_id, v_text, v_sure⟩ := wv
        rw [show qint (qnth (qelt xs i) 0) = v_id by rw [hev]; simp only [hE]; rfl, show qstr (qnth (qelt xs i) 1) = v_text by rw [hev]; simp only [hE]; rfl, show qint (qnth (qelt xs i) 2) = v_sure by rw [hev]; simp only [hE]; rfl]
        refine ClW.dd (f := 100) rfl rfl rfl rfl (.cons rfl (.cons rfl .nil)) rfl ent100_ (T100_ (by omega) (by omega) hsz) rfl ?_
        generalize hl' : szOf (totNode (⟨v_id, v_text, v_sure⟩ : TNode)) l = l'
        cbv
        try simp only [nc] at *
        split
        · rename_i h4
          simp only [hE, List.length_map, std_lss, std_leq, std_gtr, std_geq, std_eql, std_neq, std_len, std_add, std_subI, std_mulI, std_ssize, std_not, std_band, std_bcmp, std_nat, std_ofNat, std_nadd, std_nsub, std_emp, IntKind.wrap_i64, decide_eq_true_eq, decide_eq_false_iff_not, Bool.not_eq_true', Bool.not_eq_false', Option.getD_none, Option.getD_some] at h4
          cbv
          try simp only [nc] at *
          have hb : ¬ totNode (⟨v_id, v_text, v_sure⟩ : TNode) ≤ l := by intro hle'; unfold szOf at hl'; rw [if_pos hle'] at hl'; omega
          rw [← hQ, show szOf (totNodeS a) left = -1 by unfold szOf totNodeS; rw [if_neg (by omega)]]
          exact endD_one rfl rfl
        · rename_i h4
          simp only [hE, List.length_map, std_lss, std_leq, std_gtr, std_geq, std_eql, std_neq, std_len, std_add, std_subI, std_mulI, std_ssize, std_not, std_band, std_bcmp, std_nat, std_ofNat, std_nadd, std_nsub, std_emp, IntKind.wrap_i64, decide_eq_true_eq, decide_eq_false_iff_not, Bool.not_eq_true', Bool.not_eq_false', Option.getD_none, Option.getD_some] at h4
          obtain ⟨g, g'⟩ := szOf_ge (t := totNode (⟨v_id, v_text, v_sure⟩ : TNode)) (left := l) (by omega)
          cbv
          try simp only [nc] at *
          refine ⟨k + 1, ⟨by omega, by omega⟩, by omega, ?_, by trivial⟩
          refine .cons rfl (.cons ?_ (.cons ?_ (.nil _)))
          · rw [show left - (a.length + sumF (fun x => totNode x) (a.take (k + 1))) = l' by omega]
            rfl
          · show AV.d (D.sc (Value.int IntKind.i64 (qbin .add .i64 i 1))) = _
            rw [show qbin .add .i64 i 1 = ((k + 1 : Nat) : Int) by simp only [hE, List.length_map, std_lss, std_leq, std_gtr, std_geq, std_eql, std_neq, std_len, std_add, std_subI, std_mulI, std_ssize, std_not, std_band, std_bcmp, std_nat, std_ofNat, std_nadd, std_nsub, std_emp, IntKind.wrap_i64, decide_eq_true_eq, decide_eq_false_iff_not, Bool.not_eq_true', Bool.not_eq_false', Option.getD_none, Option.getD_some, ]; omega]
      · rename_i h3
        simp only [hE, List.length_map, std_lss, std_leq, std_gtr, std_geq, std_eql, std_neq, std_len, std_add, std_subI, std_mulI, std_ssize, std_not, std_band, std_bcmp, std_nat, std_ofNat, std_nadd, std_nsub, std_emp, IntKind.wrap_i64, decide_eq_true_eq, decide_eq_false_iff_not, Bool.not_eq_true', Bool.not_eq_false', Option.getD_none, Option.getD_some, hn] at h3
        cbv
        try simp only [nc] at *
        have hk' : k = a.length := by omega
        subst hk'
        rw [List.take_length] at hleft
        rw [← hQ, show szOf (totNodeS a) left = l by unfold szOf totNodeS; rw [if_pos (by omega)]; omega]
        exact endD_one rfl rfl
noncomputable def c101 : Code := (Tryz.f101.body).getD .skip
theorem ent101 : Entered Tryz.prog 101 := ⟨_, Tryz.func101, rfl, rfl⟩
theorem T101 {a_name : ByteArray} {a_id : Int} {left : Int} (h0 : 0 ≤ left) (h1 : left < 2 ^ 40) (hok : okEntry ⟨a_name, a_id⟩) :
    CallOk Tryz.prog 101 [.agg [.d (.sc (.string a_name)), .d (.sc (.int .i64 a_id))], .d (.sc (.int .i64 left))] [] ⟨.d (.sc (.int .i64 (szOf (totEntry ⟨a_name, a_id⟩) left))), [], []⟩ := by
  refine CallOk.of_bodyD (body := c101) Tryz.func101 rfl (Nat.le_of_ble_eq_true (by kernel_rfl)) rfl ?_
  refine vc_ok tab_ok mixed ?_
  have hT := tab_ok
  have hm := mixed
  generalize hP : Tryz.prog = P at *
  generalize hA : std = A
  obtain ⟨qbin, qsh, qcmp, qscmp, qbcmp, qbnot, qneg, qwrap, qcat, qssize, qssub, qsget, qlen, qrsub, qapp, qelt, qset, qnth, qdrp, qstr, qint, qbool, qrow, qnat, qnadd, qnsub, qband, qofNat, qstrRow, qmkRow, qmx, qmn, qbytes, qemp⟩ := A
  have hE := Ar.eqs hA
  dsimp only at hE
  generalize hQ : EndD P Tryz.f101.results _ = Q
  have hok' : a_name.size < 2 ^ 47 := hok
  generalize hto : totEntry ⟨a_name, a_id⟩ = to at *
  have hto' : (a_name.size : Int) = to := hto
  clear hok hto
  have k0 := hok'
  cbv
  try simp only [nc] at *
  obtain ⟨l0, hl0⟩ : ∃ l, l = left - (a_name.size : Int) := ⟨_, rfl⟩
  rw [show qbin .sub .i64 left (qssize a_name) = l0 by simp only [hE, List.length_map, std_lss, std_leq, std_gtr, std_geq, std_eql, std_neq, std_len, std_add, std_subI, std_mulI, std_ssize, std_not, std_band, std_bcmp, std_nat, std_ofNat, std_nadd, std_nsub, std_emp, IntKind.wrap_i64, decide_eq_true_eq, decide_eq_false_iff_not, Bool.not_eq_true', Bool.not_eq_false', Option.getD_none, Option.getD_some, ]; omega]
  split
  · rename_i h2
    simp only [hE, List.length_map, std_lss, std_leq, std_gtr, std_geq, std_eql, std_neq, std_len, std_add, std_subI, std_mulI, std_ssize, std_not, std_band, std_bcmp, std_nat, std_ofNat, std_nadd, std_nsub, std_emp, IntKind.wrap_i64, decide_eq_true_eq, decide_eq_false_iff_not, Bool.not_eq_true', Bool.not_eq_false', Option.getD_none, Option.getD_some] at h2
    cbv
    try simp only [nc] at *
    rw [← hQ, show szOf to left = -1 by unfold szOf; rw [if_neg (by omega)]]
    exact endD_one rfl rfl
  rename_i h20
  simp only [hE, List.length_map, std_lss, std_leq, std_gtr, std_geq, std_eql, std_neq, std_len, std_add, std_subI, std_mulI, std_ssize, std_not, std_band, std_bcmp, std_nat, std_ofNat, std_nadd, std_nsub, std_emp, IntKind.wrap_i64, decide_eq_true_eq, decide_eq_false_iff_not, Bool.not_eq_true', Bool.not_eq_false', Option.getD_none, Option.getD_some] at h20
  cbv
  try simp only [nc] at *
  rw [← hQ, show szOf to left = l0 by unfold szOf; rw [if_pos (by omega)]; omega]
  exact endD_one rfl rfl
noncomputable def c56 : Code := (Tryz.f56.body).getD .skip
theorem ent56 : Entered Tryz.prog 56 := ⟨_, Tryz.func56, rfl, rfl⟩
theorem T56 {a : List TEntry} {xs : List (List D)} (hx : a.map eEntry = xs) {left : Int} (h0 : 0 ≤ left) (h1 : left < 2 ^ 40) (hok : okEntryS a) :
    CallOk Tryz.prog 56 [.d (.row 2 xs), .d (.sc (.int .i64 left))] [] ⟨.d (.sc (.int .i64 (szOf (totEntryS a) left))), [], []⟩ := by
  have ent101_ := ent101
  have T101_ := @T101
  obtain ⟨ha, hs⟩ := hok
  refine CallOk.of_bodyD (body := c56) Tryz.func56 rfl (Nat.le_of_ble_eq_true (by kernel_rfl)) rfl ?_
  refine vc_ok tab_ok mixed ?_
  have hT := tab_ok
  have hm := mixed
  generalize hP : Tryz.prog = P at *
  generalize hA : std = A
  obtain ⟨qbin, qsh, qcmp, qscmp, qbcmp, qbnot, qneg, qwrap, qcat, qssize, qssub, qsget, qlen, qrsub, qapp, qelt, qset, qnth, qdrp, qstr, qint, qbool, qrow, qnat, qnadd, qnsub, qband, qofNat, qstrRow, qmkRow, qmx, qmn, qbytes, qemp⟩ := A
  have hE := Ar.eqs hA
  dsimp only at hE
  generalize hQ : EndD P Tryz.f56.results _ = Q
  have hn := rd_n hx
  cbv
  try simp only [nc] at *
  split
  · rename_i h2
    simp only [hE, List.length_map, std_lss, std_leq, std_gtr, std_geq, std_eql, std_neq, std_len, std_add, std_subI, std_mulI, std_ssize, std_not, std_band, std_bcmp, std_nat, std_ofNat, std_nadd, std_nsub, std_emp, IntKind.wrap_i64, decide_eq_true_eq, decide_eq_false_iff_not, Bool.not_eq_true', Bool.not_eq_false', Option.getD_none, Option.getD_some, hn] at h2
    cbv
    try simp only [nc] at *
    have := sumF_nonneg (fun x => totEntry x) a (fun x _ => totEntryS_el x)
    rw [← hQ, show szOf (totEntryS a) left = -1 by unfold szOf totEntryS; rw [if_neg (by omega)]]
    exact endD_one rfl rfl
  · rename_i h2
    simp only [hE, List.length_map, std_lss, std_leq, std_gtr, std_geq, std_eql, std_neq, std_len, std_add, std_subI, std_mulI, std_ssize, std_not, std_band, std_bcmp, std_nat, std_ofNat, std_nadd, std_nsub, std_emp, IntKind.wrap_i64, decide_eq_true_eq, decide_eq_false_iff_not, Bool.not_eq_true', Bool.not_eq_false', Option.getD_none, Option.getD_some, hn] at h2
    cbv
    try simp only [nc] at *
    refine LpW.of (κ := Nat) (fun k => k ≤ a.length ∧ 0 ≤ left - (a.length + sumF (fun x => totEntry x) (a.take k))) (fun k => a.length - k) (fun k => [(0, .d (.row 2 xs)), (1, .d (.sc (.int .i64 (left - (a.length + sumF (fun x => totEntry x) (a.take k)))))), (5, .d (.sc (.int .i64 k)))]) (fun _ => []) 0 ⟨by omega, by simp [sumF]; omega⟩ ?_ (by first | rfl | trivial) ?_
    · refine .cons rfl (.cons ?_ (.cons rfl (.nil _)))
      show AV.d (D.sc (Value.int IntKind.i64 (qbin .sub .i64 left (qlen xs)))) = _
      rw [show qbin .sub .i64 left (qlen xs) = left - a.length by simp only [hE, List.length_map, std_lss, std_leq, std_gtr, std_geq, std_eql, std_neq, std_len, std_add, std_subI, std_mulI, std_ssize, std_not, std_band, std_bcmp, std_nat, std_ofNat, std_nadd, std_nsub, std_emp, IntKind.wrap_i64, decide_eq_true_eq, decide_eq_false_iff_not, Bool.not_eq_true', Bool.not_eq_false', Option.getD_none, Option.getD_some, hn]; omega]
      simp [sumF]
    · rintro k ⟨hk, hl⟩
      generalize hleft : left - (a.length + sumF (fun x => totEntry x) (a.take k)) = l at *
      generalize hi : (k : Int) = i
      refine vc_ok hT hm ?_
      rw [hA]
      cbv
      try simp only [nc] at *
      split
      · rename_i h3
        simp only [hE, List.length_map, std_lss, std_leq, std_gtr, std_geq, std_eql, std_neq, std_len, std_add, std_subI, std_mulI, std_ssize, std_not, std_band, std_bcmp, std_nat, std_ofNat, std_nadd, std_nsub, std_emp, IntKind.wrap_i64, decide_eq_true_eq, decide_eq_false_iff_not, Bool.not_eq_true', Bool.not_eq_false', Option.getD_none, Option.getD_some, hn] at h3
        have hk' : k < a.length := by omega
        have hsz := hs a[k] (List.getElem_mem hk')
        have hp := sumF_nonneg (fun x => totEntry x) (a.take k) (fun x _ => totEntryS_el x)
        have hsum := sumF_succ (fun x => totEntry x) a hk'
        have hle := sumF_take_le (fun x => totEntry x) a (fun x _ => totEntryS_el x) (k + 1)
        have hel := totEntryS_el a[k]
        cbv
        try simp only [nc] at *
        repeat (refine And.intro (by first | (simp only [hE]; exact rd_inR hx hi hk') | (simp only [hE, rd_elt hx hi hk']; exact ⟨rfl⟩) | (simp only [hE, rd_elt hx hi hk']; exact ⟨Nat.le_of_ble_eq_true rfl⟩)) ?_)
        obtain ⟨wv, hwv⟩ : ∃ w, w = a[k] := ⟨_, rfl⟩
        have hev : qelt xs i = eEntry wv := by simp only [hE]; rw [rd_elt hx hi hk', hwv]
        rw [← hwv] at hsz hsum hel
        obtain ⟨v_name, v_id⟩ := wv
        rw [show qstr (qnth (qelt xs i) 0) = v_name by rw [hev]; simp only [hE]; rfl, show qint (qnth (qelt xs i) 1) = v_id by rw [hev]; simp only [hE]; rfl]
        refine ClW.dd (f := 101) rfl rfl rfl rfl (.cons rfl (.cons rfl .nil)) rfl ent101_ (T101_ (by omega) (by omega) hsz) rfl ?_
        generalize hl' : szOf (totEntry (⟨v_name, v_id⟩ : TEntry)) l = l'
        cbv
        try simp only [nc] at *
        split
        · rename_i h4
          simp only [hE, List.length_map, std_lss, std_leq, std_gtr, std_geq, std_eql, std_neq, std_len, std_add, std_subI, std_mulI, std_ssize, std_not, std_band, std_bcmp, std_nat, std_ofNat, std_nadd, std_nsub, std_emp, IntKind.wrap_i64, decide_eq_true_eq, decide_eq_false_iff_not, Bool.not_eq_true', Bool.not_eq_false', Option.getD_none, Option.getD_some] at h4
          cbv
          try simp only [nc] at *
          have hb : ¬ totEntry (⟨v_name, v_id⟩ : TEntry) ≤ l := by intro hle'; unfold szOf at hl'; rw [if_pos hle'] at hl'; omega
          rw [← hQ, show szOf (totEntryS a) left = -1 by unfold szOf totEntryS; rw [if_neg (by omega)]]
          exact endD_one rfl rfl
        · rename_i h4
          simp only [hE, List.length_map, std_lss, std_leq, std_gtr, std_geq, std_eql, std_neq, std_len, std_add, std_subI, std_mulI, std_ssize, std_not, std_band, std_bcmp, std_nat, std_ofNat, std_nadd, std_nsub, std_emp, IntKind.wrap_i64, decide_eq_true_eq, decide_eq_false_iff_not, Bool.not_eq_true', Bool.not_eq_false', Option.getD_none, Option.getD_some] at h4
          obtain ⟨g, g'⟩ := szOf_ge (t := totEntry (⟨v_name, v_id⟩ : TEntry)) (left := l) (by omega)
          cbv
          try simp only [nc] at *
          refine ⟨k + 1, ⟨by omega, by omega⟩, by omega, ?_, by trivial⟩
          refine .cons rfl (.cons ?_ (.cons ?_ (.nil _)))
          · rw [show left - (a.length + sumF (fun x => totEntry x) (a.take (k + 1))) = l' by omega]
            rfl
          · show AV.d (D.sc (Value.int IntKind.i64 (qbin .add .i64 i 1))) = _
            rw [show qbin .add .i64 i 1 = ((k + 1 : Nat) : Int) by simp only [hE, List.length_map, std_lss, std_leq, std_gtr, std_geq, std_eql, std_neq, std_len, std_add, std_subI, std_mulI, std_ssize, std_not, std_band, std_bcmp, std_nat, std_ofNat, std_nadd, std_nsub, std_emp, IntKind.wrap_i64, decide_eq_true_eq, decide_eq_false_iff_not, Bool.not_eq_true', Bool.not_eq_false', Option.getD_none, Option.getD_some, ]; omega]
      · rename_i h3
        simp only [hE, List.length_map, std_lss, std_leq, std_gtr, std_geq, std_eql, std_neq, std_len, std_add, std_subI, std_mulI, std_ssize, std_not, std_band, std_bcmp, std_nat, std_ofNat, std_nadd, std_nsub, std_emp, IntKind.wrap_i64, decide_eq_true_eq, decide_eq_false_iff_not, Bool.not_eq_true', Bool.not_eq_false', Option.getD_none, Option.getD_some, hn] at h3
        cbv
        try simp only [nc] at *
        have hk' : k = a.length := by omega
        subst hk'
        rw [List.take_length] at hleft
        rw [← hQ, show szOf (totEntryS a) left = l by unfold szOf totEntryS; rw [if_pos (by omega)]; omega]
        exact endD_one rfl rfl
noncomputable def c57 : Code := (Tryz.f57.body).getD .skip
theorem ent57 : Entered Tryz.prog 57 := ⟨_, Tryz.func57, rfl, rfl⟩
theorem T57 {a : List ByteArray} {xs : List (List D)} (hx : a.map cS = xs) {left : Int} (h0 : 0 ≤ left) (h1 : left < 2 ^ 40) (hok : okStringS a) :
    CallOk Tryz.prog 57 [.d (.row 1 xs), .d (.sc (.int .i64 left))] [] ⟨.d (.sc (.int .i64 (szOf (totStringS a) left))), [], []⟩ := by
  obtain ⟨ha, hs⟩ := hok
  refine CallOk.of_bodyD (body := c57) Tryz.func57 rfl (Nat.le_of_ble_eq_true (by kernel_rfl)) rfl ?_
  refine vc_ok tab_ok mixed ?_
  have hT := tab_ok
  have hm := mixed
  generalize hP : Tryz.prog = P at *
  generalize hA : std = A
  obtain ⟨qbin, qsh, qcmp, qscmp, qbcmp, qbnot, qneg, qwrap, qcat, qssize, qssub, qsget, qlen, qrsub, qapp, qelt, qset, qnth, qdrp, qstr, qint, qbool, qrow, qnat, qnadd, qnsub, qband, qofNat, qstrRow, qmkRow, qmx, qmn, qbytes, qemp⟩ := A
  have hE := Ar.eqs hA
  dsimp only at hE
  generalize hQ : EndD P Tryz.f57.results _ = Q
  have hn := rd_n hx
  cbv
  try simp only [nc] at *
  split
  · rename_i h2
    simp only [hE, List.length_map, std_lss, std_leq, std_gtr, std_geq, std_eql, std_neq, std_len, std_add, std_subI, std_mulI, std_ssize, std_not, std_band, std_bcmp, std_nat, std_ofNat, std_nadd, std_nsub, std_emp, IntKind.wrap_i64, decide_eq_true_eq, decide_eq_false_iff_not, Bool.not_eq_true', Bool.not_eq_false', Option.getD_none, Option.getD_some, hn] at h2
    cbv
    try simp only [nc] at *
    have := sumF_nonneg (fun x => (x.size : Int)) a (fun x _ => totStringS_el x)
    rw [← hQ, show szOf (totStringS a) left = -1 by unfold szOf totStringS; rw [if_neg (by omega)]]
    exact endD_one rfl rfl
  · rename_i h2
    simp only [hE, List.length_map, std_lss, std_leq, std_gtr, std_geq, std_eql, std_neq, std_len, std_add, std_subI, std_mulI, std_ssize, std_not, std_band, std_bcmp, std_nat, std_ofNat, std_nadd, std_nsub, std_emp, IntKind.wrap_i64, decide_eq_true_eq, decide_eq_false_iff_not, Bool.not_eq_true', Bool.not_eq_false', Option.getD_none, Option.getD_some, hn] at h2
    cbv
    try simp only [nc] at *
    refine LpW.of (κ := Nat) (fun k => k ≤ a.length ∧ 0 ≤ left - (a.length + sumF (fun x => (x.size : Int)) (a.take k))) (fun k => a.length - k) (fun k => [(0, .d (.row 1 xs)), (1, .d (.sc (.int .i64 (left - (a.length + sumF (fun x => (x.size : Int)) (a.take k)))))), (5, .d (.sc (.int .i64 k)))]) (fun _ => []) 0 ⟨by omega, by simp [sumF]; omega⟩ ?_ (by first | rfl | trivial) ?_
    · refine .cons rfl (.cons ?_ (.cons rfl (.nil _)))
      show AV.d (D.sc (Value.int IntKind.i64 (qbin .sub .i64 left (qlen xs)))) = _
      rw [show qbin .sub .i64 left (qlen xs) = left - a.length by simp only [hE, List.length_map, std_lss, std_leq, std_gtr, std_geq, std_eql, std_neq, std_len, std_add, std_subI, std_mulI, std_ssize, std_not, std_band, std_bcmp, std_nat, std_ofNat, std_nadd, std_nsub, std_emp, IntKind.wrap_i64, decide_eq_true_eq, decide_eq_false_iff_not, Bool.not_eq_true', Bool.not_eq_false', Option.getD_none, Option.getD_some, hn]; omega]
      simp [sumF]
    · rintro k ⟨hk, hl⟩
      generalize hleft : left - (a.length + sumF (fun x => (x.size : Int)) (a.take k)) = l at *
      generalize hi : (k : Int) = i
      refine vc_ok hT hm ?_
      rw [hA]
      cbv
      try simp only [nc] at *
      split
      · rename_i h3
        simp only [hE, List.length_map, std_lss, std_leq, std_gtr, std_geq, std_eql, std_neq, std_len, std_add, std_subI, std_mulI, std_ssize, std_not, std_band, std_bcmp, std_nat, std_ofNat, std_nadd, std_nsub, std_emp, IntKind.wrap_i64, decide_eq_true_eq, decide_eq_false_iff_not, Bool.not_eq_true', Bool.not_eq_false', Option.getD_none, Option.getD_some, hn] at h3
        have hk' : k < a.length := by omega
        have hsz := hs a[k] (List.getElem_mem hk')
        have hp := sumF_nonneg (fun x => (x.size : Int)) (a.take k) (fun x _ => totStringS_el x)
        have hsum := sumF_succ (fun x => (x.size : Int)) a hk'
        have hle := sumF_take_le (fun x => (x.size : Int)) a (fun x _ => totStringS_el x) (k + 1)
        have hel := totStringS_el a[k]
        cbv
        try simp only [nc] at *
        repeat (refine And.intro (by first | (simp only [hE]; exact rd_inR hx hi hk') | (simp only [hE, rd_elt hx hi hk']; exact ⟨rfl⟩) | (simp only [hE, rd_elt hx hi hk']; exact ⟨Nat.le_of_ble_eq_true rfl⟩)) ?_)
        obtain ⟨s, hsk⟩ : ∃ s, s = a[k] := ⟨_, rfl⟩
        rw [show qstr (qnth (qelt xs i) 0) = s by rw [hsk]; simp only [hE, rd_elt hx hi hk']; rfl]
        rw [← hsk] at hsz hsum hel
        obtain ⟨l', hl'⟩ : ∃ l', l' = l - (s.size : Int) := ⟨_, rfl⟩
        rw [show qbin .sub .i64 l (qssize s) = l' by simp only [hE, List.length_map, std_lss, std_leq, std_gtr, std_geq, std_eql, std_neq, std_len, std_add, std_subI, std_mulI, std_ssize, std_not, std_band, std_bcmp, std_nat, std_ofNat, std_nadd, std_nsub, std_emp, IntKind.wrap_i64, decide_eq_true_eq, decide_eq_false_iff_not, Bool.not_eq_true', Bool.not_eq_false', Option.getD_none, Option.getD_some, ]; omega]
        split
        · rename_i h4
          simp only [hE, List.length_map, std_lss, std_leq, std_gtr, std_geq, std_eql, std_neq, std_len, std_add, std_subI, std_mulI, std_ssize, std_not, std_band, std_bcmp, std_nat, std_ofNat, std_nadd, std_nsub, std_emp, IntKind.wrap_i64, decide_eq_true_eq, decide_eq_false_iff_not, Bool.not_eq_true', Bool.not_eq_false', Option.getD_none, Option.getD_some] at h4
          cbv
          try simp only [nc] at *
          rw [← hQ, show szOf (totStringS a) left = -1 by unfold szOf totStringS; rw [if_neg (by omega)]]
          exact endD_one rfl rfl
        · rename_i h4
          simp only [hE, List.length_map, std_lss, std_leq, std_gtr, std_geq, std_eql, std_neq, std_len, std_add, std_subI, std_mulI, std_ssize, std_not, std_band, std_bcmp, std_nat, std_ofNat, std_nadd, std_nsub, std_emp, IntKind.wrap_i64, decide_eq_true_eq, decide_eq_false_iff_not, Bool.not_eq_true', Bool.not_eq_false', Option.getD_none, Option.getD_some] at h4
          cbv
          try simp only [nc] at *
          refine ⟨k + 1, ⟨by omega, by omega⟩, by omega, ?_, by trivial⟩
          refine .cons rfl (.cons ?_ (.cons ?_ (.nil _)))
          · rw [show left - (a.length + sumF (fun x => (x.size : Int)) (a.take (k + 1))) = l' by omega]
            rfl
          · show AV.d (D.sc (Value.int IntKind.i64 (qbin .add .i64 i 1))) = _
            rw [show qbin .add .i64 i 1 = ((k + 1 : Nat) : Int) by simp only [hE, List.length_map, std_lss, std_leq, std_gtr, std_geq, std_eql, std_neq, std_len, std_add, std_subI, std_mulI, std_ssize, std_not, std_band, std_bcmp, std_nat, std_ofNat, std_nadd, std_nsub, std_emp, IntKind.wrap_i64, decide_eq_true_eq, decide_eq_false_iff_not, Bool.not_eq_true', Bool.not_eq_false', Option.getD_none, Option.getD_some, ]; omega]
      · rename_i h3
        simp only [hE, List.length_map, std_lss, std_leq, std_gtr, std_geq, std_eql, std_neq, std_len, std_add, std_subI, std_mulI, std_ssize, std_not, std_band, std_bcmp, std_nat, std_ofNat, std_nadd, std_nsub, std_emp, IntKind.wrap_i64, decide_eq_true_eq, decide_eq_false_iff_not, Bool.not_eq_true', Bool.not_eq_false', Option.getD_none, Option.getD_some, hn] at h3
        cbv
        try simp only [nc] at *
        have hk' : k = a.length := by omega
        subst hk'
        rw [List.take_length] at hleft
        rw [← hQ, show szOf (totStringS a) left = l by unfold szOf totStringS; rw [if_pos (by omega)]; omega]
        exact endD_one rfl rfl
noncomputable def c17 : Code := (Tryz.f17.body).getD .skip
theorem ent17 : Entered Tryz.prog 17 := ⟨_, Tryz.func17, rfl, rfl⟩
theorem T17 {a_nodes : List TNode} {xa_nodes : List (List D)} (ha_nodes : a_nodes.map eNode = xa_nodes) {a_entries : List TEntry} {xa_entries : List (List D)} (ha_entries : a_entries.map eEntry = xa_entries) {a_old : List TEntry} {xa_old : List (List D)} (ha_old : a_old.map eEntry = xa_old) {a_steps : List ByteArray} {xa_steps : List (List D)} (ha_steps : a_steps.map cS = xa_steps) {a_room : Int} {a_next : Int} {left : Int} (h0 : 0 ≤ left) (h1 : left < 2 ^ 40) (hok : okDisk ⟨a_nodes, a_entries, a_old, a_steps, a_room, a_next⟩) :
    CallOk Tryz.prog 17 [.agg [.d (.row 3 xa_nodes), .d (.row 2 xa_entries), .d (.row 2 xa_old), .d (.row 1 xa_steps), .d (.sc (.int .i64 a_room)), .d (.sc (.int .i64 a_next))], .d (.sc (.int .i64 left))] [] ⟨.d (.sc (.int .i64 (szOf (totDisk ⟨a_nodes, a_entries, a_old, a_steps, a_room, a_next⟩) left))), [], []⟩ := by
  have ent55_ := ent55
  have T55_ := @T55
  have ent56_ := ent56
  have T56_ := @T56
  have ent57_ := ent57
  have T57_ := @T57
  refine CallOk.of_bodyD (body := c17) Tryz.func17 rfl (Nat.le_of_ble_eq_true (by kernel_rfl)) rfl ?_
  refine vc_ok tab_ok mixed ?_
  have hT := tab_ok
  have hm := mixed
  generalize hP : Tryz.prog = P at *
  generalize hA : std = A
  obtain ⟨qbin, qsh, qcmp, qscmp, qbcmp, qbnot, qneg, qwrap, qcat, qssize, qssub, qsget, qlen, qrsub, qapp, qelt, qset, qnth, qdrp, qstr, qint, qbool, qrow, qnat, qnadd, qnsub, qband, qofNat, qstrRow, qmkRow, qmx, qmn, qbytes, qemp⟩ := A
  have hE := Ar.eqs hA
  dsimp only at hE
  generalize hQ : EndD P Tryz.f17.results _ = Q
  have nna_nodes := totNodeS_nn a_nodes
  have nna_entries := totEntryS_nn a_entries
  have nna_old := totEntryS_nn a_old
  have nna_steps := totStringS_nn a_steps
  have hok' : okNodeS a_nodes ∧ okEntryS a_entries ∧ okEntryS a_old ∧ okStringS a_steps := hok
  generalize hto : totDisk ⟨a_nodes, a_entries, a_old, a_steps, a_room, a_next⟩ = to at *
  have hto' : totNodeS a_nodes + totEntryS a_entries + totEntryS a_old + totStringS a_steps = to := hto
  clear hok hto
  obtain ⟨k0, k1, k2, k3⟩ := hok'
  cbv
  try simp only [nc] at *
  refine ClW.dd (f := 55) rfl rfl rfl rfl (.cons rfl (.cons rfl .nil)) rfl ent55_ (T55_ ha_nodes (by omega) (by omega) k0) rfl ?_
  generalize hl0 : szOf (totNodeS a_nodes) left = l0
  cbv
  try simp only [nc] at *
  split
  · rename_i h2
    simp only [hE, List.length_map, std_lss, std_leq, std_gtr, std_geq, std_eql, std_neq, std_len, std_add, std_subI, std_mulI, std_ssize, std_not, std_band, std_bcmp, std_nat, std_ofNat, std_nadd, std_nsub, std_emp, IntKind.wrap_i64, decide_eq_true_eq, decide_eq_false_iff_not, Bool.not_eq_true', Bool.not_eq_false', Option.getD_none, Option.getD_some] at h2
    cbv
    try simp only [nc] at *
    have hb0 : ¬ totNodeS a_nodes ≤ left := by intro hle; unfold szOf at hl0; rw [if_pos hle] at hl0; omega
    rw [← hQ, show szOf to left = -1 by unfold szOf; rw [if_neg (by omega)]]
    exact endD_one rfl rfl
  rename_i h20
  simp only [hE, List.length_map, std_lss, std_leq, std_gtr, std_geq, std_eql, std_neq, std_len, std_add, std_subI, std_mulI, std_ssize, std_not, std_band, std_bcmp, std_nat, std_ofNat, std_nadd, std_nsub, std_emp, IntKind.wrap_i64, decide_eq_true_eq, decide_eq_false_iff_not, Bool.not_eq_true', Bool.not_eq_false', Option.getD_none, Option.getD_some] at h20
  obtain ⟨g0, g0'⟩ := szOf_ge (t := totNodeS a_nodes) (left := left) (by omega)
  cbv
  try simp only [nc] at *
  refine ClW.dd (f := 56) rfl rfl rfl rfl (.cons rfl (.cons rfl .nil)) rfl ent56_ (T56_ ha_entries (by omega) (by omega) k1) rfl ?_
  generalize hl1 : szOf (totEntryS a_entries) l0 = l1
  cbv
  try simp only [nc] at *
  split
  · rename_i h2
    simp only [hE, List.length_map, std_lss, std_leq, std_gtr, std_geq, std_eql, std_neq, std_len, std_add, std_subI, std_mulI, std_ssize, std_not, std_band, std_bcmp, std_nat, std_ofNat, std_nadd, std_nsub, std_emp, IntKind.wrap_i64, decide_eq_true_eq, decide_eq_false_iff_not, Bool.not_eq_true', Bool.not_eq_false', Option.getD_none, Option.getD_some] at h2
    cbv
    try simp only [nc] at *
    have hb1 : ¬ totEntryS a_entries ≤ l0 := by intro hle; unfold szOf at hl1; rw [if_pos hle] at hl1; omega
    rw [← hQ, show szOf to left = -1 by unfold szOf; rw [if_neg (by omega)]]
    exact endD_one rfl rfl
  rename_i h21
  simp only [hE, List.length_map, std_lss, std_leq, std_gtr, std_geq, std_eql, std_neq, std_len, std_add, std_subI, std_mulI, std_ssize, std_not, std_band, std_bcmp, std_nat, std_ofNat, std_nadd, std_nsub, std_emp, IntKind.wrap_i64, decide_eq_true_eq, decide_eq_false_iff_not, Bool.not_eq_true', Bool.not_eq_false', Option.getD_none, Option.getD_some] at h21
  obtain ⟨g1, g1'⟩ := szOf_ge (t := totEntryS a_entries) (left := l0) (by omega)
  cbv
  try simp only [nc] at *
  refine ClW.dd (f := 56) rfl rfl rfl rfl (.cons rfl (.cons rfl .nil)) rfl ent56_ (T56_ ha_old (by omega) (by omega) k2) rfl ?_
  generalize hl2 : szOf (totEntryS a_old) l1 = l2
  cbv
  try simp only [nc] at *
  split
  · rename_i h2
    simp only [hE, List.length_map, std_lss, std_leq, std_gtr, std_geq, std_eql, std_neq, std_len, std_add, std_subI, std_mulI, std_ssize, std_not, std_band, std_bcmp, std_nat, std_ofNat, std_nadd, std_nsub, std_emp, IntKind.wrap_i64, decide_eq_true_eq, decide_eq_false_iff_not, Bool.not_eq_true', Bool.not_eq_false', Option.getD_none, Option.getD_some] at h2
    cbv
    try simp only [nc] at *
    have hb2 : ¬ totEntryS a_old ≤ l1 := by intro hle; unfold szOf at hl2; rw [if_pos hle] at hl2; omega
    rw [← hQ, show szOf to left = -1 by unfold szOf; rw [if_neg (by omega)]]
    exact endD_one rfl rfl
  rename_i h22
  simp only [hE, List.length_map, std_lss, std_leq, std_gtr, std_geq, std_eql, std_neq, std_len, std_add, std_subI, std_mulI, std_ssize, std_not, std_band, std_bcmp, std_nat, std_ofNat, std_nadd, std_nsub, std_emp, IntKind.wrap_i64, decide_eq_true_eq, decide_eq_false_iff_not, Bool.not_eq_true', Bool.not_eq_false', Option.getD_none, Option.getD_some] at h22
  obtain ⟨g2, g2'⟩ := szOf_ge (t := totEntryS a_old) (left := l1) (by omega)
  cbv
  try simp only [nc] at *
  refine ClW.dd (f := 57) rfl rfl rfl rfl (.cons rfl (.cons rfl .nil)) rfl ent57_ (T57_ ha_steps (by omega) (by omega) k3) rfl ?_
  generalize hl3 : szOf (totStringS a_steps) l2 = l3
  cbv
  try simp only [nc] at *
  split
  · rename_i h2
    simp only [hE, List.length_map, std_lss, std_leq, std_gtr, std_geq, std_eql, std_neq, std_len, std_add, std_subI, std_mulI, std_ssize, std_not, std_band, std_bcmp, std_nat, std_ofNat, std_nadd, std_nsub, std_emp, IntKind.wrap_i64, decide_eq_true_eq, decide_eq_false_iff_not, Bool.not_eq_true', Bool.not_eq_false', Option.getD_none, Option.getD_some] at h2
    cbv
    try simp only [nc] at *
    have hb3 : ¬ totStringS a_steps ≤ l2 := by intro hle; unfold szOf at hl3; rw [if_pos hle] at hl3; omega
    rw [← hQ, show szOf to left = -1 by unfold szOf; rw [if_neg (by omega)]]
    exact endD_one rfl rfl
  rename_i h23
  simp only [hE, List.length_map, std_lss, std_leq, std_gtr, std_geq, std_eql, std_neq, std_len, std_add, std_subI, std_mulI, std_ssize, std_not, std_band, std_bcmp, std_nat, std_ofNat, std_nadd, std_nsub, std_emp, IntKind.wrap_i64, decide_eq_true_eq, decide_eq_false_iff_not, Bool.not_eq_true', Bool.not_eq_false', Option.getD_none, Option.getD_some] at h23
  obtain ⟨g3, g3'⟩ := szOf_ge (t := totStringS a_steps) (left := l2) (by omega)
  cbv
  try simp only [nc] at *
  rw [← hQ, show szOf to left = l3 by unfold szOf; rw [if_pos (by omega)]; omega]
  exact endD_one rfl rfl
end Go.Proofs.YtmhinjjgpabkfaaGreatDoor.Ab
