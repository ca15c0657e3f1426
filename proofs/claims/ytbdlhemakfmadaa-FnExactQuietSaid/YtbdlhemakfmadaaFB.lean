/- What functions of the program come to, for all arguments in the given bounds. -/
import Derived.Test.YtbdlhemakfmadaaHA
set_option linter.unusedVariables false
set_option linter.unusedSimpArgs false
namespace Go.Proofs.Ytbdlhemakfmadaa.Ab
open Go Go.Proofs
set_option maxRecDepth 20000
/-! StuckWriter. -/
def rStuckWriter (w : TWriter) : Bool := decide (w.code_ = 2)
noncomputable def c21 : Code := (Try.f21.body).getD .skip
theorem ent21 : Entered Try.prog 21 := ⟨_, Try.func21, rfl, rfl⟩
noncomputable def c23 : Code := (Try.f23.body).getD .skip
theorem ent23 : Entered Try.prog 23 := ⟨_, Try.func23, rfl, rfl⟩
theorem T21 {w_version : Int} {w_stride : Int} {w_roll : Int} {w_base : Int} {w_link : Int} {w_offsets : List Int} {xw_offsets : List (List D)} (hw_offsets : w_offsets.map cI = xw_offsets) {w_end : Int} {w_open : Bool} {w_code : Int} (hb : totWriter ⟨w_version, w_stride, w_roll, w_base, w_link, w_offsets, w_end, w_open, w_code⟩ ≤ 1048576) : CallOk Try.prog 21 [.agg [.d (.sc (.int .i64 w_version)), .d (.sc (.int .i64 w_stride)), .d (.sc (.int .i64 w_roll)), .d (.sc (.int .i64 w_base)), .d (.sc (.int .i64 w_link)), .d (.row 1 xw_offsets), .d (.sc (.int .i64 w_end)), .d (.sc (.bool w_open)), .d (.sc (.int .i64 w_code))]] [] ⟨.d (.sc (.bool (rStuckWriter ⟨w_version, w_stride, w_roll, w_base, w_link, w_offsets, w_end, w_open, w_code⟩))), [], []⟩ := by
  refine CallOk.of_bodyD (body := c21) Try.func21 rfl (Nat.le_of_ble_eq_true (by kernel_rfl)) rfl ?_
  refine vc_ok tab_ok mixed ?_
  have hT := tab_ok
  have hm := mixed
  generalize hP : Try.prog = P at *
  generalize hA : std = A
  obtain ⟨qbin, qsh, qcmp, qscmp, qbcmp, qbnot, qneg, qwrap, qcat, qssize, qssub, qsget, qlen, qrsub, qapp, qelt, qset, qnth, qdrp, qstr, qint, qbool, qrow, qnat, qnadd, qnsub, qband, qofNat, qstrRow, qmkRow, qmx, qmn, qbytes⟩ := A
  have hE := Ar.eqs hA
  dsimp only at hE
  generalize hQ : EndD P Try.f21.results _ = Q
  cbv
  try simp only [nc] at *
  rw [← hQ]
  refine endD_val rfl (bool_eq ?_)
  simp only [hE, std_eql]
  rfl
theorem T23 {w_version : Int} {w_stride : Int} {w_roll : Int} {w_base : Int} {w_link : Int} {w_offsets : List Int} {xw_offsets : List (List D)} (hw_offsets : w_offsets.map cI = xw_offsets) {w_end : Int} {w_open : Bool} {w_code : Int} (hb : totWriter ⟨w_version, w_stride, w_roll, w_base, w_link, w_offsets, w_end, w_open, w_code⟩ ≤ 1048576) : CallOk Try.prog 23 [.agg [.d (.sc (.int .i64 w_version)), .d (.sc (.int .i64 w_stride)), .d (.sc (.int .i64 w_roll)), .d (.sc (.int .i64 w_base)), .d (.sc (.int .i64 w_link)), .d (.row 1 xw_offsets), .d (.sc (.int .i64 w_end)), .d (.sc (.bool w_open)), .d (.sc (.int .i64 w_code))]] [] ⟨.d (.sc (.bool (rStuckWriter ⟨w_version, w_stride, w_roll, w_base, w_link, w_offsets, w_end, w_open, w_code⟩))), [], []⟩ := by
  refine CallOk.of_bodyD (body := c23) Try.func23 rfl (Nat.le_of_ble_eq_true (by kernel_rfl)) rfl ?_
  refine vc_ok tab_ok mixed ?_
  have hT := tab_ok
  have hm := mixed
  generalize hP : Try.prog = P at *
  generalize hA : std = A
  obtain ⟨qbin, qsh, qcmp, qscmp, qbcmp, qbnot, qneg, qwrap, qcat, qssize, qssub, qsget, qlen, qrsub, qapp, qelt, qset, qnth, qdrp, qstr, qint, qbool, qrow, qnat, qnadd, qnsub, qband, qofNat, qstrRow, qmkRow, qmx, qmn, qbytes⟩ := A
  have hE := Ar.eqs hA
  dsimp only at hE
  generalize hQ : EndD P Try.f23.results _ = Q
  cbv
  try simp only [nc] at *
  rw [← hQ]
  refine endD_val rfl (bool_eq ?_)
  simp only [hE, std_eql]
  rfl
/-! FallsIn, Quiet. -/
def cntF (p : Int → Bool) (l : List TAct) : Nat := (l.filter (fun a => p a.kind_)).length
theorem cntF_succ {p : Int → Bool} {l : List TAct} {k : Nat} (h : k < l.length) : cntF p (l.take (k + 1)) = cntF p (l.take k) + (if p l[k].kind_ then 1 else 0) := by
  unfold cntF
  rw [List.take_succ_eq_append_getElem h, List.filter_append, List.length_append]
  congr 1
  simp only [List.filter_cons, List.filter_nil]
  split <;> simp_all
theorem filter_take_le {α : Type} {p : α → Bool} (l : List α) (k : Nat) : ((l.take k).filter p).length ≤ (l.filter p).length := ((List.take_sublist k l).filter p).length_le
theorem cntF_le {p : Int → Bool} {l : List TAct} : cntF p l ≤ l.length := List.length_filter_le _ _
noncomputable def c38 : Code := (Try.f38.body).getD .skip
theorem ent38 : Entered Try.prog 38 := ⟨_, Try.func38, rfl, rfl⟩
noncomputable def c39 : Code := (Try.f39.body).getD .skip
theorem ent39 : Entered Try.prog 39 := ⟨_, Try.func39, rfl, rfl⟩
noncomputable def c28 : Code := (Try.f28.body).getD .skip
theorem ent28 : Entered Try.prog 28 := ⟨_, Try.func28, rfl, rfl⟩
noncomputable def c26 : Code := (Try.f26.body).getD .skip
theorem ent26 : Entered Try.prog 26 := ⟨_, Try.func26, rfl, rfl⟩
noncomputable def c33 : Code := (Try.f33.body).getD .skip
theorem ent33 : Entered Try.prog 33 := ⟨_, Try.func33, rfl, rfl⟩
noncomputable def c41 : Code := (Try.f41.body).getD .skip
theorem ent41 : Entered Try.prog 41 := ⟨_, Try.func41, rfl, rfl⟩
noncomputable def c31 : Code := (Try.f31.body).getD .skip
theorem ent31 : Entered Try.prog 31 := ⟨_, Try.func31, rfl, rfl⟩
noncomputable def c30 : Code := (Try.f30.body).getD .skip
theorem ent30 : Entered Try.prog 30 := ⟨_, Try.func30, rfl, rfl⟩
theorem T38 {acts : List TAct} {xs : List (List D)} (hx : acts.map eAct = xs) (ha : acts.length < 2 ^ 40) {f : FuncId} {p : Int → Bool} (hf : Entered Try.prog f) (hp : ∀ v, CallOk Try.prog f [.d (.sc (.int .i64 v))] [] ⟨.d (.sc (.bool (p v))), [], []⟩) :
    CallOk Try.prog 38 [.d (.row 4 xs), .clo f []] [] ⟨.d (.sc (.int .i64 (cntF p acts))), [], []⟩ := by
  refine CallOk.of_bodyD (body := c38) Try.func38 rfl (Nat.le_of_ble_eq_true (by kernel_rfl)) rfl ?_
  refine vc_ok tab_ok mixed ?_
  have hT := tab_ok
  have hm := mixed
  generalize hP : Try.prog = P at *
  generalize hA : std = A
  obtain ⟨qbin, qsh, qcmp, qscmp, qbcmp, qbnot, qneg, qwrap, qcat, qssize, qssub, qsget, qlen, qrsub, qapp, qelt, qset, qnth, qdrp, qstr, qint, qbool, qrow, qnat, qnadd, qnsub, qband, qofNat, qstrRow, qmkRow, qmx, qmn, qbytes⟩ := A
  have hE := Ar.eqs hA
  dsimp only at hE
  generalize hQ : EndD P Try.f38.results _ = Q
  have hn := rd_n hx
  cbv
  try simp only [nc] at *
  refine LpW.ofN (κ := Nat) (fun k => k ≤ acts.length) (fun k => acts.length - k) (fun k => [(1, .clo f []), (5, .d (.sc (.int .i64 (cntF p (acts.take k))))), (8, .d (.row 4 xs)), (9, .d (.sc (.int .i64 acts.length))), (10, .d (.sc (.int .i64 k)))]) (fun _ => []) 0 0 (by omega) ?_ (by first | rfl | trivial) (fun _ _ => ⟨rfl, rfl, rfl⟩) ?_
  · refine .cons rfl (.cons rfl (.cons rfl (.cons ?_ (.cons rfl (.nil _)))))
    show AV.d (D.sc (Value.int IntKind.i64 (qlen xs))) = _
    simp only [hE, std_len, hn]
  · intro k hk
    generalize hc : ((cntF p (acts.take k) : Nat) : Int) = c
    have hcl : cntF p (acts.take k) ≤ (acts.take k).length := cntF_le
    rw [List.length_take] at hcl
    generalize hi : (k : Int) = i
    generalize hm' : (acts.length : Int) = m
    refine vc_ok hT hm ?_
    rw [hA]
    cbv
    try simp only [nc] at *
    split
    · rename_i h2
      simp only [hE, List.length_map, std_lss, std_leq, std_gtr, std_geq, std_eql, std_neq, std_len, std_add, std_subI, std_mulI, std_ssize, std_not, std_band, std_bcmp, std_nat, std_ofNat, std_nadd, std_nsub, IntKind.wrap_i64, decide_eq_true_eq, decide_eq_false_iff_not, Bool.not_eq_true', Bool.not_eq_false', Option.getD_none, Option.getD_some] at h2
      have hk' : k < acts.length := by omega
      have hs := cntF_succ (p := p) hk'
      cbv
      try simp only [nc] at *
      repeat (refine And.intro (by first | (simp only [hE]; exact rd_inR hx hi hk') | (simp only [hE, rd_elt hx hi hk']; exact ⟨rfl⟩) | (simp only [hE, rd_elt hx hi hk']; exact ⟨Nat.le_of_ble_eq_true rfl⟩)) ?_)
      obtain ⟨w, hw⟩ : ∃ w, w = acts[k].kind_ := ⟨_, rfl⟩
      rw [show qint (qnth (qelt xs i) 0) = w by rw [hw]; simp only [hE, rd_elt hx hi hk']; rfl]
      rw [← hw] at hs
      refine ClW.dd (f := f) rfl rfl rfl rfl (.cons rfl .nil) rfl hf (hp w) rfl ?_
      generalize hb : p w = b at *
      cbv
      try simp only [nc] at *
      cases b with
      | true =>
        simp only [if_true] at hs
        cbv
        try simp only [nc] at *
        refine ⟨k + 1, by omega, by omega, ?_, by first | rfl | trivial⟩
        refine .cons rfl (.cons ?_ (.cons rfl (.cons rfl (.cons ?_ (.nil _)))))
        · show AV.d (D.sc (Value.int IntKind.i64 (qbin .add .i64 c 1))) = _
          rw [show qbin .add .i64 c 1 = ((cntF p (acts.take (k + 1)) : Nat) : Int) by simp only [hE, List.length_map, std_lss, std_leq, std_gtr, std_geq, std_eql, std_neq, std_len, std_add, std_subI, std_mulI, std_ssize, std_not, std_band, std_bcmp, std_nat, std_ofNat, std_nadd, std_nsub, IntKind.wrap_i64, decide_eq_true_eq, decide_eq_false_iff_not, Bool.not_eq_true', Bool.not_eq_false', Option.getD_none, Option.getD_some, ]; omega]
        · show AV.d (D.sc (Value.int IntKind.i64 (qbin .add .i64 i 1))) = _
          simp only [hE, i_next hi (by omega)]
      | false =>
        simp only [Bool.false_eq_true, if_false] at hs
        cbv
        try simp only [nc] at *
        refine ⟨k + 1, by omega, by omega, ?_, by first | rfl | trivial⟩
        refine .cons rfl (.cons ?_ (.cons rfl (.cons rfl (.cons ?_ (.nil _)))))
        · rw [hs, Nat.add_zero, hc]
          rfl
        · show AV.d (D.sc (Value.int IntKind.i64 (qbin .add .i64 i 1))) = _
          simp only [hE, i_next hi (by omega)]
    · rename_i h2
      simp only [hE, List.length_map, std_lss, std_leq, std_gtr, std_geq, std_eql, std_neq, std_len, std_add, std_subI, std_mulI, std_ssize, std_not, std_band, std_bcmp, std_nat, std_ofNat, std_nadd, std_nsub, IntKind.wrap_i64, decide_eq_true_eq, decide_eq_false_iff_not, Bool.not_eq_true', Bool.not_eq_false', Option.getD_none, Option.getD_some] at h2
      cbv
      try simp only [nc] at *
      have hk' : k = acts.length := by omega
      subst hk'
      rw [List.take_length] at hc
      rw [← hQ, hc]
      exact endD_one rfl rfl
theorem T39 (v : Int) : CallOk Try.prog 39 [.d (.sc (.int .i64 v))] [] ⟨.d (.sc (.bool (decide (v = 8)))), [], []⟩ := by
  refine CallOk.of_bodyD (body := c39) Try.func39 rfl (Nat.le_of_ble_eq_true (by kernel_rfl)) rfl ?_
  refine vc_ok tab_ok mixed ?_
  have hT := tab_ok
  have hm := mixed
  generalize hP : Try.prog = P at *
  generalize hA : std = A
  obtain ⟨qbin, qsh, qcmp, qscmp, qbcmp, qbnot, qneg, qwrap, qcat, qssize, qssub, qsget, qlen, qrsub, qapp, qelt, qset, qnth, qdrp, qstr, qint, qbool, qrow, qnat, qnadd, qnsub, qband, qofNat, qstrRow, qmkRow, qmx, qmn, qbytes⟩ := A
  have hE := Ar.eqs hA
  dsimp only at hE
  generalize hQ : EndD P Try.f39.results _ = Q
  cbv
  try simp only [nc] at *
  rw [← hQ]
  refine endD_val rfl (bool_eq ?_)
  simp only [hE, std_eql]
def rFallsIn (acts : List TAct) : Int := cntF (fun v => decide (v = 8)) acts
theorem T28 {acts : List TAct} {xs : List (List D)} (hx : acts.map eAct = xs) (hb : totActS acts ≤ 1048576) : CallOk Try.prog 28 [.d (.row 4 xs)] [] ⟨.d (.sc (.int .i64 (rFallsIn acts))), [], []⟩ := by
  have ent1 := ent38
  have t1 := @T38
  have ent2 := ent39
  have t2 := @T39
  have hl : acts.length < 2 ^ 40 := by
    have := sumF_nonneg (fun x => totAct x) acts (fun x _ => totActS_el x)
    unfold totActS at hb
    omega
  refine CallOk.of_bodyD (body := c28) Try.func28 rfl (Nat.le_of_ble_eq_true (by kernel_rfl)) rfl ?_
  refine vc_ok tab_ok mixed ?_
  have hT := tab_ok
  have hm := mixed
  generalize hP : Try.prog = P at *
  generalize hA : std = A
  obtain ⟨qbin, qsh, qcmp, qscmp, qbcmp, qbnot, qneg, qwrap, qcat, qssize, qssub, qsget, qlen, qrsub, qapp, qelt, qset, qnth, qdrp, qstr, qint, qbool, qrow, qnat, qnadd, qnsub, qband, qofNat, qstrRow, qmkRow, qmx, qmn, qbytes⟩ := A
  have hE := Ar.eqs hA
  dsimp only at hE
  generalize hQ : EndD P Try.f28.results _ = Q
  cbv
  try simp only [nc] at *
  refine ClW.dd (f := 38) rfl rfl rfl rfl (.cons rfl (.cons rfl .nil)) rfl ent1 (t1 hx hl ent2 t2) rfl ?_
  generalize hr : ((cntF (fun v => decide (v = 8)) acts : Nat) : Int) = r
  cbv
  try simp only [nc] at *
  rw [← hQ, show rFallsIn acts = r from hr]
  exact endD_one rfl rfl
theorem T26 {acts : List TAct} {xs : List (List D)} (hx : acts.map eAct = xs) (hb : totActS acts ≤ 1048576) : CallOk Try.prog 26 [.d (.row 4 xs)] [] ⟨.d (.sc (.int .i64 (rFallsIn acts))), [], []⟩ := by
  have ha : acts.length < 2 ^ 40 := by
    have := sumF_nonneg (fun x => totAct x) acts (fun x _ => totActS_el x)
    unfold totActS at hb
    omega
  obtain ⟨p, hpd⟩ : ∃ p : Int → Bool, p = fun v => decide (v = 8) := ⟨_, rfl⟩
  have hpe : rFallsIn acts = ((cntF p acts : Nat) : Int) := by rw [hpd]; rfl
  rw [hpe]
  refine CallOk.of_bodyD (body := c26) Try.func26 rfl (Nat.le_of_ble_eq_true (by kernel_rfl)) rfl ?_
  refine vc_ok tab_ok mixed ?_
  have hT := tab_ok
  have hm := mixed
  generalize hP : Try.prog = P at *
  generalize hA : std = A
  obtain ⟨qbin, qsh, qcmp, qscmp, qbcmp, qbnot, qneg, qwrap, qcat, qssize, qssub, qsget, qlen, qrsub, qapp, qelt, qset, qnth, qdrp, qstr, qint, qbool, qrow, qnat, qnadd, qnsub, qband, qofNat, qstrRow, qmkRow, qmx, qmn, qbytes⟩ := A
  have hE := Ar.eqs hA
  dsimp only at hE
  generalize hQ : EndD P Try.f26.results _ = Q
  have hn := rd_n hx
  cbv
  try simp only [nc] at *
  refine LpW.of (κ := Nat) (fun k => k ≤ acts.length) (fun k => acts.length - k) (fun k => [(0, .d (.row 4 xs)), (3, .d (.sc (.int .i64 (cntF p (acts.take k))))), (4, .d (.sc (.int .i64 k)))]) (fun _ => []) 0 (by omega) ?_ (by first | rfl | trivial) ?_
  · exact .cons rfl (.cons rfl (.cons rfl (.nil _)))
  · intro k hk
    generalize hc : ((cntF p (acts.take k) : Nat) : Int) = c
    have hcl : cntF p (acts.take k) ≤ (acts.take k).length := cntF_le
    rw [List.length_take] at hcl
    generalize hi : (k : Int) = i
    refine vc_ok hT hm ?_
    rw [hA]
    cbv
    try simp only [nc] at *
    split
    · rename_i h2
      simp only [hE, List.length_map, std_lss, std_leq, std_gtr, std_geq, std_eql, std_neq, std_len, std_add, std_subI, std_mulI, std_ssize, std_not, std_band, std_bcmp, std_nat, std_ofNat, std_nadd, std_nsub, IntKind.wrap_i64, decide_eq_true_eq, decide_eq_false_iff_not, Bool.not_eq_true', Bool.not_eq_false', Option.getD_none, Option.getD_some, hn] at h2
      have hk' : k < acts.length := by omega
      have hs := cntF_succ (p := p) hk'
      cbv
      try simp only [nc] at *
      repeat (refine And.intro (by first | (simp only [hE]; exact rd_inR hx hi hk') | (simp only [hE, rd_elt hx hi hk']; exact ⟨rfl⟩) | (simp only [hE, rd_elt hx hi hk']; exact ⟨Nat.le_of_ble_eq_true rfl⟩)) ?_)
      obtain ⟨w, hw⟩ : ∃ w, w = acts[k].kind_ := ⟨_, rfl⟩
      rw [show qint (qnth (qdrp (qelt xs i) 0) 0) = w by rw [hw]; simp only [hE, rd_elt hx hi hk']; rfl]
      rw [← hw] at hs
      rw [show qcmp .eql w 8 = p w by rw [hpd]; simp only [hE, std_eql]]
      generalize p w = b at *
      cases b with
      | true =>
        simp only [if_true] at hs
        cbv
        try simp only [nc] at *
        refine ⟨k + 1, by omega, by omega, ?_, by first | rfl | trivial⟩
        refine .cons rfl (.cons ?_ (.cons ?_ (.nil _)))
        · show AV.d (D.sc (Value.int IntKind.i64 (qbin .add .i64 c 1))) = _
          rw [show qbin .add .i64 c 1 = ((cntF p (acts.take (k + 1)) : Nat) : Int) by simp only [hE, List.length_map, std_lss, std_leq, std_gtr, std_geq, std_eql, std_neq, std_len, std_add, std_subI, std_mulI, std_ssize, std_not, std_band, std_bcmp, std_nat, std_ofNat, std_nadd, std_nsub, IntKind.wrap_i64, decide_eq_true_eq, decide_eq_false_iff_not, Bool.not_eq_true', Bool.not_eq_false', Option.getD_none, Option.getD_some, ]; omega]
        · show AV.d (D.sc (Value.int IntKind.i64 (qbin .add .i64 i 1))) = _
          simp only [hE, i_next hi (by omega)]
      | false =>
        simp only [Bool.false_eq_true, if_false] at hs
        cbv
        try simp only [nc] at *
        refine ⟨k + 1, by omega, by omega, ?_, by first | rfl | trivial⟩
        refine .cons rfl (.cons ?_ (.cons ?_ (.nil _)))
        · rw [hs, Nat.add_zero, hc]
          rfl
        · show AV.d (D.sc (Value.int IntKind.i64 (qbin .add .i64 i 1))) = _
          simp only [hE, i_next hi (by omega)]
    · rename_i h2
      simp only [hE, List.length_map, std_lss, std_leq, std_gtr, std_geq, std_eql, std_neq, std_len, std_add, std_subI, std_mulI, std_ssize, std_not, std_band, std_bcmp, std_nat, std_ofNat, std_nadd, std_nsub, IntKind.wrap_i64, decide_eq_true_eq, decide_eq_false_iff_not, Bool.not_eq_true', Bool.not_eq_false', Option.getD_none, Option.getD_some, hn] at h2
      cbv
      try simp only [nc] at *
      have hk' : k = acts.length := by omega
      subst hk'
      rw [List.take_length] at hc
      rw [← hQ, hc]
      exact endD_one rfl rfl
def qzP (v : Int) : Bool := decide (5 ≤ v ∧ v ≤ 8)
theorem T33 (v lo hi : Int) : CallOk Try.prog 33 [.d (.sc (.int .i64 v)), .d (.sc (.int .i64 lo)), .d (.sc (.int .i64 hi))] [] ⟨.d (.sc (.bool (decide (lo ≤ v ∧ v ≤ hi)))), [], []⟩ := by
  refine CallOk.of_bodyD (body := c33) Try.func33 rfl (Nat.le_of_ble_eq_true (by kernel_rfl)) rfl ?_
  refine vc_ok tab_ok mixed ?_
  have hT := tab_ok
  have hm := mixed
  generalize hP : Try.prog = P at *
  generalize hA : std = A
  obtain ⟨qbin, qsh, qcmp, qscmp, qbcmp, qbnot, qneg, qwrap, qcat, qssize, qssub, qsget, qlen, qrsub, qapp, qelt, qset, qnth, qdrp, qstr, qint, qbool, qrow, qnat, qnadd, qnsub, qband, qofNat, qstrRow, qmkRow, qmx, qmn, qbytes⟩ := A
  have hE := Ar.eqs hA
  dsimp only at hE
  generalize hQ : EndD P Try.f33.results _ = Q
  cbv
  try simp only [nc] at *
  split
  · rename_i h
    simp only [hE, List.length_map, std_lss, std_leq, std_gtr, std_geq, std_eql, std_neq, std_len, std_add, std_subI, std_mulI, std_ssize, std_not, std_band, std_bcmp, std_nat, std_ofNat, std_nadd, std_nsub, IntKind.wrap_i64, decide_eq_true_eq, decide_eq_false_iff_not, Bool.not_eq_true', Bool.not_eq_false', Option.getD_none, Option.getD_some] at h
    cbv
    try simp only [nc] at *
    rw [← hQ]
    refine endD_val rfl (bool_eq ?_)
    simp only [hE, std_leq]
    simp [h]
  · rename_i h
    simp only [hE, List.length_map, std_lss, std_leq, std_gtr, std_geq, std_eql, std_neq, std_len, std_add, std_subI, std_mulI, std_ssize, std_not, std_band, std_bcmp, std_nat, std_ofNat, std_nadd, std_nsub, IntKind.wrap_i64, decide_eq_true_eq, decide_eq_false_iff_not, Bool.not_eq_true', Bool.not_eq_false', Option.getD_none, Option.getD_some] at h
    cbv
    try simp only [nc] at *
    rw [← hQ]
    refine endD_val rfl (bool_eq ?_)
    simp [h]
theorem T41 (v : Int) : CallOk Try.prog 41 [.d (.sc (.int .i64 v))] [] ⟨.d (.sc (.bool (qzP v))), [], []⟩ := by
  have ent1 := ent33
  have t1 := @T33
  refine CallOk.of_bodyD (body := c41) Try.func41 rfl (Nat.le_of_ble_eq_true (by kernel_rfl)) rfl ?_
  refine vc_ok tab_ok mixed ?_
  have hT := tab_ok
  have hm := mixed
  generalize hP : Try.prog = P at *
  generalize hA : std = A
  obtain ⟨qbin, qsh, qcmp, qscmp, qbcmp, qbnot, qneg, qwrap, qcat, qssize, qssub, qsget, qlen, qrsub, qapp, qelt, qset, qnth, qdrp, qstr, qint, qbool, qrow, qnat, qnadd, qnsub, qband, qofNat, qstrRow, qmkRow, qmx, qmn, qbytes⟩ := A
  have hE := Ar.eqs hA
  dsimp only at hE
  generalize hQ : EndD P Try.f41.results _ = Q
  cbv
  try simp only [nc] at *
  refine ClW.dd (f := 33) rfl rfl rfl rfl (.cons rfl (.cons rfl (.cons rfl .nil))) rfl ent1 (t1 v 5 8) rfl ?_
  generalize hr : decide (5 ≤ v ∧ v ≤ 8) = r
  cbv
  try simp only [nc] at *
  rw [← hQ, show qzP v = r from hr]
  exact endD_one rfl rfl
def rQuiet (acts : List TAct) : Bool := decide (cntF qzP acts = 0)
theorem T31 {acts : List TAct} {xs : List (List D)} (hx : acts.map eAct = xs) (hb : totActS acts ≤ 1048576) : CallOk Try.prog 31 [.d (.row 4 xs)] [] ⟨.d (.sc (.bool (rQuiet acts))), [], []⟩ := by
  have ent1 := ent38
  have t1 := @T38
  have ent2 := ent41
  have t2 := @T41
  have hl : acts.length < 2 ^ 40 := by
    have := sumF_nonneg (fun x => totAct x) acts (fun x _ => totActS_el x)
    unfold totActS at hb
    omega
  refine CallOk.of_bodyD (body := c31) Try.func31 rfl (Nat.le_of_ble_eq_true (by kernel_rfl)) rfl ?_
  refine vc_ok tab_ok mixed ?_
  have hT := tab_ok
  have hm := mixed
  generalize hP : Try.prog = P at *
  generalize hA : std = A
  obtain ⟨qbin, qsh, qcmp, qscmp, qbcmp, qbnot, qneg, qwrap, qcat, qssize, qssub, qsget, qlen, qrsub, qapp, qelt, qset, qnth, qdrp, qstr, qint, qbool, qrow, qnat, qnadd, qnsub, qband, qofNat, qstrRow, qmkRow, qmx, qmn, qbytes⟩ := A
  have hE := Ar.eqs hA
  dsimp only at hE
  generalize hQ : EndD P Try.f31.results _ = Q
  cbv
  try simp only [nc] at *
  refine ClW.dd (f := 38) rfl rfl rfl rfl (.cons rfl (.cons rfl .nil)) rfl ent1 (t1 hx hl ent2 t2) rfl ?_
  generalize hr : ((cntF qzP acts : Nat) : Int) = r
  cbv
  try simp only [nc] at *
  rw [← hQ]
  refine endD_val rfl (bool_eq ?_)
  simp only [hE, std_eql]
  unfold rQuiet
  rw [← hr]
  exact decide_eq_decide.2 (by omega)
theorem T30 {acts : List TAct} {xs : List (List D)} (hx : acts.map eAct = xs) (hb : totActS acts ≤ 1048576) : CallOk Try.prog 30 [.d (.row 4 xs)] [] ⟨.d (.sc (.bool (rQuiet acts))), [], []⟩ := by
  have ha : acts.length < 2 ^ 40 := by
    have := sumF_nonneg (fun x => totAct x) acts (fun x _ => totActS_el x)
    unfold totActS at hb
    omega
  refine CallOk.of_bodyD (body := c30) Try.func30 rfl (Nat.le_of_ble_eq_true (by kernel_rfl)) rfl ?_
  refine vc_ok tab_ok mixed ?_
  have hT := tab_ok
  have hm := mixed
  generalize hP : Try.prog = P at *
  generalize hA : std = A
  obtain ⟨qbin, qsh, qcmp, qscmp, qbcmp, qbnot, qneg, qwrap, qcat, qssize, qssub, qsget, qlen, qrsub, qapp, qelt, qset, qnth, qdrp, qstr, qint, qbool, qrow, qnat, qnadd, qnsub, qband, qofNat, qstrRow, qmkRow, qmx, qmn, qbytes⟩ := A
  have hE := Ar.eqs hA
  dsimp only at hE
  generalize hQ : EndD P Try.f30.results _ = Q
  have hn := rd_n hx
  cbv
  try simp only [nc] at *
  refine LpW.of (κ := Nat) (fun k => k ≤ acts.length ∧ cntF qzP (acts.take k) = 0) (fun k => acts.length - k) (fun k => [(0, .d (.row 4 xs)), (3, .d (.sc (.int .i64 k)))]) (fun _ => []) 0 ⟨by omega, rfl⟩ ?_ (by first | rfl | trivial) ?_
  · exact .cons rfl (.cons rfl (.nil _))
  · rintro k ⟨hk, hc⟩
    generalize hi : (k : Int) = i
    refine vc_ok hT hm ?_
    rw [hA]
    cbv
    try simp only [nc] at *
    split
    · rename_i h2
      simp only [hE, List.length_map, std_lss, std_leq, std_gtr, std_geq, std_eql, std_neq, std_len, std_add, std_subI, std_mulI, std_ssize, std_not, std_band, std_bcmp, std_nat, std_ofNat, std_nadd, std_nsub, IntKind.wrap_i64, decide_eq_true_eq, decide_eq_false_iff_not, Bool.not_eq_true', Bool.not_eq_false', Option.getD_none, Option.getD_some, hn] at h2
      have hk' : k < acts.length := by omega
      have hs := cntF_succ (p := qzP) hk'
      cbv
      try simp only [nc] at *
      repeat (refine And.intro (by first | (simp only [hE]; exact rd_inR hx hi hk') | (simp only [hE, rd_elt hx hi hk']; exact ⟨rfl⟩) | (simp only [hE, rd_elt hx hi hk']; exact ⟨Nat.le_of_ble_eq_true rfl⟩)) ?_)
      obtain ⟨w, hw⟩ : ∃ w, w = acts[k].kind_ := ⟨_, rfl⟩
      rw [show qint (qnth (qdrp (qelt xs i) 0) 0) = w by rw [hw]; simp only [hE, rd_elt hx hi hk']; rfl]
      rw [← hw] at hs
      have hf : qzP w = true → rQuiet acts = false := by
        intro h
        rw [h, if_pos rfl] at hs
        have := filter_take_le (p := fun a : TAct => qzP a.kind_) acts (k + 1)
        unfold rQuiet
        refine decide_eq_false ?_
        unfold cntF at *
        omega
      have hne : qzP w = false → cntF qzP (acts.take (k + 1)) = 0 := by
        intro h
        rw [h] at hs
        simpa [hc] using hs
      split
      · rename_i h3
        simp only [hE, List.length_map, std_lss, std_leq, std_gtr, std_geq, std_eql, std_neq, std_len, std_add, std_subI, std_mulI, std_ssize, std_not, std_band, std_bcmp, std_nat, std_ofNat, std_nadd, std_nsub, IntKind.wrap_i64, decide_eq_true_eq, decide_eq_false_iff_not, Bool.not_eq_true', Bool.not_eq_false', Option.getD_none, Option.getD_some] at h3
        cbv
        try simp only [nc] at *
        rw [← hQ, hf (by simp [qzP]; omega)]
        exact endD_one rfl rfl
      rename_i h3
      simp only [hE, List.length_map, std_lss, std_leq, std_gtr, std_geq, std_eql, std_neq, std_len, std_add, std_subI, std_mulI, std_ssize, std_not, std_band, std_bcmp, std_nat, std_ofNat, std_nadd, std_nsub, IntKind.wrap_i64, decide_eq_true_eq, decide_eq_false_iff_not, Bool.not_eq_true', Bool.not_eq_false', Option.getD_none, Option.getD_some] at h3
      cbv
      try simp only [nc] at *
      split
      · rename_i h4
        simp only [hE, List.length_map, std_lss, std_leq, std_gtr, std_geq, std_eql, std_neq, std_len, std_add, std_subI, std_mulI, std_ssize, std_not, std_band, std_bcmp, std_nat, std_ofNat, std_nadd, std_nsub, IntKind.wrap_i64, decide_eq_true_eq, decide_eq_false_iff_not, Bool.not_eq_true', Bool.not_eq_false', Option.getD_none, Option.getD_some] at h4
        cbv
        try simp only [nc] at *
        rw [← hQ, hf (by simp [qzP]; omega)]
        exact endD_one rfl rfl
      rename_i h4
      simp only [hE, List.length_map, std_lss, std_leq, std_gtr, std_geq, std_eql, std_neq, std_len, std_add, std_subI, std_mulI, std_ssize, std_not, std_band, std_bcmp, std_nat, std_ofNat, std_nadd, std_nsub, IntKind.wrap_i64, decide_eq_true_eq, decide_eq_false_iff_not, Bool.not_eq_true', Bool.not_eq_false', Option.getD_none, Option.getD_some] at h4
      cbv
      try simp only [nc] at *
      split
      · rename_i h5
        simp only [hE, List.length_map, std_lss, std_leq, std_gtr, std_geq, std_eql, std_neq, std_len, std_add, std_subI, std_mulI, std_ssize, std_not, std_band, std_bcmp, std_nat, std_ofNat, std_nadd, std_nsub, IntKind.wrap_i64, decide_eq_true_eq, decide_eq_false_iff_not, Bool.not_eq_true', Bool.not_eq_false', Option.getD_none, Option.getD_some] at h5
        cbv
        try simp only [nc] at *
        rw [← hQ, hf (by simp [qzP]; omega)]
        exact endD_one rfl rfl
      rename_i h5
      simp only [hE, List.length_map, std_lss, std_leq, std_gtr, std_geq, std_eql, std_neq, std_len, std_add, std_subI, std_mulI, std_ssize, std_not, std_band, std_bcmp, std_nat, std_ofNat, std_nadd, std_nsub, IntKind.wrap_i64, decide_eq_true_eq, decide_eq_false_iff_not, Bool.not_eq_true', Bool.not_eq_false', Option.getD_none, Option.getD_some] at h5
      cbv
      try simp only [nc] at *
      split
      · rename_i h6
        simp only [hE, List.length_map, std_lss, std_leq, std_gtr, std_geq, std_eql, std_neq, std_len, std_add, std_subI, std_mulI, std_ssize, std_not, std_band, std_bcmp, std_nat, std_ofNat, std_nadd, std_nsub, IntKind.wrap_i64, decide_eq_true_eq, decide_eq_false_iff_not, Bool.not_eq_true', Bool.not_eq_false', Option.getD_none, Option.getD_some] at h6
        cbv
        try simp only [nc] at *
        rw [← hQ, hf (by simp [qzP]; omega)]
        exact endD_one rfl rfl
      rename_i h6
      simp only [hE, List.length_map, std_lss, std_leq, std_gtr, std_geq, std_eql, std_neq, std_len, std_add, std_subI, std_mulI, std_ssize, std_not, std_band, std_bcmp, std_nat, std_ofNat, std_nadd, std_nsub, IntKind.wrap_i64, decide_eq_true_eq, decide_eq_false_iff_not, Bool.not_eq_true', Bool.not_eq_false', Option.getD_none, Option.getD_some] at h6
      cbv
      try simp only [nc] at *
      refine ⟨k + 1, ⟨by omega, hne (by simp [qzP]; omega)⟩, by omega, ?_, by first | rfl | trivial⟩
      refine .cons rfl (.cons ?_ (.nil _))
      show AV.d (D.sc (Value.int IntKind.i64 (qbin .add .i64 i 1))) = _
      simp only [hE, i_next hi (by omega)]
    · rename_i h2
      simp only [hE, List.length_map, std_lss, std_leq, std_gtr, std_geq, std_eql, std_neq, std_len, std_add, std_subI, std_mulI, std_ssize, std_not, std_band, std_bcmp, std_nat, std_ofNat, std_nadd, std_nsub, IntKind.wrap_i64, decide_eq_true_eq, decide_eq_false_iff_not, Bool.not_eq_true', Bool.not_eq_false', Option.getD_none, Option.getD_some, hn] at h2
      cbv
      try simp only [nc] at *
      have hk' : k = acts.length := by omega
      subst hk'
      rw [List.take_length] at hc
      rw [← hQ, show rQuiet acts = true by unfold rQuiet; rw [hc]; rfl]
      exact endD_one rfl rfl
end Go.Proofs.Ytbdlhemakfmadaa.Ab
