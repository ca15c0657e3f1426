/- What functions of the program come to, for all arguments in the given bounds. -/
import Derived.Test.YtbdlhemakfmadaaProg
import Derived.Test.YtbdlhemakfmadaaZ4
import Derived.KernelRfl
set_option linter.unusedVariables false
set_option linter.unusedSimpArgs false
namespace Go.Proofs.Ytbdlhemakfmadaa.Ab
open Go Go.Proofs
def tab : List (Nat × TyRow) := [
  (3, ⟨.int .i64, some 1, some false, none, false, [.int .i64], [], some [(.int .i64 0, 0)], none, none, none⟩),
  (4, ⟨.bool, some 1, some false, none, false, [.bool], [], some [(.bool false, 0)], none, none, none⟩),
  (9, ⟨.str, some 1, some false, none, false, [.str], [], some [(.string default, 0)], none, none, none⟩),
  (29, ⟨.sl 1, some 1, some false, some (1, 16), false, [.sl 1], [], some [(.slice none 0 0, 1)], some ([.sc (.string default)], 1, 16), none, none⟩)]
theorem tab_ok : TabOk Try.prog tab := TabOk.of (by kernel_rfl)
theorem mixed : Try.prog.follows .mixedOrders = true := by kernel_rfl
noncomputable def c16 : Code := (Try.f16.body).getD .skip
noncomputable def c17 : Code := (Try.f17.body).getD .skip
noncomputable def c18 : Code := (Try.f18.body).getD .skip
noncomputable def c19 : Code := (Try.f19.body).getD .skip
noncomputable def c34 : Code := (Try.f34.body).getD .skip
noncomputable def c5 : Code := (Try.f5.body).getD .skip
noncomputable def c15 : Code := (Try.f15.body).getD .skip
def totS (a : List ByteArray) : Int := a.length + sumF (fun s => (s.size : Int)) a
set_option maxRecDepth 20000
theorem t15 {a : List ByteArray} {xs : List (List D)} (hx : a.map cS = xs) (left : Int) (h0 : 0 ≤ left) (h1 : left < 2 ^ 40) (ha : a.length < 2 ^ 62) (hs : ∀ s ∈ a, s.size < 2 ^ 62) :
    CallOk Try.prog 15 [.d (.row 1 xs), .d (.sc (.int .i64 left))] [] ⟨.d (.sc (.int .i64 (szOf (totS a) left))), [], []⟩ := by
  refine CallOk.of_bodyD (body := c15) Try.func15 rfl (Nat.le_of_ble_eq_true (by kernel_rfl)) rfl ?_
  refine vc_ok tab_ok mixed ?_
  have hT := tab_ok
  have hm := mixed
  generalize hP : Try.prog = P at *
  generalize hA : std = A
  obtain ⟨qbin, qsh, qcmp, qscmp, qbcmp, qbnot, qneg, qwrap, qcat, qssize, qssub, qsget, qlen, qrsub, qapp, qelt, qset, qnth, qdrp, qstr, qint, qbool, qrow, qnat, qnadd, qnsub, qband, qofNat, qstrRow, qmkRow, qmx, qmn, qbytes⟩ := A
  have hE := Ar.eqs hA
  dsimp only at hE
  generalize hQ : EndD P Try.f15.results _ = Q
  have hnn : ∀ s ∈ a, (0 : Int) ≤ (s.size : Int) := fun s _ => by omega
  have hn := rd_n hx
  cbv
  try simp only [nc] at *
  split
  · rename_i h2
    simp only [hE, List.length_map, std_lss, std_leq, std_gtr, std_geq, std_eql, std_neq, std_len, std_add, std_subI, std_mulI, std_ssize, std_not, std_band, std_bcmp, std_nat, std_ofNat, std_nadd, std_nsub, IntKind.wrap_i64, decide_eq_true_eq, decide_eq_false_iff_not, Bool.not_eq_true', Bool.not_eq_false', Option.getD_none, Option.getD_some, hn] at h2
    cbv
    try simp only [nc] at *
    have := sumF_nonneg (fun s => (s.size : Int)) a hnn
    rw [← hQ, show szOf (totS a) left = -1 by unfold szOf totS; rw [if_neg (by omega)]]
    exact endD_one rfl rfl
  · rename_i h2
    simp only [hE, List.length_map, std_lss, std_leq, std_gtr, std_geq, std_eql, std_neq, std_len, std_add, std_subI, std_mulI, std_ssize, std_not, std_band, std_bcmp, std_nat, std_ofNat, std_nadd, std_nsub, IntKind.wrap_i64, decide_eq_true_eq, decide_eq_false_iff_not, Bool.not_eq_true', Bool.not_eq_false', Option.getD_none, Option.getD_some, hn] at h2
    cbv
    try simp only [nc] at *
    refine LpW.of (κ := Nat) (fun k => k ≤ a.length ∧ 0 ≤ left - (a.length + sumF (fun s => (s.size : Int)) (a.take k))) (fun k => a.length - k) (fun k => [(0, .d (.row 1 xs)), (1, .d (.sc (.int .i64 (left - (a.length + sumF (fun s => (s.size : Int)) (a.take k)))))), (5, .d (.sc (.int .i64 k)))]) (fun _ => []) 0 ⟨by omega, by simp [sumF]; omega⟩ ?_ rfl ?_
    · refine .cons rfl (.cons ?_ (.cons rfl (.nil _)))
      show AV.d (D.sc (Value.int IntKind.i64 (qbin .sub .i64 left (qlen xs)))) = _
      rw [show qbin .sub .i64 left (qlen xs) = left - a.length by simp only [hE, List.length_map, std_lss, std_leq, std_gtr, std_geq, std_eql, std_neq, std_len, std_add, std_subI, std_mulI, std_ssize, std_not, std_band, std_bcmp, std_nat, std_ofNat, std_nadd, std_nsub, IntKind.wrap_i64, decide_eq_true_eq, decide_eq_false_iff_not, Bool.not_eq_true', Bool.not_eq_false', Option.getD_none, Option.getD_some, hn]; omega]
      simp [sumF]
    · rintro k ⟨hk, hl⟩
      generalize hleft : left - (a.length + sumF (fun s => (s.size : Int)) (a.take k)) = l at *
      generalize hi : (k : Int) = i
      refine vc_ok hT hm ?_
      rw [hA]
      cbv
      try simp only [nc] at *
      split
      · rename_i h3
        simp only [hE, List.length_map, std_lss, std_leq, std_gtr, std_geq, std_eql, std_neq, std_len, std_add, std_subI, std_mulI, std_ssize, std_not, std_band, std_bcmp, std_nat, std_ofNat, std_nadd, std_nsub, IntKind.wrap_i64, decide_eq_true_eq, decide_eq_false_iff_not, Bool.not_eq_true', Bool.not_eq_false', Option.getD_none, Option.getD_some, hn] at h3
        have hk' : k < a.length := by omega
        have hsz := hs a[k] (List.getElem_mem hk')
        have hp := sumF_nonneg (fun s => (s.size : Int)) (a.take k) (fun x hx => hnn x (List.mem_of_mem_take hx))
        have hsum := sumF_succ (fun s => (s.size : Int)) a hk'
        cbv
        try simp only [nc] at *
        repeat (refine And.intro (by first | (simp only [hE]; exact rd_inR hx hi hk') | (simp only [hE, rd_elt hx hi hk']; exact ⟨rfl⟩) | (simp only [hE, rd_elt hx hi hk']; exact ⟨Nat.le_of_ble_eq_true rfl⟩)) ?_)
        obtain ⟨s, hsk⟩ : ∃ s, s = a[k] := ⟨_, rfl⟩
        have hss : s.size = a[k].size := by rw [hsk]
        rw [show qstr (qnth (qelt xs i) 0) = s by rw [hsk]; simp only [hE, rd_elt hx hi hk']; rfl]
        have hle := sumF_take_le (fun s => (s.size : Int)) a hnn (k + 1)
        split
        · rename_i h4
          simp only [hE, List.length_map, std_lss, std_leq, std_gtr, std_geq, std_eql, std_neq, std_len, std_add, std_subI, std_mulI, std_ssize, std_not, std_band, std_bcmp, std_nat, std_ofNat, std_nadd, std_nsub, IntKind.wrap_i64, decide_eq_true_eq, decide_eq_false_iff_not, Bool.not_eq_true', Bool.not_eq_false', Option.getD_none, Option.getD_some] at h4
          cbv
          try simp only [nc] at *
          rw [← hQ, show szOf (totS a) left = -1 by unfold szOf totS; rw [if_neg (by omega)]]
          exact endD_one rfl rfl
        · rename_i h4
          simp only [hE, List.length_map, std_lss, std_leq, std_gtr, std_geq, std_eql, std_neq, std_len, std_add, std_subI, std_mulI, std_ssize, std_not, std_band, std_bcmp, std_nat, std_ofNat, std_nadd, std_nsub, IntKind.wrap_i64, decide_eq_true_eq, decide_eq_false_iff_not, Bool.not_eq_true', Bool.not_eq_false', Option.getD_none, Option.getD_some] at h4
          cbv
          try simp only [nc] at *
          refine ⟨k + 1, ⟨by omega, by omega⟩, by omega, ?_, by trivial⟩
          refine .cons rfl (.cons ?_ (.cons ?_ (.nil _)))
          · show AV.d (D.sc (Value.int IntKind.i64 (qbin .sub .i64 l (qssize s)))) = _
            rw [show qbin .sub .i64 l (qssize s) = left - (a.length + sumF (fun s => (s.size : Int)) (a.take (k + 1))) by simp only [hE, List.length_map, std_lss, std_leq, std_gtr, std_geq, std_eql, std_neq, std_len, std_add, std_subI, std_mulI, std_ssize, std_not, std_band, std_bcmp, std_nat, std_ofNat, std_nadd, std_nsub, IntKind.wrap_i64, decide_eq_true_eq, decide_eq_false_iff_not, Bool.not_eq_true', Bool.not_eq_false', Option.getD_none, Option.getD_some, ]; omega]
          · show AV.d (D.sc (Value.int IntKind.i64 (qbin .add .i64 i 1))) = _
            rw [show qbin .add .i64 i 1 = ((k + 1 : Nat) : Int) by simp only [hE, List.length_map, std_lss, std_leq, std_gtr, std_geq, std_eql, std_neq, std_len, std_add, std_subI, std_mulI, std_ssize, std_not, std_band, std_bcmp, std_nat, std_ofNat, std_nadd, std_nsub, IntKind.wrap_i64, decide_eq_true_eq, decide_eq_false_iff_not, Bool.not_eq_true', Bool.not_eq_false', Option.getD_none, Option.getD_some, ]; omega]
      · rename_i h3
        simp only [hE, List.length_map, std_lss, std_leq, std_gtr, std_geq, std_eql, std_neq, std_len, std_add, std_subI, std_mulI, std_ssize, std_not, std_band, std_bcmp, std_nat, std_ofNat, std_nadd, std_nsub, IntKind.wrap_i64, decide_eq_true_eq, decide_eq_false_iff_not, Bool.not_eq_true', Bool.not_eq_false', Option.getD_none, Option.getD_some, hn] at h3
        cbv
        try simp only [nc] at *
        have hk' : k = a.length := by omega
        subst hk'
        rw [List.take_length] at hleft
        rw [← hQ, show szOf (totS a) left = l by unfold szOf totS; rw [if_pos (by omega)]; omega]
        exact endD_one rfl rfl

theorem take_next {α : Type} {a b : List α} {k : Nat} (ha : k < a.length) (hb : k < b.length) (h : a.take k = b.take k) (he : a[k] = b[k]) : a.take (k + 1) = b.take (k + 1) := by
  rw [List.take_succ_eq_append_getElem ha, List.take_succ_eq_append_getElem hb, h, he]
theorem take_here {α : Type} {a b : List α} {k : Nat} (ha : k < a.length) (hb : k < b.length) (h : a.take (k + 1) = b.take (k + 1)) : a[k] = b[k] := by
  have := congrArg (·[k]?) h
  rw [List.getElem?_take_of_lt (by omega), List.getElem?_take_of_lt (by omega), List.getElem?_eq_getElem ha, List.getElem?_eq_getElem hb] at this
  exact Option.some.inj this

theorem t19 {a b : List ByteArray} {xs ys : List (List D)} (hx : a.map cS = xs) (hy : b.map cS = ys) (ha : a.length < 2 ^ 62) (hb : b.length < 2 ^ 62) :
    CallOk Try.prog 19 [.d (.row 1 xs), .d (.row 1 ys)] [] ⟨.d (.sc (.bool (decide (a = b)))), [], []⟩ := by
  refine CallOk.of_bodyD (body := c19) Try.func19 rfl (Nat.le_of_ble_eq_true (by kernel_rfl)) rfl ?_
  refine vc_ok tab_ok mixed ?_
  have hT := tab_ok
  have hm := mixed
  generalize hP : Try.prog = P at *
  generalize hA : std = A
  obtain ⟨qbin, qsh, qcmp, qscmp, qbcmp, qbnot, qneg, qwrap, qcat, qssize, qssub, qsget, qlen, qrsub, qapp, qelt, qset, qnth, qdrp, qstr, qint, qbool, qrow, qnat, qnadd, qnsub, qband, qofNat, qstrRow, qmkRow, qmx, qmn, qbytes⟩ := A
  have hE := Ar.eqs hA
  dsimp only at hE
  generalize hQ : EndD P Try.f19.results _ = Q
  have hn := rd_n hx
  have hn' := rd_n hy
  cbv
  try simp only [nc] at *
  split
  · rename_i h2
    simp only [hE, List.length_map, std_lss, std_leq, std_gtr, std_geq, std_eql, std_neq, std_len, std_add, std_subI, std_mulI, std_ssize, std_not, std_band, std_bcmp, std_nat, std_ofNat, std_nadd, std_nsub, IntKind.wrap_i64, decide_eq_true_eq, decide_eq_false_iff_not, Bool.not_eq_true', Bool.not_eq_false', Option.getD_none, Option.getD_some, hn] at h2
    cbv
    try simp only [nc] at *
    rw [← hQ, decide_eq_false (p := a = b) (by rintro rfl; omega)]
    exact endD_one rfl rfl
  · rename_i h2
    simp only [hE, List.length_map, std_lss, std_leq, std_gtr, std_geq, std_eql, std_neq, std_len, std_add, std_subI, std_mulI, std_ssize, std_not, std_band, std_bcmp, std_nat, std_ofNat, std_nadd, std_nsub, IntKind.wrap_i64, decide_eq_true_eq, decide_eq_false_iff_not, Bool.not_eq_true', Bool.not_eq_false', Option.getD_none, Option.getD_some, hn] at h2
    cbv
    try simp only [nc] at *
    have hle : a.length ≤ b.length := by omega
    refine LpW.of (κ := Nat) (fun k => k ≤ a.length ∧ a.take k = b.take k) (fun k => a.length - k) (fun k => [(0, .d (.row 1 xs)), (1, .d (.row 1 ys)), (5, .d (.sc (.int .i64 k)))]) (fun _ => []) 0 ⟨by omega, by simp⟩ ?_ (by first | rfl | trivial) ?_
    · refine .cons rfl (.cons rfl (.cons rfl (.nil _)))
    · rintro k ⟨hk, hl⟩
      generalize hi : (k : Int) = i
      refine vc_ok hT hm ?_
      rw [hA]
      cbv
      try simp only [nc] at *
      split
      · rename_i h3
        simp only [hE, List.length_map, std_lss, std_leq, std_gtr, std_geq, std_eql, std_neq, std_len, std_add, std_subI, std_mulI, std_ssize, std_not, std_band, std_bcmp, std_nat, std_ofNat, std_nadd, std_nsub, IntKind.wrap_i64, decide_eq_true_eq, decide_eq_false_iff_not, Bool.not_eq_true', Bool.not_eq_false', Option.getD_none, Option.getD_some, hn] at h3
        have hk' : k < a.length := by omega
        have hkb : k < b.length := by omega
        cbv
        try simp only [nc] at *
        repeat (refine And.intro (by first | (simp only [hE]; exact rd_inR hx hi hk') | (simp only [hE, rd_elt hx hi hk']; exact ⟨rfl⟩) | (simp only [hE, rd_elt hx hi hk']; exact ⟨Nat.le_of_ble_eq_true rfl⟩) | (simp only [hE]; exact rd_inR hy hi hkb) | (simp only [hE, rd_elt hy hi hkb]; exact ⟨rfl⟩) | (simp only [hE, rd_elt hy hi hkb]; exact ⟨Nat.le_of_ble_eq_true rfl⟩)) ?_)
        obtain ⟨s, hsk⟩ : ∃ s, s = a[k] := ⟨_, rfl⟩
        obtain ⟨s', hsk'⟩ : ∃ s, s = b[k] := ⟨_, rfl⟩
        rw [show qstr (qnth (qelt xs i) 0) = s by rw [hsk]; simp only [hE, rd_elt hx hi hk']; rfl]
        rw [show qstr (qnth (qelt ys i) 0) = s' by rw [hsk']; simp only [hE, rd_elt hy hi hkb]; rfl]
        split
        · rename_i h4
          simp only [hE, List.length_map, std_lss, std_leq, std_gtr, std_geq, std_eql, std_neq, std_len, std_add, std_subI, std_mulI, std_ssize, std_not, std_band, std_bcmp, std_nat, std_ofNat, std_nadd, std_nsub, IntKind.wrap_i64, decide_eq_true_eq, decide_eq_false_iff_not, Bool.not_eq_true', Bool.not_eq_false', Option.getD_none, Option.getD_some, std_sneq] at h4
          cbv
          try simp only [nc] at *
          rw [← hQ, decide_eq_false (p := a = b) (by intro e; apply h4; rw [hsk, hsk']; apply take_here hk' hkb; rw [e])]
          exact endD_one rfl rfl
        · rename_i h4
          simp only [hE, List.length_map, std_lss, std_leq, std_gtr, std_geq, std_eql, std_neq, std_len, std_add, std_subI, std_mulI, std_ssize, std_not, std_band, std_bcmp, std_nat, std_ofNat, std_nadd, std_nsub, IntKind.wrap_i64, decide_eq_true_eq, decide_eq_false_iff_not, Bool.not_eq_true', Bool.not_eq_false', Option.getD_none, Option.getD_some, std_sneq] at h4
          cbv
          try simp only [nc] at *
          refine ⟨k + 1, ⟨by omega, take_next hk' hkb hl (by rw [← hsk, ← hsk']; exact h4)⟩, by omega, ?_, by trivial⟩
          refine .cons rfl (.cons rfl (.cons ?_ (.nil _)))
          · show AV.d (D.sc (Value.int IntKind.i64 (qbin .add .i64 i 1))) = _
            rw [show qbin .add .i64 i 1 = ((k + 1 : Nat) : Int) by simp only [hE, List.length_map, std_lss, std_leq, std_gtr, std_geq, std_eql, std_neq, std_len, std_add, std_subI, std_mulI, std_ssize, std_not, std_band, std_bcmp, std_nat, std_ofNat, std_nadd, std_nsub, IntKind.wrap_i64, decide_eq_true_eq, decide_eq_false_iff_not, Bool.not_eq_true', Bool.not_eq_false', Option.getD_none, Option.getD_some, ]; omega]
      · rename_i h3
        simp only [hE, List.length_map, std_lss, std_leq, std_gtr, std_geq, std_eql, std_neq, std_len, std_add, std_subI, std_mulI, std_ssize, std_not, std_band, std_bcmp, std_nat, std_ofNat, std_nadd, std_nsub, IntKind.wrap_i64, decide_eq_true_eq, decide_eq_false_iff_not, Bool.not_eq_true', Bool.not_eq_false', Option.getD_none, Option.getD_some, hn] at h3
        cbv
        try simp only [nc] at *
        have hk' : k = a.length := by omega
        subst hk'
        rw [List.take_length] at hl
        rw [← hQ, decide_eq_true (p := a = b) (by rw [hl, List.take_of_length_le (by omega)])]
        exact endD_one rfl rfl

theorem t34 {a b : List ByteArray} {xs ys : List (List D)} (hx : a.map cS = xs) (hy : b.map cS = ys) (ha : a.length < 2 ^ 62) (hb : b.length < 2 ^ 62) :
    CallOk Try.prog 34 [.d (.row 1 xs), .d (.row 1 ys)] [] ⟨.d (.sc (.bool (decide (a = b)))), [], []⟩ := by
  refine CallOk.of_bodyD (body := c34) Try.func34 rfl (Nat.le_of_ble_eq_true (by kernel_rfl)) rfl ?_
  refine vc_ok tab_ok mixed ?_
  have hT := tab_ok
  have hm := mixed
  generalize hP : Try.prog = P at *
  generalize hA : std = A
  obtain ⟨qbin, qsh, qcmp, qscmp, qbcmp, qbnot, qneg, qwrap, qcat, qssize, qssub, qsget, qlen, qrsub, qapp, qelt, qset, qnth, qdrp, qstr, qint, qbool, qrow, qnat, qnadd, qnsub, qband, qofNat, qstrRow, qmkRow, qmx, qmn, qbytes⟩ := A
  have hE := Ar.eqs hA
  dsimp only at hE
  generalize hQ : EndD P Try.f34.results _ = Q
  have hn := rd_n hx
  have hn' := rd_n hy
  cbv
  try simp only [nc] at *
  split
  · rename_i h2
    simp only [hE, List.length_map, std_lss, std_leq, std_gtr, std_geq, std_eql, std_neq, std_len, std_add, std_subI, std_mulI, std_ssize, std_not, std_band, std_bcmp, std_nat, std_ofNat, std_nadd, std_nsub, IntKind.wrap_i64, decide_eq_true_eq, decide_eq_false_iff_not, Bool.not_eq_true', Bool.not_eq_false', Option.getD_none, Option.getD_some, hn] at h2
    cbv
    try simp only [nc] at *
    rw [← hQ, decide_eq_false (p := a = b) (by rintro rfl; omega)]
    exact endD_one rfl rfl
  · rename_i h2
    simp only [hE, List.length_map, std_lss, std_leq, std_gtr, std_geq, std_eql, std_neq, std_len, std_add, std_subI, std_mulI, std_ssize, std_not, std_band, std_bcmp, std_nat, std_ofNat, std_nadd, std_nsub, IntKind.wrap_i64, decide_eq_true_eq, decide_eq_false_iff_not, Bool.not_eq_true', Bool.not_eq_false', Option.getD_none, Option.getD_some, hn] at h2
    cbv
    try simp only [nc] at *
    have hle : a.length ≤ b.length := by omega
    refine LpW.of (κ := Nat) (fun k => k ≤ a.length ∧ a.take k = b.take k) (fun k => a.length - k) (fun k => [(0, .d (.row 1 xs)), (1, .d (.row 1 ys)), (12, .d (.sc (.int .i64 a.length))), (13, .d (.sc (.int .i64 k)))]) (fun _ => []) 0 ⟨by omega, by simp⟩ ?_ (by first | rfl | trivial) ?_
    · refine .cons rfl (.cons rfl (.cons ?_ (.cons rfl (.nil _))))
      show AV.d (D.sc (Value.int IntKind.i64 (qlen xs))) = _
      simp only [hE, std_len, hn]
    · rintro k ⟨hk, hl⟩
      generalize hi : (k : Int) = i
      generalize hz : (a.length : Int) = z
      refine vc_ok hT hm ?_
      rw [hA]
      cbv
      try simp only [nc] at *
      split
      · rename_i h3
        simp only [hE, List.length_map, std_lss, std_leq, std_gtr, std_geq, std_eql, std_neq, std_len, std_add, std_subI, std_mulI, std_ssize, std_not, std_band, std_bcmp, std_nat, std_ofNat, std_nadd, std_nsub, IntKind.wrap_i64, decide_eq_true_eq, decide_eq_false_iff_not, Bool.not_eq_true', Bool.not_eq_false', Option.getD_none, Option.getD_some, hn] at h3
        have hk' : k < a.length := by omega
        have hkb : k < b.length := by omega
        cbv
        try simp only [nc] at *
        repeat (refine And.intro (by first | (simp only [hE]; exact rd_inR hx hi hk') | (simp only [hE, rd_elt hx hi hk']; exact ⟨rfl⟩) | (simp only [hE, rd_elt hx hi hk']; exact ⟨Nat.le_of_ble_eq_true rfl⟩) | (simp only [hE]; exact rd_inR hy hi hkb) | (simp only [hE, rd_elt hy hi hkb]; exact ⟨rfl⟩) | (simp only [hE, rd_elt hy hi hkb]; exact ⟨Nat.le_of_ble_eq_true rfl⟩)) ?_)
        obtain ⟨s, hsk⟩ : ∃ s, s = a[k] := ⟨_, rfl⟩
        obtain ⟨s', hsk'⟩ : ∃ s, s = b[k] := ⟨_, rfl⟩
        rw [show qstr (qnth (qelt xs i) 0) = s by rw [hsk]; simp only [hE, rd_elt hx hi hk']; rfl]
        rw [show qstr (qnth (qelt ys i) 0) = s' by rw [hsk']; simp only [hE, rd_elt hy hi hkb]; rfl]
        split
        · rename_i h4
          simp only [hE, List.length_map, std_lss, std_leq, std_gtr, std_geq, std_eql, std_neq, std_len, std_add, std_subI, std_mulI, std_ssize, std_not, std_band, std_bcmp, std_nat, std_ofNat, std_nadd, std_nsub, IntKind.wrap_i64, decide_eq_true_eq, decide_eq_false_iff_not, Bool.not_eq_true', Bool.not_eq_false', Option.getD_none, Option.getD_some, std_sneq] at h4
          cbv
          try simp only [nc] at *
          rw [← hQ, decide_eq_false (p := a = b) (by intro e; apply h4; rw [hsk, hsk']; apply take_here hk' hkb; rw [e])]
          exact endD_one rfl rfl
        · rename_i h4
          simp only [hE, List.length_map, std_lss, std_leq, std_gtr, std_geq, std_eql, std_neq, std_len, std_add, std_subI, std_mulI, std_ssize, std_not, std_band, std_bcmp, std_nat, std_ofNat, std_nadd, std_nsub, IntKind.wrap_i64, decide_eq_true_eq, decide_eq_false_iff_not, Bool.not_eq_true', Bool.not_eq_false', Option.getD_none, Option.getD_some, std_sneq] at h4
          cbv
          try simp only [nc] at *
          refine ⟨k + 1, ⟨by omega, take_next hk' hkb hl (by rw [← hsk, ← hsk']; exact h4)⟩, by omega, ?_, by trivial⟩
          refine .cons rfl (.cons rfl (.cons rfl (.cons ?_ (.nil _))))
          · show AV.d (D.sc (Value.int IntKind.i64 (qbin .add .i64 i 1))) = _
            rw [show qbin .add .i64 i 1 = ((k + 1 : Nat) : Int) by simp only [hE, List.length_map, std_lss, std_leq, std_gtr, std_geq, std_eql, std_neq, std_len, std_add, std_subI, std_mulI, std_ssize, std_not, std_band, std_bcmp, std_nat, std_ofNat, std_nadd, std_nsub, IntKind.wrap_i64, decide_eq_true_eq, decide_eq_false_iff_not, Bool.not_eq_true', Bool.not_eq_false', Option.getD_none, Option.getD_some, ]; omega]
      · rename_i h3
        simp only [hE, List.length_map, std_lss, std_leq, std_gtr, std_geq, std_eql, std_neq, std_len, std_add, std_subI, std_mulI, std_ssize, std_not, std_band, std_bcmp, std_nat, std_ofNat, std_nadd, std_nsub, IntKind.wrap_i64, decide_eq_true_eq, decide_eq_false_iff_not, Bool.not_eq_true', Bool.not_eq_false', Option.getD_none, Option.getD_some, hn] at h3
        cbv
        try simp only [nc] at *
        have hk' : k = a.length := by omega
        subst hk'
        rw [List.take_length] at hl
        rw [← hQ, decide_eq_true (p := a = b) (by rw [hl, List.take_of_length_le (by omega)])]
        exact endD_one rfl rfl

theorem t16 {a b : List ByteArray} {xs ys : List (List D)} (hx : a.map cS = xs) (hy : b.map cS = ys) (ha : a.length < 2 ^ 62) (hb : b.length < 2 ^ 62) :
    CallOk Try.prog 16 [.d (.row 1 xs), .d (.row 1 ys)] [] ⟨.d (.sc (.bool (decide (a = b.take a.length)))), [], []⟩ := by
  refine CallOk.of_bodyD (body := c16) Try.func16 rfl (Nat.le_of_ble_eq_true (by kernel_rfl)) rfl ?_
  refine vc_ok tab_ok mixed ?_
  have hT := tab_ok
  have hm := mixed
  generalize hP : Try.prog = P at *
  generalize hA : std = A
  obtain ⟨qbin, qsh, qcmp, qscmp, qbcmp, qbnot, qneg, qwrap, qcat, qssize, qssub, qsget, qlen, qrsub, qapp, qelt, qset, qnth, qdrp, qstr, qint, qbool, qrow, qnat, qnadd, qnsub, qband, qofNat, qstrRow, qmkRow, qmx, qmn, qbytes⟩ := A
  have hE := Ar.eqs hA
  dsimp only at hE
  generalize hQ : EndD P Try.f16.results _ = Q
  have hn := rd_n hx
  have hn' := rd_n hy
  cbv
  try simp only [nc] at *
  split
  · rename_i h2
    simp only [hE, List.length_map, std_lss, std_leq, std_gtr, std_geq, std_eql, std_neq, std_len, std_add, std_subI, std_mulI, std_ssize, std_not, std_band, std_bcmp, std_nat, std_ofNat, std_nadd, std_nsub, IntKind.wrap_i64, decide_eq_true_eq, decide_eq_false_iff_not, Bool.not_eq_true', Bool.not_eq_false', Option.getD_none, Option.getD_some, hn] at h2
    cbv
    try simp only [nc] at *
    rw [← hQ, decide_eq_false (p := a = b.take a.length) (by intro e; have := congrArg List.length e; simp at this; omega)]
    exact endD_one rfl rfl
  · rename_i h2
    simp only [hE, List.length_map, std_lss, std_leq, std_gtr, std_geq, std_eql, std_neq, std_len, std_add, std_subI, std_mulI, std_ssize, std_not, std_band, std_bcmp, std_nat, std_ofNat, std_nadd, std_nsub, IntKind.wrap_i64, decide_eq_true_eq, decide_eq_false_iff_not, Bool.not_eq_true', Bool.not_eq_false', Option.getD_none, Option.getD_some, hn] at h2
    cbv
    try simp only [nc] at *
    have hle : a.length ≤ b.length := by omega
    refine LpW.of (κ := Nat) (fun k => k ≤ a.length ∧ a.take k = b.take k) (fun k => a.length - k) (fun k => [(0, .d (.row 1 xs)), (1, .d (.row 1 ys)), (5, .d (.sc (.int .i64 k)))]) (fun _ => []) 0 ⟨by omega, by simp⟩ ?_ (by first | rfl | trivial) ?_
    · refine .cons rfl (.cons rfl (.cons rfl (.nil _)))
    · rintro k ⟨hk, hl⟩
      generalize hi : (k : Int) = i
      refine vc_ok hT hm ?_
      rw [hA]
      cbv
      try simp only [nc] at *
      split
      · rename_i h3
        simp only [hE, List.length_map, std_lss, std_leq, std_gtr, std_geq, std_eql, std_neq, std_len, std_add, std_subI, std_mulI, std_ssize, std_not, std_band, std_bcmp, std_nat, std_ofNat, std_nadd, std_nsub, IntKind.wrap_i64, decide_eq_true_eq, decide_eq_false_iff_not, Bool.not_eq_true', Bool.not_eq_false', Option.getD_none, Option.getD_some, hn] at h3
        have hk' : k < a.length := by omega
        have hkb : k < b.length := by omega
        cbv
        try simp only [nc] at *
        repeat (refine And.intro (by first | (simp only [hE]; exact rd_inR hx hi hk') | (simp only [hE, rd_elt hx hi hk']; exact ⟨rfl⟩) | (simp only [hE, rd_elt hx hi hk']; exact ⟨Nat.le_of_ble_eq_true rfl⟩) | (simp only [hE]; exact rd_inR hy hi hkb) | (simp only [hE, rd_elt hy hi hkb]; exact ⟨rfl⟩) | (simp only [hE, rd_elt hy hi hkb]; exact ⟨Nat.le_of_ble_eq_true rfl⟩)) ?_)
        obtain ⟨s, hsk⟩ : ∃ s, s = a[k] := ⟨_, rfl⟩
        obtain ⟨s', hsk'⟩ : ∃ s, s = b[k] := ⟨_, rfl⟩
        rw [show qstr (qnth (qelt xs i) 0) = s by rw [hsk]; simp only [hE, rd_elt hx hi hk']; rfl]
        rw [show qstr (qnth (qelt ys i) 0) = s' by rw [hsk']; simp only [hE, rd_elt hy hi hkb]; rfl]
        split
        · rename_i h4
          simp only [hE, List.length_map, std_lss, std_leq, std_gtr, std_geq, std_eql, std_neq, std_len, std_add, std_subI, std_mulI, std_ssize, std_not, std_band, std_bcmp, std_nat, std_ofNat, std_nadd, std_nsub, IntKind.wrap_i64, decide_eq_true_eq, decide_eq_false_iff_not, Bool.not_eq_true', Bool.not_eq_false', Option.getD_none, Option.getD_some, std_sneq] at h4
          cbv
          try simp only [nc] at *
          rw [← hQ, decide_eq_false (p := a = b.take a.length) (by intro e; apply h4; rw [hsk, hsk']; apply take_here hk' hkb; have := congrArg (List.take (k + 1)) e; rw [List.take_take, Nat.min_eq_left (by omega)] at this; exact this)]
          exact endD_one rfl rfl
        · rename_i h4
          simp only [hE, List.length_map, std_lss, std_leq, std_gtr, std_geq, std_eql, std_neq, std_len, std_add, std_subI, std_mulI, std_ssize, std_not, std_band, std_bcmp, std_nat, std_ofNat, std_nadd, std_nsub, IntKind.wrap_i64, decide_eq_true_eq, decide_eq_false_iff_not, Bool.not_eq_true', Bool.not_eq_false', Option.getD_none, Option.getD_some, std_sneq] at h4
          cbv
          try simp only [nc] at *
          refine ⟨k + 1, ⟨by omega, take_next hk' hkb hl (by rw [← hsk, ← hsk']; exact h4)⟩, by omega, ?_, by trivial⟩
          refine .cons rfl (.cons rfl (.cons ?_ (.nil _)))
          · show AV.d (D.sc (Value.int IntKind.i64 (qbin .add .i64 i 1))) = _
            rw [show qbin .add .i64 i 1 = ((k + 1 : Nat) : Int) by simp only [hE, List.length_map, std_lss, std_leq, std_gtr, std_geq, std_eql, std_neq, std_len, std_add, std_subI, std_mulI, std_ssize, std_not, std_band, std_bcmp, std_nat, std_ofNat, std_nadd, std_nsub, IntKind.wrap_i64, decide_eq_true_eq, decide_eq_false_iff_not, Bool.not_eq_true', Bool.not_eq_false', Option.getD_none, Option.getD_some, ]; omega]
      · rename_i h3
        simp only [hE, List.length_map, std_lss, std_leq, std_gtr, std_geq, std_eql, std_neq, std_len, std_add, std_subI, std_mulI, std_ssize, std_not, std_band, std_bcmp, std_nat, std_ofNat, std_nadd, std_nsub, IntKind.wrap_i64, decide_eq_true_eq, decide_eq_false_iff_not, Bool.not_eq_true', Bool.not_eq_false', Option.getD_none, Option.getD_some, hn] at h3
        cbv
        try simp only [nc] at *
        have hk' : k = a.length := by omega
        subst hk'
        rw [List.take_length] at hl
        rw [← hQ, decide_eq_true (p := a = b.take a.length) (by exact hl)]
        exact endD_one rfl rfl

theorem set_copy {α β : Type} (f : α → β) (a : List α) (d : β) (k : Nat) (h : k < a.length) : ((a.take k).map f ++ List.replicate (a.length - k) d).set k (f a[k]) = (a.take (k + 1)).map f ++ List.replicate (a.length - (k + 1)) d := by
  have e : a.length - k = (a.length - (k + 1)) + 1 := by omega
  have hl : ((a.take k).map f).length = k := by simp; omega
  rw [e, List.replicate_succ, List.set_append, if_neg (by omega), hl, Nat.sub_self, List.set_cons_zero, List.take_succ_eq_append_getElem h, List.map_append, List.append_assoc]
  rfl

theorem ent17 : Entered Try.prog 17 := ⟨_, Try.func17, rfl, rfl⟩
theorem ent15 : Entered Try.prog 15 := ⟨_, Try.func15, rfl, rfl⟩
theorem ent16 : Entered Try.prog 16 := ⟨_, Try.func16, rfl, rfl⟩
theorem ent18 : Entered Try.prog 18 := ⟨_, Try.func18, rfl, rfl⟩
theorem ent19 : Entered Try.prog 19 := ⟨_, Try.func19, rfl, rfl⟩
theorem ent34 : Entered Try.prog 34 := ⟨_, Try.func34, rfl, rfl⟩
theorem t17 {a : List ByteArray} {xs : List (List D)} (hx : a.map cS = xs) (ha : a.length < 2 ^ 40) : CallOk Try.prog 17 [.d (.row 1 xs)] [] ⟨.d (.row 1 xs), [], []⟩ := by
  refine CallOk.of_bodyD (body := c17) Try.func17 rfl (Nat.le_of_ble_eq_true (by kernel_rfl)) rfl ?_
  refine vc_ok tab_ok mixed ?_
  have hT := tab_ok
  have hm := mixed
  generalize hP : Try.prog = P at *
  generalize hA : std = A
  obtain ⟨qbin, qsh, qcmp, qscmp, qbcmp, qbnot, qneg, qwrap, qcat, qssize, qssub, qsget, qlen, qrsub, qapp, qelt, qset, qnth, qdrp, qstr, qint, qbool, qrow, qnat, qnadd, qnsub, qband, qofNat, qstrRow, qmkRow, qmx, qmn, qbytes⟩ := A
  have hE := Ar.eqs hA
  dsimp only at hE
  generalize hQ : EndD P Try.f17.results _ = Q
  have hn := rd_n hx
  cbv
  try simp only [nc] at *
  refine ⟨?_, ?_⟩
  · simp only [hE, std_len, hn]; exact ⟨by omega, by omega, by omega, by omega⟩
  refine LpW.of (κ := Nat) (fun k => k ≤ a.length) (fun k => a.length - k) (fun k => [(0, .d (.row 1 xs)), (3, .ref 1 0 a.length), (4, .d (.sc (.int .i64 k)))]) (fun k => [.row 1 false [], .row 1 false (cpRow cS a [.sc (.string default)] k)]) 0 (by simp) ?_ ?_ ?_
  · refine .cons rfl (.cons ?_ (.cons rfl (.nil _)))
    show AV.ref 1 0 (qnat (qlen xs)) = _
    simp only [hE, std_len, std_nat, hn, Int.toNat_natCast]
  · show [Root.row 1 false [], Root.row 1 false (qmkRow (qlen xs) [.sc (.string default)])] = _
    simp only [hE, std_len, hn, cp_zero]
    rfl
  · intro k hk
    generalize hz : cpRow cS a [.sc (.string default)] k = zs
    generalize hi : (k : Int) = i
    generalize hm' : a.length = m
    refine vc_ok hT hm ?_
    rw [hA]
    cbv
    try simp only [nc] at *
    split
    · rename_i h2
      simp only [hE, List.length_map, std_lss, std_leq, std_gtr, std_geq, std_eql, std_neq, std_len, std_add, std_subI, std_mulI, std_ssize, std_not, std_band, std_bcmp, std_nat, std_ofNat, std_nadd, std_nsub, IntKind.wrap_i64, decide_eq_true_eq, decide_eq_false_iff_not, Bool.not_eq_true', Bool.not_eq_false', Option.getD_none, Option.getD_some, hn] at h2
      have hk' : k < a.length := by omega
      cbv
      try simp only [nc] at *
      repeat (refine And.intro (by first | (simp only [hE]; exact rd_inR hx hi hk') | (simp only [hE, rd_elt hx hi hk']; exact ⟨rfl⟩) | (simp only [hE, rd_elt hx hi hk']; exact ⟨Nat.le_of_ble_eq_true rfl⟩)) ?_)
      refine ⟨?_, ?_, ?_, k + 1, by omega, by omega, ?_, ?_⟩
      · simp only [hE, std_ofNat]; exact ⟨by omega, by omega⟩
      · simp only [hE]; exact cp_inR hk' hz hi
      · simp only [hE]; exact cp_lenGe hk' hz hi (Nat.le_refl _)
      · refine .cons rfl (.cons rfl (.cons ?_ (.nil _)))
        show AV.d (D.sc (Value.int IntKind.i64 (qbin .add .i64 i 1))) = _
        simp only [hE, i_next hi (by omega)]
      · have e : [D.sc (Value.string (qstr (qnth (qelt xs i) 0)))] = cS a[k] := by simp only [hE, rd_elt hx hi hk']; rfl
        rw [e]
        simp only [hE]
        rw [cp_set hk' hz hi rfl]
    · rename_i h2
      simp only [hE, List.length_map, std_lss, std_leq, std_gtr, std_geq, std_eql, std_neq, std_len, std_add, std_subI, std_mulI, std_ssize, std_not, std_band, std_bcmp, std_nat, std_ofNat, std_nadd, std_nsub, IntKind.wrap_i64, decide_eq_true_eq, decide_eq_false_iff_not, Bool.not_eq_true', Bool.not_eq_false', Option.getD_none, Option.getD_some, hn] at h2
      cbv
      try simp only [nc] at *
      have hk' : k = a.length := by omega
      subst hk'
      rw [← hQ]
      rw [cp_end] at hz
      have hxz : zs = xs := by rw [← hz, hx]
      subst hxz
      exact endD_ref rfl rfl (by omega)
theorem t18 {a b : List ByteArray} {xs ys : List (List D)} (hx : a.map cS = xs) (hy : b.map cS = ys) (ha : a.length < 2 ^ 62) (hb : b.length < 2 ^ 62) :
    CallOk Try.prog 18 [.d (.row 1 xs), .d (.row 1 ys)] [] ⟨.d (.sc (.bool (decide (a = b.take a.length)))), [], []⟩ := by
  have e34 := ent34
  have T34 := @t34
  refine CallOk.of_bodyD (body := c18) Try.func18 rfl (Nat.le_of_ble_eq_true (by kernel_rfl)) rfl ?_
  refine vc_ok tab_ok mixed ?_
  have hT := tab_ok
  have hm := mixed
  generalize hP : Try.prog = P at *
  generalize hA : std = A
  obtain ⟨qbin, qsh, qcmp, qscmp, qbcmp, qbnot, qneg, qwrap, qcat, qssize, qssub, qsget, qlen, qrsub, qapp, qelt, qset, qnth, qdrp, qstr, qint, qbool, qrow, qnat, qnadd, qnsub, qband, qofNat, qstrRow, qmkRow, qmx, qmn, qbytes⟩ := A
  have hE := Ar.eqs hA
  dsimp only at hE
  generalize hQ : EndD P Try.f18.results _ = Q
  have hn := rd_n hx
  have hn' := rd_n hy
  cbv
  try simp only [nc] at *
  split
  · rename_i h2
    simp only [hE, List.length_map, std_lss, std_leq, std_gtr, std_geq, std_eql, std_neq, std_len, std_add, std_subI, std_mulI, std_ssize, std_not, std_band, std_bcmp, std_nat, std_ofNat, std_nadd, std_nsub, IntKind.wrap_i64, decide_eq_true_eq, decide_eq_false_iff_not, Bool.not_eq_true', Bool.not_eq_false', Option.getD_none, Option.getD_some, hn,hn'] at h2
    refine ⟨?_, ?_⟩
    · simp only [hE, List.length_map, std_lss, std_leq, std_gtr, std_geq, std_eql, std_neq, std_len, std_add, std_subI, std_mulI, std_ssize, std_not, std_band, std_bcmp, std_nat, std_ofNat, std_nadd, std_nsub, IntKind.wrap_i64, decide_eq_true_eq, decide_eq_false_iff_not, Bool.not_eq_true', Bool.not_eq_false', Option.getD_none, Option.getD_some, hn,hn']; exact ⟨by omega, by omega, by omega⟩
    have hr : (b.take a.length).map cS = qrsub ys 0 (qlen xs) := by
      simp only [hE, std_len, hn]
      show _ = (ys.drop (0 : Int).toNat).take ((a.length : Int).toNat - (0 : Int).toNat)
      simp [← hy]
    refine ClW.dd (f := 34) rfl rfl rfl rfl (.cons rfl (.cons rfl .nil)) rfl e34 (T34 hx hr ha (by simp; omega)) rfl ?_
    generalize hb : decide (a = b.take a.length) = r
    cbv
    try simp only [nc] at *
    rw [← hQ, ← hb]
    exact endD_one rfl rfl
  · rename_i h2
    simp only [hE, List.length_map, std_lss, std_leq, std_gtr, std_geq, std_eql, std_neq, std_len, std_add, std_subI, std_mulI, std_ssize, std_not, std_band, std_bcmp, std_nat, std_ofNat, std_nadd, std_nsub, IntKind.wrap_i64, decide_eq_true_eq, decide_eq_false_iff_not, Bool.not_eq_true', Bool.not_eq_false', Option.getD_none, Option.getD_some, hn,hn'] at h2
    cbv
    try simp only [nc] at *
    rw [← hQ, decide_eq_false (p := a = b.take a.length) (by intro e; have := congrArg List.length e; simp at this; omega)]
    exact endD_one rfl rfl
theorem totS_le {a : List ByteArray} {l : Int} (h : totS a ≤ l) : (a.length : Int) ≤ l := by
  have := sumF_nonneg (fun s => (s.size : Int)) a (fun s _ => by omega)
  unfold totS at h
  omega
theorem t5 {a b : List ByteArray} {xs ys : List (List D)} (hx : a.map cS = xs) (hy : b.map cS = ys) (ha : a.length < 2 ^ 62) (hb : b.length < 2 ^ 62) (hsa : ∀ s ∈ a, s.size < 2 ^ 62) (hsb : ∀ s ∈ b, s.size < 2 ^ 62) :
    CallOk Try.prog 5 [.d (.row 1 xs), .d (.row 1 ys)] [] ⟨.d (.sc (.bool true)), [], []⟩ := by
  have e15 := ent15; have e16 := ent16; have e17 := ent17; have e18 := ent18; have e19 := ent19
  have T15 := @t15; have T16 := @t16; have T17 := @t17; have T18 := @t18; have T19 := @t19
  refine CallOk.of_bodyD (body := c5) Try.func5 rfl (Nat.le_of_ble_eq_true (by kernel_rfl)) rfl ?_
  refine vc_ok tab_ok mixed ?_
  have hT := tab_ok
  have hm := mixed
  generalize hP : Try.prog = P at *
  generalize hA : std = A
  obtain ⟨qbin, qsh, qcmp, qscmp, qbcmp, qbnot, qneg, qwrap, qcat, qssize, qssub, qsget, qlen, qrsub, qapp, qelt, qset, qnth, qdrp, qstr, qint, qbool, qrow, qnat, qnadd, qnsub, qband, qofNat, qstrRow, qmkRow, qmx, qmn, qbytes⟩ := A
  have hE := Ar.eqs hA
  dsimp only at hE
  generalize hQ : EndD P Try.f5.results _ = Q
  cbv
  try simp only [nc] at *
  refine ClW.dd (f := 15) rfl rfl rfl rfl (.cons rfl (.cons rfl .nil)) rfl e15 (T15 hx 1048576 (by omega) (by omega) ha hsa) rfl ?_
  generalize hl1 : szOf (totS a) 1048576 = l1
  cbv
  try simp only [nc] at *
  split
  · cbv
    try simp only [nc] at *
    rw [← hQ]
    exact endD_one rfl rfl
  rename_i h1
  simp only [hE, List.length_map, std_lss, std_leq, std_gtr, std_geq, std_eql, std_neq, std_len, std_add, std_subI, std_mulI, std_ssize, std_not, std_band, std_bcmp, std_nat, std_ofNat, std_nadd, std_nsub, IntKind.wrap_i64, decide_eq_true_eq, decide_eq_false_iff_not, Bool.not_eq_true', Bool.not_eq_false', Option.getD_none, Option.getD_some] at h1
  obtain ⟨g1, g2⟩ := szOf_ge (t := totS a) (left := 1048576) (by omega)
  have ga := totS_le g1
  have gn : 0 ≤ totS a := by have := sumF_nonneg (fun s => (s.size : Int)) a (fun s _ => by omega); unfold totS; omega
  cbv
  try simp only [nc] at *
  refine ClW.dd (f := 15) rfl rfl rfl rfl (.cons rfl (.cons rfl .nil)) rfl e15 (T15 hy l1 (by omega) (by omega) hb hsb) rfl ?_
  generalize hl2 : szOf (totS b) l1 = l2
  cbv
  try simp only [nc] at *
  split
  · cbv
    try simp only [nc] at *
    rw [← hQ]
    exact endD_one rfl rfl
  rename_i h2
  simp only [hE, List.length_map, std_lss, std_leq, std_gtr, std_geq, std_eql, std_neq, std_len, std_add, std_subI, std_mulI, std_ssize, std_not, std_band, std_bcmp, std_nat, std_ofNat, std_nadd, std_nsub, IntKind.wrap_i64, decide_eq_true_eq, decide_eq_false_iff_not, Bool.not_eq_true', Bool.not_eq_false', Option.getD_none, Option.getD_some] at h2
  obtain ⟨g3, g4⟩ := szOf_ge (t := totS b) (left := l1) (by omega)
  have gb := totS_le g3
  cbv
  try simp only [nc] at *
  refine ClW.dd (f := 17) rfl rfl rfl rfl (.cons rfl .nil) rfl e17 (T17 hx (by omega)) rfl ?_
  cbv
  try simp only [nc] at *
  refine ClW.dd (f := 17) rfl rfl rfl rfl (.cons rfl .nil) rfl e17 (T17 hy (by omega)) rfl ?_
  cbv
  try simp only [nc] at *
  refine ClW.dd (f := 16) rfl rfl rfl rfl (.cons rfl (.cons rfl .nil)) rfl e16 (T16 hx hy (by omega) (by omega)) rfl ?_
  generalize hr : decide (a = b.take a.length) = r at *
  cbv
  try simp only [nc] at *
  refine ClW.dd (f := 17) rfl rfl rfl rfl (.cons rfl .nil) rfl e17 (T17 hx (by omega)) rfl ?_
  cbv
  try simp only [nc] at *
  refine ClW.dd (f := 17) rfl rfl rfl rfl (.cons rfl .nil) rfl e17 (T17 hy (by omega)) rfl ?_
  cbv
  try simp only [nc] at *
  refine ClW.dd (f := 18) rfl rfl rfl rfl (.cons rfl (.cons rfl .nil)) rfl e18 (T18 hx hy (by omega) (by omega)) rfl ?_
  rw [hr]
  cbv
  try simp only [nc] at *
  split
  · rename_i h3
    simp only [hE, List.length_map, std_lss, std_leq, std_gtr, std_geq, std_eql, std_neq, std_len, std_add, std_subI, std_mulI, std_ssize, std_not, std_band, std_bcmp, std_nat, std_ofNat, std_nadd, std_nsub, IntKind.wrap_i64, decide_eq_true_eq, decide_eq_false_iff_not, Bool.not_eq_true', Bool.not_eq_false', Option.getD_none, Option.getD_some] at h3
    simp at h3
  cbv
  try simp only [nc] at *
  refine ClW.dd (f := 17) rfl rfl rfl rfl (.cons rfl .nil) rfl e17 (T17 hx (by omega)) rfl ?_
  cbv
  try simp only [nc] at *
  refine ClW.dd (f := 19) rfl rfl rfl rfl (.cons rfl (.cons rfl .nil)) rfl e19 (T19 hx hx (by omega) (by omega)) rfl ?_
  rw [decide_eq_true (p := a = a) rfl]
  cbv
  try simp only [nc] at *
  split
  · rename_i h3
    simp only [hE, List.length_map, std_lss, std_leq, std_gtr, std_geq, std_eql, std_neq, std_len, std_add, std_subI, std_mulI, std_ssize, std_not, std_band, std_bcmp, std_nat, std_ofNat, std_nadd, std_nsub, IntKind.wrap_i64, decide_eq_true_eq, decide_eq_false_iff_not, Bool.not_eq_true', Bool.not_eq_false', Option.getD_none, Option.getD_some] at h3
    simp at h3
  cbv
  try simp only [nc] at *
  refine ClW.dd (f := 17) rfl rfl rfl rfl (.cons rfl .nil) rfl e17 (T17 hy (by omega)) rfl ?_
  cbv
  try simp only [nc] at *
  refine ClW.dd (f := 19) rfl rfl rfl rfl (.cons rfl (.cons rfl .nil)) rfl e19 (T19 hy hy (by omega) (by omega)) rfl ?_
  rw [decide_eq_true (p := b = b) rfl]
  cbv
  try simp only [nc] at *
  split
  · rename_i h3
    simp only [hE, List.length_map, std_lss, std_leq, std_gtr, std_geq, std_eql, std_neq, std_len, std_add, std_subI, std_mulI, std_ssize, std_not, std_band, std_bcmp, std_nat, std_ofNat, std_nadd, std_nsub, IntKind.wrap_i64, decide_eq_true_eq, decide_eq_false_iff_not, Bool.not_eq_true', Bool.not_eq_false', Option.getD_none, Option.getD_some] at h3
    simp at h3
  cbv
  try simp only [nc] at *
  rw [← hQ]
  exact endD_one rfl rfl
end Go.Proofs.Ytbdlhemakfmadaa.Ab
