/- What functions of the program come to, for all arguments in the given bounds. -/
import Derived.Test.YtbdlhemakfmadaaProg
import Derived.Test.YtbdlhemakfmadaaZ4
import Derived.KernelRfl
set_option linter.unusedVariables false
set_option linter.unusedSimpArgs false
namespace Go.Proofs.Ytbdlhemakfmadaa.Ab
open Go Go.Proofs
def tab : List (Nat × TyRow) := [
  (3, ⟨.int .i64, some 1, some false, none, false, [.int .i64], [], some [(.int .i64 0, 0)], none, none, none⟩),
  (4, ⟨.bool, some 1, some false, none, false, [.bool], [], some [(.bool false, 0)], none, none, none⟩),
  (9, ⟨.str, some 1, some false, none, false, [.str], [], some [(.string default, 0)], none, none, none⟩),
  (24, ⟨.sl 1, some 1, some false, some (1, 8), false, [.sl 1], [], some [(.slice none 0 0, 1)], some ([.sc (.int .i64 0)], 1, 8), none, none⟩),
  (29, ⟨.sl 1, some 1, some false, some (1, 16), false, [.sl 1], [], some [(.slice none 0 0, 1)], some ([.sc (.string default)], 1, 16), none, none⟩),
  (34, ⟨.other, some 9, some true, none, false, [.int .i64, .int .i64, .int .i64, .int .i64, .int .i64, .sl 1, .int .i64, .bool, .int .i64], [some (0, 1, false), some (1, 1, false), some (2, 1, false), some (3, 1, false), some (4, 1, false), some (5, 1, false), some (6, 1, false), some (7, 1, false), some (8, 1, false)], some [(.int .i64 0, 0), (.int .i64 0, 0), (.int .i64 0, 0), (.int .i64 0, 0), (.int .i64 0, 0), (.slice none 0 0, 1), (.int .i64 0, 0), (.bool false, 0), (.int .i64 0, 0)], none, some [(0, 1), (1, 1), (2, 1), (3, 1), (4, 1), (5, 1), (6, 1), (7, 1), (8, 1)], none⟩),
  (37, ⟨.other, some 9, some true, none, false, [.int .i64, .int .i64, .int .i64, .int .i64, .int .i64, .sl 1, .int .i64, .bool, .int .i64], [some (0, 1, false), some (1, 1, false), some (2, 1, false), some (3, 1, false), some (4, 1, false), some (5, 1, false), some (6, 1, false), some (7, 1, false), some (8, 1, false)], some [(.int .i64 0, 0), (.int .i64 0, 0), (.int .i64 0, 0), (.int .i64 0, 0), (.int .i64 0, 0), (.slice none 0 0, 1), (.int .i64 0, 0), (.bool false, 0), (.int .i64 0, 0)], none, some [(0, 1), (1, 1), (2, 1), (3, 1), (4, 1), (5, 1), (6, 1), (7, 1), (8, 1)], none⟩),
  (41, ⟨.sl 4, some 1, some false, some (4, 56), false, [.sl 4], [], some [(.slice none 0 0, 4)], some ([.sc (.int .i64 0), .sc (.string default), .sc (.int .i64 0), .row 1 []], 4, 56), none, none⟩),
  (44, ⟨.sl 4, some 1, some false, some (4, 56), false, [.sl 4], [], some [(.slice none 0 0, 4)], some ([.sc (.int .i64 0), .sc (.string default), .sc (.int .i64 0), .row 1 []], 4, 56), none, none⟩),
  (53, ⟨.other, some 4, some true, none, false, [.int .i64, .str, .int .i64, .sl 1], [some (0, 1, false), some (1, 1, false), some (2, 1, false), some (3, 1, false)], some [(.int .i64 0, 0), (.string default, 0), (.int .i64 0, 0), (.slice none 0 0, 1)], none, some [(0, 1), (1, 1), (2, 1), (3, 1)], none⟩),
  (54, ⟨.other, some 4, some true, none, false, [.int .i64, .str, .int .i64, .sl 1], [some (0, 1, false), some (1, 1, false), some (2, 1, false), some (3, 1, false)], some [(.int .i64 0, 0), (.string default, 0), (.int .i64 0, 0), (.slice none 0 0, 1)], none, some [(0, 1), (1, 1), (2, 1), (3, 1)], none⟩)]
theorem tab_ok : TabOk Try.prog tab := TabOk.of (by kernel_rfl)
theorem mixed : Try.prog.follows .mixedOrders = true := by kernel_rfl
set_option maxRecDepth 20000
def totIntS (a : List Int) : Int := a.length
def okIntS (a : List Int) : Prop := a.length < 2 ^ 44
theorem totIntS_nn (a : List Int) : 0 ≤ totIntS a := by unfold totIntS; omega
def totStringS (a : List ByteArray) : Int := a.length + sumF (fun x => (x.size : Int)) a
def okStringS (a : List ByteArray) : Prop := a.length < 2 ^ 44 ∧ ∀ x ∈ a, x.size < 2 ^ 47
theorem totStringS_el (x : ByteArray) : 0 ≤ (x.size : Int) := by omega
theorem totStringS_nn (a : List ByteArray) : 0 ≤ totStringS a := by
  have := sumF_nonneg (fun x => (x.size : Int)) a (fun x _ => totStringS_el x)
  unfold totStringS
  omega
structure TWriter where
  version_ : Int
  stride_ : Int
  roll_ : Int
  base_ : Int
  link_ : Int
  offsets_ : List Int
  end_ : Int
  open_ : Bool
  code_ : Int
def eWriter (a : TWriter) : List D := [.sc (.int .i64 a.version_), .sc (.int .i64 a.stride_), .sc (.int .i64 a.roll_), .sc (.int .i64 a.base_), .sc (.int .i64 a.link_), .row 1 (a.offsets_.map cI), .sc (.int .i64 a.end_), .sc (.bool a.open_), .sc (.int .i64 a.code_)]
def totWriter (a : TWriter) : Int := totIntS a.offsets_
def okWriter (a : TWriter) : Prop := okIntS a.offsets_
theorem totWriter_nn (a : TWriter) : 0 ≤ totWriter a := by
  have := totIntS_nn a.offsets_
  unfold totWriter
  omega
structure TAct where
  kind_ : Int
  text_ : ByteArray
  n_ : Int
  keeps_ : List Int
def eAct (a : TAct) : List D := [.sc (.int .i64 a.kind_), .sc (.string a.text_), .sc (.int .i64 a.n_), .row 1 (a.keeps_.map cI)]
def totAct (a : TAct) : Int := (a.text_.size : Int) + totIntS a.keeps_
def okAct (a : TAct) : Prop := a.text_.size < 2 ^ 47 ∧ okIntS a.keeps_
theorem totAct_nn (a : TAct) : 0 ≤ totAct a := by
  have := totIntS_nn a.keeps_
  unfold totAct
  omega
def totActS (a : List TAct) : Int := a.length + sumF (fun x => totAct x) a
def okActS (a : List TAct) : Prop := a.length < 2 ^ 44 ∧ ∀ x ∈ a, okAct x
theorem totActS_el (x : TAct) : 0 ≤ totAct x := totAct_nn x
theorem totActS_nn (a : List TAct) : 0 ≤ totActS a := by
  have := sumF_nonneg (fun x => totAct x) a (fun x _ => totActS_el x)
  unfold totActS
  omega
noncomputable def c35 : Code := (Try.f35.body).getD .skip
theorem ent35 : Entered Try.prog 35 := ⟨_, Try.func35, rfl, rfl⟩
theorem T35 {a : List Int} {xs : List (List D)} (hx : a.map cI = xs) {left : Int} (h0 : 0 ≤ left) (h1 : left < 2 ^ 40) (hok : okIntS a) :
    CallOk Try.prog 35 [.d (.row 1 xs), .d (.sc (.int .i64 left))] [] ⟨.d (.sc (.int .i64 (szOf (totIntS a) left))), [], []⟩ := by
  refine CallOk.of_bodyD (body := c35) Try.func35 rfl (Nat.le_of_ble_eq_true (by kernel_rfl)) rfl ?_
  refine vc_ok tab_ok mixed ?_
  have hT := tab_ok
  have hm := mixed
  generalize hP : Try.prog = P at *
  generalize hA : std = A
  obtain ⟨qbin, qsh, qcmp, qscmp, qbcmp, qbnot, qneg, qwrap, qcat, qssize, qssub, qsget, qlen, qrsub, qapp, qelt, qset, qnth, qdrp, qstr, qint, qbool, qrow, qnat, qnadd, qnsub, qband, qofNat, qstrRow, qmkRow, qmx, qmn, qbytes⟩ := A
  have hE := Ar.eqs hA
  dsimp only at hE
  generalize hQ : EndD P Try.f35.results _ = Q
  have hn := rd_n hx
  have ha : a.length < 2 ^ 44 := hok
  cbv
  try simp only [nc] at *
  split
  · rename_i h2
    simp only [hE, List.length_map, std_lss, std_leq, std_gtr, std_geq, std_eql, std_neq, std_len, std_add, std_subI, std_mulI, std_ssize, std_not, std_band, std_bcmp, std_nat, std_ofNat, std_nadd, std_nsub, IntKind.wrap_i64, decide_eq_true_eq, decide_eq_false_iff_not, Bool.not_eq_true', Bool.not_eq_false', Option.getD_none, Option.getD_some, hn] at h2
    cbv
    try simp only [nc] at *
    rw [← hQ, show szOf (totIntS a) left = -1 by unfold szOf totIntS; rw [if_neg (by omega)]]
    exact endD_one rfl rfl
  · rename_i h2
    simp only [hE, List.length_map, std_lss, std_leq, std_gtr, std_geq, std_eql, std_neq, std_len, std_add, std_subI, std_mulI, std_ssize, std_not, std_band, std_bcmp, std_nat, std_ofNat, std_nadd, std_nsub, IntKind.wrap_i64, decide_eq_true_eq, decide_eq_false_iff_not, Bool.not_eq_true', Bool.not_eq_false', Option.getD_none, Option.getD_some, hn] at h2
    cbv
    try simp only [nc] at *
    rw [← hQ, show szOf (totIntS a) left = qbin .sub .i64 left (qlen xs) by unfold szOf totIntS; rw [if_pos (by omega)]; simp only [hE, List.length_map, std_lss, std_leq, std_gtr, std_geq, std_eql, std_neq, std_len, std_add, std_subI, std_mulI, std_ssize, std_not, std_band, std_bcmp, std_nat, std_ofNat, std_nadd, std_nsub, IntKind.wrap_i64, decide_eq_true_eq, decide_eq_false_iff_not, Bool.not_eq_true', Bool.not_eq_false', Option.getD_none, Option.getD_some, hn]; omega]
    exact endD_one rfl rfl
noncomputable def c15 : Code := (Try.f15.body).getD .skip
theorem ent15 : Entered Try.prog 15 := ⟨_, Try.func15, rfl, rfl⟩
theorem T15 {a : List ByteArray} {xs : List (List D)} (hx : a.map cS = xs) {left : Int} (h0 : 0 ≤ left) (h1 : left < 2 ^ 40) (hok : okStringS a) :
    CallOk Try.prog 15 [.d (.row 1 xs), .d (.sc (.int .i64 left))] [] ⟨.d (.sc (.int .i64 (szOf (totStringS a) left))), [], []⟩ := by
  obtain ⟨ha, hs⟩ := hok
  refine CallOk.of_bodyD (body := c15) Try.func15 rfl (Nat.le_of_ble_eq_true (by kernel_rfl)) rfl ?_
  refine vc_ok tab_ok mixed ?_
  have hT := tab_ok
  have hm := mixed
  generalize hP : Try.prog = P at *
  generalize hA : std = A
  obtain ⟨qbin, qsh, qcmp, qscmp, qbcmp, qbnot, qneg, qwrap, qcat, qssize, qssub, qsget, qlen, qrsub, qapp, qelt, qset, qnth, qdrp, qstr, qint, qbool, qrow, qnat, qnadd, qnsub, qband, qofNat, qstrRow, qmkRow, qmx, qmn, qbytes⟩ := A
  have hE := Ar.eqs hA
  dsimp only at hE
  generalize hQ : EndD P Try.f15.results _ = Q
  have hn := rd_n hx
  cbv
  try simp only [nc] at *
  split
  · rename_i h2
    simp only [hE, List.length_map, std_lss, std_leq, std_gtr, std_geq, std_eql, std_neq, std_len, std_add, std_subI, std_mulI, std_ssize, std_not, std_band, std_bcmp, std_nat, std_ofNat, std_nadd, std_nsub, IntKind.wrap_i64, decide_eq_true_eq, decide_eq_false_iff_not, Bool.not_eq_true', Bool.not_eq_false', Option.getD_none, Option.getD_some, hn] at h2
    cbv
    try simp only [nc] at *
    have := sumF_nonneg (fun x => (x.size : Int)) a (fun x _ => totStringS_el x)
    rw [← hQ, show szOf (totStringS a) left = -1 by unfold szOf totStringS; rw [if_neg (by omega)]]
    exact endD_one rfl rfl
  · rename_i h2
    simp only [hE, List.length_map, std_lss, std_leq, std_gtr, std_geq, std_eql, std_neq, std_len, std_add, std_subI, std_mulI, std_ssize, std_not, std_band, std_bcmp, std_nat, std_ofNat, std_nadd, std_nsub, IntKind.wrap_i64, decide_eq_true_eq, decide_eq_false_iff_not, Bool.not_eq_true', Bool.not_eq_false', Option.getD_none, Option.getD_some, hn] at h2
    cbv
    try simp only [nc] at *
    refine LpW.of (κ := Nat) (fun k => k ≤ a.length ∧ 0 ≤ left - (a.length + sumF (fun x => (x.size : Int)) (a.take k))) (fun k => a.length - k) (fun k => [(0, .d (.row 1 xs)), (1, .d (.sc (.int .i64 (left - (a.length + sumF (fun x => (x.size : Int)) (a.take k)))))), (5, .d (.sc (.int .i64 k)))]) (fun _ => []) 0 ⟨by omega, by simp [sumF]; omega⟩ ?_ (by first | rfl | trivial) ?_
    · refine .cons rfl (.cons ?_ (.cons rfl (.nil _)))
      show AV.d (D.sc (Value.int IntKind.i64 (qbin .sub .i64 left (qlen xs)))) = _
      rw [show qbin .sub .i64 left (qlen xs) = left - a.length by simp only [hE, List.length_map, std_lss, std_leq, std_gtr, std_geq, std_eql, std_neq, std_len, std_add, std_subI, std_mulI, std_ssize, std_not, std_band, std_bcmp, std_nat, std_ofNat, std_nadd, std_nsub, IntKind.wrap_i64, decide_eq_true_eq, decide_eq_false_iff_not, Bool.not_eq_true', Bool.not_eq_false', Option.getD_none, Option.getD_some, hn]; omega]
      simp [sumF]
    · rintro k ⟨hk, hl⟩
      generalize hleft : left - (a.length + sumF (fun x => (x.size : Int)) (a.take k)) = l at *
      generalize hi : (k : Int) = i
      refine vc_ok hT hm ?_
      rw [hA]
      cbv
      try simp only [nc] at *
      split
      · rename_i h3
        simp only [hE, List.length_map, std_lss, std_leq, std_gtr, std_geq, std_eql, std_neq, std_len, std_add, std_subI, std_mulI, std_ssize, std_not, std_band, std_bcmp, std_nat, std_ofNat, std_nadd, std_nsub, IntKind.wrap_i64, decide_eq_true_eq, decide_eq_false_iff_not, Bool.not_eq_true', Bool.not_eq_false', Option.getD_none, Option.getD_some, hn] at h3
        have hk' : k < a.length := by omega
        have hsz := hs a[k] (List.getElem_mem hk')
        have hp := sumF_nonneg (fun x => (x.size : Int)) (a.take k) (fun x _ => totStringS_el x)
        have hsum := sumF_succ (fun x => (x.size : Int)) a hk'
        have hle := sumF_take_le (fun x => (x.size : Int)) a (fun x _ => totStringS_el x) (k + 1)
        have hel := totStringS_el a[k]
        cbv
        try simp only [nc] at *
        repeat (refine And.intro (by first | (simp only [hE]; exact rd_inR hx hi hk') | (simp only [hE, rd_elt hx hi hk']; exact ⟨rfl⟩) | (simp only [hE, rd_elt hx hi hk']; exact ⟨Nat.le_of_ble_eq_true rfl⟩)) ?_)
        obtain ⟨s, hsk⟩ : ∃ s, s = a[k] := ⟨_, rfl⟩
        rw [show qstr (qnth (qelt xs i) 0) = s by rw [hsk]; simp only [hE, rd_elt hx hi hk']; rfl]
        rw [← hsk] at hsz hsum hel
        obtain ⟨l', hl'⟩ : ∃ l', l' = l - (s.size : Int) := ⟨_, rfl⟩
        rw [show qbin .sub .i64 l (qssize s) = l' by simp only [hE, List.length_map, std_lss, std_leq, std_gtr, std_geq, std_eql, std_neq, std_len, std_add, std_subI, std_mulI, std_ssize, std_not, std_band, std_bcmp, std_nat, std_ofNat, std_nadd, std_nsub, IntKind.wrap_i64, decide_eq_true_eq, decide_eq_false_iff_not, Bool.not_eq_true', Bool.not_eq_false', Option.getD_none, Option.getD_some, ]; omega]
        split
        · rename_i h4
          simp only [hE, List.length_map, std_lss, std_leq, std_gtr, std_geq, std_eql, std_neq, std_len, std_add, std_subI, std_mulI, std_ssize, std_not, std_band, std_bcmp, std_nat, std_ofNat, std_nadd, std_nsub, IntKind.wrap_i64, decide_eq_true_eq, decide_eq_false_iff_not, Bool.not_eq_true', Bool.not_eq_false', Option.getD_none, Option.getD_some] at h4
          cbv
          try simp only [nc] at *
          rw [← hQ, show szOf (totStringS a) left = -1 by unfold szOf totStringS; rw [if_neg (by omega)]]
          exact endD_one rfl rfl
        · rename_i h4
          simp only [hE, List.length_map, std_lss, std_leq, std_gtr, std_geq, std_eql, std_neq, std_len, std_add, std_subI, std_mulI, std_ssize, std_not, std_band, std_bcmp, std_nat, std_ofNat, std_nadd, std_nsub, IntKind.wrap_i64, decide_eq_true_eq, decide_eq_false_iff_not, Bool.not_eq_true', Bool.not_eq_false', Option.getD_none, Option.getD_some] at h4
          cbv
          try simp only [nc] at *
          refine ⟨k + 1, ⟨by omega, by omega⟩, by omega, ?_, by trivial⟩
          refine .cons rfl (.cons ?_ (.cons ?_ (.nil _)))
          · rw [show left - (a.length + sumF (fun x => (x.size : Int)) (a.take (k + 1))) = l' by omega]
            rfl
          · show AV.d (D.sc (Value.int IntKind.i64 (qbin .add .i64 i 1))) = _
            rw [show qbin .add .i64 i 1 = ((k + 1 : Nat) : Int) by simp only [hE, List.length_map, std_lss, std_leq, std_gtr, std_geq, std_eql, std_neq, std_len, std_add, std_subI, std_mulI, std_ssize, std_not, std_band, std_bcmp, std_nat, std_ofNat, std_nadd, std_nsub, IntKind.wrap_i64, decide_eq_true_eq, decide_eq_false_iff_not, Bool.not_eq_true', Bool.not_eq_false', Option.getD_none, Option.getD_some, ]; omega]
      · rename_i h3
        simp only [hE, List.length_map, std_lss, std_leq, std_gtr, std_geq, std_eql, std_neq, std_len, std_add, std_subI, std_mulI, std_ssize, std_not, std_band, std_bcmp, std_nat, std_ofNat, std_nadd, std_nsub, IntKind.wrap_i64, decide_eq_true_eq, decide_eq_false_iff_not, Bool.not_eq_true', Bool.not_eq_false', Option.getD_none, Option.getD_some, hn] at h3
        cbv
        try simp only [nc] at *
        have hk' : k = a.length := by omega
        subst hk'
        rw [List.take_length] at hleft
        rw [← hQ, show szOf (totStringS a) left = l by unfold szOf totStringS; rw [if_pos (by omega)]; omega]
        exact endD_one rfl rfl
noncomputable def c20 : Code := (Try.f20.body).getD .skip
theorem ent20 : Entered Try.prog 20 := ⟨_, Try.func20, rfl, rfl⟩
theorem T20 {a_version : Int} {a_stride : Int} {a_roll : Int} {a_base : Int} {a_link : Int} {a_offsets : List Int} {xa_offsets : List (List D)} (ha_offsets : a_offsets.map cI = xa_offsets) {a_end : Int} {a_open : Bool} {a_code : Int} {left : Int} (h0 : 0 ≤ left) (h1 : left < 2 ^ 40) (hok : okWriter ⟨a_version, a_stride, a_roll, a_base, a_link, a_offsets, a_end, a_open, a_code⟩) :
    CallOk Try.prog 20 [.agg [.d (.sc (.int .i64 a_version)), .d (.sc (.int .i64 a_stride)), .d (.sc (.int .i64 a_roll)), .d (.sc (.int .i64 a_base)), .d (.sc (.int .i64 a_link)), .d (.row 1 xa_offsets), .d (.sc (.int .i64 a_end)), .d (.sc (.bool a_open)), .d (.sc (.int .i64 a_code))], .d (.sc (.int .i64 left))] [] ⟨.d (.sc (.int .i64 (szOf (totWriter ⟨a_version, a_stride, a_roll, a_base, a_link, a_offsets, a_end, a_open, a_code⟩) left))), [], []⟩ := by
  have ent35_ := ent35
  have T35_ := @T35
  refine CallOk.of_bodyD (body := c20) Try.func20 rfl (Nat.le_of_ble_eq_true (by kernel_rfl)) rfl ?_
  refine vc_ok tab_ok mixed ?_
  have hT := tab_ok
  have hm := mixed
  generalize hP : Try.prog = P at *
  generalize hA : std = A
  obtain ⟨qbin, qsh, qcmp, qscmp, qbcmp, qbnot, qneg, qwrap, qcat, qssize, qssub, qsget, qlen, qrsub, qapp, qelt, qset, qnth, qdrp, qstr, qint, qbool, qrow, qnat, qnadd, qnsub, qband, qofNat, qstrRow, qmkRow, qmx, qmn, qbytes⟩ := A
  have hE := Ar.eqs hA
  dsimp only at hE
  generalize hQ : EndD P Try.f20.results _ = Q
  have nna_offsets := totIntS_nn a_offsets
  have hok' : okIntS a_offsets := hok
  generalize hto : totWriter ⟨a_version, a_stride, a_roll, a_base, a_link, a_offsets, a_end, a_open, a_code⟩ = to at *
  have hto' : totIntS a_offsets = to := hto
  clear hok hto
  have k0 := hok'
  cbv
  try simp only [nc] at *
  refine ClW.dd (f := 35) rfl rfl rfl rfl (.cons rfl (.cons rfl .nil)) rfl ent35_ (T35_ ha_offsets (by omega) (by omega) k0) rfl ?_
  generalize hl0 : szOf (totIntS a_offsets) left = l0
  cbv
  try simp only [nc] at *
  split
  · rename_i h2
    simp only [hE, List.length_map, std_lss, std_leq, std_gtr, std_geq, std_eql, std_neq, std_len, std_add, std_subI, std_mulI, std_ssize, std_not, std_band, std_bcmp, std_nat, std_ofNat, std_nadd, std_nsub, IntKind.wrap_i64, decide_eq_true_eq, decide_eq_false_iff_not, Bool.not_eq_true', Bool.not_eq_false', Option.getD_none, Option.getD_some] at h2
    cbv
    try simp only [nc] at *
    have hb0 : ¬ totIntS a_offsets ≤ left := by intro hle; unfold szOf at hl0; rw [if_pos hle] at hl0; omega
    rw [← hQ, show szOf to left = -1 by unfold szOf; rw [if_neg (by omega)]]
    exact endD_one rfl rfl
  rename_i h20
  simp only [hE, List.length_map, std_lss, std_leq, std_gtr, std_geq, std_eql, std_neq, std_len, std_add, std_subI, std_mulI, std_ssize, std_not, std_band, std_bcmp, std_nat, std_ofNat, std_nadd, std_nsub, IntKind.wrap_i64, decide_eq_true_eq, decide_eq_false_iff_not, Bool.not_eq_true', Bool.not_eq_false', Option.getD_none, Option.getD_some] at h20
  obtain ⟨g0, g0'⟩ := szOf_ge (t := totIntS a_offsets) (left := left) (by omega)
  cbv
  try simp only [nc] at *
  rw [← hQ, show szOf to left = l0 by unfold szOf; rw [if_pos (by omega)]; omega]
  exact endD_one rfl rfl
noncomputable def c36 : Code := (Try.f36.body).getD .skip
theorem ent36 : Entered Try.prog 36 := ⟨_, Try.func36, rfl, rfl⟩
theorem T36 {a_kind : Int} {a_text : ByteArray} {a_n : Int} {a_keeps : List Int} {xa_keeps : List (List D)} (ha_keeps : a_keeps.map cI = xa_keeps) {left : Int} (h0 : 0 ≤ left) (h1 : left < 2 ^ 40) (hok : okAct ⟨a_kind, a_text, a_n, a_keeps⟩) :
    CallOk Try.prog 36 [.agg [.d (.sc (.int .i64 a_kind)), .d (.sc (.string a_text)), .d (.sc (.int .i64 a_n)), .d (.row 1 xa_keeps)], .d (.sc (.int .i64 left))] [] ⟨.d (.sc (.int .i64 (szOf (totAct ⟨a_kind, a_text, a_n, a_keeps⟩) left))), [], []⟩ := by
  have ent35_ := ent35
  have T35_ := @T35
  refine CallOk.of_bodyD (body := c36) Try.func36 rfl (Nat.le_of_ble_eq_true (by kernel_rfl)) rfl ?_
  refine vc_ok tab_ok mixed ?_
  have hT := tab_ok
  have hm := mixed
  generalize hP : Try.prog = P at *
  generalize hA : std = A
  obtain ⟨qbin, qsh, qcmp, qscmp, qbcmp, qbnot, qneg, qwrap, qcat, qssize, qssub, qsget, qlen, qrsub, qapp, qelt, qset, qnth, qdrp, qstr, qint, qbool, qrow, qnat, qnadd, qnsub, qband, qofNat, qstrRow, qmkRow, qmx, qmn, qbytes⟩ := A
  have hE := Ar.eqs hA
  dsimp only at hE
  generalize hQ : EndD P Try.f36.results _ = Q
  have nna_keeps := totIntS_nn a_keeps
  have hok' : a_text.size < 2 ^ 47 ∧ okIntS a_keeps := hok
  generalize hto : totAct ⟨a_kind, a_text, a_n, a_keeps⟩ = to at *
  have hto' : (a_text.size : Int) + totIntS a_keeps = to := hto
  clear hok hto
  obtain ⟨k0, k1⟩ := hok'
  cbv
  try simp only [nc] at *
  obtain ⟨l0, hl0⟩ : ∃ l, l = left - (a_text.size : Int) := ⟨_, rfl⟩
  rw [show qbin .sub .i64 left (qssize a_text) = l0 by simp only [hE, List.length_map, std_lss, std_leq, std_gtr, std_geq, std_eql, std_neq, std_len, std_add, std_subI, std_mulI, std_ssize, std_not, std_band, std_bcmp, std_nat, std_ofNat, std_nadd, std_nsub, IntKind.wrap_i64, decide_eq_true_eq, decide_eq_false_iff_not, Bool.not_eq_true', Bool.not_eq_false', Option.getD_none, Option.getD_some, ]; omega]
  split
  · rename_i h2
    simp only [hE, List.length_map, std_lss, std_leq, std_gtr, std_geq, std_eql, std_neq, std_len, std_add, std_subI, std_mulI, std_ssize, std_not, std_band, std_bcmp, std_nat, std_ofNat, std_nadd, std_nsub, IntKind.wrap_i64, decide_eq_true_eq, decide_eq_false_iff_not, Bool.not_eq_true', Bool.not_eq_false', Option.getD_none, Option.getD_some] at h2
    cbv
    try simp only [nc] at *
    rw [← hQ, show szOf to left = -1 by unfold szOf; rw [if_neg (by omega)]]
    exact endD_one rfl rfl
  rename_i h20
  simp only [hE, List.length_map, std_lss, std_leq, std_gtr, std_geq, std_eql, std_neq, std_len, std_add, std_subI, std_mulI, std_ssize, std_not, std_band, std_bcmp, std_nat, std_ofNat, std_nadd, std_nsub, IntKind.wrap_i64, decide_eq_true_eq, decide_eq_false_iff_not, Bool.not_eq_true', Bool.not_eq_false', Option.getD_none, Option.getD_some] at h20
  cbv
  try simp only [nc] at *
  refine ClW.dd (f := 35) rfl rfl rfl rfl (.cons rfl (.cons rfl .nil)) rfl ent35_ (T35_ ha_keeps (by omega) (by omega) k1) rfl ?_
  generalize hl1 : szOf (totIntS a_keeps) l0 = l1
  cbv
  try simp only [nc] at *
  split
  · rename_i h2
    simp only [hE, List.length_map, std_lss, std_leq, std_gtr, std_geq, std_eql, std_neq, std_len, std_add, std_subI, std_mulI, std_ssize, std_not, std_band, std_bcmp, std_nat, std_ofNat, std_nadd, std_nsub, IntKind.wrap_i64, decide_eq_true_eq, decide_eq_false_iff_not, Bool.not_eq_true', Bool.not_eq_false', Option.getD_none, Option.getD_some] at h2
    cbv
    try simp only [nc] at *
    have hb1 : ¬ totIntS a_keeps ≤ l0 := by intro hle; unfold szOf at hl1; rw [if_pos hle] at hl1; omega
    rw [← hQ, show szOf to left = -1 by unfold szOf; rw [if_neg (by omega)]]
    exact endD_one rfl rfl
  rename_i h21
  simp only [hE, List.length_map, std_lss, std_leq, std_gtr, std_geq, std_eql, std_neq, std_len, std_add, std_subI, std_mulI, std_ssize, std_not, std_band, std_bcmp, std_nat, std_ofNat, std_nadd, std_nsub, IntKind.wrap_i64, decide_eq_true_eq, decide_eq_false_iff_not, Bool.not_eq_true', Bool.not_eq_false', Option.getD_none, Option.getD_some] at h21
  obtain ⟨g1, g1'⟩ := szOf_ge (t := totIntS a_keeps) (left := l0) (by omega)
  cbv
  try simp only [nc] at *
  rw [← hQ, show szOf to left = l1 by unfold szOf; rw [if_pos (by omega)]; omega]
  exact endD_one rfl rfl
noncomputable def c25 : Code := (Try.f25.body).getD .skip
theorem ent25 : Entered Try.prog 25 := ⟨_, Try.func25, rfl, rfl⟩
theorem T25 {a : List TAct} {xs : List (List D)} (hx : a.map eAct = xs) {left : Int} (h0 : 0 ≤ left) (h1 : left < 2 ^ 40) (hok : okActS a) :
    CallOk Try.prog 25 [.d (.row 4 xs), .d (.sc (.int .i64 left))] [] ⟨.d (.sc (.int .i64 (szOf (totActS a) left))), [], []⟩ := by
  have ent36_ := ent36
  have T36_ := @T36
  obtain ⟨ha, hs⟩ := hok
  refine CallOk.of_bodyD (body := c25) Try.func25 rfl (Nat.le_of_ble_eq_true (by kernel_rfl)) rfl ?_
  refine vc_ok tab_ok mixed ?_
  have hT := tab_ok
  have hm := mixed
  generalize hP : Try.prog = P at *
  generalize hA : std = A
  obtain ⟨qbin, qsh, qcmp, qscmp, qbcmp, qbnot, qneg, qwrap, qcat, qssize, qssub, qsget, qlen, qrsub, qapp, qelt, qset, qnth, qdrp, qstr, qint, qbool, qrow, qnat, qnadd, qnsub, qband, qofNat, qstrRow, qmkRow, qmx, qmn, qbytes⟩ := A
  have hE := Ar.eqs hA
  dsimp only at hE
  generalize hQ : EndD P Try.f25.results _ = Q
  have hn := rd_n hx
  cbv
  try simp only [nc] at *
  split
  · rename_i h2
    simp only [hE, List.length_map, std_lss, std_leq, std_gtr, std_geq, std_eql, std_neq, std_len, std_add, std_subI, std_mulI, std_ssize, std_not, std_band, std_bcmp, std_nat, std_ofNat, std_nadd, std_nsub, IntKind.wrap_i64, decide_eq_true_eq, decide_eq_false_iff_not, Bool.not_eq_true', Bool.not_eq_false', Option.getD_none, Option.getD_some, hn] at h2
    cbv
    try simp only [nc] at *
    have := sumF_nonneg (fun x => totAct x) a (fun x _ => totActS_el x)
    rw [← hQ, show szOf (totActS a) left = -1 by unfold szOf totActS; rw [if_neg (by omega)]]
    exact endD_one rfl rfl
  · rename_i h2
    simp only [hE, List.length_map, std_lss, std_leq, std_gtr, std_geq, std_eql, std_neq, std_len, std_add, std_subI, std_mulI, std_ssize, std_not, std_band, std_bcmp, std_nat, std_ofNat, std_nadd, std_nsub, IntKind.wrap_i64, decide_eq_true_eq, decide_eq_false_iff_not, Bool.not_eq_true', Bool.not_eq_false', Option.getD_none, Option.getD_some, hn] at h2
    cbv
    try simp only [nc] at *
    refine LpW.of (κ := Nat) (fun k => k ≤ a.length ∧ 0 ≤ left - (a.length + sumF (fun x => totAct x) (a.take k))) (fun k => a.length - k) (fun k => [(0, .d (.row 4 xs)), (1, .d (.sc (.int .i64 (left - (a.length + sumF (fun x => totAct x) (a.take k)))))), (5, .d (.sc (.int .i64 k)))]) (fun _ => []) 0 ⟨by omega, by simp [sumF]; omega⟩ ?_ (by first | rfl | trivial) ?_
    · refine .cons rfl (.cons ?_ (.cons rfl (.nil _)))
      show AV.d (D.sc (Value.int IntKind.i64 (qbin .sub .i64 left (qlen xs)))) = _
      rw [show qbin .sub .i64 left (qlen xs) = left - a.length by simp only [hE, List.length_map, std_lss, std_leq, std_gtr, std_geq, std_eql, std_neq, std_len, std_add, std_subI, std_mulI, std_ssize, std_not, std_band, std_bcmp, std_nat, std_ofNat, std_nadd, std_nsub, IntKind.wrap_i64, decide_eq_true_eq, decide_eq_false_iff_not, Bool.not_eq_true', Bool.not_eq_false', Option.getD_none, Option.getD_some, hn]; omega]
      simp [sumF]
    · rintro k ⟨hk, hl⟩
      generalize hleft : left - (a.length + sumF (fun x => totAct x) (a.take k)) = l at *
      generalize hi : (k : Int) = i
      refine vc_ok hT hm ?_
      rw [hA]
      cbv
      try simp only [nc] at *
      split
      · rename_i h3
        simp only [hE, List.length_map, std_lss, std_leq, std_gtr, std_geq, std_eql, std_neq, std_len, std_add, std_subI, std_mulI, std_ssize, std_not, std_band, std_bcmp, std_nat, std_ofNat, std_nadd, std_nsub, IntKind.wrap_i64, decide_eq_true_eq, decide_eq_false_iff_not, Bool.not_eq_true', Bool.not_eq_false', Option.getD_none, Option.getD_some, hn] at h3
        have hk' : k < a.length := by omega
        have hsz := hs a[k] (List.getElem_mem hk')
        have hp := sumF_nonneg (fun x => totAct x) (a.take k) (fun x _ => totActS_el x)
        have hsum := sumF_succ (fun x => totAct x) a hk'
        have hle := sumF_take_le (fun x => totAct x) a (fun x _ => totActS_el x) (k + 1)
        have hel := totActS_el a[k]
        cbv
        try simp only [nc] at *
        repeat (refine And.intro (by first | (simp only [hE]; exact rd_inR hx hi hk') | (simp only [hE, rd_elt hx hi hk']; exact ⟨rfl⟩) | (simp only [hE, rd_elt hx hi hk']; exact ⟨Nat.le_of_ble_eq_true rfl⟩)) ?_)
        obtain ⟨wv, hwv⟩ : ∃ w, w = a[k] := ⟨_, rfl⟩
        have hev : qelt xs i = eAct wv := by simp only [hE]; rw [rd_elt hx hi hk', hwv]
        rw [← hwv] at hsz hsum hel
        obtain ⟨v_kind, v_text, v_n, v_keeps⟩ := wv
        rw [show qint (qnth (qelt xs i) 0) = v_kind by rw [hev]; simp only [hE]; rfl, show qstr (qnth (qelt xs i) 1) = v_text by rw [hev]; simp only [hE]; rfl, show qint (qnth (qelt xs i) 2) = v_n by rw [hev]; simp only [hE]; rfl, show qrow (qnth (qelt xs i) 3) = v_keeps.map cI by rw [hev]; simp only [hE]; rfl]
        generalize hv_keeps : v_keeps.map cI = xv_keeps at *
        refine ClW.dd (f := 36) rfl rfl rfl rfl (.cons rfl (.cons rfl .nil)) rfl ent36_ (T36_ hv_keeps (by omega) (by omega) hsz) rfl ?_
        generalize hl' : szOf (totAct (⟨v_kind, v_text, v_n, v_keeps⟩ : TAct)) l = l'
        cbv
        try simp only [nc] at *
        split
        · rename_i h4
          simp only [hE, List.length_map, std_lss, std_leq, std_gtr, std_geq, std_eql, std_neq, std_len, std_add, std_subI, std_mulI, std_ssize, std_not, std_band, std_bcmp, std_nat, std_ofNat, std_nadd, std_nsub, IntKind.wrap_i64, decide_eq_true_eq, decide_eq_false_iff_not, Bool.not_eq_true', Bool.not_eq_false', Option.getD_none, Option.getD_some] at h4
          cbv
          try simp only [nc] at *
          have hb : ¬ totAct (⟨v_kind, v_text, v_n, v_keeps⟩ : TAct) ≤ l := by intro hle'; unfold szOf at hl'; rw [if_pos hle'] at hl'; omega
          rw [← hQ, show szOf (totActS a) left = -1 by unfold szOf totActS; rw [if_neg (by omega)]]
          exact endD_one rfl rfl
        · rename_i h4
          simp only [hE, List.length_map, std_lss, std_leq, std_gtr, std_geq, std_eql, std_neq, std_len, std_add, std_subI, std_mulI, std_ssize, std_not, std_band, std_bcmp, std_nat, std_ofNat, std_nadd, std_nsub, IntKind.wrap_i64, decide_eq_true_eq, decide_eq_false_iff_not, Bool.not_eq_true', Bool.not_eq_false', Option.getD_none, Option.getD_some] at h4
          obtain ⟨g, g'⟩ := szOf_ge (t := totAct (⟨v_kind, v_text, v_n, v_keeps⟩ : TAct)) (left := l) (by omega)
          cbv
          try simp only [nc] at *
          refine ⟨k + 1, ⟨by omega, by omega⟩, by omega, ?_, by trivial⟩
          refine .cons rfl (.cons ?_ (.cons ?_ (.nil _)))
          · rw [show left - (a.length + sumF (fun x => totAct x) (a.take (k + 1))) = l' by omega]
            rfl
          · show AV.d (D.sc (Value.int IntKind.i64 (qbin .add .i64 i 1))) = _
            rw [show qbin .add .i64 i 1 = ((k + 1 : Nat) : Int) by simp only [hE, List.length_map, std_lss, std_leq, std_gtr, std_geq, std_eql, std_neq, std_len, std_add, std_subI, std_mulI, std_ssize, std_not, std_band, std_bcmp, std_nat, std_ofNat, std_nadd, std_nsub, IntKind.wrap_i64, decide_eq_true_eq, decide_eq_false_iff_not, Bool.not_eq_true', Bool.not_eq_false', Option.getD_none, Option.getD_some, ]; omega]
      · rename_i h3
        simp only [hE, List.length_map, std_lss, std_leq, std_gtr, std_geq, std_eql, std_neq, std_len, std_add, std_subI, std_mulI, std_ssize, std_not, std_band, std_bcmp, std_nat, std_ofNat, std_nadd, std_nsub, IntKind.wrap_i64, decide_eq_true_eq, decide_eq_false_iff_not, Bool.not_eq_true', Bool.not_eq_false', Option.getD_none, Option.getD_some, hn] at h3
        cbv
        try simp only [nc] at *
        have hk' : k = a.length := by omega
        subst hk'
        rw [List.take_length] at hleft
        rw [← hQ, show szOf (totActS a) left = l by unfold szOf totActS; rw [if_pos (by omega)]; omega]
        exact endD_one rfl rfl
noncomputable def c12 : Code := (Try.f12.body).getD .skip
theorem ent12 : Entered Try.prog 12 := ⟨_, Try.func12, rfl, rfl⟩
theorem T12 {a : List Int} {xs : List (List D)} (hx : a.map cI = xs) (hb : totIntS a ≤ 1048576) : CallOk Try.prog 12 [.d (.row 1 xs)] [] ⟨.d (.row 1 xs), [], []⟩ := by
  have hb1 : (a.length : Int) ≤ 1048576 := hb
  refine CallOk.of_bodyD (body := c12) Try.func12 rfl (Nat.le_of_ble_eq_true (by kernel_rfl)) rfl ?_
  refine vc_ok tab_ok mixed ?_
  have hT := tab_ok
  have hm := mixed
  generalize hP : Try.prog = P at *
  generalize hA : std = A
  obtain ⟨qbin, qsh, qcmp, qscmp, qbcmp, qbnot, qneg, qwrap, qcat, qssize, qssub, qsget, qlen, qrsub, qapp, qelt, qset, qnth, qdrp, qstr, qint, qbool, qrow, qnat, qnadd, qnsub, qband, qofNat, qstrRow, qmkRow, qmx, qmn, qbytes⟩ := A
  have hE := Ar.eqs hA
  dsimp only at hE
  generalize hQ : EndD P Try.f12.results _ = Q
  have hn := rd_n hx
  cbv
  try simp only [nc] at *
  refine ⟨?_, ?_⟩
  · simp only [hE, List.length_map, std_lss, std_leq, std_gtr, std_geq, std_eql, std_neq, std_len, std_add, std_subI, std_mulI, std_ssize, std_not, std_band, std_bcmp, std_nat, std_ofNat, std_nadd, std_nsub, IntKind.wrap_i64, decide_eq_true_eq, decide_eq_false_iff_not, Bool.not_eq_true', Bool.not_eq_false', Option.getD_none, Option.getD_some, hn]; exact ⟨by omega, by omega, by omega, by omega⟩
  refine LpW.of (κ := Nat) (fun k => k ≤ a.length) (fun k => a.length - k) (fun k => [(0, .d (.row 1 xs)), (3, .ref 1 0 a.length), (4, .d (.sc (.int .i64 k)))]) (fun k => [.row 1 false [], .row 1 false (cpRow cI a [.sc (.int .i64 0)] k)]) 0 (by simp) ?_ ?_ ?_
  · refine .cons rfl (.cons ?_ (.cons rfl (.nil _)))
    show AV.ref 1 0 (qnat (qlen xs)) = _
    simp only [hE, std_len, std_nat, hn, Int.toNat_natCast]
  · show [Root.row 1 false [], Root.row 1 false (qmkRow (qlen xs) [.sc (.int .i64 0)])] = _
    simp only [hE, std_len, hn, cp_zero]
    rfl
  · intro k hk
    generalize hz : cpRow cI a [.sc (.int .i64 0)] k = zs
    generalize hi : (k : Int) = i
    generalize hm' : a.length = m
    refine vc_ok hT hm ?_
    rw [hA]
    cbv
    try simp only [nc] at *
    split
    · rename_i h2
      simp only [hE, List.length_map, std_lss, std_leq, std_gtr, std_geq, std_eql, std_neq, std_len, std_add, std_subI, std_mulI, std_ssize, std_not, std_band, std_bcmp, std_nat, std_ofNat, std_nadd, std_nsub, IntKind.wrap_i64, decide_eq_true_eq, decide_eq_false_iff_not, Bool.not_eq_true', Bool.not_eq_false', Option.getD_none, Option.getD_some, hn] at h2
      have hk' : k < a.length := by omega
      cbv
      try simp only [nc] at *
      repeat (refine And.intro (by first | (simp only [hE]; exact rd_inR hx hi hk') | (simp only [hE, rd_elt hx hi hk']; exact ⟨rfl⟩) | (simp only [hE, rd_elt hx hi hk']; exact ⟨Nat.le_of_ble_eq_true rfl⟩)) ?_)
      refine ⟨?_, ?_, ?_, k + 1, by omega, by omega, ?_, ?_⟩
      · simp only [hE, List.length_map, std_lss, std_leq, std_gtr, std_geq, std_eql, std_neq, std_len, std_add, std_subI, std_mulI, std_ssize, std_not, std_band, std_bcmp, std_nat, std_ofNat, std_nadd, std_nsub, IntKind.wrap_i64, decide_eq_true_eq, decide_eq_false_iff_not, Bool.not_eq_true', Bool.not_eq_false', Option.getD_none, Option.getD_some, ]; exact ⟨by omega, by omega⟩
      · simp only [hE]; exact cp_inR hk' hz hi
      · simp only [hE]; exact cp_lenGe hk' hz hi (Nat.le_refl _)
      · refine .cons rfl (.cons rfl (.cons ?_ (.nil _)))
        show AV.d (D.sc (Value.int IntKind.i64 (qbin .add .i64 i 1))) = _
        simp only [hE, i_next hi (by omega)]
      · have e : [D.sc (Value.int IntKind.i64 (qint (qnth (qelt xs i) 0)))] = cI a[k] := by simp only [hE, rd_elt hx hi hk']; rfl
        rw [e]
        simp only [hE]
        rw [cp_set hk' hz hi rfl]
    · rename_i h2
      simp only [hE, List.length_map, std_lss, std_leq, std_gtr, std_geq, std_eql, std_neq, std_len, std_add, std_subI, std_mulI, std_ssize, std_not, std_band, std_bcmp, std_nat, std_ofNat, std_nadd, std_nsub, IntKind.wrap_i64, decide_eq_true_eq, decide_eq_false_iff_not, Bool.not_eq_true', Bool.not_eq_false', Option.getD_none, Option.getD_some, hn] at h2
      cbv
      try simp only [nc] at *
      have hk' : k = a.length := by omega
      subst hk'
      rw [← hQ]
      rw [cp_end] at hz
      have hxz : zs = xs := by rw [← hz, hx]
      subst hxz
      exact endD_ref rfl rfl (by omega)
noncomputable def c17 : Code := (Try.f17.body).getD .skip
theorem ent17 : Entered Try.prog 17 := ⟨_, Try.func17, rfl, rfl⟩
theorem T17 {a : List ByteArray} {xs : List (List D)} (hx : a.map cS = xs) (hb : totStringS a ≤ 1048576) : CallOk Try.prog 17 [.d (.row 1 xs)] [] ⟨.d (.row 1 xs), [], []⟩ := by
  have hb1 : (a.length : Int) + sumF (fun x => (x.size : Int)) a ≤ 1048576 := hb
  have hsn := sumF_nonneg (fun x => (x.size : Int)) a (fun x _ => totStringS_el x)
  refine CallOk.of_bodyD (body := c17) Try.func17 rfl (Nat.le_of_ble_eq_true (by kernel_rfl)) rfl ?_
  refine vc_ok tab_ok mixed ?_
  have hT := tab_ok
  have hm := mixed
  generalize hP : Try.prog = P at *
  generalize hA : std = A
  obtain ⟨qbin, qsh, qcmp, qscmp, qbcmp, qbnot, qneg, qwrap, qcat, qssize, qssub, qsget, qlen, qrsub, qapp, qelt, qset, qnth, qdrp, qstr, qint, qbool, qrow, qnat, qnadd, qnsub, qband, qofNat, qstrRow, qmkRow, qmx, qmn, qbytes⟩ := A
  have hE := Ar.eqs hA
  dsimp only at hE
  generalize hQ : EndD P Try.f17.results _ = Q
  have hn := rd_n hx
  cbv
  try simp only [nc] at *
  refine ⟨?_, ?_⟩
  · simp only [hE, List.length_map, std_lss, std_leq, std_gtr, std_geq, std_eql, std_neq, std_len, std_add, std_subI, std_mulI, std_ssize, std_not, std_band, std_bcmp, std_nat, std_ofNat, std_nadd, std_nsub, IntKind.wrap_i64, decide_eq_true_eq, decide_eq_false_iff_not, Bool.not_eq_true', Bool.not_eq_false', Option.getD_none, Option.getD_some, hn]; exact ⟨by omega, by omega, by omega, by omega⟩
  refine LpW.of (κ := Nat) (fun k => k ≤ a.length) (fun k => a.length - k) (fun k => [(0, .d (.row 1 xs)), (3, .ref 1 0 a.length), (4, .d (.sc (.int .i64 k)))]) (fun k => [.row 1 false [], .row 1 false (cpRow cS a [.sc (.string default)] k)]) 0 (by simp) ?_ ?_ ?_
  · refine .cons rfl (.cons ?_ (.cons rfl (.nil _)))
    show AV.ref 1 0 (qnat (qlen xs)) = _
    simp only [hE, std_len, std_nat, hn, Int.toNat_natCast]
  · show [Root.row 1 false [], Root.row 1 false (qmkRow (qlen xs) [.sc (.string default)])] = _
    simp only [hE, std_len, hn, cp_zero]
    rfl
  · intro k hk
    generalize hz : cpRow cS a [.sc (.string default)] k = zs
    generalize hi : (k : Int) = i
    generalize hm' : a.length = m
    refine vc_ok hT hm ?_
    rw [hA]
    cbv
    try simp only [nc] at *
    split
    · rename_i h2
      simp only [hE, List.length_map, std_lss, std_leq, std_gtr, std_geq, std_eql, std_neq, std_len, std_add, std_subI, std_mulI, std_ssize, std_not, std_band, std_bcmp, std_nat, std_ofNat, std_nadd, std_nsub, IntKind.wrap_i64, decide_eq_true_eq, decide_eq_false_iff_not, Bool.not_eq_true', Bool.not_eq_false', Option.getD_none, Option.getD_some, hn] at h2
      have hk' : k < a.length := by omega
      cbv
      try simp only [nc] at *
      repeat (refine And.intro (by first | (simp only [hE]; exact rd_inR hx hi hk') | (simp only [hE, rd_elt hx hi hk']; exact ⟨rfl⟩) | (simp only [hE, rd_elt hx hi hk']; exact ⟨Nat.le_of_ble_eq_true rfl⟩)) ?_)
      refine ⟨?_, ?_, ?_, k + 1, by omega, by omega, ?_, ?_⟩
      · simp only [hE, List.length_map, std_lss, std_leq, std_gtr, std_geq, std_eql, std_neq, std_len, std_add, std_subI, std_mulI, std_ssize, std_not, std_band, std_bcmp, std_nat, std_ofNat, std_nadd, std_nsub, IntKind.wrap_i64, decide_eq_true_eq, decide_eq_false_iff_not, Bool.not_eq_true', Bool.not_eq_false', Option.getD_none, Option.getD_some, ]; exact ⟨by omega, by omega⟩
      · simp only [hE]; exact cp_inR hk' hz hi
      · simp only [hE]; exact cp_lenGe hk' hz hi (Nat.le_refl _)
      · refine .cons rfl (.cons rfl (.cons ?_ (.nil _)))
        show AV.d (D.sc (Value.int IntKind.i64 (qbin .add .i64 i 1))) = _
        simp only [hE, i_next hi (by omega)]
      · have e : [D.sc (Value.string (qstr (qnth (qelt xs i) 0)))] = cS a[k] := by simp only [hE, rd_elt hx hi hk']; rfl
        rw [e]
        simp only [hE]
        rw [cp_set hk' hz hi rfl]
    · rename_i h2
      simp only [hE, List.length_map, std_lss, std_leq, std_gtr, std_geq, std_eql, std_neq, std_len, std_add, std_subI, std_mulI, std_ssize, std_not, std_band, std_bcmp, std_nat, std_ofNat, std_nadd, std_nsub, IntKind.wrap_i64, decide_eq_true_eq, decide_eq_false_iff_not, Bool.not_eq_true', Bool.not_eq_false', Option.getD_none, Option.getD_some, hn] at h2
      cbv
      try simp only [nc] at *
      have hk' : k = a.length := by omega
      subst hk'
      rw [← hQ]
      rw [cp_end] at hz
      have hxz : zs = xs := by rw [← hz, hx]
      subst hxz
      exact endD_ref rfl rfl (by omega)
noncomputable def c22 : Code := (Try.f22.body).getD .skip
theorem ent22 : Entered Try.prog 22 := ⟨_, Try.func22, rfl, rfl⟩
theorem T22 {a_version : Int} {a_stride : Int} {a_roll : Int} {a_base : Int} {a_link : Int} {a_offsets : List Int} {xa_offsets : List (List D)} (ha_offsets : a_offsets.map cI = xa_offsets) {a_end : Int} {a_open : Bool} {a_code : Int} (hb : totWriter ⟨a_version, a_stride, a_roll, a_base, a_link, a_offsets, a_end, a_open, a_code⟩ ≤ 1048576) : CallOk Try.prog 22 [.agg [.d (.sc (.int .i64 a_version)), .d (.sc (.int .i64 a_stride)), .d (.sc (.int .i64 a_roll)), .d (.sc (.int .i64 a_base)), .d (.sc (.int .i64 a_link)), .d (.row 1 xa_offsets), .d (.sc (.int .i64 a_end)), .d (.sc (.bool a_open)), .d (.sc (.int .i64 a_code))]] [] ⟨.agg [.d (.sc (.int .i64 a_version)), .d (.sc (.int .i64 a_stride)), .d (.sc (.int .i64 a_roll)), .d (.sc (.int .i64 a_base)), .d (.sc (.int .i64 a_link)), .d (.row 1 xa_offsets), .d (.sc (.int .i64 a_end)), .d (.sc (.bool a_open)), .d (.sc (.int .i64 a_code))], [], []⟩ := by
  have ent12_ := ent12
  have T12_ := @T12
  have nna_offsets := totIntS_nn a_offsets
  have hb' : totIntS a_offsets ≤ 1048576 := hb
  refine CallOk.of_bodyD (body := c22) Try.func22 rfl (Nat.le_of_ble_eq_true (by kernel_rfl)) rfl ?_
  refine vc_ok tab_ok mixed ?_
  have hT := tab_ok
  have hm := mixed
  generalize hP : Try.prog = P at *
  generalize hA : std = A
  obtain ⟨qbin, qsh, qcmp, qscmp, qbcmp, qbnot, qneg, qwrap, qcat, qssize, qssub, qsget, qlen, qrsub, qapp, qelt, qset, qnth, qdrp, qstr, qint, qbool, qrow, qnat, qnadd, qnsub, qband, qofNat, qstrRow, qmkRow, qmx, qmn, qbytes⟩ := A
  have hE := Ar.eqs hA
  dsimp only at hE
  generalize hQ : EndD P Try.f22.results _ = Q
  cbv
  try simp only [nc] at *
  refine ClW.dd (f := 12) rfl rfl rfl rfl (.cons rfl .nil) rfl ent12_ (T12_ ha_offsets (by omega)) rfl ?_
  cbv
  try simp only [nc] at *
  rw [← hQ]
  exact endD_cell hT (by rfl) (by rfl) (by rfl) (by rfl) rfl
noncomputable def c37 : Code := (Try.f37.body).getD .skip
theorem ent37 : Entered Try.prog 37 := ⟨_, Try.func37, rfl, rfl⟩
theorem T37 {a_kind : Int} {a_text : ByteArray} {a_n : Int} {a_keeps : List Int} {xa_keeps : List (List D)} (ha_keeps : a_keeps.map cI = xa_keeps) (hb : totAct ⟨a_kind, a_text, a_n, a_keeps⟩ ≤ 1048576) : CallOk Try.prog 37 [.agg [.d (.sc (.int .i64 a_kind)), .d (.sc (.string a_text)), .d (.sc (.int .i64 a_n)), .d (.row 1 xa_keeps)]] [] ⟨.agg [.d (.sc (.int .i64 a_kind)), .d (.sc (.string a_text)), .d (.sc (.int .i64 a_n)), .d (.row 1 xa_keeps)], [], []⟩ := by
  have ent12_ := ent12
  have T12_ := @T12
  have nna_keeps := totIntS_nn a_keeps
  have hb' : (a_text.size : Int) + totIntS a_keeps ≤ 1048576 := hb
  refine CallOk.of_bodyD (body := c37) Try.func37 rfl (Nat.le_of_ble_eq_true (by kernel_rfl)) rfl ?_
  refine vc_ok tab_ok mixed ?_
  have hT := tab_ok
  have hm := mixed
  generalize hP : Try.prog = P at *
  generalize hA : std = A
  obtain ⟨qbin, qsh, qcmp, qscmp, qbcmp, qbnot, qneg, qwrap, qcat, qssize, qssub, qsget, qlen, qrsub, qapp, qelt, qset, qnth, qdrp, qstr, qint, qbool, qrow, qnat, qnadd, qnsub, qband, qofNat, qstrRow, qmkRow, qmx, qmn, qbytes⟩ := A
  have hE := Ar.eqs hA
  dsimp only at hE
  generalize hQ : EndD P Try.f37.results _ = Q
  cbv
  try simp only [nc] at *
  refine ClW.dd (f := 12) rfl rfl rfl rfl (.cons rfl .nil) rfl ent12_ (T12_ ha_keeps (by omega)) rfl ?_
  cbv
  try simp only [nc] at *
  rw [← hQ]
  exact endD_cell hT (by rfl) (by rfl) (by rfl) (by rfl) rfl
noncomputable def c27 : Code := (Try.f27.body).getD .skip
theorem ent27 : Entered Try.prog 27 := ⟨_, Try.func27, rfl, rfl⟩
theorem T27 {a : List TAct} {xs : List (List D)} (hx : a.map eAct = xs) (hb : totActS a ≤ 1048576) : CallOk Try.prog 27 [.d (.row 4 xs)] [] ⟨.d (.row 4 xs), [], []⟩ := by
  have ent37_ := ent37
  have T37_ := @T37
  have hb1 : (a.length : Int) + sumF (fun x => totAct x) a ≤ 1048576 := hb
  have hsn := sumF_nonneg (fun x => totAct x) a (fun x _ => totActS_el x)
  refine CallOk.of_bodyD (body := c27) Try.func27 rfl (Nat.le_of_ble_eq_true (by kernel_rfl)) rfl ?_
  refine vc_ok tab_ok mixed ?_
  have hT := tab_ok
  have hm := mixed
  generalize hP : Try.prog = P at *
  generalize hA : std = A
  obtain ⟨qbin, qsh, qcmp, qscmp, qbcmp, qbnot, qneg, qwrap, qcat, qssize, qssub, qsget, qlen, qrsub, qapp, qelt, qset, qnth, qdrp, qstr, qint, qbool, qrow, qnat, qnadd, qnsub, qband, qofNat, qstrRow, qmkRow, qmx, qmn, qbytes⟩ := A
  have hE := Ar.eqs hA
  dsimp only at hE
  generalize hQ : EndD P Try.f27.results _ = Q
  have hn := rd_n hx
  cbv
  try simp only [nc] at *
  refine ⟨?_, ?_⟩
  · simp only [hE, List.length_map, std_lss, std_leq, std_gtr, std_geq, std_eql, std_neq, std_len, std_add, std_subI, std_mulI, std_ssize, std_not, std_band, std_bcmp, std_nat, std_ofNat, std_nadd, std_nsub, IntKind.wrap_i64, decide_eq_true_eq, decide_eq_false_iff_not, Bool.not_eq_true', Bool.not_eq_false', Option.getD_none, Option.getD_some, hn]; exact ⟨by omega, by omega, by omega, by omega⟩
  refine LpW.of (κ := Nat) (fun k => k ≤ a.length) (fun k => a.length - k) (fun k => [(0, .d (.row 4 xs)), (3, .ref 1 0 a.length), (4, .d (.sc (.int .i64 k)))]) (fun k => [.row 4 false [], .row 4 false (cpRow eAct a [.sc (.int .i64 0), .sc (.string default), .sc (.int .i64 0), .row 1 []] k)]) 0 (by simp) ?_ ?_ ?_
  · refine .cons rfl (.cons ?_ (.cons rfl (.nil _)))
    show AV.ref 1 0 (qnat (qlen xs)) = _
    simp only [hE, std_len, std_nat, hn, Int.toNat_natCast]
  · show [Root.row 4 false [], Root.row 4 false (qmkRow (qlen xs) [.sc (.int .i64 0), .sc (.string default), .sc (.int .i64 0), .row 1 []])] = _
    simp only [hE, std_len, hn, cp_zero]
    rfl
  · intro k hk
    generalize hz : cpRow eAct a [.sc (.int .i64 0), .sc (.string default), .sc (.int .i64 0), .row 1 []] k = zs
    generalize hi : (k : Int) = i
    generalize hm' : a.length = m
    refine vc_ok hT hm ?_
    rw [hA]
    cbv
    try simp only [nc] at *
    split
    · rename_i h2
      simp only [hE, List.length_map, std_lss, std_leq, std_gtr, std_geq, std_eql, std_neq, std_len, std_add, std_subI, std_mulI, std_ssize, std_not, std_band, std_bcmp, std_nat, std_ofNat, std_nadd, std_nsub, IntKind.wrap_i64, decide_eq_true_eq, decide_eq_false_iff_not, Bool.not_eq_true', Bool.not_eq_false', Option.getD_none, Option.getD_some, hn] at h2
      have hk' : k < a.length := by omega
      cbv
      try simp only [nc] at *
      repeat (refine And.intro (by first | (simp only [hE]; exact rd_inR hx hi hk') | (simp only [hE, rd_elt hx hi hk']; exact ⟨rfl⟩) | (simp only [hE, rd_elt hx hi hk']; exact ⟨Nat.le_of_ble_eq_true rfl⟩)) ?_)
      have hset := cp_set hk' hz hi (by rfl)
      have hmem := sumF_mem_le (fun x => totAct x) (fun x => totActS_el x) (List.getElem_mem hk')
      obtain ⟨wv, hwv⟩ : ∃ w, w = a[k] := ⟨_, rfl⟩
      have hev : qelt xs i = eAct wv := by simp only [hE]; rw [rd_elt hx hi hk', hwv]
      rw [← hwv] at hset hmem
      obtain ⟨v_kind, v_text, v_n, v_keeps⟩ := wv
      rw [show qint (qnth (qelt xs i) 0) = v_kind by rw [hev]; simp only [hE]; rfl, show qstr (qnth (qelt xs i) 1) = v_text by rw [hev]; simp only [hE]; rfl, show qint (qnth (qelt xs i) 2) = v_n by rw [hev]; simp only [hE]; rfl, show qrow (qnth (qelt xs i) 3) = v_keeps.map cI by rw [hev]; simp only [hE]; rfl]
      generalize hv_keeps : v_keeps.map cI = xv_keeps at *
      refine ClW.dd (f := 37) rfl rfl rfl rfl (.cons rfl .nil) rfl ent37_ (T37_ hv_keeps (by omega)) rfl ?_
      cbv
      try simp only [nc] at *
      refine ⟨?_, ?_, ?_, k + 1, by omega, by omega, ?_, ?_⟩
      · simp only [hE, List.length_map, std_lss, std_leq, std_gtr, std_geq, std_eql, std_neq, std_len, std_add, std_subI, std_mulI, std_ssize, std_not, std_band, std_bcmp, std_nat, std_ofNat, std_nadd, std_nsub, IntKind.wrap_i64, decide_eq_true_eq, decide_eq_false_iff_not, Bool.not_eq_true', Bool.not_eq_false', Option.getD_none, Option.getD_some, ]; exact ⟨by omega, by omega⟩
      · simp only [hE]; exact cp_inR hk' hz hi
      · simp only [hE]; exact cp_lenGe hk' hz hi (Nat.le_refl _)
      · refine .cons rfl (.cons rfl (.cons ?_ (.nil _)))
        show AV.d (D.sc (Value.int IntKind.i64 (qbin .add .i64 i 1))) = _
        simp only [hE, i_next hi (by omega)]
      · have e : eAct (⟨v_kind, v_text, v_n, v_keeps⟩ : TAct) = [.sc (.int .i64 v_kind), .sc (.string v_text), .sc (.int .i64 v_n), .row 1 (v_keeps.map cI)] := rfl
        rw [hv_keeps] at e
        simp only [hE]
        rw [e] at hset
        rw [← hset]
        try rfl
    · rename_i h2
      simp only [hE, List.length_map, std_lss, std_leq, std_gtr, std_geq, std_eql, std_neq, std_len, std_add, std_subI, std_mulI, std_ssize, std_not, std_band, std_bcmp, std_nat, std_ofNat, std_nadd, std_nsub, IntKind.wrap_i64, decide_eq_true_eq, decide_eq_false_iff_not, Bool.not_eq_true', Bool.not_eq_false', Option.getD_none, Option.getD_some, hn] at h2
      cbv
      try simp only [nc] at *
      have hk' : k = a.length := by omega
      subst hk'
      rw [← hQ]
      rw [cp_end] at hz
      have hxz : zs = xs := by rw [← hz, hx]
      subst hxz
      exact endD_ref rfl rfl (by omega)
noncomputable def c14 : Code := (Try.f14.body).getD .skip
theorem ent14 : Entered Try.prog 14 := ⟨_, Try.func14, rfl, rfl⟩
theorem T14 {a : List Int} {xs : List (List D)} (hx : a.map cI = xs) (hb : totIntS a ≤ 1048576) : CallOk Try.prog 14 [.d (.row 1 xs), .d (.row 1 xs)] [] ⟨.d (.sc (.bool true)), [], []⟩ := by
  have hb1 : (a.length : Int) ≤ 1048576 := hb
  refine CallOk.of_bodyD (body := c14) Try.func14 rfl (Nat.le_of_ble_eq_true (by kernel_rfl)) rfl ?_
  refine vc_ok tab_ok mixed ?_
  have hT := tab_ok
  have hm := mixed
  generalize hP : Try.prog = P at *
  generalize hA : std = A
  obtain ⟨qbin, qsh, qcmp, qscmp, qbcmp, qbnot, qneg, qwrap, qcat, qssize, qssub, qsget, qlen, qrsub, qapp, qelt, qset, qnth, qdrp, qstr, qint, qbool, qrow, qnat, qnadd, qnsub, qband, qofNat, qstrRow, qmkRow, qmx, qmn, qbytes⟩ := A
  have hE := Ar.eqs hA
  dsimp only at hE
  generalize hQ : EndD P Try.f14.results _ = Q
  have hn := rd_n hx
  have hself : (∀ v : Int, qcmp .neq v v = false) ∧ (∀ v : ByteArray, qscmp .neq v v = false) ∧ (∀ v : Bool, qbnot (qbcmp v v) = false) ∧ qbnot true = false := by
    refine ⟨fun v => ?_, fun v => ?_, fun v => ?_, ?_⟩ <;> simp only [hE, std_neq, std_sneq, std_bcmp, std_not] <;> simp
  obtain ⟨hself1, hself2, hself3, hself4⟩ := hself
  cbv
  try simp only [nc] at *
  rw [hself1]
  cbv
  try simp only [nc] at *
  refine LpW.of (κ := Nat) (fun k => k ≤ a.length) (fun k => a.length - k) (fun k => [(0, .d (.row 1 xs)), (1, .d (.row 1 xs)), (5, .d (.sc (.int .i64 k)))]) (fun _ => []) 0 (by omega) ?_ (by first | rfl | trivial) ?_
  · exact .cons rfl (.cons rfl (.cons rfl (.nil _)))
  · intro k hk
    generalize hi : (k : Int) = i
    refine vc_ok hT hm ?_
    rw [hA]
    cbv
    try simp only [nc] at *
    split
    · rename_i h3
      simp only [hE, List.length_map, std_lss, std_leq, std_gtr, std_geq, std_eql, std_neq, std_len, std_add, std_subI, std_mulI, std_ssize, std_not, std_band, std_bcmp, std_nat, std_ofNat, std_nadd, std_nsub, IntKind.wrap_i64, decide_eq_true_eq, decide_eq_false_iff_not, Bool.not_eq_true', Bool.not_eq_false', Option.getD_none, Option.getD_some, hn] at h3
      have hk' : k < a.length := by omega
      cbv
      try simp only [nc] at *
      repeat (refine And.intro (by first | (simp only [hE]; exact rd_inR hx hi hk') | (simp only [hE, rd_elt hx hi hk']; exact ⟨rfl⟩) | (simp only [hE, rd_elt hx hi hk']; exact ⟨Nat.le_of_ble_eq_true rfl⟩)) ?_)
      rw [hself1]
      cbv
      try simp only [nc] at *
      refine ⟨k + 1, by omega, by omega, ?_, by trivial⟩
      refine .cons rfl (.cons rfl (.cons ?_ (.nil _)))
      show AV.d (D.sc (Value.int IntKind.i64 (qbin .add .i64 i 1))) = _
      simp only [hE, i_next hi (by omega)]
    · rename_i h3
      simp only [hE, List.length_map, std_lss, std_leq, std_gtr, std_geq, std_eql, std_neq, std_len, std_add, std_subI, std_mulI, std_ssize, std_not, std_band, std_bcmp, std_nat, std_ofNat, std_nadd, std_nsub, IntKind.wrap_i64, decide_eq_true_eq, decide_eq_false_iff_not, Bool.not_eq_true', Bool.not_eq_false', Option.getD_none, Option.getD_some, hn] at h3
      cbv
      try simp only [nc] at *
      rw [← hQ]
      exact endD_one rfl rfl
noncomputable def c19 : Code := (Try.f19.body).getD .skip
theorem ent19 : Entered Try.prog 19 := ⟨_, Try.func19, rfl, rfl⟩
theorem T19 {a : List ByteArray} {xs : List (List D)} (hx : a.map cS = xs) (hb : totStringS a ≤ 1048576) : CallOk Try.prog 19 [.d (.row 1 xs), .d (.row 1 xs)] [] ⟨.d (.sc (.bool true)), [], []⟩ := by
  have hb1 : (a.length : Int) + sumF (fun x => (x.size : Int)) a ≤ 1048576 := hb
  have hsn := sumF_nonneg (fun x => (x.size : Int)) a (fun x _ => totStringS_el x)
  refine CallOk.of_bodyD (body := c19) Try.func19 rfl (Nat.le_of_ble_eq_true (by kernel_rfl)) rfl ?_
  refine vc_ok tab_ok mixed ?_
  have hT := tab_ok
  have hm := mixed
  generalize hP : Try.prog = P at *
  generalize hA : std = A
  obtain ⟨qbin, qsh, qcmp, qscmp, qbcmp, qbnot, qneg, qwrap, qcat, qssize, qssub, qsget, qlen, qrsub, qapp, qelt, qset, qnth, qdrp, qstr, qint, qbool, qrow, qnat, qnadd, qnsub, qband, qofNat, qstrRow, qmkRow, qmx, qmn, qbytes⟩ := A
  have hE := Ar.eqs hA
  dsimp only at hE
  generalize hQ : EndD P Try.f19.results _ = Q
  have hn := rd_n hx
  have hself : (∀ v : Int, qcmp .neq v v = false) ∧ (∀ v : ByteArray, qscmp .neq v v = false) ∧ (∀ v : Bool, qbnot (qbcmp v v) = false) ∧ qbnot true = false := by
    refine ⟨fun v => ?_, fun v => ?_, fun v => ?_, ?_⟩ <;> simp only [hE, std_neq, std_sneq, std_bcmp, std_not] <;> simp
  obtain ⟨hself1, hself2, hself3, hself4⟩ := hself
  cbv
  try simp only [nc] at *
  rw [hself1]
  cbv
  try simp only [nc] at *
  refine LpW.of (κ := Nat) (fun k => k ≤ a.length) (fun k => a.length - k) (fun k => [(0, .d (.row 1 xs)), (1, .d (.row 1 xs)), (5, .d (.sc (.int .i64 k)))]) (fun _ => []) 0 (by omega) ?_ (by first | rfl | trivial) ?_
  · exact .cons rfl (.cons rfl (.cons rfl (.nil _)))
  · intro k hk
    generalize hi : (k : Int) = i
    refine vc_ok hT hm ?_
    rw [hA]
    cbv
    try simp only [nc] at *
    split
    · rename_i h3
      simp only [hE, List.length_map, std_lss, std_leq, std_gtr, std_geq, std_eql, std_neq, std_len, std_add, std_subI, std_mulI, std_ssize, std_not, std_band, std_bcmp, std_nat, std_ofNat, std_nadd, std_nsub, IntKind.wrap_i64, decide_eq_true_eq, decide_eq_false_iff_not, Bool.not_eq_true', Bool.not_eq_false', Option.getD_none, Option.getD_some, hn] at h3
      have hk' : k < a.length := by omega
      cbv
      try simp only [nc] at *
      repeat (refine And.intro (by first | (simp only [hE]; exact rd_inR hx hi hk') | (simp only [hE, rd_elt hx hi hk']; exact ⟨rfl⟩) | (simp only [hE, rd_elt hx hi hk']; exact ⟨Nat.le_of_ble_eq_true rfl⟩)) ?_)
      rw [hself2]
      cbv
      try simp only [nc] at *
      refine ⟨k + 1, by omega, by omega, ?_, by trivial⟩
      refine .cons rfl (.cons rfl (.cons ?_ (.nil _)))
      show AV.d (D.sc (Value.int IntKind.i64 (qbin .add .i64 i 1))) = _
      simp only [hE, i_next hi (by omega)]
    · rename_i h3
      simp only [hE, List.length_map, std_lss, std_leq, std_gtr, std_geq, std_eql, std_neq, std_len, std_add, std_subI, std_mulI, std_ssize, std_not, std_band, std_bcmp, std_nat, std_ofNat, std_nadd, std_nsub, IntKind.wrap_i64, decide_eq_true_eq, decide_eq_false_iff_not, Bool.not_eq_true', Bool.not_eq_false', Option.getD_none, Option.getD_some, hn] at h3
      cbv
      try simp only [nc] at *
      rw [← hQ]
      exact endD_one rfl rfl
noncomputable def c24 : Code := (Try.f24.body).getD .skip
theorem ent24 : Entered Try.prog 24 := ⟨_, Try.func24, rfl, rfl⟩
theorem T24 {a_version : Int} {a_stride : Int} {a_roll : Int} {a_base : Int} {a_link : Int} {a_offsets : List Int} {xa_offsets : List (List D)} (ha_offsets : a_offsets.map cI = xa_offsets) {a_end : Int} {a_open : Bool} {a_code : Int} (hb : totWriter ⟨a_version, a_stride, a_roll, a_base, a_link, a_offsets, a_end, a_open, a_code⟩ ≤ 1048576) : CallOk Try.prog 24 [.agg [.d (.sc (.int .i64 a_version)), .d (.sc (.int .i64 a_stride)), .d (.sc (.int .i64 a_roll)), .d (.sc (.int .i64 a_base)), .d (.sc (.int .i64 a_link)), .d (.row 1 xa_offsets), .d (.sc (.int .i64 a_end)), .d (.sc (.bool a_open)), .d (.sc (.int .i64 a_code))], .agg [.d (.sc (.int .i64 a_version)), .d (.sc (.int .i64 a_stride)), .d (.sc (.int .i64 a_roll)), .d (.sc (.int .i64 a_base)), .d (.sc (.int .i64 a_link)), .d (.row 1 xa_offsets), .d (.sc (.int .i64 a_end)), .d (.sc (.bool a_open)), .d (.sc (.int .i64 a_code))]] [] ⟨.d (.sc (.bool true)), [], []⟩ := by
  have ent14_ := ent14
  have T14_ := @T14
  have nna_offsets := totIntS_nn a_offsets
  have hb' : totIntS a_offsets ≤ 1048576 := hb
  refine CallOk.of_bodyD (body := c24) Try.func24 rfl (Nat.le_of_ble_eq_true (by kernel_rfl)) rfl ?_
  refine vc_ok tab_ok mixed ?_
  have hT := tab_ok
  have hm := mixed
  generalize hP : Try.prog = P at *
  generalize hA : std = A
  obtain ⟨qbin, qsh, qcmp, qscmp, qbcmp, qbnot, qneg, qwrap, qcat, qssize, qssub, qsget, qlen, qrsub, qapp, qelt, qset, qnth, qdrp, qstr, qint, qbool, qrow, qnat, qnadd, qnsub, qband, qofNat, qstrRow, qmkRow, qmx, qmn, qbytes⟩ := A
  have hE := Ar.eqs hA
  dsimp only at hE
  generalize hQ : EndD P Try.f24.results _ = Q
  have hself : (∀ v : Int, qcmp .neq v v = false) ∧ (∀ v : ByteArray, qscmp .neq v v = false) ∧ (∀ v : Bool, qbnot (qbcmp v v) = false) ∧ qbnot true = false := by
    refine ⟨fun v => ?_, fun v => ?_, fun v => ?_, ?_⟩ <;> simp only [hE, std_neq, std_sneq, std_bcmp, std_not] <;> simp
  obtain ⟨hself1, hself2, hself3, hself4⟩ := hself
  cbv
  try simp only [nc] at *
  rw [hself1]
  cbv
  try simp only [nc] at *
  rw [hself1]
  cbv
  try simp only [nc] at *
  rw [hself1]
  cbv
  try simp only [nc] at *
  rw [hself1]
  cbv
  try simp only [nc] at *
  rw [hself1]
  cbv
  try simp only [nc] at *
  refine ClW.dd (f := 14) rfl rfl rfl rfl (.cons rfl (.cons rfl .nil)) rfl ent14_ (T14_ ha_offsets (by omega)) rfl ?_
  cbv
  try simp only [nc] at *
  rw [hself4]
  cbv
  try simp only [nc] at *
  rw [hself1]
  cbv
  try simp only [nc] at *
  rw [hself3]
  cbv
  try simp only [nc] at *
  rw [hself1]
  cbv
  try simp only [nc] at *
  rw [← hQ]
  exact endD_one rfl rfl
noncomputable def c40 : Code := (Try.f40.body).getD .skip
theorem ent40 : Entered Try.prog 40 := ⟨_, Try.func40, rfl, rfl⟩
theorem T40 {a_kind : Int} {a_text : ByteArray} {a_n : Int} {a_keeps : List Int} {xa_keeps : List (List D)} (ha_keeps : a_keeps.map cI = xa_keeps) (hb : totAct ⟨a_kind, a_text, a_n, a_keeps⟩ ≤ 1048576) : CallOk Try.prog 40 [.agg [.d (.sc (.int .i64 a_kind)), .d (.sc (.string a_text)), .d (.sc (.int .i64 a_n)), .d (.row 1 xa_keeps)], .agg [.d (.sc (.int .i64 a_kind)), .d (.sc (.string a_text)), .d (.sc (.int .i64 a_n)), .d (.row 1 xa_keeps)]] [] ⟨.d (.sc (.bool true)), [], []⟩ := by
  have ent14_ := ent14
  have T14_ := @T14
  have nna_keeps := totIntS_nn a_keeps
  have hb' : (a_text.size : Int) + totIntS a_keeps ≤ 1048576 := hb
  refine CallOk.of_bodyD (body := c40) Try.func40 rfl (Nat.le_of_ble_eq_true (by kernel_rfl)) rfl ?_
  refine vc_ok tab_ok mixed ?_
  have hT := tab_ok
  have hm := mixed
  generalize hP : Try.prog = P at *
  generalize hA : std = A
  obtain ⟨qbin, qsh, qcmp, qscmp, qbcmp, qbnot, qneg, qwrap, qcat, qssize, qssub, qsget, qlen, qrsub, qapp, qelt, qset, qnth, qdrp, qstr, qint, qbool, qrow, qnat, qnadd, qnsub, qband, qofNat, qstrRow, qmkRow, qmx, qmn, qbytes⟩ := A
  have hE := Ar.eqs hA
  dsimp only at hE
  generalize hQ : EndD P Try.f40.results _ = Q
  have hself : (∀ v : Int, qcmp .neq v v = false) ∧ (∀ v : ByteArray, qscmp .neq v v = false) ∧ (∀ v : Bool, qbnot (qbcmp v v) = false) ∧ qbnot true = false := by
    refine ⟨fun v => ?_, fun v => ?_, fun v => ?_, ?_⟩ <;> simp only [hE, std_neq, std_sneq, std_bcmp, std_not] <;> simp
  obtain ⟨hself1, hself2, hself3, hself4⟩ := hself
  cbv
  try simp only [nc] at *
  rw [hself1]
  cbv
  try simp only [nc] at *
  rw [hself2]
  cbv
  try simp only [nc] at *
  rw [hself1]
  cbv
  try simp only [nc] at *
  refine ClW.dd (f := 14) rfl rfl rfl rfl (.cons rfl (.cons rfl .nil)) rfl ent14_ (T14_ ha_keeps (by omega)) rfl ?_
  cbv
  try simp only [nc] at *
  rw [hself4]
  cbv
  try simp only [nc] at *
  rw [← hQ]
  exact endD_one rfl rfl
noncomputable def c29 : Code := (Try.f29.body).getD .skip
theorem ent29 : Entered Try.prog 29 := ⟨_, Try.func29, rfl, rfl⟩
theorem T29 {a : List TAct} {xs : List (List D)} (hx : a.map eAct = xs) (hb : totActS a ≤ 1048576) : CallOk Try.prog 29 [.d (.row 4 xs), .d (.row 4 xs)] [] ⟨.d (.sc (.bool true)), [], []⟩ := by
  have ent40_ := ent40
  have T40_ := @T40
  have hb1 : (a.length : Int) + sumF (fun x => totAct x) a ≤ 1048576 := hb
  have hsn := sumF_nonneg (fun x => totAct x) a (fun x _ => totActS_el x)
  refine CallOk.of_bodyD (body := c29) Try.func29 rfl (Nat.le_of_ble_eq_true (by kernel_rfl)) rfl ?_
  refine vc_ok tab_ok mixed ?_
  have hT := tab_ok
  have hm := mixed
  generalize hP : Try.prog = P at *
  generalize hA : std = A
  obtain ⟨qbin, qsh, qcmp, qscmp, qbcmp, qbnot, qneg, qwrap, qcat, qssize, qssub, qsget, qlen, qrsub, qapp, qelt, qset, qnth, qdrp, qstr, qint, qbool, qrow, qnat, qnadd, qnsub, qband, qofNat, qstrRow, qmkRow, qmx, qmn, qbytes⟩ := A
  have hE := Ar.eqs hA
  dsimp only at hE
  generalize hQ : EndD P Try.f29.results _ = Q
  have hn := rd_n hx
  have hself : (∀ v : Int, qcmp .neq v v = false) ∧ (∀ v : ByteArray, qscmp .neq v v = false) ∧ (∀ v : Bool, qbnot (qbcmp v v) = false) ∧ qbnot true = false := by
    refine ⟨fun v => ?_, fun v => ?_, fun v => ?_, ?_⟩ <;> simp only [hE, std_neq, std_sneq, std_bcmp, std_not] <;> simp
  obtain ⟨hself1, hself2, hself3, hself4⟩ := hself
  cbv
  try simp only [nc] at *
  rw [hself1]
  cbv
  try simp only [nc] at *
  refine LpW.of (κ := Nat) (fun k => k ≤ a.length) (fun k => a.length - k) (fun k => [(0, .d (.row 4 xs)), (1, .d (.row 4 xs)), (5, .d (.sc (.int .i64 k)))]) (fun _ => []) 0 (by omega) ?_ (by first | rfl | trivial) ?_
  · exact .cons rfl (.cons rfl (.cons rfl (.nil _)))
  · intro k hk
    generalize hi : (k : Int) = i
    refine vc_ok hT hm ?_
    rw [hA]
    cbv
    try simp only [nc] at *
    split
    · rename_i h3
      simp only [hE, List.length_map, std_lss, std_leq, std_gtr, std_geq, std_eql, std_neq, std_len, std_add, std_subI, std_mulI, std_ssize, std_not, std_band, std_bcmp, std_nat, std_ofNat, std_nadd, std_nsub, IntKind.wrap_i64, decide_eq_true_eq, decide_eq_false_iff_not, Bool.not_eq_true', Bool.not_eq_false', Option.getD_none, Option.getD_some, hn] at h3
      have hk' : k < a.length := by omega
      cbv
      try simp only [nc] at *
      repeat (refine And.intro (by first | (simp only [hE]; exact rd_inR hx hi hk') | (simp only [hE, rd_elt hx hi hk']; exact ⟨rfl⟩) | (simp only [hE, rd_elt hx hi hk']; exact ⟨Nat.le_of_ble_eq_true rfl⟩)) ?_)
      have hmem := sumF_mem_le (fun x => totAct x) (fun x => totActS_el x) (List.getElem_mem hk')
      obtain ⟨wv, hwv⟩ : ∃ w, w = a[k] := ⟨_, rfl⟩
      have hev : qelt xs i = eAct wv := by simp only [hE]; rw [rd_elt hx hi hk', hwv]
      rw [← hwv] at hmem
      obtain ⟨v_kind, v_text, v_n, v_keeps⟩ := wv
      rw [show qint (qnth (qelt xs i) 0) = v_kind by rw [hev]; simp only [hE]; rfl, show qstr (qnth (qelt xs i) 1) = v_text by rw [hev]; simp only [hE]; rfl, show qint (qnth (qelt xs i) 2) = v_n by rw [hev]; simp only [hE]; rfl, show qrow (qnth (qelt xs i) 3) = v_keeps.map cI by rw [hev]; simp only [hE]; rfl]
      generalize hv_keeps : v_keeps.map cI = xv_keeps at *
      refine ClW.dd (f := 40) rfl rfl rfl rfl (.cons rfl (.cons rfl .nil)) rfl ent40_ (T40_ hv_keeps (by omega)) rfl ?_
      cbv
      try simp only [nc] at *
      rw [hself4]
      cbv
      try simp only [nc] at *
      refine ⟨k + 1, by omega, by omega, ?_, by trivial⟩
      refine .cons rfl (.cons rfl (.cons ?_ (.nil _)))
      show AV.d (D.sc (Value.int IntKind.i64 (qbin .add .i64 i 1))) = _
      simp only [hE, i_next hi (by omega)]
    · rename_i h3
      simp only [hE, List.length_map, std_lss, std_leq, std_gtr, std_geq, std_eql, std_neq, std_len, std_add, std_subI, std_mulI, std_ssize, std_not, std_band, std_bcmp, std_nat, std_ofNat, std_nadd, std_nsub, IntKind.wrap_i64, decide_eq_true_eq, decide_eq_false_iff_not, Bool.not_eq_true', Bool.not_eq_false', Option.getD_none, Option.getD_some, hn] at h3
      cbv
      try simp only [nc] at *
      rw [← hQ]
      exact endD_one rfl rfl
end Go.Proofs.Ytbdlhemakfmadaa.Ab
