/- What functions of the program come to, for all arguments in the given bounds. -/
import Derived.Test.YtamdgfklbjoaiaaFJ
set_option linter.unusedVariables false
set_option linter.unusedSimpArgs false
namespace Go.Proofs.Ytamdgfklbjoaiaa.Ab
open Go Go.Proofs
set_option maxRecDepth 20000
/-! FindingLines. -/
def rFN (c : Int) : ByteArray := if c = 1 then ⟨⟨[116, 101, 109, 112]⟩⟩ else if c = 2 then ⟨⟨[108, 111, 111, 115, 101]⟩⟩ else if c = 3 then ⟨⟨[111, 112, 101, 110]⟩⟩ else if c = 4 then ⟨⟨[98, 114, 111, 107, 101, 110]⟩⟩ else ⟨⟨[63]⟩⟩
theorem rFN_size (c : Int) : (rFN c).size ≤ 6 := by
  unfold rFN
  repeat' split
  all_goals decide
noncomputable def c60 : Code := (Try.f60.body).getD .skip
theorem ent60 : Entered Try.prog 60 := ⟨_, Try.func60, rfl, rfl⟩
noncomputable def c62 : Code := (Try.f62.body).getD .skip
theorem ent62 : Entered Try.prog 62 := ⟨_, Try.func62, rfl, rfl⟩
noncomputable def c21 : Code := (Try.f21.body).getD .skip
theorem ent21 : Entered Try.prog 21 := ⟨_, Try.func21, rfl, rfl⟩
noncomputable def c23 : Code := (Try.f23.body).getD .skip
theorem ent23 : Entered Try.prog 23 := ⟨_, Try.func23, rfl, rfl⟩
theorem T60 (c : Int) : CallOk Try.prog 60 [.d (.sc (.int .i64 c))] [] ⟨.d (.sc (.string (rFN c))), [], []⟩ := by
  have e1 := ent95
  have t1 := @T95
  generalize hr : rFN c = r
  refine CallOk.of_bodyD (body := c60) Try.func60 rfl (Nat.le_of_ble_eq_true (by kernel_rfl)) rfl ?_
  refine vc_ok tab_ok mixed ?_
  have hT := tab_ok
  have hm := mixed
  generalize hP : Try.prog = P at *
  generalize hA : std = A
  obtain ⟨qbin, qsh, qcmp, qscmp, qbcmp, qbnot, qneg, qwrap, qcat, qssize, qssub, qsget, qlen, qrsub, qapp, qelt, qset, qnth, qdrp, qstr, qint, qbool, qrow, qnat, qnadd, qnsub, qband, qofNat, qstrRow, qmkRow, qmx, qmn, qbytes, qemp⟩ := A
  have hE := Ar.eqs hA
  dsimp only at hE
  generalize hQ : EndD P Try.f60.results _ = Q
  cbv
  try simp only [nc] at *
  refine ClW.dd (f := 95) rfl rfl rfl rfl (.cons rfl (.cons rfl (.cons rfl .nil))) rfl e1 (t1 c 1 4) rfl ?_
  cases hb : decide (1 ≤ c ∧ c ≤ 4) with
  | false =>
    have hc := of_decide_eq_false hb
    cbv
    try simp only [nc] at *
    rw [show qbnot false = true by simp only [hE, std_not]; rfl]
    cbv
    try simp only [nc] at *
    rw [← hQ, ← hr, show rFN c = ⟨⟨[63]⟩⟩ by unfold rFN; rw [if_neg (by omega), if_neg (by omega), if_neg (by omega), if_neg (by omega)]]
    exact endD_one rfl rfl
  | true =>
    have hc := of_decide_eq_true hb
    cbv
    try simp only [nc] at *
    rw [show qbnot true = false by simp only [hE, std_not]; rfl]
    cbv
    try simp only [nc] at *
    have h4 : c = 1 ∨ c = 2 ∨ c = 3 ∨ c = 4 := by omega
    rcases h4 with rfl | rfl | rfl | rfl
    all_goals
      refine ⟨by simp only [hE]; exact ⟨by decide, by decide⟩, by simp only [hE]; exact ⟨by decide, by decide⟩, by simp only [hE]; exact ⟨by decide⟩, by simp only [hE]; exact ⟨rfl⟩, ?_⟩
      rw [← hQ, ← hr]
      refine endD_val rfl (str_eq ?_)
      simp only [hE]
      rfl
theorem T62 (c : Int) : CallOk Try.prog 62 [.d (.sc (.int .i64 c))] [] ⟨.d (.sc (.string (rFN c))), [], []⟩ := by
  have e1 := ent56
  have t1 := @T56
  generalize hr : rFN c = r
  refine CallOk.of_bodyD (body := c62) Try.func62 rfl (Nat.le_of_ble_eq_true (by kernel_rfl)) rfl ?_
  refine vc_ok tab_ok mixed ?_
  have hT := tab_ok
  have hm := mixed
  generalize hP : Try.prog = P at *
  generalize hA : std = A
  obtain ⟨qbin, qsh, qcmp, qscmp, qbcmp, qbnot, qneg, qwrap, qcat, qssize, qssub, qsget, qlen, qrsub, qapp, qelt, qset, qnth, qdrp, qstr, qint, qbool, qrow, qnat, qnadd, qnsub, qband, qofNat, qstrRow, qmkRow, qmx, qmn, qbytes, qemp⟩ := A
  have hE := Ar.eqs hA
  dsimp only at hE
  generalize hQ : EndD P Try.f62.results _ = Q
  cbv
  try simp only [nc] at *
  refine ClW.dd (f := 56) rfl rfl rfl rfl (.cons rfl (.cons rfl (.cons rfl .nil))) rfl e1 (t1 c 1 4) rfl ?_
  cases hb : decide (1 ≤ c ∧ c ≤ 4) with
  | false =>
    have hc := of_decide_eq_false hb
    cbv
    try simp only [nc] at *
    rw [show qbnot false = true by simp only [hE, std_not]; rfl]
    cbv
    try simp only [nc] at *
    rw [← hQ, ← hr, show rFN c = ⟨⟨[63]⟩⟩ by unfold rFN; rw [if_neg (by omega), if_neg (by omega), if_neg (by omega), if_neg (by omega)]]
    exact endD_one rfl rfl
  | true =>
    have hc := of_decide_eq_true hb
    cbv
    try simp only [nc] at *
    rw [show qbnot true = false by simp only [hE, std_not]; rfl]
    cbv
    try simp only [nc] at *
    have h4 : c = 1 ∨ c = 2 ∨ c = 3 ∨ c = 4 := by omega
    rcases h4 with rfl | rfl | rfl | rfl
    all_goals
      refine ⟨by simp only [hE]; exact ⟨by decide, by decide⟩, by simp only [hE]; exact ⟨by decide, by decide⟩, by simp only [hE]; exact ⟨by decide⟩, by simp only [hE]; exact ⟨rfl⟩, ?_⟩
      rw [← hQ, ← hr]
      refine endD_val rfl (str_eq ?_)
      simp only [hE]
      rfl
def lineF (x : TFinding) : ByteArray := (x.name_ ++ (⟨⟨[32]⟩⟩ : ByteArray)) ++ rFN x.code_
def rFindingLines (l : List TFinding) : List ByteArray := l.map lineF
theorem T23R {aList : List TFinding} {xs : List (List D)} (hx : aList.map eFinding = xs) (hb : totFindingS aList ≤ 1048576) :
    CallOk Try.prog 23 [.d (.row 2 xs)] [] ⟨.ref 0 0 (rFindingLines aList).length, [.row 1 false ((rFindingLines aList).map cS)], []⟩ := by
  rw [show (rFindingLines aList).length = aList.length by simp [rFindingLines]]
  have e1 := ent62
  have t1 := @T62
  have hl := totFindingS_len aList
  refine CallOk.of_body (body := c23) Try.func23 rfl (Nat.le_of_ble_eq_true (by kernel_rfl)) rfl rfl ?_
  refine vc_ok tab_ok mixed ?_
  have hT := tab_ok
  have hm := mixed
  generalize hP : Try.prog = P at *
  generalize hA : std = A
  obtain ⟨qbin, qsh, qcmp, qscmp, qbcmp, qbnot, qneg, qwrap, qcat, qssize, qssub, qsget, qlen, qrsub, qapp, qelt, qset, qnth, qdrp, qstr, qint, qbool, qrow, qnat, qnadd, qnsub, qband, qofNat, qstrRow, qmkRow, qmx, qmn, qbytes, qemp⟩ := A
  have hE := Ar.eqs hA
  dsimp only at hE
  generalize hQ : EndQ P Try.f23.results [] _ = Q
  have hn := rd_n hx
  cbv
  try simp only [nc] at *
  refine LpW.app 1 rfl (κ := Nat) (fun k => k ≤ aList.length) (fun k => aList.length - k) (fun k => [(3, .ref 2 0 k), (7, .d (.row 2 xs)), (8, .d (.sc (.int .i64 aList.length))), (9, .d (.sc (.int .i64 k)))]) (fun k => [.row 1 false [], .dead] ++ [.row 1 false ((rFindingLines (aList.take k)).map cS)]) 0 2 rfl (by omega) ?_ rfl ?_
  · refine .cons rfl (.cons rfl (.cons ?_ (.cons rfl (.nil _))))
    show AV.d (D.sc (Value.int IntKind.i64 (qlen xs))) = _
    simp only [hE, std_len, hn]
  · intro k hk
    generalize hz : (rFindingLines (aList.take k)).map cS = zs
    have hzl : zs.length = k := by rw [← hz]; unfold rFindingLines; simp; omega
    generalize hi : (k : Int) = i
    generalize hm' : (aList.length : Int) = m at *
    refine vc_ok hT hm ?_
    rw [hA]
    cbv
    try simp only [nc] at *
    split
    · rename_i h2
      simp only [hE, List.length_map, std_lss, std_leq, std_gtr, std_geq, std_eql, std_neq, std_len, std_add, std_subI, std_mulI, std_ssize, std_not, std_band, std_bcmp, std_nat, std_ofNat, std_nadd, std_nsub, std_emp, IntKind.wrap_i64, decide_eq_true_eq, decide_eq_false_iff_not, Bool.not_eq_true', Bool.not_eq_false', Option.getD_none, Option.getD_some, hn] at h2
      have hk' : k < aList.length := by omega
      have hmem := sumF_mem_le (fun x => totFinding x) (fun x => totFindingS_el x) (List.getElem_mem hk')
      have hb1 : (aList.length : Int) + sumF (fun x => totFinding x) aList ≤ 1048576 := hb
      have hsz : (aList[k].name_.size : Int) ≤ 1048576 := by
        have : totFinding aList[k] = (aList[k].name_.size : Int) := rfl
        omega
      cbv
      try simp only [nc] at *
      repeat (refine And.intro (by first | (simp only [hE]; exact rd_inR hx hi hk') | (simp only [hE, rd_elt hx hi hk']; exact ⟨rfl⟩) | (simp only [hE, rd_elt hx hi hk']; exact ⟨Nat.le_of_ble_eq_true rfl⟩)) ?_)
      obtain ⟨s, hsk⟩ : ∃ s, s = aList[k].name_ := ⟨_, rfl⟩
      obtain ⟨c, hck⟩ : ∃ c, c = aList[k].code_ := ⟨_, rfl⟩
      rw [← hsk] at hsz
      rw [show qstr (qnth (qelt xs i) 0) = s by rw [hsk]; simp only [hE, rd_elt hx hi hk']; rfl]
      rw [show qint (qnth (qelt xs i) 1) = c by rw [hck]; simp only [hE, rd_elt hx hi hk']; rfl]
      refine ⟨⟨by show (((s.size + 1 : Nat)) : Int) ≤ 2 ^ 63 - 1; omega⟩, ?_⟩
      refine ClW.dd (f := 62) rfl rfl rfl rfl (.cons rfl .nil) rfl e1 (t1 c) rfl ?_
      have hfs := rFN_size c
      generalize hfn : rFN c = fn at *
      cbv
      try simp only [nc] at *
      have hsp : (qcat s { data := { toList := [32] } }).size = s.size + 1 := by simp only [hE, std_cat, ByteArray.size_append]; rfl
      obtain ⟨t, ht⟩ : ∃ t, t = qcat (qcat s { data := { toList := [32] } }) fn := ⟨_, rfl⟩
      rw [← ht]
      have hte : t = lineF aList[k] := by
        rw [ht]
        simp only [hE, std_cat]
        unfold lineF
        rw [← hsk, ← hck, hfn]
      have ha : qapp zs (qrsub [[D.sc (Value.string t)]] (qofNat 0) (qofNat (qnadd 0 1))) = (rFindingLines (aList.take (k + 1))).map cS := by
        simp only [hE]
        rw [app_one (c := cS) (x := t) (ds := [D.sc (Value.string t)]) hz rfl]
        unfold rFindingLines
        rw [List.take_succ_eq_append_getElem hk', List.map_append (f := lineF), hte]
        rfl
      have hN : qnat (qlen (qapp zs (qrsub [[D.sc (Value.string t)]] (qofNat 0) (qofNat (qnadd 0 1))))) = k + 1 := by
        rw [ha]
        simp only [hE, std_len, std_nat, List.length_map, rFindingLines, List.length_take, Int.toNat_natCast]
        omega
      have hy : (qrsub [[D.sc (Value.string t)]] (qofNat 0) (qofNat (qnadd 0 1))).length = 1 := by simp only [hE]; rfl
      refine ⟨⟨by rw [hsp]; show (((s.size + 1 + fn.size : Nat)) : Int) ≤ 2 ^ 63 - 1; omega⟩, ?_, ⟨by simp⟩, k + 1, by omega, by omega, RoundEnd.one (r := 5) (by omega) rfl rfl rfl ha (.cons ?_ (.cons rfl (.cons rfl (.cons ?_ .nil))))⟩
      · exact ⟨rfl, hzl.symm, by rw [hy]; omega, by rw [hy]; omega⟩
      · show some (AV.ref 2 0 (qnat (qlen (qapp zs (qrsub [[D.sc (Value.string t)]] (qofNat 0) (qofNat (qnadd 0 1))))))) = _
        rw [hN]
      · show some (AV.d (D.sc (Value.int IntKind.i64 (qbin .add .i64 i 1)))) = _
        simp only [hE, i_next hi (by omega)]
    · rename_i h2
      simp only [hE, List.length_map, std_lss, std_leq, std_gtr, std_geq, std_eql, std_neq, std_len, std_add, std_subI, std_mulI, std_ssize, std_not, std_band, std_bcmp, std_nat, std_ofNat, std_nadd, std_nsub, std_emp, IntKind.wrap_i64, decide_eq_true_eq, decide_eq_false_iff_not, Bool.not_eq_true', Bool.not_eq_false', Option.getD_none, Option.getD_some, hn] at h2
      cbv
      try simp only [nc] at *
      have hk' : k = aList.length := by omega
      subst hk'
      rw [List.take_length] at hz
      rw [← hQ, hz]
      exact endR_ref rfl rfl
theorem T23 {aList : List TFinding} {xs : List (List D)} (hx : aList.map eFinding = xs) (hb : totFindingS aList ≤ 1048576) :
    CallOk Try.prog 23 [.d (.row 2 xs)] [] ⟨.d (.row 1 ((rFindingLines aList).map cS)), [], []⟩ := (T23R hx hb).rowD rfl (by simp)
theorem T21R {aList : List TFinding} {xs : List (List D)} (hx : aList.map eFinding = xs) (hb : totFindingS aList ≤ 1048576) :
    CallOk Try.prog 21 [.d (.row 2 xs)] [] ⟨.ref 0 0 (rFindingLines aList).length, [.row 1 false ((rFindingLines aList).map cS)], []⟩ := by
  rw [show (rFindingLines aList).length = aList.length by simp [rFindingLines]]
  have e1 := ent60
  have t1 := @T60
  have hl := totFindingS_len aList
  refine CallOk.of_body (body := c21) Try.func21 rfl (Nat.le_of_ble_eq_true (by kernel_rfl)) rfl rfl ?_
  refine vc_ok tab_ok mixed ?_
  have hT := tab_ok
  have hm := mixed
  generalize hP : Try.prog = P at *
  generalize hA : std = A
  obtain ⟨qbin, qsh, qcmp, qscmp, qbcmp, qbnot, qneg, qwrap, qcat, qssize, qssub, qsget, qlen, qrsub, qapp, qelt, qset, qnth, qdrp, qstr, qint, qbool, qrow, qnat, qnadd, qnsub, qband, qofNat, qstrRow, qmkRow, qmx, qmn, qbytes, qemp⟩ := A
  have hE := Ar.eqs hA
  dsimp only at hE
  generalize hQ : EndQ P Try.f21.results [] _ = Q
  have hn := rd_n hx
  cbv
  try simp only [nc] at *
  refine LpW.app 1 rfl (κ := Nat) (fun k => k ≤ aList.length) (fun k => aList.length - k) (fun k => [(0, .d (.row 2 xs)), (3, .ref 2 0 k), (4, .d (.sc (.int .i64 k)))]) (fun k => [.row 1 false [], .dead] ++ [.row 1 false ((rFindingLines (aList.take k)).map cS)]) 0 2 rfl (by omega) ?_ rfl ?_
  · exact .cons rfl (.cons rfl (.cons rfl (.nil _)))
  · intro k hk
    generalize hz : (rFindingLines (aList.take k)).map cS = zs
    have hzl : zs.length = k := by rw [← hz]; unfold rFindingLines; simp; omega
    generalize hi : (k : Int) = i
    generalize hm' : (aList.length : Int) = m at *
    refine vc_ok hT hm ?_
    rw [hA]
    cbv
    try simp only [nc] at *
    split
    · rename_i h2
      simp only [hE, List.length_map, std_lss, std_leq, std_gtr, std_geq, std_eql, std_neq, std_len, std_add, std_subI, std_mulI, std_ssize, std_not, std_band, std_bcmp, std_nat, std_ofNat, std_nadd, std_nsub, std_emp, IntKind.wrap_i64, decide_eq_true_eq, decide_eq_false_iff_not, Bool.not_eq_true', Bool.not_eq_false', Option.getD_none, Option.getD_some, hn] at h2
      have hk' : k < aList.length := by omega
      have hmem := sumF_mem_le (fun x => totFinding x) (fun x => totFindingS_el x) (List.getElem_mem hk')
      have hb1 : (aList.length : Int) + sumF (fun x => totFinding x) aList ≤ 1048576 := hb
      have hsz : (aList[k].name_.size : Int) ≤ 1048576 := by
        have : totFinding aList[k] = (aList[k].name_.size : Int) := rfl
        omega
      cbv
      try simp only [nc] at *
      repeat (refine And.intro (by first | (simp only [hE]; exact rd_inR hx hi hk') | (simp only [hE, rd_elt hx hi hk']; exact ⟨rfl⟩) | (simp only [hE, rd_elt hx hi hk']; exact ⟨Nat.le_of_ble_eq_true rfl⟩)) ?_)
      obtain ⟨s, hsk⟩ : ∃ s, s = aList[k].name_ := ⟨_, rfl⟩
      obtain ⟨c, hck⟩ : ∃ c, c = aList[k].code_ := ⟨_, rfl⟩
      rw [← hsk] at hsz
      rw [show qstr (qnth (qdrp (qelt xs i) 0) 0) = s by rw [hsk]; simp only [hE, rd_elt hx hi hk']; rfl]
      refine ⟨⟨by show (((s.size + 1 : Nat)) : Int) ≤ 2 ^ 63 - 1; omega⟩, ?_⟩
      repeat (refine And.intro (by first | (simp only [hE]; exact rd_inR hx hi hk') | (simp only [hE, rd_elt hx hi hk']; exact ⟨rfl⟩) | (simp only [hE, rd_elt hx hi hk']; exact ⟨Nat.le_of_ble_eq_true rfl⟩)) ?_)
      rw [show qint (qnth (qdrp (qelt xs i) 1) 0) = c by rw [hck]; simp only [hE, rd_elt hx hi hk']; rfl]
      refine ClW.dd (f := 60) rfl rfl rfl rfl (.cons rfl .nil) rfl e1 (t1 c) rfl ?_
      have hfs := rFN_size c
      generalize hfn : rFN c = fn at *
      cbv
      try simp only [nc] at *
      try rw [show qstr (qnth (qdrp (qelt xs i) 0) 0) = s by rw [hsk]; simp only [hE, rd_elt hx hi hk']; rfl]
      have hsp : (qcat s { data := { toList := [32] } }).size = s.size + 1 := by simp only [hE, std_cat, ByteArray.size_append]; rfl
      obtain ⟨t, ht⟩ : ∃ t, t = qcat (qcat s { data := { toList := [32] } }) fn := ⟨_, rfl⟩
      rw [← ht]
      have hte : t = lineF aList[k] := by
        rw [ht]
        simp only [hE, std_cat]
        unfold lineF
        rw [← hsk, ← hck, hfn]
      have ha : qapp zs (qrsub [[D.sc (Value.string t)]] (qofNat 0) (qofNat (qnadd 0 1))) = (rFindingLines (aList.take (k + 1))).map cS := by
        simp only [hE]
        rw [app_one (c := cS) (x := t) (ds := [D.sc (Value.string t)]) hz rfl]
        unfold rFindingLines
        rw [List.take_succ_eq_append_getElem hk', List.map_append (f := lineF), hte]
        rfl
      have hN : qnat (qlen (qapp zs (qrsub [[D.sc (Value.string t)]] (qofNat 0) (qofNat (qnadd 0 1))))) = k + 1 := by
        rw [ha]
        simp only [hE, std_len, std_nat, List.length_map, rFindingLines, List.length_take, Int.toNat_natCast]
        omega
      have hy : (qrsub [[D.sc (Value.string t)]] (qofNat 0) (qofNat (qnadd 0 1))).length = 1 := by simp only [hE]; rfl
      refine ⟨⟨by rw [hsp]; show (((s.size + 1 + fn.size : Nat)) : Int) ≤ 2 ^ 63 - 1; omega⟩, ?_, ⟨by simp⟩, k + 1, by omega, by omega, RoundEnd.one (r := 4) (by omega) rfl rfl rfl ha (.cons rfl (.cons ?_ (.cons ?_ .nil)))⟩
      · exact ⟨rfl, hzl.symm, by rw [hy]; omega, by rw [hy]; omega⟩
      · show some (AV.ref 2 0 (qnat (qlen (qapp zs (qrsub [[D.sc (Value.string t)]] (qofNat 0) (qofNat (qnadd 0 1))))))) = _
        rw [hN]
      · show some (AV.d (D.sc (Value.int IntKind.i64 (qbin .add .i64 i 1)))) = _
        simp only [hE, i_next hi (by omega)]
    · rename_i h2
      simp only [hE, List.length_map, std_lss, std_leq, std_gtr, std_geq, std_eql, std_neq, std_len, std_add, std_subI, std_mulI, std_ssize, std_not, std_band, std_bcmp, std_nat, std_ofNat, std_nadd, std_nsub, std_emp, IntKind.wrap_i64, decide_eq_true_eq, decide_eq_false_iff_not, Bool.not_eq_true', Bool.not_eq_false', Option.getD_none, Option.getD_some, hn] at h2
      cbv
      try simp only [nc] at *
      have hk' : k = aList.length := by omega
      subst hk'
      rw [List.take_length] at hz
      rw [← hQ, hz]
      exact endR_ref rfl rfl
theorem T21 {aList : List TFinding} {xs : List (List D)} (hx : aList.map eFinding = xs) (hb : totFindingS aList ≤ 1048576) :
    CallOk Try.prog 21 [.d (.row 2 xs)] [] ⟨.d (.row 1 ((rFindingLines aList).map cS)), [], []⟩ := (T21R hx hb).rowD rfl (by simp)
theorem sumF_map_le6 (l : List TFinding) : sumF (fun x : ByteArray => (x.size : Int)) (l.map lineF) ≤ sumF (fun x => totFinding x) l + 7 * l.length := by
  induction l with
  | nil => simp [sumF]
  | cons x l ih =>
    have h1 : (lineF x).size = x.name_.size + 1 + (rFN x.code_).size := by
      unfold lineF
      rw [ByteArray.size_append, ByteArray.size_append]
      rfl
    have h2 := rFN_size x.code_
    have h3 : totFinding x = (x.name_.size : Int) := rfl
    simp only [List.map_cons, sumF, List.length_cons]
    omega
theorem bFindingLines {l : List TFinding} (h : totFindingS l ≤ 1048576) : totStringS (rFindingLines l) ≤ 549755813888 := by
  have h1 := sumF_map_le6 l
  have h2 : (rFindingLines l).length = l.length := by simp [rFindingLines]
  have h3 := sumF_nonneg (fun x => totFinding x) l (fun x _ => totFindingS_el x)
  unfold totStringS
  unfold totFindingS at h
  rw [h2]
  unfold rFindingLines
  omega
end Go.Proofs.Ytamdgfklbjoaiaa.Ab
