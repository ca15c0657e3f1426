/- What functions of the program come to, for all arguments in the given bounds. -/
import Derived.Test.YtbdlhemakfmadabFB
set_option linter.unusedVariables false
set_option linter.unusedSimpArgs false
namespace Go.Proofs.Ytbdlhemakfmadab.Ab
open Go Go.Proofs
set_option maxRecDepth 20000
/-! RowLines. -/
def lineG (s : ByteArray) : ByteArray := tx (hexD s.data.toList)
def rRowLines (a : List ByteArray) : List ByteArray := a.map lineG
theorem app_one {α : Type} {c : α → List D} {zs : List (List D)} {l : List α} {x : α} {ds : List D} (hz : l.map c = zs) (hd : ds = c x) : std.app zs (std.rsub [ds] (std.ofNat 0) (std.ofNat (std.nadd 0 1))) = (l ++ [x]).map c := by
  subst hz hd
  show l.map c ++ [c x] = _
  rw [List.map_append]
  rfl
noncomputable def c7 : Code := (Try.f7.body).getD .skip
theorem ent7 : Entered Try.prog 7 := ⟨_, Try.func7, rfl, rfl⟩
noncomputable def c5 : Code := (Try.f5.body).getD .skip
theorem ent5 : Entered Try.prog 5 := ⟨_, Try.func5, rfl, rfl⟩
theorem T7R {aRow : List ByteArray} {xs : List (List D)} (hx : aRow.map cS = xs) (hb : totStringS aRow ≤ 1048576) :
    CallOk Try.prog 7 [.d (.row 1 xs)] [] ⟨.ref 0 0 (rRowLines aRow).length, [.row 1 false ((rRowLines aRow).map cS)], []⟩ := by
  rw [show (rRowLines aRow).length = aRow.length by simp [rRowLines]]
  have e1 := ent12
  have t1 := @T12
  have hl : (aRow.length : Int) ≤ 1048576 := by
    have := sumF_nonneg (fun x => (x.size : Int)) aRow (fun x _ => totStringS_el x)
    unfold totStringS at hb
    omega
  refine CallOk.of_body (body := c7) Try.func7 rfl (Nat.le_of_ble_eq_true (by kernel_rfl)) rfl rfl ?_
  refine vc_ok tab_ok mixed ?_
  have hT := tab_ok
  have hm := mixed
  generalize hP : Try.prog = P at *
  generalize hA : std = A
  obtain ⟨qbin, qsh, qcmp, qscmp, qbcmp, qbnot, qneg, qwrap, qcat, qssize, qssub, qsget, qlen, qrsub, qapp, qelt, qset, qnth, qdrp, qstr, qint, qbool, qrow, qnat, qnadd, qnsub, qband, qofNat, qstrRow, qmkRow, qmx, qmn, qbytes⟩ := A
  have hE := Ar.eqs hA
  dsimp only at hE
  generalize hQ : EndQ P Try.f7.results [] _ = Q
  have hn := rd_n hx
  cbv
  try simp only [nc] at *
  refine LpW.app 1 rfl (κ := Nat) (fun k => k ≤ aRow.length) (fun k => aRow.length - k) (fun k => [(3, .ref 2 0 k), (7, .d (.row 1 xs)), (8, .d (.sc (.int .i64 aRow.length))), (9, .d (.sc (.int .i64 k)))]) (fun k => [.row 1 false [], .dead] ++ [.row 1 false ((rRowLines (aRow.take k)).map cS)]) 0 2 rfl (by omega) ?_ rfl ?_
  · refine .cons rfl (.cons rfl (.cons ?_ (.cons rfl (.nil _))))
    show AV.d (D.sc (Value.int IntKind.i64 (qlen xs))) = _
    simp only [hE, std_len, hn]
  · intro k hk
    generalize hz : (rRowLines (aRow.take k)).map cS = zs
    have hzl : zs.length = k := by rw [← hz]; unfold rRowLines; simp; omega
    generalize hi : (k : Int) = i
    generalize hm' : (aRow.length : Int) = m
    refine vc_ok hT hm ?_
    rw [hA]
    cbv
    try simp only [nc] at *
    split
    · rename_i h2
      simp only [hE, List.length_map, std_lss, std_leq, std_gtr, std_geq, std_eql, std_neq, std_len, std_add, std_subI, std_mulI, std_ssize, std_not, std_band, std_bcmp, std_nat, std_ofNat, std_nadd, std_nsub, IntKind.wrap_i64, decide_eq_true_eq, decide_eq_false_iff_not, Bool.not_eq_true', Bool.not_eq_false', Option.getD_none, Option.getD_some] at h2
      have hk' : k < aRow.length := by omega
      cbv
      try simp only [nc] at *
      repeat (refine And.intro (by first | (simp only [hE]; exact rd_inR hx hi hk') | (simp only [hE, rd_elt hx hi hk']; exact ⟨rfl⟩) | (simp only [hE, rd_elt hx hi hk']; exact ⟨Nat.le_of_ble_eq_true rfl⟩)) ?_)
      obtain ⟨s, hsk⟩ : ∃ s, s = aRow[k] := ⟨_, rfl⟩
      rw [show qstr (qnth (qelt xs i) 0) = s by rw [hsk]; simp only [hE, rd_elt hx hi hk']; rfl]
      refine ClW.dd (f := 12) rfl rfl rfl rfl (.cons rfl .nil) rfl e1 (t1 (tx_data s)) rfl ?_
      generalize hg : tx (hexD s.data.toList) = t
      cbv
      try simp only [nc] at *
      have ha : qapp zs (qrsub [[D.sc (Value.string t)]] (qofNat 0) (qofNat (qnadd 0 1))) = (rRowLines (aRow.take (k + 1))).map cS := by
        simp only [hE]
        rw [app_one (c := cS) (x := t) (ds := [D.sc (Value.string t)]) hz rfl]
        unfold rRowLines
        rw [List.take_succ_eq_append_getElem hk', List.map_append (f := lineG), ← hg, hsk]
        rfl
      have hN : qnat (qlen (qapp zs (qrsub [[D.sc (Value.string t)]] (qofNat 0) (qofNat (qnadd 0 1))))) = k + 1 := by
        rw [ha]
        simp only [hE, std_len, std_nat, List.length_map, rRowLines, List.length_take, Int.toNat_natCast]
        omega
      have hy : (qrsub [[D.sc (Value.string t)]] (qofNat 0) (qofNat (qnadd 0 1))).length = 1 := by simp only [hE]; rfl
      refine ⟨?_, ⟨by simp⟩, k + 1, by omega, by omega, RoundEnd.one (r := 4) (by omega) rfl rfl rfl ha (.cons ?_ (.cons rfl (.cons rfl (.cons ?_ .nil))))⟩
      · exact ⟨rfl, hzl.symm, by rw [hy]; omega, by rw [hy]; omega⟩
      · show some (AV.ref 2 0 (qnat (qlen (qapp zs (qrsub [[D.sc (Value.string t)]] (qofNat 0) (qofNat (qnadd 0 1))))))) = _
        rw [hN]
      · show some (AV.d (D.sc (Value.int IntKind.i64 (qbin .add .i64 i 1)))) = _
        simp only [hE, i_next hi (by omega)]
    · rename_i h2
      simp only [hE, List.length_map, std_lss, std_leq, std_gtr, std_geq, std_eql, std_neq, std_len, std_add, std_subI, std_mulI, std_ssize, std_not, std_band, std_bcmp, std_nat, std_ofNat, std_nadd, std_nsub, IntKind.wrap_i64, decide_eq_true_eq, decide_eq_false_iff_not, Bool.not_eq_true', Bool.not_eq_false', Option.getD_none, Option.getD_some] at h2
      cbv
      try simp only [nc] at *
      have hk' : k = aRow.length := by omega
      subst hk'
      rw [List.take_length] at hz
      rw [← hQ, hz]
      exact endR_ref rfl rfl
theorem T7 {aRow : List ByteArray} {xs : List (List D)} (hx : aRow.map cS = xs) (hb : totStringS aRow ≤ 1048576) :
    CallOk Try.prog 7 [.d (.row 1 xs)] [] ⟨.d (.row 1 ((rRowLines aRow).map cS)), [], []⟩ := (T7R hx hb).rowD rfl (by simp [rRowLines])
theorem T5 {aRow : List ByteArray} {xs : List (List D)} (hx : aRow.map cS = xs) (hb : totStringS aRow ≤ 1048576) :
    CallOk Try.prog 5 [.d (.row 1 xs)] [] ⟨.d (.row 1 ((rRowLines aRow).map cS)), [], []⟩ := by
  have e1 := ent11
  have t1 := @T11
  have hl : (aRow.length : Int) ≤ 1048576 ∧ ∀ s ∈ aRow, (s.size : Int) ≤ 1048576 := by
    have hn := sumF_nonneg (fun x => (x.size : Int)) aRow (fun x _ => totStringS_el x)
    unfold totStringS at hb
    refine ⟨by omega, fun s hs => ?_⟩
    have := sumF_mem_le (fun x : ByteArray => (x.size : Int)) (fun x => totStringS_el x) hs
    omega
  obtain ⟨hl, hsz⟩ := hl
  refine CallOk.of_bodyD (body := c5) Try.func5 rfl (Nat.le_of_ble_eq_true (by kernel_rfl)) rfl ?_
  refine vc_ok tab_ok mixed ?_
  have hT := tab_ok
  have hm := mixed
  generalize hP : Try.prog = P at *
  generalize hA : std = A
  obtain ⟨qbin, qsh, qcmp, qscmp, qbcmp, qbnot, qneg, qwrap, qcat, qssize, qssub, qsget, qlen, qrsub, qapp, qelt, qset, qnth, qdrp, qstr, qint, qbool, qrow, qnat, qnadd, qnsub, qband, qofNat, qstrRow, qmkRow, qmx, qmn, qbytes⟩ := A
  have hE := Ar.eqs hA
  dsimp only at hE
  generalize hQ : EndD P Try.f5.results _ = Q
  have hn := rd_n hx
  cbv
  try simp only [nc] at *
  refine LpW.app 1 rfl (κ := Nat) (fun k => k ≤ aRow.length) (fun k => aRow.length - k) (fun k => [(0, .d (.row 1 xs)), (3, .ref 2 0 k), (4, .d (.sc (.int .i64 k)))]) (fun k => [.row 1 false [], .dead] ++ [.row 1 false ((rRowLines (aRow.take k)).map cS)]) 0 2 rfl (by omega) ?_ rfl ?_
  · exact .cons rfl (.cons rfl (.cons rfl (.nil _)))
  · intro k hk
    generalize hz : (rRowLines (aRow.take k)).map cS = zs
    have hzl : zs.length = k := by rw [← hz]; unfold rRowLines; simp; omega
    generalize hi : (k : Int) = i
    refine vc_ok hT hm ?_
    rw [hA]
    cbv
    try simp only [nc] at *
    split
    · rename_i h2
      simp only [hE, List.length_map, std_lss, std_leq, std_gtr, std_geq, std_eql, std_neq, std_len, std_add, std_subI, std_mulI, std_ssize, std_not, std_band, std_bcmp, std_nat, std_ofNat, std_nadd, std_nsub, IntKind.wrap_i64, decide_eq_true_eq, decide_eq_false_iff_not, Bool.not_eq_true', Bool.not_eq_false', Option.getD_none, Option.getD_some, hn] at h2
      have hk' : k < aRow.length := by omega
      have hszk := hsz aRow[k] (List.getElem_mem hk')
      cbv
      try simp only [nc] at *
      repeat (refine And.intro (by first | (simp only [hE]; exact rd_inR hx hi hk') | (simp only [hE, rd_elt hx hi hk']; exact ⟨rfl⟩) | (simp only [hE, rd_elt hx hi hk']; exact ⟨Nat.le_of_ble_eq_true rfl⟩)) ?_)
      obtain ⟨s, hsk⟩ : ∃ s, s = aRow[k] := ⟨_, rfl⟩
      rw [show qstr (qnth (qelt xs i) 0) = s by rw [hsk]; simp only [hE, rd_elt hx hi hk']; rfl]
      have hss : s.size = s.data.toList.length := Array.length_toList.symm
      rw [← hsk] at hszk
      refine ClW.dd (f := 11) rfl rfl rfl rfl (.cons rfl .nil) rfl e1 (t1 (tx_data s) (by omega)) rfl ?_
      generalize hg : (if s.data.toList.length ≤ 20000 then tx (hexL s.data.toList) else tx []) = t
      generalize decide (s.data.toList.length ≤ 20000) = b
      cbv
      try simp only [nc] at *
      have tail : ∀ u : ByteArray, u = lineG s → qapp zs (qrsub [[D.sc (Value.string u)]] (qofNat 0) (qofNat (qnadd 0 1))) = (rRowLines (aRow.take (k + 1))).map cS ∧ qnat (qlen (qapp zs (qrsub [[D.sc (Value.string u)]] (qofNat 0) (qofNat (qnadd 0 1))))) = k + 1 := by
        intro u hu
        have ha : qapp zs (qrsub [[D.sc (Value.string u)]] (qofNat 0) (qofNat (qnadd 0 1))) = (rRowLines (aRow.take (k + 1))).map cS := by
          simp only [hE]
          rw [app_one (c := cS) (x := u) (ds := [D.sc (Value.string u)]) hz rfl]
          unfold rRowLines
          rw [List.take_succ_eq_append_getElem hk', List.map_append (f := lineG), hu, hsk]
          rfl
        refine ⟨ha, ?_⟩
        rw [ha]
        simp only [hE, std_len, std_nat, List.length_map, rRowLines, List.length_take, Int.toNat_natCast]
        omega
      have hy : ∀ u : ByteArray, (qrsub [[D.sc (Value.string u)]] (qofNat 0) (qofNat (qnadd 0 1))).length = 1 := by intro u; simp only [hE]; rfl
      split
      · rename_i h
        simp only [hE, std_seql, decide_eq_true_eq] at h
        cbv
        try simp only [nc] at *
        obtain ⟨ha, hN⟩ := tail (⟨⟨[45]⟩⟩ : ByteArray) (by
          show tx [45] = _
          unfold lineG hexD
          rw [if_neg]
          rintro ⟨h1, h2⟩
          rw [if_pos h1, h] at hg
          exact h2 (hexL_nil.1 (tx_inj (b := []) hg)))
        refine ⟨?_, ⟨by simp⟩, k + 1, by omega, by omega, RoundEnd.one (r := 4) (by omega) rfl rfl rfl ha (.cons rfl (.cons ?_ (.cons ?_ .nil)))⟩
        · exact ⟨rfl, hzl.symm, by rw [hy (⟨⟨[45]⟩⟩ : ByteArray)]; omega, by rw [hy (⟨⟨[45]⟩⟩ : ByteArray)]; omega⟩
        · show some (AV.ref 2 0 (qnat (qlen (qapp zs (qrsub [[D.sc (Value.string (⟨⟨[45]⟩⟩ : ByteArray))]] (qofNat 0) (qofNat (qnadd 0 1))))))) = _
          rw [hN]
        · show some (AV.d (D.sc (Value.int IntKind.i64 (qbin .add .i64 i 1)))) = _
          simp only [hE, i_next hi (by omega)]
      · rename_i h
        simp only [hE, std_seql, decide_eq_false_iff_not] at h
        cbv
        try simp only [nc] at *
        obtain ⟨ha, hN⟩ := tail t (by
          unfold lineG hexD
          by_cases h1 : s.data.toList.length ≤ 20000
          · rw [if_pos h1] at hg
            have hne : s.data.toList ≠ [] := by
              intro e
              rw [e] at hg
              exact h hg.symm
            rw [if_pos ⟨h1, hne⟩, hg]
          · rw [if_neg h1] at hg
            exact absurd hg.symm h)
        refine ⟨?_, ⟨by simp⟩, k + 1, by omega, by omega, RoundEnd.one (r := 4) (by omega) rfl rfl rfl ha (.cons rfl (.cons ?_ (.cons ?_ .nil)))⟩
        · exact ⟨rfl, hzl.symm, by rw [hy]; omega, by rw [hy]; omega⟩
        · show some (AV.ref 2 0 (qnat (qlen (qapp zs (qrsub [[D.sc (Value.string t)]] (qofNat 0) (qofNat (qnadd 0 1))))))) = _
          rw [hN]
        · show some (AV.d (D.sc (Value.int IntKind.i64 (qbin .add .i64 i 1)))) = _
          simp only [hE, i_next hi (by omega)]
    · rename_i h2
      simp only [hE, List.length_map, std_lss, std_leq, std_gtr, std_geq, std_eql, std_neq, std_len, std_add, std_subI, std_mulI, std_ssize, std_not, std_band, std_bcmp, std_nat, std_ofNat, std_nadd, std_nsub, IntKind.wrap_i64, decide_eq_true_eq, decide_eq_false_iff_not, Bool.not_eq_true', Bool.not_eq_false', Option.getD_none, Option.getD_some, hn] at h2
      cbv
      try simp only [nc] at *
      have hk' : k = aRow.length := by omega
      subst hk'
      rw [List.take_length] at hz
      rw [← hQ, hz]
      exact endD_ref rfl rfl hzl.symm
theorem hexD_le (l : List UInt8) : (hexD l).length ≤ 2 * l.length + 1 := by
  unfold hexD
  split
  · rw [hexL_length]; omega
  · simp
theorem sumF_map_le {α β : Type} (f : α → Int) (g : β → Int) (m : β → α) (h : ∀ x, f (m x) ≤ 2 * g x + 1) : ∀ l : List β, sumF f (l.map m) ≤ 2 * sumF g l + l.length
  | [] => by simp [sumF]
  | x :: l => by
    have := sumF_map_le f g m h l
    have := h x
    simp only [List.map_cons, sumF, List.length_cons]
    omega
theorem bRowLines {a : List ByteArray} (h : totStringS a ≤ 1048576) : totStringS (rRowLines a) ≤ 549755813888 := by
  have h1 := sumF_map_le (fun x : ByteArray => (x.size : Int)) (fun x : ByteArray => (x.size : Int)) lineG (fun x => by
    have h2 := hexD_le x.data.toList
    have h3 : (lineG x).size = (hexD x.data.toList).length := tx_size
    have h4 : x.size = x.data.toList.length := Array.length_toList.symm
    omega) a
  have h5 : (rRowLines a).length = a.length := by simp [rRowLines]
  have hn := sumF_nonneg (fun x => (x.size : Int)) a (fun x _ => totStringS_el x)
  unfold totStringS at *
  unfold rRowLines at *
  omega
end Go.Proofs.Ytbdlhemakfmadab.Ab
