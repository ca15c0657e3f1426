/- What functions of the program come to, for all arguments in the given bounds. -/
import Derived.Test.YtbdlhemakfmadabHA
set_option linter.unusedVariables false
set_option linter.unusedSimpArgs false
namespace Go.Proofs.Ytbdlhemakfmadab.Ab
open Go Go.Proofs
set_option maxRecDepth 20000
/-! The marks. -/
theorem u8_wrap {n : Int} (h0 : 0 ≤ n) (h1 : n < 256) : IntKind.u8.wrap n = n := by
  show (let m := n % (2 ^ 8 : Int); if false && decide (m ≥ (2 ^ 7 : Int)) then m - (2 ^ 8 : Int) else m) = n
  simp
  omega
theorem std_rem {k : IntKind} {a b : Int} (h0 : 0 ≤ a) (h1 : 0 < b) : std.bin .rem k a b = a % b := by
  show valInt (if b = 0 then none else some (.int k (a.tmod b))) = _
  rw [if_neg (by omega)]
  exact Int.tmod_eq_emod_of_nonneg h0
theorem std_quo {k : IntKind} {a b : Int} (h0 : 0 ≤ a) (h1 : 0 < b) : std.bin .quo k a b = k.wrap (a / b) := by
  show valInt (if b = 0 then none else some (.int k (k.wrap (a.tdiv b)))) = _
  rw [if_neg (by omega), Int.tdiv_eq_ediv_of_nonneg h0]
  rfl
def mkL (k : Nat) (out : List UInt8) : List UInt8 := if h : k = 0 then out else mkL (k / 10) (UInt8.ofNat (48 + k % 10) :: out)
termination_by k
decreasing_by omega
def mkText (k : Int) : ByteArray := if k ≤ 0 then tx [109, 48] else tx (109 :: mkL k.toNat [])
theorem mkL_zero (out : List UInt8) : mkL 0 out = out := by rw [mkL]; rfl
theorem mkL_next {k : Nat} (h : k ≠ 0) (out : List UInt8) : mkL (k / 10) (UInt8.ofNat (48 + k % 10) :: out) = mkL k out := by
  conv => rhs; rw [mkL, dif_neg h]
noncomputable def c13 : Code := (Try.f13.body).getD .skip
theorem ent13 : Entered Try.prog 13 := ⟨_, Try.func13, rfl, rfl⟩
theorem T13 (k : Int) (hk : k < 2 ^ 60) : CallOk Try.prog 13 [.d (.sc (.int .i64 k))] [] ⟨.d (.sc (.string (mkText k))), [], []⟩ := by
  refine CallOk.of_bodyD (body := c13) Try.func13 rfl (Nat.le_of_ble_eq_true (by kernel_rfl)) rfl ?_
  refine vc_ok tab_ok mixed ?_
  have hT := tab_ok
  have hm := mixed
  generalize hP : Try.prog = P at *
  generalize hA : std = A
  obtain ⟨qbin, qsh, qcmp, qscmp, qbcmp, qbnot, qneg, qwrap, qcat, qssize, qssub, qsget, qlen, qrsub, qapp, qelt, qset, qnth, qdrp, qstr, qint, qbool, qrow, qnat, qnadd, qnsub, qband, qofNat, qstrRow, qmkRow, qmx, qmn, qbytes⟩ := A
  have hE := Ar.eqs hA
  dsimp only at hE
  generalize hQ : EndD P Try.f13.results _ = Q
  cbv
  try simp only [nc] at *
  split
  · rename_i h
    simp only [hE, List.length_map, std_lss, std_leq, std_gtr, std_geq, std_eql, std_neq, std_len, std_add, std_subI, std_mulI, std_ssize, std_not, std_band, std_bcmp, std_nat, std_ofNat, std_nadd, std_nsub, IntKind.wrap_i64, decide_eq_true_eq, decide_eq_false_iff_not, Bool.not_eq_true', Bool.not_eq_false', Option.getD_none, Option.getD_some] at h
    cbv
    try simp only [nc] at *
    rw [← hQ, show mkText k = tx [109, 48] from if_pos h]
    exact endD_one rfl rfl
  rename_i h
  simp only [hE, List.length_map, std_lss, std_leq, std_gtr, std_geq, std_eql, std_neq, std_len, std_add, std_subI, std_mulI, std_ssize, std_not, std_band, std_bcmp, std_nat, std_ofNat, std_nadd, std_nsub, IntKind.wrap_i64, decide_eq_true_eq, decide_eq_false_iff_not, Bool.not_eq_true', Bool.not_eq_false', Option.getD_none, Option.getD_some] at h
  cbv
  try simp only [nc] at *
  refine LpW.ofN (κ := Nat × List UInt8) (fun p => mkL p.1 p.2 = mkL k.toNat [] ∧ p.1 + p.2.length ≤ k.toNat) (fun p => p.1) (fun p => [(0, .d (.sc (.int .i64 (p.1 : Nat)))), (3, .d (.sc (.string (tx p.2))))]) (fun _ => []) (k.toNat, []) 0 ⟨rfl, by simp⟩ ?_ (by first | rfl | trivial) (fun _ _ => ⟨rfl, rfl, rfl⟩) ?_
  · refine .cons ?_ (.cons rfl (.nil _))
    show AV.d (D.sc (Value.int IntKind.i64 k)) = .d (.sc (.int .i64 ((k.toNat : Nat) : Int)))
    rw [Int.toNat_of_nonneg (by omega)]
  · rintro ⟨n, out⟩ ⟨hn, hl⟩
    dsimp only at hn hl
    dsimp only
    generalize hs : tx out = s
    generalize hi : (n : Int) = i
    refine vc_ok hT hm ?_
    rw [hA]
    cbv
    try simp only [nc] at *
    split
    · rename_i h2
      simp only [hE, List.length_map, std_lss, std_leq, std_gtr, std_geq, std_eql, std_neq, std_len, std_add, std_subI, std_mulI, std_ssize, std_not, std_band, std_bcmp, std_nat, std_ofNat, std_nadd, std_nsub, IntKind.wrap_i64, decide_eq_true_eq, decide_eq_false_iff_not, Bool.not_eq_true', Bool.not_eq_false', Option.getD_none, Option.getD_some] at h2
      cbv
      try simp only [nc] at *
      have hv : qwrap .u8 (qbin .add .i64 48 (qbin .rem .i64 i 10)) = ((UInt8.ofNat (48 + n % 10)).toNat : Int) := by
        simp only [hE, std_rem (show 0 ≤ i by omega) (show (0 : Int) < 10 by omega), std_add, std_wrapK]
        rw [wrap_in (by omega), u8_wrap (by omega) (by omega), UInt8.toNat_ofNat']
        omega
      rw [hv]
      have hr : qrsub [[D.sc (Value.int IntKind.u8 ((UInt8.ofNat (48 + n % 10)).toNat : Int))]] (qofNat 0) (qofNat (qnadd 0 1)) = [UInt8.ofNat (48 + n % 10)].map cB := by simp only [hE]; rfl
      rw [hr]
      have hb : qbytes ([UInt8.ofNat (48 + n % 10)].map cB) = tx [UInt8.ofNat (48 + n % 10)] := by simp only [hE]; exact std_bytes _
      have hss : s.size = out.length := by rw [← hs, tx_size]
      refine ⟨⟨by omega⟩, ⟨by simp⟩, ok_bytes _, ?_, ⟨by omega⟩, (n / 10, UInt8.ofNat (48 + n % 10) :: out), ⟨?_, ?_⟩, ?_, ?_, by first | rfl | trivial⟩
      · rw [hb]
        refine ⟨?_⟩
        rw [tx_size]
        show (((1 + s.size : Nat)) : Int) ≤ 2 ^ 63 - 1
        omega
      · rw [← hn]
        exact mkL_next (by omega) out
      · simp only [List.length_cons]
        omega
      · show n / 10 < n
        omega
      · refine .cons ?_ (.cons ?_ (.nil _))
        · show AV.d (D.sc (Value.int IntKind.i64 (qbin .quo .i64 i 10))) = _
          simp only [hE, std_quo (show 0 ≤ i by omega) (show (0 : Int) < 10 by omega)]
          rw [wrap_in (by omega), show i / 10 = ((n / 10 : Nat) : Int) by omega]
        · show AV.d (D.sc (Value.string (qcat (qbytes ([UInt8.ofNat (48 + n % 10)].map cB)) s))) = _
          rw [hb, ← hs]
          simp only [hE, std_catx]
          rfl
    · rename_i h2
      simp only [hE, List.length_map, std_lss, std_leq, std_gtr, std_geq, std_eql, std_neq, std_len, std_add, std_subI, std_mulI, std_ssize, std_not, std_band, std_bcmp, std_nat, std_ofNat, std_nadd, std_nsub, IntKind.wrap_i64, decide_eq_true_eq, decide_eq_false_iff_not, Bool.not_eq_true', Bool.not_eq_false', Option.getD_none, Option.getD_some] at h2
      cbv
      try simp only [nc] at *
      have hn0 : n = 0 := by omega
      subst hn0
      rw [mkL_zero] at hn
      have hss : s.size = out.length := by rw [← hs, tx_size]
      refine ⟨⟨?_⟩, ?_⟩
      · show (((1 + s.size : Nat)) : Int) ≤ 2 ^ 63 - 1
        omega
      rw [← hQ]
      refine endD_val rfl (str_eq ?_)
      rw [← hs, show mkText k = tx (109 :: mkL k.toNat []) from if_neg h, ← hn]
      simp only [hE]
      exact std_catx (a := [109]) (b := out)

/-! The marks of a row of texts. -/
def mkRowS (k : Int) (n : Nat) : List ByteArray := (List.range n).map fun (j : Nat) => mkText (k + (j : Int))
theorem mkRowS_length {k : Int} {n : Nat} : (mkRowS k n).length = n := by simp [mkRowS]
theorem mkRowS_get {k : Int} {n j : Nat} (h : j < (mkRowS k n).length) : (mkRowS k n)[j] = mkText (k + (j : Int)) := by simp [mkRowS]
/-- A row that is marked from the front. -/
def mkdS (k : Int) (a : List ByteArray) (j : Nat) : List ByteArray := (mkRowS k a.length).take j ++ a.drop j
theorem mkdS_length {k : Int} {a : List ByteArray} {j : Nat} (h : j ≤ a.length) : (mkdS k a j).length = a.length := by simp [mkdS, mkRowS_length]; omega
theorem mkdS_end {k : Int} {a : List ByteArray} : mkdS k a a.length = mkRowS k a.length := by
  unfold mkdS
  rw [List.drop_length, List.append_nil, List.take_of_length_le (by rw [mkRowS_length]; omega)]
theorem mkdS_set {k : Int} {a : List ByteArray} {j : Nat} (h : j < a.length) : (mkdS k a j).set j (mkText (k + (j : Int))) = mkdS k a (j + 1) := by
  unfold mkdS
  have hl : ((mkRowS k a.length).take j).length = j := by rw [List.length_take, mkRowS_length]; omega
  have hd : a.drop j = a[j] :: a.drop (j + 1) := List.drop_eq_getElem_cons h
  rw [List.set_append, if_neg (by omega), hl, Nat.sub_self, hd, List.set_cons_zero, List.take_succ_eq_append_getElem (by rw [mkRowS_length]; exact h), mkRowS_get, List.append_assoc]
  rfl
theorem putAt_one {z d : D} : putAt [z] 0 [d] = [d] := rfl
noncomputable def c9 : Code := (Try.f9.body).getD .skip
theorem ent9 : Entered Try.prog 9 := ⟨_, Try.func9, rfl, rfl⟩
theorem T9 {a : List ByteArray} {xs : List (List D)} (hx : a.map cS = xs) {na : Nat} (hna : na = a.length) (ha : na < 2 ^ 40) (k : Int) (h0 : 0 ≤ k) (h1 : k < 2 ^ 40) :
    CallOk Try.prog 9 [.ref 0 0 na, .d (.sc (.int .i64 k))] [.row 1 false xs] ⟨.d (.sc (.int .i64 (k + (na : Int)))), [], [(0, .row 1 false ((mkRowS k na).map cS))]⟩ := by
  subst hna
  have e1 := ent13
  have t1 := @T13
  refine CallOk.of_body (body := c9) Try.func9 rfl (Nat.le_of_ble_eq_true (by kernel_rfl)) rfl rfl ?_
  refine vc_ok tab_ok mixed ?_
  have hT := tab_ok
  have hm := mixed
  generalize hP : Try.prog = P at *
  generalize hA : std = A
  obtain ⟨qbin, qsh, qcmp, qscmp, qbcmp, qbnot, qneg, qwrap, qcat, qssize, qssub, qsget, qlen, qrsub, qapp, qelt, qset, qnth, qdrp, qstr, qint, qbool, qrow, qnat, qnadd, qnsub, qband, qofNat, qstrRow, qmkRow, qmx, qmn, qbytes⟩ := A
  have hE := Ar.eqs hA
  dsimp only at hE
  generalize hQ : EndQ P Try.f9.results _ _ = Q
  generalize hm' : a.length = m
  cbv
  try simp only [nc] at *
  refine LpW.of (κ := Nat) (fun j => j ≤ a.length) (fun j => a.length - j) (fun j => [(0, .ref 0 0 m), (1, .d (.sc (.int .i64 (k + (j : Int))))), (5, .d (.sc (.int .i64 j)))]) (fun j => [.row 1 false ((mkdS k a j).map cS)]) 0 (by omega) ?_ ?_ ?_
  · refine .cons rfl (.cons ?_ (.cons rfl (.nil _)))
    show AV.d (.sc (.int .i64 k)) = .d (.sc (.int .i64 (k + ((0 : Nat) : Int))))
    rw [show k + ((0 : Nat) : Int) = k by omega]
  · show [Root.row 1 false xs] = [Root.row 1 false ((mkdS k a 0).map cS)]
    rw [← hx]
    rfl
  · intro j hj
    generalize hz : (mkdS k a j).map cS = zs
    have hzl : zs.length = a.length := by rw [← hz, List.length_map, mkdS_length hj]
    generalize hi : (j : Int) = i
    generalize hkj : k + i = kj
    refine vc_ok hT hm ?_
    rw [hA]
    cbv
    try simp only [nc] at *
    split
    · rename_i h2
      simp only [hE, List.length_map, std_lss, std_leq, std_gtr, std_geq, std_eql, std_neq, std_len, std_add, std_subI, std_mulI, std_ssize, std_not, std_band, std_bcmp, std_nat, std_ofNat, std_nadd, std_nsub, IntKind.wrap_i64, decide_eq_true_eq, decide_eq_false_iff_not, Bool.not_eq_true', Bool.not_eq_false', Option.getD_none, Option.getD_some] at h2
      have hj' : j < a.length := by omega
      cbv
      try simp only [nc] at *
      refine ClW.dd (f := 13) rfl rfl rfl rfl (.cons rfl .nil) rfl e1 (t1 kj (by omega)) rfl ?_
      generalize ht : mkText kj = t
      cbv
      try simp only [nc] at *
      refine ⟨?_, ?_, ?_, j + 1, by omega, by omega, ?_, ?_⟩
      · simp only [hE, List.length_map, std_lss, std_leq, std_gtr, std_geq, std_eql, std_neq, std_len, std_add, std_subI, std_mulI, std_ssize, std_not, std_band, std_bcmp, std_nat, std_ofNat, std_nadd, std_nsub, IntKind.wrap_i64, decide_eq_true_eq, decide_eq_false_iff_not, Bool.not_eq_true', Bool.not_eq_false', Option.getD_none, Option.getD_some, ]; exact ⟨by omega, by omega⟩
      · simp only [hE, List.length_map, std_lss, std_leq, std_gtr, std_geq, std_eql, std_neq, std_len, std_add, std_subI, std_mulI, std_ssize, std_not, std_band, std_bcmp, std_nat, std_ofNat, std_nadd, std_nsub, IntKind.wrap_i64, decide_eq_true_eq, decide_eq_false_iff_not, Bool.not_eq_true', Bool.not_eq_false', Option.getD_none, Option.getD_some, ]; exact ⟨by omega, by omega⟩
      · simp only [hE]
        refine ⟨?_⟩
        show 1 ≤ ((zs[((((0 + i.toNat) : Nat) : Int)).toNat]?).getD []).length
        rw [show ((((0 + i.toNat) : Nat) : Int)).toNat = j by omega, ← hz, List.getElem?_map, List.getElem?_eq_getElem (by rw [mkdS_length hj]; exact hj')]
        exact Nat.le_refl _
      · refine .cons rfl (.cons ?_ (.cons ?_ (.nil _)))
        · show AV.d (D.sc (Value.int IntKind.i64 (qbin .add .i64 kj 1))) = _
          rw [show qbin .add .i64 kj 1 = k + ((j + 1 : Nat) : Int) by simp only [hE, List.length_map, std_lss, std_leq, std_gtr, std_geq, std_eql, std_neq, std_len, std_add, std_subI, std_mulI, std_ssize, std_not, std_band, std_bcmp, std_nat, std_ofNat, std_nadd, std_nsub, IntKind.wrap_i64, decide_eq_true_eq, decide_eq_false_iff_not, Bool.not_eq_true', Bool.not_eq_false', Option.getD_none, Option.getD_some, ]; omega]
        · show AV.d (D.sc (Value.int IntKind.i64 (qbin .add .i64 i 1))) = _
          simp only [hE, i_next hi (by omega)]
      · show [Root.row 1 false (qset zs (qnadd 0 (qnat i)) 0 [.sc (.string t)])] = _
        have e : qset zs (qnadd 0 (qnat i)) 0 [.sc (.string t)] = (mkdS k a (j + 1)).map cS := by
          simp only [hE]
          show zs.set (0 + i.toNat) (putAt ((zs[0 + i.toNat]?).getD []) 0 [.sc (.string t)]) = _
          rw [show 0 + i.toNat = j by omega, ← hz, List.getElem?_map, List.getElem?_eq_getElem (by rw [mkdS_length hj]; exact hj')]
          show ((mkdS k a j).map cS).set j (cS t) = _
          rw [← List.map_set, ← ht, ← hkj, ← hi, mkdS_set hj']
        rw [e]
    · rename_i h2
      simp only [hE, List.length_map, std_lss, std_leq, std_gtr, std_geq, std_eql, std_neq, std_len, std_add, std_subI, std_mulI, std_ssize, std_not, std_band, std_bcmp, std_nat, std_ofNat, std_nadd, std_nsub, IntKind.wrap_i64, decide_eq_true_eq, decide_eq_false_iff_not, Bool.not_eq_true', Bool.not_eq_false', Option.getD_none, Option.getD_some] at h2
      cbv
      try simp only [nc] at *
      have hj' : j = a.length := by omega
      subst hj'
      rw [mkdS_end] at hz
      rw [← hQ, ← hm']
      refine endP_row rfl ?_ ?_
      · rw [← hkj, hi]
      · show some (Root.row 1 false zs) = _
        rw [← hz]
noncomputable def c10 : Code := (Try.f10.body).getD .skip
theorem ent10 : Entered Try.prog 10 := ⟨_, Try.func10, rfl, rfl⟩
theorem T10 {n : Nat} {k : Int} {xs : List (List D)} (hx : (mkRowS k n).map cS = xs) (ha : n < 2 ^ 40) (h0 : 0 ≤ k) (h1 : k < 2 ^ 40) :
    CallOk Try.prog 10 [.d (.row 1 xs), .d (.sc (.int .i64 k))] [] ⟨.d (.sc (.int .i64 (k + (n : Int)))), [], []⟩ := by
  have e1 := ent13
  have t1 := @T13
  refine CallOk.of_bodyD (body := c10) Try.func10 rfl (Nat.le_of_ble_eq_true (by kernel_rfl)) rfl ?_
  refine vc_ok tab_ok mixed ?_
  have hT := tab_ok
  have hm := mixed
  generalize hP : Try.prog = P at *
  generalize hA : std = A
  obtain ⟨qbin, qsh, qcmp, qscmp, qbcmp, qbnot, qneg, qwrap, qcat, qssize, qssub, qsget, qlen, qrsub, qapp, qelt, qset, qnth, qdrp, qstr, qint, qbool, qrow, qnat, qnadd, qnsub, qband, qofNat, qstrRow, qmkRow, qmx, qmn, qbytes⟩ := A
  have hE := Ar.eqs hA
  dsimp only at hE
  generalize hQ : EndD P Try.f10.results _ = Q
  have hn := rd_n hx
  rw [mkRowS_length] at hn
  cbv
  try simp only [nc] at *
  refine LpW.of (κ := Nat) (fun j => j ≤ n) (fun j => n - j) (fun j => [(0, .d (.row 1 xs)), (1, .d (.sc (.int .i64 (k + (j : Int))))), (5, .d (.sc (.int .i64 j)))]) (fun j => []) 0 (by omega) ?_ (by first | rfl | trivial) ?_
  · refine .cons rfl (.cons ?_ (.cons rfl (.nil _)))
    show AV.d (.sc (.int .i64 k)) = .d (.sc (.int .i64 (k + ((0 : Nat) : Int))))
    rw [show k + ((0 : Nat) : Int) = k by omega]
  · intro j hj
    generalize hi : (j : Int) = i
    generalize hkj : k + i = kj
    refine vc_ok hT hm ?_
    rw [hA]
    cbv
    try simp only [nc] at *
    split
    · rename_i h2
      simp only [hE, List.length_map, std_lss, std_leq, std_gtr, std_geq, std_eql, std_neq, std_len, std_add, std_subI, std_mulI, std_ssize, std_not, std_band, std_bcmp, std_nat, std_ofNat, std_nadd, std_nsub, IntKind.wrap_i64, decide_eq_true_eq, decide_eq_false_iff_not, Bool.not_eq_true', Bool.not_eq_false', Option.getD_none, Option.getD_some, hn] at h2
      have hj' : j < n := by omega
      have hjl : j < (mkRowS k n).length := by rw [mkRowS_length]; exact hj'
      cbv
      try simp only [nc] at *
      repeat (refine And.intro (by first | (simp only [hE]; exact rd_inR hx hi hjl) | (simp only [hE, rd_elt hx hi hjl]; exact ⟨rfl⟩) | (simp only [hE, rd_elt hx hi hjl]; exact ⟨Nat.le_of_ble_eq_true rfl⟩)) ?_)
      obtain ⟨t, ht⟩ : ∃ t, t = mkText kj := ⟨_, rfl⟩
      rw [show qstr (qnth (qelt xs i) 0) = t by simp only [hE, rd_elt hx hi hjl]; show (mkRowS k n)[j] = t; rw [mkRowS_get, ht, ← hkj, ← hi]]
      refine ClW.dd (f := 13) rfl rfl rfl rfl (.cons rfl .nil) rfl e1 (t1 kj (by omega)) rfl ?_
      rw [← ht]
      cbv
      try simp only [nc] at *
      rw [show qscmp .neq t t = false by simp only [hE, std_sneq]; simp]
      cbv
      try simp only [nc] at *
      refine ⟨j + 1, by omega, by omega, ?_, by first | rfl | trivial⟩
      refine .cons rfl (.cons ?_ (.cons ?_ (.nil _)))
      · show AV.d (D.sc (Value.int IntKind.i64 (qbin .add .i64 kj 1))) = _
        rw [show qbin .add .i64 kj 1 = k + ((j + 1 : Nat) : Int) by simp only [hE, List.length_map, std_lss, std_leq, std_gtr, std_geq, std_eql, std_neq, std_len, std_add, std_subI, std_mulI, std_ssize, std_not, std_band, std_bcmp, std_nat, std_ofNat, std_nadd, std_nsub, IntKind.wrap_i64, decide_eq_true_eq, decide_eq_false_iff_not, Bool.not_eq_true', Bool.not_eq_false', Option.getD_none, Option.getD_some, ]; omega]
      · show AV.d (D.sc (Value.int IntKind.i64 (qbin .add .i64 i 1))) = _
        simp only [hE, i_next hi (by omega)]
    · rename_i h2
      simp only [hE, List.length_map, std_lss, std_leq, std_gtr, std_geq, std_eql, std_neq, std_len, std_add, std_subI, std_mulI, std_ssize, std_not, std_band, std_bcmp, std_nat, std_ofNat, std_nadd, std_nsub, IntKind.wrap_i64, decide_eq_true_eq, decide_eq_false_iff_not, Bool.not_eq_true', Bool.not_eq_false', Option.getD_none, Option.getD_some, hn] at h2
      cbv
      try simp only [nc] at *
      have hj' : j = n := by omega
      rw [← hQ]
      refine endD_val rfl (int_eq ?_)
      omega
end Go.Proofs.Ytbdlhemakfmadab.Ab
