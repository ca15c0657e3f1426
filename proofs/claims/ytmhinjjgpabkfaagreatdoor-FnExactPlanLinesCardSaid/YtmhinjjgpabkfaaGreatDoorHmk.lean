/- What functions of the program come to, for all arguments in the given bounds. -/
import Derived.Test.YtmhinjjgpabkfaaGreatDoorHsz
import Derived.Test.YtmhinjjgpabkfaaGreatDoorHto
import Derived.Test.YtmhinjjgpabkfaaGreatDoorHeq
set_option linter.unusedVariables false
set_option linter.unusedSimpArgs false
namespace Go.Proofs.YtmhinjjgpabkfaaGreatDoor.Ab
open Go Go.Proofs
set_option maxRecDepth 20000
set_option linter.unusedVariables false
theorem u8_wrapM {n : Int} (h0 : 0 ≤ n) (h1 : n < 256) : IntKind.u8.wrap n = n := by
  show (let m := n % (2 ^ 8 : Int); if false && decide (m ≥ (2 ^ 7 : Int)) then m - (2 ^ 8 : Int) else m) = n
  simp
  omega
theorem std_rem {k : IntKind} {a b : Int} (h0 : 0 ≤ a) (h1 : 0 < b) : std.bin .rem k a b = a % b := by
  show valInt (if b = 0 then none else some (.int k (a.tmod b))) = _
  rw [if_neg (by omega)]
  exact Int.tmod_eq_emod_of_nonneg h0
theorem std_quo {k : IntKind} {a b : Int} (h0 : 0 ≤ a) (h1 : 0 < b) : std.bin .quo k a b = k.wrap (a / b) := by
  show valInt (if b = 0 then none else some (.int k (k.wrap (a.tdiv b)))) = _
  rw [if_neg (by omega), Int.tdiv_eq_ediv_of_nonneg h0]
  rfl
def mkL (k : Nat) (out : List UInt8) : List UInt8 := if h : k = 0 then out else mkL (k / 10) (UInt8.ofNat (48 + k % 10) :: out)
termination_by k
decreasing_by omega
def mkText (k : Int) : ByteArray := if k ≤ 0 then tx [109, 48] else tx (109 :: mkL k.toNat [])
theorem mkL_zero (out : List UInt8) : mkL 0 out = out := by rw [mkL]; rfl
theorem mkL_next {k : Nat} (h : k ≠ 0) (out : List UInt8) : mkL (k / 10) (UInt8.ofNat (48 + k % 10) :: out) = mkL k out := by
  conv => rhs; rw [mkL, dif_neg h]
noncomputable def c80 : Code := (Tryz.f80.body).getD .skip
theorem ent80 : Entered Tryz.prog 80 := ⟨_, Tryz.func80, rfl, rfl⟩
theorem T80 (k : Int) (hk : k < 2 ^ 60) : CallOk Tryz.prog 80 [.d (.sc (.int .i64 k))] [] ⟨.d (.sc (.string (mkText k))), [], []⟩ := by
  refine CallOk.of_bodyD (body := c80) Tryz.func80 rfl (Nat.le_of_ble_eq_true (by kernel_rfl)) rfl ?_
  refine vc_ok tab_ok mixed ?_
  have hT := tab_ok
  have hm := mixed
  generalize hP : Tryz.prog = P at *
  generalize hA : std = A
  obtain ⟨qbin, qsh, qcmp, qscmp, qbcmp, qbnot, qneg, qwrap, qcat, qssize, qssub, qsget, qlen, qrsub, qapp, qelt, qset, qnth, qdrp, qstr, qint, qbool, qrow, qnat, qnadd, qnsub, qband, qofNat, qstrRow, qmkRow, qmx, qmn, qbytes, qemp⟩ := A
  have hE := Ar.eqs hA
  dsimp only at hE
  generalize hQ : EndD P Tryz.f80.results _ = Q
  cbv
  try simp only [nc] at *
  split
  · rename_i h
    simp only [hE, List.length_map, std_lss, std_leq, std_gtr, std_geq, std_eql, std_neq, std_len, std_add, std_subI, std_mulI, std_ssize, std_not, std_band, std_bcmp, std_nat, std_ofNat, std_nadd, std_nsub, std_emp, IntKind.wrap_i64, decide_eq_true_eq, decide_eq_false_iff_not, Bool.not_eq_true', Bool.not_eq_false', Option.getD_none, Option.getD_some] at h
    cbv
    try simp only [nc] at *
    rw [← hQ, show mkText k = tx [109, 48] from if_pos h]
    exact endD_one rfl rfl
  rename_i h
  simp only [hE, List.length_map, std_lss, std_leq, std_gtr, std_geq, std_eql, std_neq, std_len, std_add, std_subI, std_mulI, std_ssize, std_not, std_band, std_bcmp, std_nat, std_ofNat, std_nadd, std_nsub, std_emp, IntKind.wrap_i64, decide_eq_true_eq, decide_eq_false_iff_not, Bool.not_eq_true', Bool.not_eq_false', Option.getD_none, Option.getD_some] at h
  cbv
  try simp only [nc] at *
  refine LpW.ofN (κ := Nat × List UInt8) (fun p => mkL p.1 p.2 = mkL k.toNat [] ∧ p.1 + p.2.length ≤ k.toNat) (fun p => p.1) (fun p => [(0, .d (.sc (.int .i64 (p.1 : Nat)))), (3, .d (.sc (.string (tx p.2))))]) (fun _ => []) (k.toNat, []) 0 ⟨rfl, by simp⟩ ?_ (by first | rfl | trivial) (fun _ _ => ⟨rfl, rfl, rfl⟩) ?_
  · refine .cons ?_ (.cons rfl (.nil _))
    show AV.d (D.sc (Value.int IntKind.i64 k)) = .d (.sc (.int .i64 ((k.toNat : Nat) : Int)))
    rw [Int.toNat_of_nonneg (by omega)]
  · rintro ⟨n, out⟩ ⟨hn, hl⟩
    dsimp only at hn hl
    dsimp only
    generalize hs : tx out = s
    generalize hi : (n : Int) = i
    refine vc_ok hT hm ?_
    rw [hA]
    cbv
    try simp only [nc] at *
    split
    · rename_i h2
      simp only [hE, List.length_map, std_lss, std_leq, std_gtr, std_geq, std_eql, std_neq, std_len, std_add, std_subI, std_mulI, std_ssize, std_not, std_band, std_bcmp, std_nat, std_ofNat, std_nadd, std_nsub, std_emp, IntKind.wrap_i64, decide_eq_true_eq, decide_eq_false_iff_not, Bool.not_eq_true', Bool.not_eq_false', Option.getD_none, Option.getD_some] at h2
      cbv
      try simp only [nc] at *
      have hv : qwrap .u8 (qbin .add .i64 48 (qbin .rem .i64 i 10)) = ((UInt8.ofNat (48 + n % 10)).toNat : Int) := by
        simp only [hE, std_rem (show 0 ≤ i by omega) (show (0 : Int) < 10 by omega), std_add, std_wrapK]
        rw [wrap_in (by omega), u8_wrapM (by omega) (by omega), UInt8.toNat_ofNat']
        omega
      rw [hv]
      have hr : qrsub [[D.sc (Value.int IntKind.u8 ((UInt8.ofNat (48 + n % 10)).toNat : Int))]] (qofNat 0) (qofNat (qnadd 0 1)) = [UInt8.ofNat (48 + n % 10)].map cB := by simp only [hE]; rfl
      rw [hr]
      have hb : qbytes ([UInt8.ofNat (48 + n % 10)].map cB) = tx [UInt8.ofNat (48 + n % 10)] := by simp only [hE]; exact std_bytes _
      have hss : s.size = out.length := by rw [← hs, tx_size]
      refine ⟨⟨by omega⟩, ⟨by simp⟩, ok_bytes _, ?_, ⟨by omega⟩, (n / 10, UInt8.ofNat (48 + n % 10) :: out), ⟨?_, ?_⟩, ?_, ?_, by first | rfl | trivial⟩
      · rw [hb]
        refine ⟨?_⟩
        rw [tx_size]
        show (((1 + s.size : Nat)) : Int) ≤ 2 ^ 63 - 1
        omega
      · rw [← hn]
        exact mkL_next (by omega) out
      · simp only [List.length_cons]
        omega
      · show n / 10 < n
        omega
      · refine .cons ?_ (.cons ?_ (.nil _))
        · show AV.d (D.sc (Value.int IntKind.i64 (qbin .quo .i64 i 10))) = _
          simp only [hE, std_quo (show 0 ≤ i by omega) (show (0 : Int) < 10 by omega)]
          rw [wrap_in (by omega), show i / 10 = ((n / 10 : Nat) : Int) by omega]
        · show AV.d (D.sc (Value.string (qcat (qbytes ([UInt8.ofNat (48 + n % 10)].map cB)) s))) = _
          rw [hb, ← hs]
          simp only [hE, std_catx]
          rfl
    · rename_i h2
      simp only [hE, List.length_map, std_lss, std_leq, std_gtr, std_geq, std_eql, std_neq, std_len, std_add, std_subI, std_mulI, std_ssize, std_not, std_band, std_bcmp, std_nat, std_ofNat, std_nadd, std_nsub, std_emp, IntKind.wrap_i64, decide_eq_true_eq, decide_eq_false_iff_not, Bool.not_eq_true', Bool.not_eq_false', Option.getD_none, Option.getD_some] at h2
      cbv
      try simp only [nc] at *
      have hn0 : n = 0 := by omega
      subst hn0
      rw [mkL_zero] at hn
      have hss : s.size = out.length := by rw [← hs, tx_size]
      refine ⟨⟨?_⟩, ?_⟩
      · show (((1 + s.size : Nat)) : Int) ≤ 2 ^ 63 - 1
        omega
      rw [← hQ]
      refine endD_val rfl (str_eq ?_)
      rw [← hs, show mkText k = tx (109 :: mkL k.toNat []) from if_neg h, ← hn]
      simp only [hE]
      exact std_catx (a := [109]) (b := out)
def mkENodeS (k : Int) (j : Nat) : TNode := (⟨k + 3 * (j : Int) + 0, mkText (k + 3 * (j : Int) + 1), k + 3 * (j : Int) + 2⟩ : TNode)
def mkRowNodeS (k : Int) (n : Nat) : List TNode := (List.range n).map (mkENodeS k)
noncomputable def c78 : Code := (Tryz.f78.body).getD .skip
theorem ent78 : Entered Tryz.prog 78 := ⟨_, Tryz.func78, rfl, rfl⟩
theorem T78 {a : List TNode} {xs : List (List D)} (hx : a.map eNode = xs) {na : Nat} (hna : na = a.length) (ha : na < 2 ^ 40) (k : Int) (h0 : 0 ≤ k) (h1 : k < 2 ^ 50) :
    CallOk Tryz.prog 78 [.ref 0 0 na, .d (.sc (.int .i64 k))] [.row 3 false xs] ⟨.d (.sc (.int .i64 (k + 3 * (na : Int)))), [], [(0, .row 3 false ((mkRowNodeS k na).map eNode))]⟩ := by
  subst hna
  have e1 := ent80
  have t1 := @T80
  refine CallOk.of_body (body := c78) Tryz.func78 rfl (Nat.le_of_ble_eq_true (by kernel_rfl)) rfl rfl ?_
  refine vc_ok tab_ok mixed ?_
  have hT := tab_ok
  have hm := mixed
  generalize hP : Tryz.prog = P at *
  generalize hA : std = A
  obtain ⟨qbin, qsh, qcmp, qscmp, qbcmp, qbnot, qneg, qwrap, qcat, qssize, qssub, qsget, qlen, qrsub, qapp, qelt, qset, qnth, qdrp, qstr, qint, qbool, qrow, qnat, qnadd, qnsub, qband, qofNat, qstrRow, qmkRow, qmx, qmn, qbytes, qemp⟩ := A
  have hE := Ar.eqs hA
  dsimp only at hE
  generalize hQ : EndQ P Tryz.f78.results _ _ = Q
  generalize hm' : a.length = m
  cbv
  try simp only [nc] at *
  refine LpW.of (κ := Nat) (fun j => j ≤ a.length) (fun j => a.length - j) (fun j => [(0, .ref 0 0 m), (1, .d (.sc (.int .i64 (k + 3 * (j : Int))))), (5, .d (.sc (.int .i64 j)))]) (fun j => [.row 3 false ((mkd (mkENodeS k) a j).map eNode)]) 0 (by omega) ?_ ?_ ?_
  · refine .cons rfl (.cons ?_ (.cons rfl (.nil _)))
    show AV.d (.sc (.int .i64 k)) = .d (.sc (.int .i64 (k + 3 * ((0 : Nat) : Int))))
    rw [show k + 3 * ((0 : Nat) : Int) = k by omega]
  · show [Root.row 3 false xs] = [Root.row 3 false ((mkd (mkENodeS k) a 0).map eNode)]
    rw [← hx, mkd_zero]
  · intro j hj
    obtain ⟨l0, hl0⟩ : ∃ l, l = mkd (mkENodeS k) a j := ⟨_, rfl⟩
    rw [← hl0]
    have hll : l0.length = a.length := by rw [hl0]; exact mkd_length hj
    generalize hz0 : l0.map eNode = zs0
    generalize hi : (j : Int) = i
    generalize hk0 : k + 3 * i = kc0
    refine vc_ok hT hm ?_
    rw [hA]
    cbv
    try simp only [nc] at *
    split
    · rename_i h2
      simp only [hE, List.length_map, std_lss, std_leq, std_gtr, std_geq, std_eql, std_neq, std_len, std_add, std_subI, std_mulI, std_ssize, std_not, std_band, std_bcmp, std_nat, std_ofNat, std_nadd, std_nsub, std_emp, IntKind.wrap_i64, decide_eq_true_eq, decide_eq_false_iff_not, Bool.not_eq_true', Bool.not_eq_false', Option.getD_none, Option.getD_some] at h2
      have hj' : j < a.length := by omega
      have hjl0 : j < l0.length := by omega
      obtain ⟨w0, hw0⟩ : ∃ w, w = l0[j] := ⟨_, rfl⟩
      cbv
      try simp only [nc] at *
      obtain ⟨w1, hw1⟩ : ∃ w, w = { w0 with id_ := kc0 } := ⟨_, rfl⟩
      have hs0 : qset zs0 (qnadd 0 (qnat i)) 0 [D.sc (Value.int IntKind.i64 kc0)] = (l0.set j w1).map eNode := by
        simp only [hE]
        exact st_set hz0 hi hjl0 (by rw [← hw0, hw1]; rfl)
      obtain ⟨l1, hl1⟩ : ∃ l, l = l0.set j w1 := ⟨_, rfl⟩
      rw [← hl1] at hs0
      have hjl1 : j < l1.length := by rw [hl1, List.length_set]; exact hjl0
      have hw1' : w1 = l1[j] := by simp [hl1]
      have hk1 : qbin .add .i64 kc0 1 = kc0 + 1 := by simp only [hE, List.length_map, std_lss, std_leq, std_gtr, std_geq, std_eql, std_neq, std_len, std_add, std_subI, std_mulI, std_ssize, std_not, std_band, std_bcmp, std_nat, std_ofNat, std_nadd, std_nsub, std_emp, IntKind.wrap_i64, decide_eq_true_eq, decide_eq_false_iff_not, Bool.not_eq_true', Bool.not_eq_false', Option.getD_none, Option.getD_some, ]; omega
      generalize hkc1 : kc0 + 1 = kc1 at hk1
      rw [hs0, hk1]
      generalize hz1 : l1.map eNode = zs1
      refine ⟨by simp only [hE, List.length_map, std_lss, std_leq, std_gtr, std_geq, std_eql, std_neq, std_len, std_add, std_subI, std_mulI, std_ssize, std_not, std_band, std_bcmp, std_nat, std_ofNat, std_nadd, std_nsub, std_emp, IntKind.wrap_i64, decide_eq_true_eq, decide_eq_false_iff_not, Bool.not_eq_true', Bool.not_eq_false', Option.getD_none, Option.getD_some, ]; exact ⟨by omega, by omega⟩, by simp only [hE]; exact st_inR hz0 hi hjl0, by simp only [hE]; exact st_lenGe hz0 hi hjl0 (Nat.le_of_ble_eq_true rfl), ?_⟩
      refine ClW.dd (f := 80) rfl rfl rfl rfl (.cons rfl .nil) rfl e1 (t1 kc1 (by omega)) rfl ?_
      generalize ht1 : mkText kc1 = t1
      cbv
      try simp only [nc] at *
      obtain ⟨w2, hw2⟩ : ∃ w, w = { w1 with text_ := t1 } := ⟨_, rfl⟩
      have hs1 : qset zs1 (qnadd 0 (qnat i)) 1 [D.sc (Value.string t1)] = (l1.set j w2).map eNode := by
        simp only [hE]
        exact st_set hz1 hi hjl1 (by rw [← hw1', hw2]; rfl)
      obtain ⟨l2, hl2⟩ : ∃ l, l = l1.set j w2 := ⟨_, rfl⟩
      rw [← hl2] at hs1
      have hjl2 : j < l2.length := by rw [hl2, List.length_set]; exact hjl1
      have hw2' : w2 = l2[j] := by simp [hl2]
      have hk2 : qbin .add .i64 kc1 1 = kc1 + 1 := by simp only [hE, List.length_map, std_lss, std_leq, std_gtr, std_geq, std_eql, std_neq, std_len, std_add, std_subI, std_mulI, std_ssize, std_not, std_band, std_bcmp, std_nat, std_ofNat, std_nadd, std_nsub, std_emp, IntKind.wrap_i64, decide_eq_true_eq, decide_eq_false_iff_not, Bool.not_eq_true', Bool.not_eq_false', Option.getD_none, Option.getD_some, ]; omega
      generalize hkc2 : kc1 + 1 = kc2 at hk2
      rw [hs1, hk2]
      generalize hz2 : l2.map eNode = zs2
      refine ⟨by simp only [hE, List.length_map, std_lss, std_leq, std_gtr, std_geq, std_eql, std_neq, std_len, std_add, std_subI, std_mulI, std_ssize, std_not, std_band, std_bcmp, std_nat, std_ofNat, std_nadd, std_nsub, std_emp, IntKind.wrap_i64, decide_eq_true_eq, decide_eq_false_iff_not, Bool.not_eq_true', Bool.not_eq_false', Option.getD_none, Option.getD_some, ]; exact ⟨by omega, by omega⟩, by simp only [hE]; exact st_inR hz1 hi hjl1, by simp only [hE]; exact st_lenGe hz1 hi hjl1 (Nat.le_of_ble_eq_true rfl), ?_⟩
      obtain ⟨w3, hw3⟩ : ∃ w, w = { w2 with sure_ := kc2 } := ⟨_, rfl⟩
      have hs2 : qset zs2 (qnadd 0 (qnat i)) 2 [D.sc (Value.int IntKind.i64 kc2)] = (l2.set j w3).map eNode := by
        simp only [hE]
        exact st_set hz2 hi hjl2 (by rw [← hw2', hw3]; rfl)
      obtain ⟨l3, hl3⟩ : ∃ l, l = l2.set j w3 := ⟨_, rfl⟩
      rw [← hl3] at hs2
      have hjl3 : j < l3.length := by rw [hl3, List.length_set]; exact hjl2
      have hw3' : w3 = l3[j] := by simp [hl3]
      have hk3 : qbin .add .i64 kc2 1 = kc2 + 1 := by simp only [hE, List.length_map, std_lss, std_leq, std_gtr, std_geq, std_eql, std_neq, std_len, std_add, std_subI, std_mulI, std_ssize, std_not, std_band, std_bcmp, std_nat, std_ofNat, std_nadd, std_nsub, std_emp, IntKind.wrap_i64, decide_eq_true_eq, decide_eq_false_iff_not, Bool.not_eq_true', Bool.not_eq_false', Option.getD_none, Option.getD_some, ]; omega
      generalize hkc3 : kc2 + 1 = kc3 at hk3
      rw [hs2, hk3]
      generalize hz3 : l3.map eNode = zs3
      refine ⟨by simp only [hE, List.length_map, std_lss, std_leq, std_gtr, std_geq, std_eql, std_neq, std_len, std_add, std_subI, std_mulI, std_ssize, std_not, std_band, std_bcmp, std_nat, std_ofNat, std_nadd, std_nsub, std_emp, IntKind.wrap_i64, decide_eq_true_eq, decide_eq_false_iff_not, Bool.not_eq_true', Bool.not_eq_false', Option.getD_none, Option.getD_some, ]; exact ⟨by omega, by omega⟩, by simp only [hE]; exact st_inR hz2 hi hjl2, by simp only [hE]; exact st_lenGe hz2 hi hjl2 (Nat.le_of_ble_eq_true rfl), ?_⟩
      have hfin : l3 = mkd (mkENodeS k) a (j + 1) := by
        rw [← mkd_set hj', ← hl0, hl3, hl2, hl1]
        try simp only [List.set_set]
        congr 1
        rw [hw3, hw2, hw1]
        simp only [mkENodeS, hi]
        rw [← ht1]
        rw [show kc2 = k + 3 * i + 2 by omega]; rw [show kc1 = k + 3 * i + 1 by omega]; rw [show kc0 = k + 3 * i + 0 by omega]
      refine ⟨j + 1, by omega, by omega, ?_, ?_⟩
      · refine .cons rfl (.cons ?_ (.cons ?_ (.nil _)))
        · show AV.d (D.sc (Value.int IntKind.i64 kc3)) = .d (.sc (.int .i64 (k + 3 * ((j + 1 : Nat) : Int))))
          rw [show k + 3 * ((j + 1 : Nat) : Int) = kc3 by omega]
        · show AV.d (D.sc (Value.int IntKind.i64 (qbin .add .i64 i 1))) = _
          simp only [hE, i_next hi (by omega)]
      · show [Root.row 3 false zs3] = _
        rw [← hfin, hz3]
    · rename_i h2
      simp only [hE, List.length_map, std_lss, std_leq, std_gtr, std_geq, std_eql, std_neq, std_len, std_add, std_subI, std_mulI, std_ssize, std_not, std_band, std_bcmp, std_nat, std_ofNat, std_nadd, std_nsub, std_emp, IntKind.wrap_i64, decide_eq_true_eq, decide_eq_false_iff_not, Bool.not_eq_true', Bool.not_eq_false', Option.getD_none, Option.getD_some] at h2
      cbv
      try simp only [nc] at *
      have hj' : j = a.length := by omega
      subst hj'
      rw [mkd_end] at hl0
      rw [← hQ, ← hm']
      refine endP_row rfl ?_ ?_
      · rw [← hk0, hi]
      · show some (Root.row 3 false zs0) = _
        rw [← hz0, hl0]
        rfl
def mkEEntryS (k : Int) (j : Nat) : TEntry := (⟨mkText (k + 2 * (j : Int) + 0), k + 2 * (j : Int) + 1⟩ : TEntry)
def mkRowEntryS (k : Int) (n : Nat) : List TEntry := (List.range n).map (mkEEntryS k)
noncomputable def c79 : Code := (Tryz.f79.body).getD .skip
theorem ent79 : Entered Tryz.prog 79 := ⟨_, Tryz.func79, rfl, rfl⟩
theorem T79 {a : List TEntry} {xs : List (List D)} (hx : a.map eEntry = xs) {na : Nat} (hna : na = a.length) (ha : na < 2 ^ 40) (k : Int) (h0 : 0 ≤ k) (h1 : k < 2 ^ 50) :
    CallOk Tryz.prog 79 [.ref 0 0 na, .d (.sc (.int .i64 k))] [.row 2 false xs] ⟨.d (.sc (.int .i64 (k + 2 * (na : Int)))), [], [(0, .row 2 false ((mkRowEntryS k na).map eEntry))]⟩ := by
  subst hna
  have e1 := ent80
  have t1 := @T80
  refine CallOk.of_body (body := c79) Tryz.func79 rfl (Nat.le_of_ble_eq_true (by kernel_rfl)) rfl rfl ?_
  refine vc_ok tab_ok mixed ?_
  have hT := tab_ok
  have hm := mixed
  generalize hP : Tryz.prog = P at *
  generalize hA : std = A
  obtain ⟨qbin, qsh, qcmp, qscmp, qbcmp, qbnot, qneg, qwrap, qcat, qssize, qssub, qsget, qlen, qrsub, qapp, qelt, qset, qnth, qdrp, qstr, qint, qbool, qrow, qnat, qnadd, qnsub, qband, qofNat, qstrRow, qmkRow, qmx, qmn, qbytes, qemp⟩ := A
  have hE := Ar.eqs hA
  dsimp only at hE
  generalize hQ : EndQ P Tryz.f79.results _ _ = Q
  generalize hm' : a.length = m
  cbv
  try simp only [nc] at *
  refine LpW.of (κ := Nat) (fun j => j ≤ a.length) (fun j => a.length - j) (fun j => [(0, .ref 0 0 m), (1, .d (.sc (.int .i64 (k + 2 * (j : Int))))), (5, .d (.sc (.int .i64 j)))]) (fun j => [.row 2 false ((mkd (mkEEntryS k) a j).map eEntry)]) 0 (by omega) ?_ ?_ ?_
  · refine .cons rfl (.cons ?_ (.cons rfl (.nil _)))
    show AV.d (.sc (.int .i64 k)) = .d (.sc (.int .i64 (k + 2 * ((0 : Nat) : Int))))
    rw [show k + 2 * ((0 : Nat) : Int) = k by omega]
  · show [Root.row 2 false xs] = [Root.row 2 false ((mkd (mkEEntryS k) a 0).map eEntry)]
    rw [← hx, mkd_zero]
  · intro j hj
    obtain ⟨l0, hl0⟩ : ∃ l, l = mkd (mkEEntryS k) a j := ⟨_, rfl⟩
    rw [← hl0]
    have hll : l0.length = a.length := by rw [hl0]; exact mkd_length hj
    generalize hz0 : l0.map eEntry = zs0
    generalize hi : (j : Int) = i
    generalize hk0 : k + 2 * i = kc0
    refine vc_ok hT hm ?_
    rw [hA]
    cbv
    try simp only [nc] at *
    split
    · rename_i h2
      simp only [hE, List.length_map, std_lss, std_leq, std_gtr, std_geq, std_eql, std_neq, std_len, std_add, std_subI, std_mulI, std_ssize, std_not, std_band, std_bcmp, std_nat, std_ofNat, std_nadd, std_nsub, std_emp, IntKind.wrap_i64, decide_eq_true_eq, decide_eq_false_iff_not, Bool.not_eq_true', Bool.not_eq_false', Option.getD_none, Option.getD_some] at h2
      have hj' : j < a.length := by omega
      have hjl0 : j < l0.length := by omega
      obtain ⟨w0, hw0⟩ : ∃ w, w = l0[j] := ⟨_, rfl⟩
      cbv
      try simp only [nc] at *
      refine ClW.dd (f := 80) rfl rfl rfl rfl (.cons rfl .nil) rfl e1 (t1 kc0 (by omega)) rfl ?_
      generalize ht0 : mkText kc0 = t0
      cbv
      try simp only [nc] at *
      obtain ⟨w1, hw1⟩ : ∃ w, w = { w0 with name_ := t0 } := ⟨_, rfl⟩
      have hs0 : qset zs0 (qnadd 0 (qnat i)) 0 [D.sc (Value.string t0)] = (l0.set j w1).map eEntry := by
        simp only [hE]
        exact st_set hz0 hi hjl0 (by rw [← hw0, hw1]; rfl)
      obtain ⟨l1, hl1⟩ : ∃ l, l = l0.set j w1 := ⟨_, rfl⟩
      rw [← hl1] at hs0
      have hjl1 : j < l1.length := by rw [hl1, List.length_set]; exact hjl0
      have hw1' : w1 = l1[j] := by simp [hl1]
      have hk1 : qbin .add .i64 kc0 1 = kc0 + 1 := by simp only [hE, List.length_map, std_lss, std_leq, std_gtr, std_geq, std_eql, std_neq, std_len, std_add, std_subI, std_mulI, std_ssize, std_not, std_band, std_bcmp, std_nat, std_ofNat, std_nadd, std_nsub, std_emp, IntKind.wrap_i64, decide_eq_true_eq, decide_eq_false_iff_not, Bool.not_eq_true', Bool.not_eq_false', Option.getD_none, Option.getD_some, ]; omega
      generalize hkc1 : kc0 + 1 = kc1 at hk1
      rw [hs0, hk1]
      generalize hz1 : l1.map eEntry = zs1
      refine ⟨by simp only [hE, List.length_map, std_lss, std_leq, std_gtr, std_geq, std_eql, std_neq, std_len, std_add, std_subI, std_mulI, std_ssize, std_not, std_band, std_bcmp, std_nat, std_ofNat, std_nadd, std_nsub, std_emp, IntKind.wrap_i64, decide_eq_true_eq, decide_eq_false_iff_not, Bool.not_eq_true', Bool.not_eq_false', Option.getD_none, Option.getD_some, ]; exact ⟨by omega, by omega⟩, by simp only [hE]; exact st_inR hz0 hi hjl0, by simp only [hE]; exact st_lenGe hz0 hi hjl0 (Nat.le_of_ble_eq_true rfl), ?_⟩
      obtain ⟨w2, hw2⟩ : ∃ w, w = { w1 with id_ := kc1 } := ⟨_, rfl⟩
      have hs1 : qset zs1 (qnadd 0 (qnat i)) 1 [D.sc (Value.int IntKind.i64 kc1)] = (l1.set j w2).map eEntry := by
        simp only [hE]
        exact st_set hz1 hi hjl1 (by rw [← hw1', hw2]; rfl)
      obtain ⟨l2, hl2⟩ : ∃ l, l = l1.set j w2 := ⟨_, rfl⟩
      rw [← hl2] at hs1
      have hjl2 : j < l2.length := by rw [hl2, List.length_set]; exact hjl1
      have hw2' : w2 = l2[j] := by simp [hl2]
      have hk2 : qbin .add .i64 kc1 1 = kc1 + 1 := by simp only [hE, List.length_map, std_lss, std_leq, std_gtr, std_geq, std_eql, std_neq, std_len, std_add, std_subI, std_mulI, std_ssize, std_not, std_band, std_bcmp, std_nat, std_ofNat, std_nadd, std_nsub, std_emp, IntKind.wrap_i64, decide_eq_true_eq, decide_eq_false_iff_not, Bool.not_eq_true', Bool.not_eq_false', Option.getD_none, Option.getD_some, ]; omega
      generalize hkc2 : kc1 + 1 = kc2 at hk2
      rw [hs1, hk2]
      generalize hz2 : l2.map eEntry = zs2
      refine ⟨by simp only [hE, List.length_map, std_lss, std_leq, std_gtr, std_geq, std_eql, std_neq, std_len, std_add, std_subI, std_mulI, std_ssize, std_not, std_band, std_bcmp, std_nat, std_ofNat, std_nadd, std_nsub, std_emp, IntKind.wrap_i64, decide_eq_true_eq, decide_eq_false_iff_not, Bool.not_eq_true', Bool.not_eq_false', Option.getD_none, Option.getD_some, ]; exact ⟨by omega, by omega⟩, by simp only [hE]; exact st_inR hz1 hi hjl1, by simp only [hE]; exact st_lenGe hz1 hi hjl1 (Nat.le_of_ble_eq_true rfl), ?_⟩
      have hfin : l2 = mkd (mkEEntryS k) a (j + 1) := by
        rw [← mkd_set hj', ← hl0, hl2, hl1]
        try simp only [List.set_set]
        congr 1
        rw [hw2, hw1]
        simp only [mkEEntryS, hi]
        rw [← ht0]
        rw [show kc1 = k + 2 * i + 1 by omega]; rw [show kc0 = k + 2 * i + 0 by omega]
      refine ⟨j + 1, by omega, by omega, ?_, ?_⟩
      · refine .cons rfl (.cons ?_ (.cons ?_ (.nil _)))
        · show AV.d (D.sc (Value.int IntKind.i64 kc2)) = .d (.sc (.int .i64 (k + 2 * ((j + 1 : Nat) : Int))))
          rw [show k + 2 * ((j + 1 : Nat) : Int) = kc2 by omega]
        · show AV.d (D.sc (Value.int IntKind.i64 (qbin .add .i64 i 1))) = _
          simp only [hE, i_next hi (by omega)]
      · show [Root.row 2 false zs2] = _
        rw [← hfin, hz2]
    · rename_i h2
      simp only [hE, List.length_map, std_lss, std_leq, std_gtr, std_geq, std_eql, std_neq, std_len, std_add, std_subI, std_mulI, std_ssize, std_not, std_band, std_bcmp, std_nat, std_ofNat, std_nadd, std_nsub, std_emp, IntKind.wrap_i64, decide_eq_true_eq, decide_eq_false_iff_not, Bool.not_eq_true', Bool.not_eq_false', Option.getD_none, Option.getD_some] at h2
      cbv
      try simp only [nc] at *
      have hj' : j = a.length := by omega
      subst hj'
      rw [mkd_end] at hl0
      rw [← hQ, ← hm']
      refine endP_row rfl ?_ ?_
      · rw [← hk0, hi]
      · show some (Root.row 2 false zs0) = _
        rw [← hz0, hl0]
        rfl
def mkEStringS (k : Int) (j : Nat) : ByteArray := mkText (k + 1 * (j : Int) + 0)
def mkRowStringS (k : Int) (n : Nat) : List ByteArray := (List.range n).map (mkEStringS k)
theorem mkRowStringS_length {k : Int} {n : Nat} : (mkRowStringS k n).length = n := by simp [mkRowStringS]
noncomputable def c28 : Code := (Tryz.f28.body).getD .skip
theorem ent28 : Entered Tryz.prog 28 := ⟨_, Tryz.func28, rfl, rfl⟩
theorem T28 {a : List ByteArray} {xs : List (List D)} (hx : a.map cS = xs) {na : Nat} (hna : na = a.length) (ha : na < 2 ^ 40) (k : Int) (h0 : 0 ≤ k) (h1 : k < 2 ^ 50) :
    CallOk Tryz.prog 28 [.ref 0 0 na, .d (.sc (.int .i64 k))] [.row 1 false xs] ⟨.d (.sc (.int .i64 (k + 1 * (na : Int)))), [], [(0, .row 1 false ((mkRowStringS k na).map cS))]⟩ := by
  subst hna
  have e1 := ent80
  have t1 := @T80
  refine CallOk.of_body (body := c28) Tryz.func28 rfl (Nat.le_of_ble_eq_true (by kernel_rfl)) rfl rfl ?_
  refine vc_ok tab_ok mixed ?_
  have hT := tab_ok
  have hm := mixed
  generalize hP : Tryz.prog = P at *
  generalize hA : std = A
  obtain ⟨qbin, qsh, qcmp, qscmp, qbcmp, qbnot, qneg, qwrap, qcat, qssize, qssub, qsget, qlen, qrsub, qapp, qelt, qset, qnth, qdrp, qstr, qint, qbool, qrow, qnat, qnadd, qnsub, qband, qofNat, qstrRow, qmkRow, qmx, qmn, qbytes, qemp⟩ := A
  have hE := Ar.eqs hA
  dsimp only at hE
  generalize hQ : EndQ P Tryz.f28.results _ _ = Q
  generalize hm' : a.length = m
  cbv
  try simp only [nc] at *
  refine LpW.of (κ := Nat) (fun j => j ≤ a.length) (fun j => a.length - j) (fun j => [(0, .ref 0 0 m), (1, .d (.sc (.int .i64 (k + 1 * (j : Int))))), (5, .d (.sc (.int .i64 j)))]) (fun j => [.row 1 false ((mkd (mkEStringS k) a j).map cS)]) 0 (by omega) ?_ ?_ ?_
  · refine .cons rfl (.cons ?_ (.cons rfl (.nil _)))
    show AV.d (.sc (.int .i64 k)) = .d (.sc (.int .i64 (k + 1 * ((0 : Nat) : Int))))
    rw [show k + 1 * ((0 : Nat) : Int) = k by omega]
  · show [Root.row 1 false xs] = [Root.row 1 false ((mkd (mkEStringS k) a 0).map cS)]
    rw [← hx, mkd_zero]
  · intro j hj
    obtain ⟨l0, hl0⟩ : ∃ l, l = mkd (mkEStringS k) a j := ⟨_, rfl⟩
    rw [← hl0]
    have hll : l0.length = a.length := by rw [hl0]; exact mkd_length hj
    generalize hz0 : l0.map cS = zs0
    generalize hi : (j : Int) = i
    generalize hk0 : k + 1 * i = kc0
    refine vc_ok hT hm ?_
    rw [hA]
    cbv
    try simp only [nc] at *
    split
    · rename_i h2
      simp only [hE, List.length_map, std_lss, std_leq, std_gtr, std_geq, std_eql, std_neq, std_len, std_add, std_subI, std_mulI, std_ssize, std_not, std_band, std_bcmp, std_nat, std_ofNat, std_nadd, std_nsub, std_emp, IntKind.wrap_i64, decide_eq_true_eq, decide_eq_false_iff_not, Bool.not_eq_true', Bool.not_eq_false', Option.getD_none, Option.getD_some] at h2
      have hj' : j < a.length := by omega
      have hjl0 : j < l0.length := by omega
      obtain ⟨w0, hw0⟩ : ∃ w, w = l0[j] := ⟨_, rfl⟩
      cbv
      try simp only [nc] at *
      refine ClW.dd (f := 80) rfl rfl rfl rfl (.cons rfl .nil) rfl e1 (t1 kc0 (by omega)) rfl ?_
      generalize ht0 : mkText kc0 = t0
      cbv
      try simp only [nc] at *
      obtain ⟨w1, hw1⟩ : ∃ w, w = t0 := ⟨_, rfl⟩
      have hs0 : qset zs0 (qnadd 0 (qnat i)) 0 [D.sc (Value.string t0)] = (l0.set j w1).map cS := by
        simp only [hE]
        exact st_set hz0 hi hjl0 (by rw [← hw0, hw1]; rfl)
      obtain ⟨l1, hl1⟩ : ∃ l, l = l0.set j w1 := ⟨_, rfl⟩
      rw [← hl1] at hs0
      have hjl1 : j < l1.length := by rw [hl1, List.length_set]; exact hjl0
      have hw1' : w1 = l1[j] := by simp [hl1]
      have hk1 : qbin .add .i64 kc0 1 = kc0 + 1 := by simp only [hE, List.length_map, std_lss, std_leq, std_gtr, std_geq, std_eql, std_neq, std_len, std_add, std_subI, std_mulI, std_ssize, std_not, std_band, std_bcmp, std_nat, std_ofNat, std_nadd, std_nsub, std_emp, IntKind.wrap_i64, decide_eq_true_eq, decide_eq_false_iff_not, Bool.not_eq_true', Bool.not_eq_false', Option.getD_none, Option.getD_some, ]; omega
      generalize hkc1 : kc0 + 1 = kc1 at hk1
      rw [hs0, hk1]
      generalize hz1 : l1.map cS = zs1
      refine ⟨by simp only [hE, List.length_map, std_lss, std_leq, std_gtr, std_geq, std_eql, std_neq, std_len, std_add, std_subI, std_mulI, std_ssize, std_not, std_band, std_bcmp, std_nat, std_ofNat, std_nadd, std_nsub, std_emp, IntKind.wrap_i64, decide_eq_true_eq, decide_eq_false_iff_not, Bool.not_eq_true', Bool.not_eq_false', Option.getD_none, Option.getD_some, ]; exact ⟨by omega, by omega⟩, by simp only [hE]; exact st_inR hz0 hi hjl0, by simp only [hE]; exact st_lenGe hz0 hi hjl0 (Nat.le_of_ble_eq_true rfl), ?_⟩
      have hfin : l1 = mkd (mkEStringS k) a (j + 1) := by
        rw [← mkd_set hj', ← hl0, hl1]
        try simp only [List.set_set]
        congr 1
        rw [hw1]
        simp only [mkEStringS, hi]
        rw [← ht0]
        rw [show kc0 = k + 1 * i + 0 by omega]
      refine ⟨j + 1, by omega, by omega, ?_, ?_⟩
      · refine .cons rfl (.cons ?_ (.cons ?_ (.nil _)))
        · show AV.d (D.sc (Value.int IntKind.i64 kc1)) = .d (.sc (.int .i64 (k + 1 * ((j + 1 : Nat) : Int))))
          rw [show k + 1 * ((j + 1 : Nat) : Int) = kc1 by omega]
        · show AV.d (D.sc (Value.int IntKind.i64 (qbin .add .i64 i 1))) = _
          simp only [hE, i_next hi (by omega)]
      · show [Root.row 1 false zs1] = _
        rw [← hfin, hz1]
    · rename_i h2
      simp only [hE, List.length_map, std_lss, std_leq, std_gtr, std_geq, std_eql, std_neq, std_len, std_add, std_subI, std_mulI, std_ssize, std_not, std_band, std_bcmp, std_nat, std_ofNat, std_nadd, std_nsub, std_emp, IntKind.wrap_i64, decide_eq_true_eq, decide_eq_false_iff_not, Bool.not_eq_true', Bool.not_eq_false', Option.getD_none, Option.getD_some] at h2
      cbv
      try simp only [nc] at *
      have hj' : j = a.length := by omega
      subst hj'
      rw [mkd_end] at hl0
      rw [← hQ, ← hm']
      refine endP_row rfl ?_ ?_
      · rw [← hk0, hi]
      · show some (Root.row 1 false zs0) = _
        rw [← hz0, hl0]
        rfl
end Go.Proofs.YtmhinjjgpabkfaaGreatDoor.Ab
