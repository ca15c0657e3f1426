/- What functions of the program come to, for all arguments in the given bounds. -/
import Derived.Test.YtamdgfklbjoaiaaFU
set_option linter.unusedVariables false
set_option linter.unusedSimpArgs false
namespace Go.Proofs.Ytamdgfklbjoaiaa.Ab
open Go Go.Proofs
set_option maxRecDepth 20000
/-! Numbers as bytes. -/
theorem u8_wrapN {m : Nat} : IntKind.u8.wrap (m : Int) = ((m % 256 : Nat) : Int) := by
  show (let x := (m : Int) % (2 ^ 8 : Int); if false && decide (x ≥ (2 ^ 7 : Int)) then x - (2 ^ 8 : Int) else x) = _
  simp
theorem shrN {n b : Nat} (hb : b ≤ 64) : std.sh .shr .i64 (n : Int) (b : Int) = ((n / 2 ^ b : Nat) : Int) := by
  show Int.fdiv (n : Int) (2 ^ (min (b : Int).toNat 64)) = _
  rw [show min (b : Int).toNat 64 = b by omega, Int.fdiv_eq_ediv_of_nonneg _ (Int.le_of_lt (Int.pow_pos (by omega)))]
  rw [Int.natCast_ediv, Int.natCast_pow]
  rfl
def fixL (n w : Nat) : List UInt8 := (List.range w).map fun i => UInt8.ofNat (n / 2 ^ (8 * i) % 256)
theorem fixL_length {n w : Nat} : (fixL n w).length = w := by simp [fixL]
theorem fixL_succ {n k : Nat} : fixL n (k + 1) = fixL n k ++ [UInt8.ofNat (n / 2 ^ (8 * k) % 256)] := by
  unfold fixL
  rw [List.range_succ, List.map_append]
  rfl
theorem fixL_get {n w k : Nat} (h : k < (fixL n w).length) : (fixL n w)[k] = UInt8.ofNat (n / 2 ^ (8 * k) % 256) := by simp [fixL]
theorem div_next {n k : Nat} : n / 2 ^ (8 * k) / 256 = n / 2 ^ (8 * (k + 1)) := by
  rw [Nat.div_div_eq_div_mul, show 8 * (k + 1) = 8 * k + 8 by omega, Nat.pow_add]
theorem byte_of {m : Nat} : (((UInt8.ofNat (m % 256)).toNat : Nat) : Int) = ((m % 256 : Nat) : Int) := by
  rw [UInt8.toNat_ofNat']
  omega
def rFix (n w : Int) : ByteArray := if 0 ≤ n ∧ 1 ≤ w ∧ w ≤ 8 ∧ n.toNat / 2 ^ (8 * w.toNat) = 0 then tx (fixL n.toNat w.toNat) else tx []
noncomputable def c108 : Code := (Try.f108.body).getD .skip
theorem ent108 : Entered Try.prog 108 := ⟨_, Try.func108, rfl, rfl⟩
noncomputable def c116 : Code := (Try.f116.body).getD .skip
theorem ent116 : Entered Try.prog 116 := ⟨_, Try.func116, rfl, rfl⟩
theorem T108 {n w : Int} (hn : wfI n) (hw : wfI w) : CallOk Try.prog 108 [.d (.sc (.int .i64 n)), .d (.sc (.int .i64 w))] [] ⟨.d (.sc (.string (rFix n w))), [], []⟩ := by
  have e1 := ent95
  have t1 := @T95
  obtain ⟨hn0, hn1⟩ := hn
  obtain ⟨r, hr⟩ : ∃ r, r = rFix n w := ⟨_, rfl⟩
  rw [← hr]
  refine CallOk.of_bodyD (body := c108) Try.func108 rfl (Nat.le_of_ble_eq_true (by kernel_rfl)) rfl ?_
  refine vc_ok tab_ok mixed ?_
  have hT := tab_ok
  have hm := mixed
  generalize hP : Try.prog = P at *
  generalize hA : std = A
  obtain ⟨qbin, qsh, qcmp, qscmp, qbcmp, qbnot, qneg, qwrap, qcat, qssize, qssub, qsget, qlen, qrsub, qapp, qelt, qset, qnth, qdrp, qstr, qint, qbool, qrow, qnat, qnadd, qnsub, qband, qofNat, qstrRow, qmkRow, qmx, qmn, qbytes, qemp⟩ := A
  have hE := Ar.eqs hA
  dsimp only at hE
  generalize hQ : EndD P Try.f108.results _ = Q
  cbv
  try simp only [nc] at *
  split
  · rename_i h
    simp only [hE, List.length_map, std_lss, std_leq, std_gtr, std_geq, std_eql, std_neq, std_len, std_add, std_subI, std_mulI, std_ssize, std_not, std_band, std_bcmp, std_nat, std_ofNat, std_nadd, std_nsub, std_emp, IntKind.wrap_i64, decide_eq_true_eq, decide_eq_false_iff_not, Bool.not_eq_true', Bool.not_eq_false', Option.getD_none, Option.getD_some] at h
    cbv
    try simp only [nc] at *
    rw [← hQ, hr, show rFix n w = tx [] from if_neg (by omega)]
    exact endD_one rfl rfl
  rename_i h
  simp only [hE, List.length_map, std_lss, std_leq, std_gtr, std_geq, std_eql, std_neq, std_len, std_add, std_subI, std_mulI, std_ssize, std_not, std_band, std_bcmp, std_nat, std_ofNat, std_nadd, std_nsub, std_emp, IntKind.wrap_i64, decide_eq_true_eq, decide_eq_false_iff_not, Bool.not_eq_true', Bool.not_eq_false', Option.getD_none, Option.getD_some] at h
  cbv
  try simp only [nc] at *
  refine ClW.dd (f := 95) rfl rfl rfl rfl (.cons rfl (.cons rfl (.cons rfl .nil))) rfl e1 (t1 w 1 8) rfl ?_
  cases hb : decide (1 ≤ w ∧ w ≤ 8) with
  | false =>
    have hc := of_decide_eq_false hb
    cbv
    try simp only [nc] at *
    rw [show qbnot false = true by simp only [hE, std_not]; rfl]
    cbv
    try simp only [nc] at *
    rw [← hQ, hr, show rFix n w = tx [] from if_neg (by omega)]
    exact endD_one rfl rfl
  | true =>
    have hc := of_decide_eq_true hb
    cbv
    try simp only [nc] at *
    rw [show qbnot true = false by simp only [hE, std_not]; rfl]
    cbv
    try simp only [nc] at *
    obtain ⟨nn, hnn⟩ : ∃ k : Nat, (k : Int) = n := ⟨n.toNat, by omega⟩
    obtain ⟨ww, hww⟩ : ∃ k : Nat, (k : Int) = w := ⟨w.toNat, by omega⟩
    have hrf : r = if nn / 2 ^ (8 * ww) = 0 then tx (fixL nn ww) else tx [] := by
      rw [hr]
      unfold rFix
      rw [← hnn, ← hww, Int.toNat_natCast, Int.toNat_natCast]
      by_cases hz : nn / 2 ^ (8 * ww) = 0
      · rw [if_pos ⟨by omega, by omega, by omega, hz⟩, if_pos hz]
      · rw [if_neg (fun h => hz h.2.2.2), if_neg hz]
    refine LpW.app 0 rfl (κ := Nat) (fun k => k ≤ ww) (fun k => ww - k) (fun k => [(0, .d (.sc (.int .i64 (nn / 2 ^ (8 * k) : Nat)))), (1, .d (.sc (.int .i64 w))), (5, .ref 1 0 k), (6, .d (.sc (.int .i64 k)))]) (fun k => [.dead] ++ [.row 1 false ((fixL nn k).map cB)]) 0 1 rfl (by omega) ?_ rfl ?_
    · refine .cons ?_ (.cons rfl (.cons rfl (.cons rfl (.nil _))))
      show AV.d (.sc (.int .i64 n)) = .d (.sc (.int .i64 ((nn / 2 ^ (8 * 0) : Nat) : Int)))
      rw [← hnn]
      simp
    · intro k hk
      generalize hz : (fixL nn k).map cB = zs
      have hzl : zs.length = k := by rw [← hz, List.length_map, fixL_length]
      have hdn := div_next (n := nn) (k := k)
      have hml : nn / 2 ^ (8 * k) ≤ nn := Nat.div_le_self _ _
      obtain ⟨m, hm2⟩ : ∃ m, m = nn / 2 ^ (8 * k) := ⟨_, rfl⟩
      rw [← hm2] at hdn hml ⊢
      generalize hmi : (m : Int) = mi
      generalize hi : (k : Int) = i
      refine vc_ok hT hm ?_
      rw [hA]
      cbv
      try simp only [nc] at *
      split
      · rename_i h3
        simp only [hE, List.length_map, std_lss, std_leq, std_gtr, std_geq, std_eql, std_neq, std_len, std_add, std_subI, std_mulI, std_ssize, std_not, std_band, std_bcmp, std_nat, std_ofNat, std_nadd, std_nsub, std_emp, IntKind.wrap_i64, decide_eq_true_eq, decide_eq_false_iff_not, Bool.not_eq_true', Bool.not_eq_false', Option.getD_none, Option.getD_some] at h3
        have hv : qwrap .u8 mi = (((UInt8.ofNat (m % 256)).toNat : Nat) : Int) := by
          simp only [hE, std_wrapK]
          rw [← hmi, u8_wrapN, byte_of]
        have hsh : qsh .shr .i64 mi 8 = ((m / 256 : Nat) : Int) := by
          simp only [hE]
          rw [← hmi]
          exact shrN (b := 8) (by omega)
        cbv
        try simp only [nc] at *
        rw [hv]
        have hr2 : qrsub [[D.sc (Value.int IntKind.u8 (((UInt8.ofNat (m % 256)).toNat : Nat) : Int))]] (qofNat 0) (qofNat (qnadd 0 1)) = [UInt8.ofNat (m % 256)].map cB := by simp only [hE]; rfl
        rw [hr2]
        have ha : qapp zs ([UInt8.ofNat (m % 256)].map cB) = (fixL nn (k + 1)).map cB := by
          rw [fixL_succ, List.map_append, hz, ← hm2]
          simp only [hE, std_app]
        have hN : qnat (qlen (qapp zs ([UInt8.ofNat (m % 256)].map cB))) = k + 1 := by
          rw [ha]
          simp only [hE, std_len, std_nat, List.length_map, fixL_length, Int.toNat_natCast]
        refine ⟨?_, ⟨by simp⟩, ⟨by omega⟩, k + 1, by omega, by omega, RoundEnd.one (r := 3) (by omega) rfl rfl rfl ha (.cons ?_ (.cons rfl (.cons ?_ (.cons ?_ .nil))))⟩
        · exact ⟨rfl, hzl.symm, by simp only [List.length_map, List.length_cons, List.length_nil]; omega, by simp only [List.length_map, List.length_cons, List.length_nil]; omega⟩
        · show some (AV.d (D.sc (Value.int IntKind.i64 (qsh .shr .i64 mi 8)))) = _
          rw [hsh, hdn]
        · show some (AV.ref 1 0 (qnat (qlen (qapp zs ([UInt8.ofNat (m % 256)].map cB))))) = _
          rw [hN]
        · show some (AV.d (D.sc (Value.int IntKind.i64 (qbin .add .i64 i 1)))) = _
          simp only [hE, i_next hi (by omega)]
      · rename_i h3
        simp only [hE, List.length_map, std_lss, std_leq, std_gtr, std_geq, std_eql, std_neq, std_len, std_add, std_subI, std_mulI, std_ssize, std_not, std_band, std_bcmp, std_nat, std_ofNat, std_nadd, std_nsub, std_emp, IntKind.wrap_i64, decide_eq_true_eq, decide_eq_false_iff_not, Bool.not_eq_true', Bool.not_eq_false', Option.getD_none, Option.getD_some] at h3
        cbv
        try simp only [nc] at *
        have hkw : k = ww := by omega
        subst hkw
        split
        · rename_i h4
          simp only [hE, List.length_map, std_lss, std_leq, std_gtr, std_geq, std_eql, std_neq, std_len, std_add, std_subI, std_mulI, std_ssize, std_not, std_band, std_bcmp, std_nat, std_ofNat, std_nadd, std_nsub, std_emp, IntKind.wrap_i64, decide_eq_true_eq, decide_eq_false_iff_not, Bool.not_eq_true', Bool.not_eq_false', Option.getD_none, Option.getD_some] at h4
          cbv
          try simp only [nc] at *
          rw [← hQ, hrf, if_neg (by omega)]
          exact endD_one rfl rfl
        · rename_i h4
          simp only [hE, List.length_map, std_lss, std_leq, std_gtr, std_geq, std_eql, std_neq, std_len, std_add, std_subI, std_mulI, std_ssize, std_not, std_band, std_bcmp, std_nat, std_ofNat, std_nadd, std_nsub, std_emp, IntKind.wrap_i64, decide_eq_true_eq, decide_eq_false_iff_not, Bool.not_eq_true', Bool.not_eq_false', Option.getD_none, Option.getD_some] at h4
          cbv
          try simp only [nc] at *
          have hr3 : qrsub zs (qofNat 0) (qofNat (qnadd 0 k)) = (fixL nn k).map cB := by
            simp only [hE]
            show (zs.drop 0).take (0 + k - 0) = _
            rw [List.drop_zero, List.take_of_length_le (by omega), ← hz]
          rw [hr3]
          refine ⟨⟨by omega⟩, ok_bytes _, ?_⟩
          rw [← hQ, hrf, if_pos (by omega)]
          refine endD_val rfl (str_eq ?_)
          simp only [hE]
          exact std_bytes _
theorem T116 {n w : Int} (hn : wfI n) (hw : wfI w) : CallOk Try.prog 116 [.d (.sc (.int .i64 n)), .d (.sc (.int .i64 w))] [] ⟨.d (.sc (.string (rFix n w))), [], []⟩ := by
  have e1 := ent56
  have t1 := @T56
  obtain ⟨hn0, hn1⟩ := hn
  obtain ⟨r, hr⟩ : ∃ r, r = rFix n w := ⟨_, rfl⟩
  rw [← hr]
  refine CallOk.of_bodyD (body := c116) Try.func116 rfl (Nat.le_of_ble_eq_true (by kernel_rfl)) rfl ?_
  refine vc_ok tab_ok mixed ?_
  have hT := tab_ok
  have hm := mixed
  generalize hP : Try.prog = P at *
  generalize hA : std = A
  obtain ⟨qbin, qsh, qcmp, qscmp, qbcmp, qbnot, qneg, qwrap, qcat, qssize, qssub, qsget, qlen, qrsub, qapp, qelt, qset, qnth, qdrp, qstr, qint, qbool, qrow, qnat, qnadd, qnsub, qband, qofNat, qstrRow, qmkRow, qmx, qmn, qbytes, qemp⟩ := A
  have hE := Ar.eqs hA
  dsimp only at hE
  generalize hQ : EndD P Try.f116.results _ = Q
  cbv
  try simp only [nc] at *
  split
  · rename_i h
    simp only [hE, List.length_map, std_lss, std_leq, std_gtr, std_geq, std_eql, std_neq, std_len, std_add, std_subI, std_mulI, std_ssize, std_not, std_band, std_bcmp, std_nat, std_ofNat, std_nadd, std_nsub, std_emp, IntKind.wrap_i64, decide_eq_true_eq, decide_eq_false_iff_not, Bool.not_eq_true', Bool.not_eq_false', Option.getD_none, Option.getD_some] at h
    cbv
    try simp only [nc] at *
    rw [← hQ, hr, show rFix n w = tx [] from if_neg (by omega)]
    exact endD_one rfl rfl
  rename_i h
  simp only [hE, List.length_map, std_lss, std_leq, std_gtr, std_geq, std_eql, std_neq, std_len, std_add, std_subI, std_mulI, std_ssize, std_not, std_band, std_bcmp, std_nat, std_ofNat, std_nadd, std_nsub, std_emp, IntKind.wrap_i64, decide_eq_true_eq, decide_eq_false_iff_not, Bool.not_eq_true', Bool.not_eq_false', Option.getD_none, Option.getD_some] at h
  cbv
  try simp only [nc] at *
  refine ClW.dd (f := 56) rfl rfl rfl rfl (.cons rfl (.cons rfl (.cons rfl .nil))) rfl e1 (t1 w 1 8) rfl ?_
  cases hb : decide (1 ≤ w ∧ w ≤ 8) with
  | false =>
    have hc := of_decide_eq_false hb
    cbv
    try simp only [nc] at *
    rw [show qbnot false = true by simp only [hE, std_not]; rfl]
    cbv
    try simp only [nc] at *
    rw [← hQ, hr, show rFix n w = tx [] from if_neg (by omega)]
    exact endD_one rfl rfl
  | true =>
    have hc := of_decide_eq_true hb
    cbv
    try simp only [nc] at *
    rw [show qbnot true = false by simp only [hE, std_not]; rfl]
    cbv
    try simp only [nc] at *
    obtain ⟨nn, hnn⟩ : ∃ k : Nat, (k : Int) = n := ⟨n.toNat, by omega⟩
    obtain ⟨ww, hww⟩ : ∃ k : Nat, (k : Int) = w := ⟨w.toNat, by omega⟩
    have hrf : r = if nn / 2 ^ (8 * ww) = 0 then tx (fixL nn ww) else tx [] := by
      rw [hr]
      unfold rFix
      rw [← hnn, ← hww, Int.toNat_natCast, Int.toNat_natCast]
      by_cases hz : nn / 2 ^ (8 * ww) = 0
      · rw [if_pos ⟨by omega, by omega, by omega, hz⟩, if_pos hz]
      · rw [if_neg (fun h => hz h.2.2.2), if_neg hz]
    split
    · rename_i h5
      simp only [hE, List.length_map, std_lss, std_leq, std_gtr, std_geq, std_eql, std_neq, std_len, std_add, std_subI, std_mulI, std_ssize, std_not, std_band, std_bcmp, std_nat, std_ofNat, std_nadd, std_nsub, std_emp, IntKind.wrap_i64, decide_eq_true_eq, decide_eq_false_iff_not, Bool.not_eq_true', Bool.not_eq_false', Option.getD_none, Option.getD_some] at h5
      have hm8 : qbin .mul .i64 8 w = ((8 * ww : Nat) : Int) := by simp only [hE, List.length_map, std_lss, std_leq, std_gtr, std_geq, std_eql, std_neq, std_len, std_add, std_subI, std_mulI, std_ssize, std_not, std_band, std_bcmp, std_nat, std_ofNat, std_nadd, std_nsub, std_emp, IntKind.wrap_i64, decide_eq_true_eq, decide_eq_false_iff_not, Bool.not_eq_true', Bool.not_eq_false', Option.getD_none, Option.getD_some, ]; omega
      have hsh : qsh .shr .i64 n ((8 * ww : Nat) : Int) = ((nn / 2 ^ (8 * ww) : Nat) : Int) := by
        simp only [hE]
        rw [← hnn]
        exact shrN (by omega)
      cbv
      try simp only [nc] at *
      rw [hm8, hsh]
      refine ⟨⟨by omega⟩, ?_⟩
      generalize hq : ((nn / 2 ^ (8 * ww) : Nat) : Int) = q at *
      split
      · rename_i h6
        simp only [hE, List.length_map, std_lss, std_leq, std_gtr, std_geq, std_eql, std_neq, std_len, std_add, std_subI, std_mulI, std_ssize, std_not, std_band, std_bcmp, std_nat, std_ofNat, std_nadd, std_nsub, std_emp, IntKind.wrap_i64, decide_eq_true_eq, decide_eq_false_iff_not, Bool.not_eq_true', Bool.not_eq_false', Option.getD_none, Option.getD_some] at h6
        cbv
        try simp only [nc] at *
        rw [← hQ, hrf, if_neg (by omega)]
        exact endD_one rfl rfl
      · rename_i h6
        simp only [hE, List.length_map, std_lss, std_leq, std_gtr, std_geq, std_eql, std_neq, std_len, std_add, std_subI, std_mulI, std_ssize, std_not, std_band, std_bcmp, std_nat, std_ofNat, std_nadd, std_nsub, std_emp, IntKind.wrap_i64, decide_eq_true_eq, decide_eq_false_iff_not, Bool.not_eq_true', Bool.not_eq_false', Option.getD_none, Option.getD_some] at h6
        have hzero : nn / 2 ^ (8 * ww) = 0 := by omega
        cbv
        try simp only [nc] at *
        refine ⟨?_, ?_⟩
        · (try simp only [hE, List.length_map, std_lss, std_leq, std_gtr, std_geq, std_eql, std_neq, std_len, std_add, std_subI, std_mulI, std_ssize, std_not, std_band, std_bcmp, std_nat, std_ofNat, std_nadd, std_nsub, std_emp, IntKind.wrap_i64, decide_eq_true_eq, decide_eq_false_iff_not, Bool.not_eq_true', Bool.not_eq_false', Option.getD_none, Option.getD_some, ]); exact ⟨by omega, by omega, by omega, by omega⟩
        have hfl : (fixL nn ww).length = ww := fixL_length
        refine LpW.of (κ := Nat) (fun k => k ≤ ww) (fun k => ww - k) (fun k => [(0, .d (.sc (.int .i64 n))), (5, .ref 0 0 ww), (28, .d (.sc (.int .i64 w))), (29, .d (.sc (.int .i64 k)))]) (fun k => [.row 1 false (cpRow cB (fixL nn ww) [.sc (.int .u8 0)] k)]) 0 (by omega) ?_ ?_ ?_
        · refine .cons rfl (.cons ?_ (.cons ?_ (.cons rfl (.nil _))))
          · show AV.ref 0 0 (qnat w) = _
            simp only [hE, std_nat, ← hww, Int.toNat_natCast]
          · show AV.d (D.sc (Value.int IntKind.i64 (qofNat (qnat w)))) = _
            simp only [hE, std_nat, std_ofNat]
            rw [Int.toNat_of_nonneg (by omega)]
        · show [Root.row 1 false (qmkRow w [.sc (.int .u8 0)])] = _
          rw [cp_zero, hfl]
          simp only [hE, ← hww]
          rfl
        · intro k hk
          generalize hz : cpRow cB (fixL nn ww) [.sc (.int .u8 0)] k = zs
          generalize hi : (k : Int) = i
          refine vc_ok hT hm ?_
          rw [hA]
          cbv
          try simp only [nc] at *
          split
          · rename_i h3
            simp only [hE, List.length_map, std_lss, std_leq, std_gtr, std_geq, std_eql, std_neq, std_len, std_add, std_subI, std_mulI, std_ssize, std_not, std_band, std_bcmp, std_nat, std_ofNat, std_nadd, std_nsub, std_emp, IntKind.wrap_i64, decide_eq_true_eq, decide_eq_false_iff_not, Bool.not_eq_true', Bool.not_eq_false', Option.getD_none, Option.getD_some] at h3
            have hk' : k < (fixL nn ww).length := by omega
            have hm8 : qbin .mul .i64 8 i = ((8 * k : Nat) : Int) := by simp only [hE, List.length_map, std_lss, std_leq, std_gtr, std_geq, std_eql, std_neq, std_len, std_add, std_subI, std_mulI, std_ssize, std_not, std_band, std_bcmp, std_nat, std_ofNat, std_nadd, std_nsub, std_emp, IntKind.wrap_i64, decide_eq_true_eq, decide_eq_false_iff_not, Bool.not_eq_true', Bool.not_eq_false', Option.getD_none, Option.getD_some, ]; omega
            have hsh : qsh .shr .i64 n ((8 * k : Nat) : Int) = ((nn / 2 ^ (8 * k) : Nat) : Int) := by
              simp only [hE]
              rw [← hnn]
              exact shrN (by omega)
            have hv : qwrap .u8 ((nn / 2 ^ (8 * k) : Nat) : Int) = ((((fixL nn ww)[k]).toNat : Nat) : Int) := by
              simp only [hE, std_wrapK]
              rw [u8_wrapN, fixL_get hk', byte_of]
            cbv
            try simp only [nc] at *
            rw [hm8, hsh, hv]
            refine ⟨⟨by omega⟩, ?_, ?_, ?_, k + 1, by omega, by omega, ?_, ?_⟩
            · simp only [hE, List.length_map, std_lss, std_leq, std_gtr, std_geq, std_eql, std_neq, std_len, std_add, std_subI, std_mulI, std_ssize, std_not, std_band, std_bcmp, std_nat, std_ofNat, std_nadd, std_nsub, std_emp, IntKind.wrap_i64, decide_eq_true_eq, decide_eq_false_iff_not, Bool.not_eq_true', Bool.not_eq_false', Option.getD_none, Option.getD_some, ]; exact ⟨by omega, by omega⟩
            · simp only [hE]; exact cp_inR hk' hz hi
            · simp only [hE]; exact cp_lenGe hk' hz hi (Nat.le_refl _)
            · refine .cons rfl (.cons rfl (.cons rfl (.cons ?_ (.nil _))))
              show AV.d (D.sc (Value.int IntKind.i64 (qbin .add .i64 i 1))) = _
              simp only [hE, i_next hi (by omega)]
            · show [Root.row 1 false (qset zs (qnadd 0 (qnat i)) 0 [.sc (.int .u8 ((((fixL nn ww)[k]).toNat : Nat) : Int))])] = _
              rw [show qset zs (qnadd 0 (qnat i)) 0 [.sc (.int .u8 ((((fixL nn ww)[k]).toNat : Nat) : Int))] = cpRow cB (fixL nn ww) [.sc (.int .u8 0)] (k + 1) by simp only [hE]; exact cp_set hk' hz hi rfl]
          · rename_i h3
            simp only [hE, List.length_map, std_lss, std_leq, std_gtr, std_geq, std_eql, std_neq, std_len, std_add, std_subI, std_mulI, std_ssize, std_not, std_band, std_bcmp, std_nat, std_ofNat, std_nadd, std_nsub, std_emp, IntKind.wrap_i64, decide_eq_true_eq, decide_eq_false_iff_not, Bool.not_eq_true', Bool.not_eq_false', Option.getD_none, Option.getD_some] at h3
            cbv
            try simp only [nc] at *
            have hkw : k = (fixL nn ww).length := by omega
            rw [hkw, cp_end] at hz
            have hr3 : qrsub zs (qofNat 0) (qofNat (qnadd 0 ww)) = (fixL nn ww).map cB := by
              simp only [hE]
              show (zs.drop 0).take (0 + ww - 0) = _
              rw [List.drop_zero, List.take_of_length_le (by rw [← hz, List.length_map]; omega), ← hz]
            rw [hr3]
            refine ⟨⟨by rw [← hz, List.length_map]; omega⟩, ok_bytes _, ?_⟩
            rw [← hQ, hrf, if_pos hzero]
            refine endD_val rfl (str_eq ?_)
            simp only [hE]
            exact std_bytes _
    · rename_i h5
      simp only [hE, List.length_map, std_lss, std_leq, std_gtr, std_geq, std_eql, std_neq, std_len, std_add, std_subI, std_mulI, std_ssize, std_not, std_band, std_bcmp, std_nat, std_ofNat, std_nadd, std_nsub, std_emp, IntKind.wrap_i64, decide_eq_true_eq, decide_eq_false_iff_not, Bool.not_eq_true', Bool.not_eq_false', Option.getD_none, Option.getD_some] at h5
      have hzero : nn / 2 ^ (8 * ww) = 0 := by
        rw [show ww = 8 by omega]
        exact Nat.div_eq_of_lt (by omega)
      cbv
      try simp only [nc] at *
      refine ⟨?_, ?_⟩
      · (try simp only [hE, List.length_map, std_lss, std_leq, std_gtr, std_geq, std_eql, std_neq, std_len, std_add, std_subI, std_mulI, std_ssize, std_not, std_band, std_bcmp, std_nat, std_ofNat, std_nadd, std_nsub, std_emp, IntKind.wrap_i64, decide_eq_true_eq, decide_eq_false_iff_not, Bool.not_eq_true', Bool.not_eq_false', Option.getD_none, Option.getD_some, ]); exact ⟨by omega, by omega, by omega, by omega⟩
      have hfl : (fixL nn ww).length = ww := fixL_length
      refine LpW.of (κ := Nat) (fun k => k ≤ ww) (fun k => ww - k) (fun k => [(0, .d (.sc (.int .i64 n))), (5, .ref 0 0 ww), (28, .d (.sc (.int .i64 w))), (29, .d (.sc (.int .i64 k)))]) (fun k => [.row 1 false (cpRow cB (fixL nn ww) [.sc (.int .u8 0)] k)]) 0 (by omega) ?_ ?_ ?_
      · refine .cons rfl (.cons ?_ (.cons ?_ (.cons rfl (.nil _))))
        · show AV.ref 0 0 (qnat w) = _
          simp only [hE, std_nat, ← hww, Int.toNat_natCast]
        · show AV.d (D.sc (Value.int IntKind.i64 (qofNat (qnat w)))) = _
          simp only [hE, std_nat, std_ofNat]
          rw [Int.toNat_of_nonneg (by omega)]
      · show [Root.row 1 false (qmkRow w [.sc (.int .u8 0)])] = _
        rw [cp_zero, hfl]
        simp only [hE, ← hww]
        rfl
      · intro k hk
        generalize hz : cpRow cB (fixL nn ww) [.sc (.int .u8 0)] k = zs
        generalize hi : (k : Int) = i
        refine vc_ok hT hm ?_
        rw [hA]
        cbv
        try simp only [nc] at *
        split
        · rename_i h3
          simp only [hE, List.length_map, std_lss, std_leq, std_gtr, std_geq, std_eql, std_neq, std_len, std_add, std_subI, std_mulI, std_ssize, std_not, std_band, std_bcmp, std_nat, std_ofNat, std_nadd, std_nsub, std_emp, IntKind.wrap_i64, decide_eq_true_eq, decide_eq_false_iff_not, Bool.not_eq_true', Bool.not_eq_false', Option.getD_none, Option.getD_some] at h3
          have hk' : k < (fixL nn ww).length := by omega
          have hm8 : qbin .mul .i64 8 i = ((8 * k : Nat) : Int) := by simp only [hE, List.length_map, std_lss, std_leq, std_gtr, std_geq, std_eql, std_neq, std_len, std_add, std_subI, std_mulI, std_ssize, std_not, std_band, std_bcmp, std_nat, std_ofNat, std_nadd, std_nsub, std_emp, IntKind.wrap_i64, decide_eq_true_eq, decide_eq_false_iff_not, Bool.not_eq_true', Bool.not_eq_false', Option.getD_none, Option.getD_some, ]; omega
          have hsh : qsh .shr .i64 n ((8 * k : Nat) : Int) = ((nn / 2 ^ (8 * k) : Nat) : Int) := by
            simp only [hE]
            rw [← hnn]
            exact shrN (by omega)
          have hv : qwrap .u8 ((nn / 2 ^ (8 * k) : Nat) : Int) = ((((fixL nn ww)[k]).toNat : Nat) : Int) := by
            simp only [hE, std_wrapK]
            rw [u8_wrapN, fixL_get hk', byte_of]
          cbv
          try simp only [nc] at *
          rw [hm8, hsh, hv]
          refine ⟨⟨by omega⟩, ?_, ?_, ?_, k + 1, by omega, by omega, ?_, ?_⟩
          · simp only [hE, List.length_map, std_lss, std_leq, std_gtr, std_geq, std_eql, std_neq, std_len, std_add, std_subI, std_mulI, std_ssize, std_not, std_band, std_bcmp, std_nat, std_ofNat, std_nadd, std_nsub, std_emp, IntKind.wrap_i64, decide_eq_true_eq, decide_eq_false_iff_not, Bool.not_eq_true', Bool.not_eq_false', Option.getD_none, Option.getD_some, ]; exact ⟨by omega, by omega⟩
          · simp only [hE]; exact cp_inR hk' hz hi
          · simp only [hE]; exact cp_lenGe hk' hz hi (Nat.le_refl _)
          · refine .cons rfl (.cons rfl (.cons rfl (.cons ?_ (.nil _))))
            show AV.d (D.sc (Value.int IntKind.i64 (qbin .add .i64 i 1))) = _
            simp only [hE, i_next hi (by omega)]
          · show [Root.row 1 false (qset zs (qnadd 0 (qnat i)) 0 [.sc (.int .u8 ((((fixL nn ww)[k]).toNat : Nat) : Int))])] = _
            rw [show qset zs (qnadd 0 (qnat i)) 0 [.sc (.int .u8 ((((fixL nn ww)[k]).toNat : Nat) : Int))] = cpRow cB (fixL nn ww) [.sc (.int .u8 0)] (k + 1) by simp only [hE]; exact cp_set hk' hz hi rfl]
        · rename_i h3
          simp only [hE, List.length_map, std_lss, std_leq, std_gtr, std_geq, std_eql, std_neq, std_len, std_add, std_subI, std_mulI, std_ssize, std_not, std_band, std_bcmp, std_nat, std_ofNat, std_nadd, std_nsub, std_emp, IntKind.wrap_i64, decide_eq_true_eq, decide_eq_false_iff_not, Bool.not_eq_true', Bool.not_eq_false', Option.getD_none, Option.getD_some] at h3
          cbv
          try simp only [nc] at *
          have hkw : k = (fixL nn ww).length := by omega
          rw [hkw, cp_end] at hz
          have hr3 : qrsub zs (qofNat 0) (qofNat (qnadd 0 ww)) = (fixL nn ww).map cB := by
            simp only [hE]
            show (zs.drop 0).take (0 + ww - 0) = _
            rw [List.drop_zero, List.take_of_length_le (by rw [← hz, List.length_map]; omega), ← hz]
          rw [hr3]
          refine ⟨⟨by rw [← hz, List.length_map]; omega⟩, ok_bytes _, ?_⟩
          rw [← hQ, hrf, if_pos hzero]
          refine endD_val rfl (str_eq ?_)
          simp only [hE]
          exact std_bytes _
end Go.Proofs.Ytamdgfklbjoaiaa.Ab
