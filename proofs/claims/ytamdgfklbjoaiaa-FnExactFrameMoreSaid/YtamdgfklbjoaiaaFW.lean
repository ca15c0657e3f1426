/- What functions of the program come to, for all arguments in the given bounds. -/
import Derived.Test.YtamdgfklbjoaiaaFV
set_option linter.unusedVariables false
set_option linter.unusedSimpArgs false
namespace Go.Proofs.Ytamdgfklbjoaiaa.Ab
open Go Go.Proofs
set_option maxRecDepth 20000
/-! Numbers, 7 bits a byte. -/
def varL (n : Nat) : List UInt8 := if h : n < 128 then [UInt8.ofNat n] else UInt8.ofNat (n % 128 + 128) :: varL (n / 128)
termination_by n
decreasing_by omega
theorem varL_small {n : Nat} (h : n < 128) : varL n = [UInt8.ofNat n] := by rw [varL, dif_pos h]
theorem varL_next {n : Nat} (h : ¬ n < 128) : varL n = UInt8.ofNat (n % 128 + 128) :: varL (n / 128) := by rw [varL, dif_neg h]
theorem ofNat_small {m : Nat} (h : m < 256) : (((UInt8.ofNat m).toNat : Nat) : Int) = (m : Int) := by
  rw [UInt8.toNat_ofNat']
  omega
theorem or128 : ∀ n : Nat, n < 256 → std.bin .or .u8 (n : Int) 128 = ((n % 128 + 128 : Nat) : Int) := by
  have key : ∀ m : Fin 256, std.bin .or .u8 (m.val : Int) 128 = ((m.val % 128 + 128 : Nat) : Int) := by decide +kernel
  intro n h
  exact key ⟨n, h⟩
theorem or128i : ∀ n : Nat, n < 128 → std.bin .or .i64 (n : Int) 128 = ((n + 128 : Nat) : Int) := by
  have key : ∀ m : Fin 128, std.bin .or .i64 (m.val : Int) 128 = ((m.val + 128 : Nat) : Int) := by decide +kernel
  intro n h
  exact key ⟨n, h⟩
def rVar (n : Int) : ByteArray := if 0 ≤ n ∧ n ≤ 1000000000 then tx (varL n.toNat) else tx []
noncomputable def c109 : Code := (Try.f109.body).getD .skip
theorem ent109 : Entered Try.prog 109 := ⟨_, Try.func109, rfl, rfl⟩
noncomputable def c118 : Code := (Try.f118.body).getD .skip
theorem ent118 : Entered Try.prog 118 := ⟨_, Try.func118, rfl, rfl⟩
noncomputable def c119 : Code := (Try.f119.body).getD .skip
theorem ent119 : Entered Try.prog 119 := ⟨_, Try.func119, rfl, rfl⟩
theorem T118 (v : Int) : CallOk Try.prog 118 [.d (.sc (.int .i64 v))] [] ⟨.d (.sc (.bool (decide (0 ≤ v ∧ v ≤ 1000000000)))), [], []⟩ := by
  have e1 := ent56
  have t1 := @T56
  refine CallOk.of_bodyD (body := c118) Try.func118 rfl (Nat.le_of_ble_eq_true (by kernel_rfl)) rfl ?_
  refine vc_ok tab_ok mixed ?_
  have hT := tab_ok
  have hm := mixed
  generalize hP : Try.prog = P at *
  generalize hA : std = A
  obtain ⟨qbin, qsh, qcmp, qscmp, qbcmp, qbnot, qneg, qwrap, qcat, qssize, qssub, qsget, qlen, qrsub, qapp, qelt, qset, qnth, qdrp, qstr, qint, qbool, qrow, qnat, qnadd, qnsub, qband, qofNat, qstrRow, qmkRow, qmx, qmn, qbytes, qemp⟩ := A
  have hE := Ar.eqs hA
  dsimp only at hE
  generalize hQ : EndD P Try.f118.results _ = Q
  cbv
  try simp only [nc] at *
  refine ClW.dd (f := 56) rfl rfl rfl rfl (.cons rfl (.cons rfl (.cons rfl .nil))) rfl e1 (t1 v 0 1000000000) rfl ?_
  generalize hr : decide (0 ≤ v ∧ v ≤ 1000000000) = r at *
  cbv
  try simp only [nc] at *
  rw [← hQ]
  exact endD_one rfl rfl
theorem T109 (n : Int) : CallOk Try.prog 109 [.d (.sc (.int .i64 n))] [] ⟨.d (.sc (.string (rVar n))), [], []⟩ := by
  have e1 := ent95
  have t1 := @T95
  obtain ⟨r, hr⟩ : ∃ r, r = rVar n := ⟨_, rfl⟩
  rw [← hr]
  refine CallOk.of_bodyD (body := c109) Try.func109 rfl (Nat.le_of_ble_eq_true (by kernel_rfl)) rfl ?_
  refine vc_ok tab_ok mixed ?_
  have hT := tab_ok
  have hm := mixed
  generalize hP : Try.prog = P at *
  generalize hA : std = A
  obtain ⟨qbin, qsh, qcmp, qscmp, qbcmp, qbnot, qneg, qwrap, qcat, qssize, qssub, qsget, qlen, qrsub, qapp, qelt, qset, qnth, qdrp, qstr, qint, qbool, qrow, qnat, qnadd, qnsub, qband, qofNat, qstrRow, qmkRow, qmx, qmn, qbytes, qemp⟩ := A
  have hE := Ar.eqs hA
  dsimp only at hE
  generalize hQ : EndD P Try.f109.results _ = Q
  cbv
  try simp only [nc] at *
  refine ClW.dd (f := 95) rfl rfl rfl rfl (.cons rfl (.cons rfl (.cons rfl .nil))) rfl e1 (t1 n 0 1000000000) rfl ?_
  cases hb : decide (0 ≤ n ∧ n ≤ 1000000000) with
  | false =>
    have hc := of_decide_eq_false hb
    cbv
    try simp only [nc] at *
    rw [show qbnot false = true by simp only [hE, std_not]; rfl]
    cbv
    try simp only [nc] at *
    rw [← hQ, hr, show rVar n = tx [] from if_neg hc]
    exact endD_one rfl rfl
  | true =>
    have hc := of_decide_eq_true hb
    cbv
    try simp only [nc] at *
    rw [show qbnot true = false by simp only [hE, std_not]; rfl]
    cbv
    try simp only [nc] at *
    obtain ⟨nn, hnn⟩ : ∃ k : Nat, (k : Int) = n := ⟨n.toNat, by omega⟩
    have hrf : r = tx (varL nn) := by
      rw [hr]
      unfold rVar
      rw [if_pos hc, ← hnn, Int.toNat_natCast]
    refine LpW.app 0 rfl (κ := Nat × List UInt8) (fun p => p.2 ++ varL p.1 = varL nn ∧ p.2.length + p.1 ≤ nn) (fun p => p.1) (fun p => [(0, .d (.sc (.int .i64 (p.1 : Nat)))), (3, .ref 1 0 p.2.length)]) (fun p => [.dead] ++ [.row 1 false (p.2.map cB)]) (nn, []) 1 rfl ⟨rfl, by simp⟩ ?_ rfl ?_
    · refine .cons ?_ (.cons rfl (.nil _))
      show AV.d (.sc (.int .i64 n)) = .d (.sc (.int .i64 (nn : Int)))
      rw [hnn]
    · rintro ⟨m, out⟩ ⟨hv1, hv2⟩
      dsimp only at hv1 hv2
      dsimp only
      generalize hz : out.map cB = zs
      have hzl : zs.length = out.length := by rw [← hz, List.length_map]
      obtain ⟨ol, hol⟩ : ∃ k, k = out.length := ⟨_, rfl⟩
      rw [← hol] at hv2 hzl ⊢
      generalize hmi : (m : Int) = mi
      refine vc_ok hT hm ?_
      rw [hA]
      cbv
      try simp only [nc] at *
      split
      · rename_i h3
        simp only [hE, List.length_map, std_lss, std_leq, std_gtr, std_geq, std_eql, std_neq, std_len, std_add, std_subI, std_mulI, std_ssize, std_not, std_band, std_bcmp, std_nat, std_ofNat, std_nadd, std_nsub, std_emp, IntKind.wrap_i64, decide_eq_true_eq, decide_eq_false_iff_not, Bool.not_eq_true', Bool.not_eq_false', Option.getD_none, Option.getD_some] at h3
        have hv : qwrap .u8 (qbin .or .i64 (qbin .and .i64 mi 127) 128) = (((UInt8.ofNat (m % 128 + 128)).toNat : Nat) : Int) := by
          simp only [hE, std_wrapK]
          rw [← hmi, show std.bin .and .i64 (m : Int) 127 = ((m % 128 : Nat) : Int) from (std_and64 (b := 127) (by omega) (by omega)).trans (by rw [show (127 : Nat) = 2 ^ 7 - 1 from rfl, Nat.and_two_pow_sub_one_eq_mod])]
          rw [or128i _ (by omega), u8_wrapN, ofNat_small (by omega)]
          congr 1
          omega
        have hsh : qsh .shr .i64 mi 7 = ((m / 128 : Nat) : Int) := by
          simp only [hE]
          rw [← hmi]
          exact shrN (b := 7) (by omega)
        cbv
        try simp only [nc] at *
        rw [hv]
        have hr2 : qrsub [[D.sc (Value.int IntKind.u8 (((UInt8.ofNat (m % 128 + 128)).toNat : Nat) : Int))]] (qofNat 0) (qofNat (qnadd 0 1)) = [UInt8.ofNat (m % 128 + 128)].map cB := by simp only [hE]; rfl
        rw [hr2]
        have ha : qapp zs ([UInt8.ofNat (m % 128 + 128)].map cB) = (out ++ [UInt8.ofNat (m % 128 + 128)]).map cB := by
          rw [List.map_append, hz]
          simp only [hE, std_app]
        have hN : qnat (qlen (qapp zs ([UInt8.ofNat (m % 128 + 128)].map cB))) = (out ++ [UInt8.ofNat (m % 128 + 128)]).length := by
          rw [ha]
          simp only [hE, std_len, std_nat, List.length_map, Int.toNat_natCast]
        refine ⟨?_, ⟨by simp⟩, ⟨by omega⟩, (m / 128, out ++ [UInt8.ofNat (m % 128 + 128)]), ⟨?_, ?_⟩, ?_, RoundEnd.one (r := 3) (by omega) rfl rfl rfl ha (.cons ?_ (.cons ?_ .nil))⟩
        · exact ⟨rfl, hzl.symm, by simp only [List.length_map, List.length_cons, List.length_nil]; omega, by simp only [List.length_map, List.length_cons, List.length_nil]; omega⟩
        · rw [← hv1, varL_next (n := m) (by omega), List.append_assoc]
          rfl
        · simp only [List.length_append, List.length_cons, List.length_nil]
          omega
        · show m / 128 < m
          omega
        · show some (AV.d (D.sc (Value.int IntKind.i64 (qsh .shr .i64 mi 7)))) = _
          rw [hsh]
        · show some (AV.ref 1 0 (qnat (qlen (qapp zs ([UInt8.ofNat (m % 128 + 128)].map cB))))) = _
          rw [hN]
      · rename_i h3
        simp only [hE, List.length_map, std_lss, std_leq, std_gtr, std_geq, std_eql, std_neq, std_len, std_add, std_subI, std_mulI, std_ssize, std_not, std_band, std_bcmp, std_nat, std_ofNat, std_nadd, std_nsub, std_emp, IntKind.wrap_i64, decide_eq_true_eq, decide_eq_false_iff_not, Bool.not_eq_true', Bool.not_eq_false', Option.getD_none, Option.getD_some] at h3
        have hm : m < 128 := by omega
        have hv : qwrap .u8 mi = (((UInt8.ofNat m).toNat : Nat) : Int) := by
          simp only [hE, std_wrapK]
          rw [← hmi, u8_wrapN, ofNat_small (by omega)]
          congr 1
          omega
        cbv
        try simp only [nc] at *
        rw [hv]
        have hr2 : qrsub [[D.sc (Value.int IntKind.u8 (((UInt8.ofNat m).toNat : Nat) : Int))]] (qofNat 0) (qofNat (qnadd 0 1)) = [UInt8.ofNat m].map cB := by simp only [hE]; rfl
        rw [hr2]
        have ha : qapp zs ([UInt8.ofNat m].map cB) = (varL nn).map cB := by
          rw [← hv1, varL_small hm, List.map_append, hz]
          simp only [hE, std_app]
        rw [ha]
        have hr3 : qrsub ((varL nn).map cB) (qofNat 0) (qofNat (qnadd 0 (qnat (qlen ((varL nn).map cB))))) = (varL nn).map cB := by
          simp only [hE]
          show (((varL nn).map cB).drop 0).take (0 + ((((varL nn).map cB).length : Int)).toNat - 0) = _
          rw [List.drop_zero, List.take_of_length_le (by omega)]
        rw [hr3]
        refine ⟨?_, ⟨by simp⟩, ⟨?_⟩, ok_bytes _, ?_⟩
        · exact ⟨rfl, hzl.symm, by simp only [List.length_map, List.length_cons, List.length_nil]; omega, by simp only [List.length_map, List.length_cons, List.length_nil]; omega⟩
        · simp only [hE, std_len, std_nat]
          omega
        rw [← hQ, hrf]
        refine endD_val rfl (str_eq ?_)
        simp only [hE]
        exact std_bytes _
theorem T119 (n : Int) : CallOk Try.prog 119 [.d (.sc (.int .i64 n))] [] ⟨.d (.sc (.string (rVar n))), [], []⟩ := by
  have e1 := ent118
  have t1 := @T118
  obtain ⟨r, hr⟩ : ∃ r, r = rVar n := ⟨_, rfl⟩
  rw [← hr]
  refine CallOk.of_bodyD (body := c119) Try.func119 rfl (Nat.le_of_ble_eq_true (by kernel_rfl)) rfl ?_
  refine vc_ok tab_ok mixed ?_
  have hT := tab_ok
  have hm := mixed
  generalize hP : Try.prog = P at *
  generalize hA : std = A
  obtain ⟨qbin, qsh, qcmp, qscmp, qbcmp, qbnot, qneg, qwrap, qcat, qssize, qssub, qsget, qlen, qrsub, qapp, qelt, qset, qnth, qdrp, qstr, qint, qbool, qrow, qnat, qnadd, qnsub, qband, qofNat, qstrRow, qmkRow, qmx, qmn, qbytes, qemp⟩ := A
  have hE := Ar.eqs hA
  dsimp only at hE
  generalize hQ : EndD P Try.f119.results _ = Q
  cbv
  try simp only [nc] at *
  refine ClW.dd (f := 118) rfl rfl rfl rfl (.cons rfl .nil) rfl e1 (t1 n) rfl ?_
  cases hb : decide (0 ≤ n ∧ n ≤ 1000000000) with
  | false =>
    have hc := of_decide_eq_false hb
    cbv
    try simp only [nc] at *
    rw [show qbnot false = true by simp only [hE, std_not]; rfl]
    cbv
    try simp only [nc] at *
    rw [← hQ, hr, show rVar n = tx [] from if_neg hc]
    exact endD_one rfl rfl
  | true =>
    have hc := of_decide_eq_true hb
    cbv
    try simp only [nc] at *
    rw [show qbnot true = false by simp only [hE, std_not]; rfl]
    cbv
    try simp only [nc] at *
    obtain ⟨nn, hnn⟩ : ∃ k : Nat, (k : Int) = n := ⟨n.toNat, by omega⟩
    have hrf : r = tx (varL nn) := by
      rw [hr]
      unfold rVar
      rw [if_pos hc, ← hnn, Int.toNat_natCast]
    refine LpW.app 0 rfl (κ := Nat × List UInt8) (fun p => p.2 ++ varL p.1 = varL nn ∧ p.2.length + p.1 ≤ nn) (fun p => p.1) (fun p => [(0, .d (.sc (.int .i64 (p.1 : Nat)))), (3, .ref 1 0 p.2.length)]) (fun p => [.dead] ++ [.row 1 false (p.2.map cB)]) (nn, []) 1 rfl ⟨rfl, by simp⟩ ?_ rfl ?_
    · refine .cons ?_ (.cons rfl (.nil _))
      show AV.d (.sc (.int .i64 n)) = .d (.sc (.int .i64 (nn : Int)))
      rw [hnn]
    · rintro ⟨m, out⟩ ⟨hv1, hv2⟩
      dsimp only at hv1 hv2
      dsimp only
      generalize hz : out.map cB = zs
      have hzl : zs.length = out.length := by rw [← hz, List.length_map]
      obtain ⟨ol, hol⟩ : ∃ k, k = out.length := ⟨_, rfl⟩
      rw [← hol] at hv2 hzl ⊢
      generalize hmi : (m : Int) = mi
      refine vc_ok hT hm ?_
      rw [hA]
      cbv
      try simp only [nc] at *
      split
      · rename_i h3
        simp only [hE, List.length_map, std_lss, std_leq, std_gtr, std_geq, std_eql, std_neq, std_len, std_add, std_subI, std_mulI, std_ssize, std_not, std_band, std_bcmp, std_nat, std_ofNat, std_nadd, std_nsub, std_emp, IntKind.wrap_i64, decide_eq_true_eq, decide_eq_false_iff_not, Bool.not_eq_true', Bool.not_eq_false', Option.getD_none, Option.getD_some] at h3
        have hv : qbin .or .u8 (qwrap .u8 mi) 128 = (((UInt8.ofNat (m % 128 + 128)).toNat : Nat) : Int) := by
          simp only [hE, std_wrapK]
          rw [← hmi, u8_wrapN, or128 _ (by omega), ofNat_small (by omega)]
          congr 2
          omega
        have hsh : qsh .shr .i64 mi 7 = ((m / 128 : Nat) : Int) := by
          simp only [hE]
          rw [← hmi]
          exact shrN (b := 7) (by omega)
        cbv
        try simp only [nc] at *
        rw [hv]
        have hr2 : qrsub [[D.sc (Value.int IntKind.u8 (((UInt8.ofNat (m % 128 + 128)).toNat : Nat) : Int))]] (qofNat 0) (qofNat (qnadd 0 1)) = [UInt8.ofNat (m % 128 + 128)].map cB := by simp only [hE]; rfl
        rw [hr2]
        have ha : qapp zs ([UInt8.ofNat (m % 128 + 128)].map cB) = (out ++ [UInt8.ofNat (m % 128 + 128)]).map cB := by
          rw [List.map_append, hz]
          simp only [hE, std_app]
        have hN : qnat (qlen (qapp zs ([UInt8.ofNat (m % 128 + 128)].map cB))) = (out ++ [UInt8.ofNat (m % 128 + 128)]).length := by
          rw [ha]
          simp only [hE, std_len, std_nat, List.length_map, Int.toNat_natCast]
        refine ⟨?_, ⟨by simp⟩, ⟨by omega⟩, (m / 128, out ++ [UInt8.ofNat (m % 128 + 128)]), ⟨?_, ?_⟩, ?_, RoundEnd.one (r := 3) (by omega) rfl rfl rfl ha (.cons ?_ (.cons ?_ .nil))⟩
        · exact ⟨rfl, hzl.symm, by simp only [List.length_map, List.length_cons, List.length_nil]; omega, by simp only [List.length_map, List.length_cons, List.length_nil]; omega⟩
        · rw [← hv1, varL_next (n := m) (by omega), List.append_assoc]
          rfl
        · simp only [List.length_append, List.length_cons, List.length_nil]
          omega
        · show m / 128 < m
          omega
        · show some (AV.d (D.sc (Value.int IntKind.i64 (qsh .shr .i64 mi 7)))) = _
          rw [hsh]
        · show some (AV.ref 1 0 (qnat (qlen (qapp zs ([UInt8.ofNat (m % 128 + 128)].map cB))))) = _
          rw [hN]
      · rename_i h3
        simp only [hE, List.length_map, std_lss, std_leq, std_gtr, std_geq, std_eql, std_neq, std_len, std_add, std_subI, std_mulI, std_ssize, std_not, std_band, std_bcmp, std_nat, std_ofNat, std_nadd, std_nsub, std_emp, IntKind.wrap_i64, decide_eq_true_eq, decide_eq_false_iff_not, Bool.not_eq_true', Bool.not_eq_false', Option.getD_none, Option.getD_some] at h3
        have hm : m < 128 := by omega
        have hv : qwrap .u8 mi = (((UInt8.ofNat m).toNat : Nat) : Int) := by
          simp only [hE, std_wrapK]
          rw [← hmi, u8_wrapN, ofNat_small (by omega)]
          congr 1
          omega
        cbv
        try simp only [nc] at *
        rw [hv]
        have hr2 : qrsub [[D.sc (Value.int IntKind.u8 (((UInt8.ofNat m).toNat : Nat) : Int))]] (qofNat 0) (qofNat (qnadd 0 1)) = [UInt8.ofNat m].map cB := by simp only [hE]; rfl
        rw [hr2]
        have ha : qapp zs ([UInt8.ofNat m].map cB) = (varL nn).map cB := by
          rw [← hv1, varL_small hm, List.map_append, hz]
          simp only [hE, std_app]
        rw [ha]
        have hr3 : qrsub ((varL nn).map cB) (qofNat 0) (qofNat (qnadd 0 (qnat (qlen ((varL nn).map cB))))) = (varL nn).map cB := by
          simp only [hE]
          show (((varL nn).map cB).drop 0).take (0 + ((((varL nn).map cB).length : Int)).toNat - 0) = _
          rw [List.drop_zero, List.take_of_length_le (by omega)]
        rw [hr3]
        refine ⟨?_, ⟨by simp⟩, ⟨?_⟩, ok_bytes _, ?_⟩
        · exact ⟨rfl, hzl.symm, by simp only [List.length_map, List.length_cons, List.length_nil]; omega, by simp only [List.length_map, List.length_cons, List.length_nil]; omega⟩
        · simp only [hE, std_len, std_nat]
          omega
        rw [← hQ, hrf]
        refine endD_val rfl (str_eq ?_)
        simp only [hE]
        exact std_bytes _
end Go.Proofs.Ytamdgfklbjoaiaa.Ab
