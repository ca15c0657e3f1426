/- What functions of the program come to, for all arguments in the given bounds. -/
import Derived.Test.YtmhinjjgpabkfaaGreatDoorHmk
set_option linter.unusedVariables false
set_option linter.unusedSimpArgs false
namespace Go.Proofs.YtmhinjjgpabkfaaGreatDoor.Ab
open Go Go.Proofs
set_option maxRecDepth 20000
set_option linter.unusedVariables false
noncomputable def c29 : Code := (Tryz.f29.body).getD .skip
theorem ent29 : Entered Tryz.prog 29 := ⟨_, Tryz.func29, rfl, rfl⟩
theorem T29 {n : Nat} {k : Int} {xs : List (List D)} (hx : (mkRowStringS k n).map cS = xs) (ha : n < 2 ^ 40) (h0 : 0 ≤ k) (h1 : k < 2 ^ 50) :
    CallOk Tryz.prog 29 [.d (.row 1 xs), .d (.sc (.int .i64 k))] [] ⟨.d (.sc (.int .i64 (k + 1 * (n : Int)))), [], []⟩ := by
  have e1 := ent80
  have t1 := @T80
  refine CallOk.of_bodyD (body := c29) Tryz.func29 rfl (Nat.le_of_ble_eq_true (by kernel_rfl)) rfl ?_
  refine vc_ok tab_ok mixed ?_
  have hT := tab_ok
  have hm := mixed
  generalize hP : Tryz.prog = P at *
  generalize hA : std = A
  obtain ⟨qbin, qsh, qcmp, qscmp, qbcmp, qbnot, qneg, qwrap, qcat, qssize, qssub, qsget, qlen, qrsub, qapp, qelt, qset, qnth, qdrp, qstr, qint, qbool, qrow, qnat, qnadd, qnsub, qband, qofNat, qstrRow, qmkRow, qmx, qmn, qbytes, qemp⟩ := A
  have hE := Ar.eqs hA
  dsimp only at hE
  generalize hQ : EndD P Tryz.f29.results _ = Q
  have hn := rd_n hx
  rw [mkRowStringS_length] at hn
  have hself : (∀ v : Int, qcmp .neq v v = false) ∧ (∀ v : ByteArray, qscmp .neq v v = false) := by
    refine ⟨fun v => ?_, fun v => ?_⟩ <;> simp only [hE, std_neq, std_sneq] <;> simp
  obtain ⟨hself1, hself2⟩ := hself
  cbv
  try simp only [nc] at *
  refine LpW.of (κ := Nat) (fun j => j ≤ n) (fun j => n - j) (fun j => [(0, .d (.row 1 xs)), (1, .d (.sc (.int .i64 (k + 1 * (j : Int))))), (5, .d (.sc (.int .i64 j)))]) (fun j => []) 0 (by omega) ?_ (by first | rfl | trivial) ?_
  · refine .cons rfl (.cons ?_ (.cons rfl (.nil _)))
    show AV.d (.sc (.int .i64 k)) = .d (.sc (.int .i64 (k + 1 * ((0 : Nat) : Int))))
    rw [show k + 1 * ((0 : Nat) : Int) = k by omega]
  · intro j hj
    generalize hi : (j : Int) = i
    generalize hk0 : k + 1 * i = kc0
    refine vc_ok hT hm ?_
    rw [hA]
    cbv
    try simp only [nc] at *
    split
    · rename_i h2
      simp only [hE, List.length_map, std_lss, std_leq, std_gtr, std_geq, std_eql, std_neq, std_len, std_add, std_subI, std_mulI, std_ssize, std_not, std_band, std_bcmp, std_nat, std_ofNat, std_nadd, std_nsub, std_emp, IntKind.wrap_i64, decide_eq_true_eq, decide_eq_false_iff_not, Bool.not_eq_true', Bool.not_eq_false', Option.getD_none, Option.getD_some, hn] at h2
      have hj' : j < n := by omega
      have hjl : j < (mkRowStringS k n).length := by rw [mkRowStringS_length]; exact hj'
      have hge : (mkRowStringS k n)[j] = mkEStringS k j := by simp [mkRowStringS]
      have he : std.elt xs i = cS (mkEStringS k j) := by rw [rd_elt hx hi hjl, hge]
      cbv
      try simp only [nc] at *
      repeat (refine And.intro (by first | (simp only [hE]; exact rd_inR hx hi hjl) | (simp only [hE, rd_elt hx hi hjl]; exact ⟨rfl⟩) | (simp only [hE, rd_elt hx hi hjl]; exact ⟨Nat.le_of_ble_eq_true rfl⟩)) ?_)
      obtain ⟨t0, ht0⟩ : ∃ t, t = mkText kc0 := ⟨_, rfl⟩
      rw [show qstr (qnth (qelt xs i) 0) = t0 by simp only [hE, he]; show mkText (k + 1 * (j : Int) + 0) = t0; rw [ht0, show k + 1 * (j : Int) + 0 = kc0 by omega]]
      refine ClW.dd (f := 80) rfl rfl rfl rfl (.cons rfl .nil) rfl e1 (t1 kc0 (by omega)) rfl ?_
      rw [← ht0]
      cbv
      try simp only [nc] at *
      rw [hself2]
      cbv
      try simp only [nc] at *
      have hk1 : qbin .add .i64 kc0 1 = kc0 + 1 := by simp only [hE, List.length_map, std_lss, std_leq, std_gtr, std_geq, std_eql, std_neq, std_len, std_add, std_subI, std_mulI, std_ssize, std_not, std_band, std_bcmp, std_nat, std_ofNat, std_nadd, std_nsub, std_emp, IntKind.wrap_i64, decide_eq_true_eq, decide_eq_false_iff_not, Bool.not_eq_true', Bool.not_eq_false', Option.getD_none, Option.getD_some, ]; omega
      generalize hkc1 : kc0 + 1 = kc1 at hk1
      rw [hk1]
      refine ⟨j + 1, by omega, by omega, ?_, by first | rfl | trivial⟩
      refine .cons rfl (.cons ?_ (.cons ?_ (.nil _)))
      · show AV.d (D.sc (Value.int IntKind.i64 kc1)) = .d (.sc (.int .i64 (k + 1 * ((j + 1 : Nat) : Int))))
        rw [show k + 1 * ((j + 1 : Nat) : Int) = kc1 by omega]
      · show AV.d (D.sc (Value.int IntKind.i64 (qbin .add .i64 i 1))) = _
        simp only [hE, i_next hi (by omega)]
    · rename_i h2
      simp only [hE, List.length_map, std_lss, std_leq, std_gtr, std_geq, std_eql, std_neq, std_len, std_add, std_subI, std_mulI, std_ssize, std_not, std_band, std_bcmp, std_nat, std_ofNat, std_nadd, std_nsub, std_emp, IntKind.wrap_i64, decide_eq_true_eq, decide_eq_false_iff_not, Bool.not_eq_true', Bool.not_eq_false', Option.getD_none, Option.getD_some, hn] at h2
      cbv
      try simp only [nc] at *
      have hj' : j = n := by omega
      rw [← hQ]
      refine endD_val rfl (int_eq ?_)
      omega
end Go.Proofs.YtmhinjjgpabkfaaGreatDoor.Ab
