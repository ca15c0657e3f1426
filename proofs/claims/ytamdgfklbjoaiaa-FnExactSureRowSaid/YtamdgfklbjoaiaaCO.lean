/- What functions of the program come to, for all arguments in the given bounds. -/
import Derived.Test.YtamdgfklbjoaiaaHS
import Derived.Test.YtamdgfklbjoaiaaHT
import Derived.Test.YtamdgfklbjoaiaaHE
set_option linter.unusedVariables false
set_option linter.unusedSimpArgs false
namespace Go.Proofs.Ytamdgfklbjoaiaa.Ab
open Go Go.Proofs
set_option maxRecDepth 20000
/-! What many functions need. -/
theorem u8_wrap {n : Int} (h0 : 0 ≤ n) (h1 : n < 256) : IntKind.u8.wrap n = n := by
  show (let m := n % (2 ^ 8 : Int); if false && decide (m ≥ (2 ^ 7 : Int)) then m - (2 ^ 8 : Int) else m) = n
  simp
  omega
theorem std_rem {k : IntKind} {a b : Int} (h0 : 0 ≤ a) (h1 : 0 < b) : std.bin .rem k a b = a % b := by
  show valInt (if b = 0 then none else some (.int k (a.tmod b))) = _
  rw [if_neg (by omega)]
  exact Int.tmod_eq_emod_of_nonneg h0
theorem std_quo {k : IntKind} {a b : Int} (h0 : 0 ≤ a) (h1 : 0 < b) : std.bin .quo k a b = k.wrap (a / b) := by
  show valInt (if b = 0 then none else some (.int k (k.wrap (a.tdiv b)))) = _
  rw [if_neg (by omega), Int.tdiv_eq_ediv_of_nonneg h0]
  rfl
theorem app_one {α : Type} {c : α → List D} {zs : List (List D)} {l : List α} {x : α} {ds : List D} (hz : l.map c = zs) (hd : ds = c x) : std.app zs (std.rsub [ds] (std.ofNat 0) (std.ofNat (std.nadd 0 1))) = (l ++ [x]).map c := by
  subst hz hd
  show l.map c ++ [c x] = _
  rw [List.map_append]
  rfl
theorem rsub_take {α : Type} {c : α → List D} {a : List α} {xs : List (List D)} {k : Nat} {i : Int} (hx : a.map c = xs) (hi : (k : Int) = i) : (a.take k).map c = std.rsub xs 0 i := by
  subst hx hi
  show _ = ((a.map c).drop (0 : Int).toNat).take ((k : Int).toNat - (0 : Int).toNat)
  simp
noncomputable def c56 : Code := (Try.f56.body).getD .skip
theorem ent56 : Entered Try.prog 56 := ⟨_, Try.func56, rfl, rfl⟩
noncomputable def c95 : Code := (Try.f95.body).getD .skip
theorem ent95 : Entered Try.prog 95 := ⟨_, Try.func95, rfl, rfl⟩

theorem T56 (v lo hi : Int) : CallOk Try.prog 56 [.d (.sc (.int .i64 v)), .d (.sc (.int .i64 lo)), .d (.sc (.int .i64 hi))] [] ⟨.d (.sc (.bool (decide (lo ≤ v ∧ v ≤ hi)))), [], []⟩ := by
  refine CallOk.of_bodyD (body := c56) Try.func56 rfl (Nat.le_of_ble_eq_true (by kernel_rfl)) rfl ?_
  refine vc_ok tab_ok mixed ?_
  have hT := tab_ok
  have hm := mixed
  generalize hP : Try.prog = P at *
  generalize hA : std = A
  obtain ⟨qbin, qsh, qcmp, qscmp, qbcmp, qbnot, qneg, qwrap, qcat, qssize, qssub, qsget, qlen, qrsub, qapp, qelt, qset, qnth, qdrp, qstr, qint, qbool, qrow, qnat, qnadd, qnsub, qband, qofNat, qstrRow, qmkRow, qmx, qmn, qbytes, qemp⟩ := A
  have hE := Ar.eqs hA
  dsimp only at hE
  generalize hQ : EndD P Try.f56.results _ = Q
  cbv
  try simp only [nc] at *
  split
  · rename_i h
    simp only [hE, List.length_map, std_lss, std_leq, std_gtr, std_geq, std_eql, std_neq, std_len, std_add, std_subI, std_mulI, std_ssize, std_not, std_band, std_bcmp, std_nat, std_ofNat, std_nadd, std_nsub, std_emp, IntKind.wrap_i64, decide_eq_true_eq, decide_eq_false_iff_not, Bool.not_eq_true', Bool.not_eq_false', Option.getD_none, Option.getD_some] at h
    cbv
    try simp only [nc] at *
    rw [← hQ]
    refine endD_val rfl (bool_eq ?_)
    simp only [hE, std_leq]
    simp [h]
  · rename_i h
    simp only [hE, List.length_map, std_lss, std_leq, std_gtr, std_geq, std_eql, std_neq, std_len, std_add, std_subI, std_mulI, std_ssize, std_not, std_band, std_bcmp, std_nat, std_ofNat, std_nadd, std_nsub, std_emp, IntKind.wrap_i64, decide_eq_true_eq, decide_eq_false_iff_not, Bool.not_eq_true', Bool.not_eq_false', Option.getD_none, Option.getD_some] at h
    cbv
    try simp only [nc] at *
    rw [← hQ]
    refine endD_val rfl (bool_eq ?_)
    simp [h]
theorem T95 (v lo hi : Int) : CallOk Try.prog 95 [.d (.sc (.int .i64 v)), .d (.sc (.int .i64 lo)), .d (.sc (.int .i64 hi))] [] ⟨.d (.sc (.bool (decide (lo ≤ v ∧ v ≤ hi)))), [], []⟩ := by
  refine CallOk.of_bodyD (body := c95) Try.func95 rfl (Nat.le_of_ble_eq_true (by kernel_rfl)) rfl ?_
  refine vc_ok tab_ok mixed ?_
  have hT := tab_ok
  have hm := mixed
  generalize hP : Try.prog = P at *
  generalize hA : std = A
  obtain ⟨qbin, qsh, qcmp, qscmp, qbcmp, qbnot, qneg, qwrap, qcat, qssize, qssub, qsget, qlen, qrsub, qapp, qelt, qset, qnth, qdrp, qstr, qint, qbool, qrow, qnat, qnadd, qnsub, qband, qofNat, qstrRow, qmkRow, qmx, qmn, qbytes, qemp⟩ := A
  have hE := Ar.eqs hA
  dsimp only at hE
  generalize hQ : EndD P Try.f95.results _ = Q
  cbv
  try simp only [nc] at *
  split
  · rename_i h
    simp only [hE, List.length_map, std_lss, std_leq, std_gtr, std_geq, std_eql, std_neq, std_len, std_add, std_subI, std_mulI, std_ssize, std_not, std_band, std_bcmp, std_nat, std_ofNat, std_nadd, std_nsub, std_emp, IntKind.wrap_i64, decide_eq_true_eq, decide_eq_false_iff_not, Bool.not_eq_true', Bool.not_eq_false', Option.getD_none, Option.getD_some] at h
    cbv
    try simp only [nc] at *
    rw [← hQ]
    refine endD_val rfl (bool_eq ?_)
    simp only [hE, std_leq]
    simp [h]
  · rename_i h
    simp only [hE, List.length_map, std_lss, std_leq, std_gtr, std_geq, std_eql, std_neq, std_len, std_add, std_subI, std_mulI, std_ssize, std_not, std_band, std_bcmp, std_nat, std_ofNat, std_nadd, std_nsub, std_emp, IntKind.wrap_i64, decide_eq_true_eq, decide_eq_false_iff_not, Bool.not_eq_true', Bool.not_eq_false', Option.getD_none, Option.getD_some] at h
    cbv
    try simp only [nc] at *
    rw [← hQ]
    refine endD_val rfl (bool_eq ?_)
    simp [h]

end Go.Proofs.Ytamdgfklbjoaiaa.Ab
