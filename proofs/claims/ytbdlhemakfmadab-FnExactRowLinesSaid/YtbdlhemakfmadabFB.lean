/- What functions of the program come to, for all arguments in the given bounds. -/
import Derived.Test.YtbdlhemakfmadabHM
set_option linter.unusedVariables false
set_option linter.unusedSimpArgs false
namespace Go.Proofs.Ytbdlhemakfmadab.Ab
open Go Go.Proofs
set_option maxRecDepth 20000
/-! Hex. -/
theorem bytes_ind {s : ByteArray} : s = tx s.data.toList := (tx_data s).symm
def figN (n : Nat) : Nat := if n < 10 then 48 + n else 87 + n
def fig (n : Nat) : UInt8 := UInt8.ofNat (figN n)
theorem fig_nat {n : Nat} (h : n < 16) : ((fig n).toNat : Int) = (figN n : Int) := by
  unfold fig figN
  rw [UInt8.toNat_ofNat']
  split <;> omega
def hexL (l : List UInt8) : List UInt8 := l.flatMap fun b => [fig (b.toNat / 16), fig (b.toNat % 16)]
theorem hexL_length (l : List UInt8) : (hexL l).length = 2 * l.length := by
  induction l with
  | nil => rfl
  | cons b l ih => simp only [hexL, List.flatMap_cons, List.length_append, List.length_cons, List.length_nil] at ih ⊢; omega
theorem hexL_succ {l : List UInt8} {k : Nat} (h : k < l.length) : hexL (l.take (k + 1)) = hexL (l.take k) ++ [fig (l[k].toNat / 16), fig (l[k].toNat % 16)] := by
  rw [List.take_succ_eq_append_getElem h]
  unfold hexL
  rw [List.flatMap_append]
  rfl
def digs : List UInt8 := [48, 49, 50, 51, 52, 53, 54, 55, 56, 57, 97, 98, 99, 100, 101, 102]
theorem dig_at : ∀ n : Nat, n < 16 → std.sget (tx digs) (n : Int) = ((fig n).toNat : Int) := by
  intro n h
  rw [std_sget rfl (show n < digs.length from h)]
  have key : ∀ m : Fin 16, (digs[m.val]'(show m.val < digs.length from m.isLt)).toNat = (fig m.val).toNat := by decide
  rw [key ⟨n, h⟩]
theorem and15 : ∀ n : Nat, n < 256 → std.bin .and .u8 (n : Int) 15 = ((n % 16 : Nat) : Int) := by
  have key : ∀ m : Fin 256, std.bin .and .u8 (m.val : Int) 15 = ((m.val % 16 : Nat) : Int) := by decide +kernel
  intro n h
  exact key ⟨n, h⟩
theorem shr4 {n : Nat} : std.sh .shr .u8 (n : Int) 4 = ((n / 16 : Nat) : Int) := by
  show Int.fdiv (n : Int) (2 ^ 4) = _
  rw [Int.fdiv_eq_ediv_of_nonneg _ (by omega)]
  omega
noncomputable def c14 : Code := (Try.f14.body).getD .skip
theorem ent14 : Entered Try.prog 14 := ⟨_, Try.func14, rfl, rfl⟩
noncomputable def c11 : Code := (Try.f11.body).getD .skip
theorem ent11 : Entered Try.prog 11 := ⟨_, Try.func11, rfl, rfl⟩
noncomputable def c16 : Code := (Try.f16.body).getD .skip
theorem ent16 : Entered Try.prog 16 := ⟨_, Try.func16, rfl, rfl⟩
noncomputable def c15 : Code := (Try.f15.body).getD .skip
theorem ent15 : Entered Try.prog 15 := ⟨_, Try.func15, rfl, rfl⟩
noncomputable def c12 : Code := (Try.f12.body).getD .skip
theorem ent12 : Entered Try.prog 12 := ⟨_, Try.func12, rfl, rfl⟩
theorem T14 {n : Nat} (h : n < 16) : CallOk Try.prog 14 [.d (.sc (.int .i64 n))] [] ⟨.d (.sc (.int .u8 (fig n).toNat)), [], []⟩ := by
  rw [fig_nat h]
  generalize hi : (n : Int) = i
  generalize hj : (figN n : Int) = j
  refine CallOk.of_bodyD (body := c14) Try.func14 rfl (Nat.le_of_ble_eq_true (by kernel_rfl)) rfl ?_
  refine vc_ok tab_ok mixed ?_
  have hT := tab_ok
  have hm := mixed
  generalize hP : Try.prog = P at *
  generalize hA : std = A
  obtain ⟨qbin, qsh, qcmp, qscmp, qbcmp, qbnot, qneg, qwrap, qcat, qssize, qssub, qsget, qlen, qrsub, qapp, qelt, qset, qnth, qdrp, qstr, qint, qbool, qrow, qnat, qnadd, qnsub, qband, qofNat, qstrRow, qmkRow, qmx, qmn, qbytes⟩ := A
  have hE := Ar.eqs hA
  dsimp only at hE
  generalize hQ : EndD P Try.f14.results _ = Q
  cbv
  try simp only [nc] at *
  unfold figN at hj
  split
  · rename_i h2
    simp only [hE, List.length_map, std_lss, std_leq, std_gtr, std_geq, std_eql, std_neq, std_len, std_add, std_subI, std_mulI, std_ssize, std_not, std_band, std_bcmp, std_nat, std_ofNat, std_nadd, std_nsub, IntKind.wrap_i64, decide_eq_true_eq, decide_eq_false_iff_not, Bool.not_eq_true', Bool.not_eq_false', Option.getD_none, Option.getD_some] at h2
    rw [if_pos (by omega)] at hj
    cbv
    try simp only [nc] at *
    rw [← hQ]
    refine endD_val rfl (int_eq ?_)
    simp only [hE, std_wrapK, std_add]
    rw [wrap_in (by omega), u8_wrap (by omega) (by omega), ← hj, ← hi]
    rfl
  · rename_i h2
    simp only [hE, List.length_map, std_lss, std_leq, std_gtr, std_geq, std_eql, std_neq, std_len, std_add, std_subI, std_mulI, std_ssize, std_not, std_band, std_bcmp, std_nat, std_ofNat, std_nadd, std_nsub, IntKind.wrap_i64, decide_eq_true_eq, decide_eq_false_iff_not, Bool.not_eq_true', Bool.not_eq_false', Option.getD_none, Option.getD_some] at h2
    rw [if_neg (by omega)] at hj
    cbv
    try simp only [nc] at *
    rw [← hQ]
    refine endD_val rfl (int_eq ?_)
    simp only [hE, std_wrapK, std_add, std_subI]
    rw [wrap_in (n := 97 + i) (by omega), wrap_in (by omega), u8_wrap (by omega) (by omega), ← hj, ← hi]
    rw [show ((87 + n : Nat) : Int) = 87 + (n : Int) from rfl]
    omega
theorem T11 {l : List UInt8} {s : ByteArray} (hs : tx l = s) (hl : l.length < 2 ^ 47) : CallOk Try.prog 11 [.d (.sc (.string s))] [] ⟨.tup [.d (.sc (.string (if l.length ≤ 20000 then tx (hexL l) else tx []))), .d (.sc (.bool (decide (l.length ≤ 20000))))], [], []⟩ := by
  have e1 := ent14
  have t1 := @T14
  have hss : s.size = l.length := by rw [← hs, tx_size]
  refine CallOk.of_bodyD (body := c11) Try.func11 rfl (Nat.le_of_ble_eq_true (by kernel_rfl)) rfl ?_
  refine vc_ok tab_ok mixed ?_
  have hT := tab_ok
  have hm := mixed
  generalize hP : Try.prog = P at *
  generalize hA : std = A
  obtain ⟨qbin, qsh, qcmp, qscmp, qbcmp, qbnot, qneg, qwrap, qcat, qssize, qssub, qsget, qlen, qrsub, qapp, qelt, qset, qnth, qdrp, qstr, qint, qbool, qrow, qnat, qnadd, qnsub, qband, qofNat, qstrRow, qmkRow, qmx, qmn, qbytes⟩ := A
  have hE := Ar.eqs hA
  dsimp only at hE
  generalize hQ : EndD P Try.f11.results _ = Q
  cbv
  try simp only [nc] at *
  split
  · rename_i h2
    simp only [hE, List.length_map, std_lss, std_leq, std_gtr, std_geq, std_eql, std_neq, std_len, std_add, std_subI, std_mulI, std_ssize, std_not, std_band, std_bcmp, std_nat, std_ofNat, std_nadd, std_nsub, IntKind.wrap_i64, decide_eq_true_eq, decide_eq_false_iff_not, Bool.not_eq_true', Bool.not_eq_false', Option.getD_none, Option.getD_some] at h2
    cbv
    try simp only [nc] at *
    rw [← hQ, if_neg (by omega), decide_eq_false (by omega)]
    exact endD_val2 rfl rfl rfl rfl
  · rename_i h2
    simp only [hE, List.length_map, std_lss, std_leq, std_gtr, std_geq, std_eql, std_neq, std_len, std_add, std_subI, std_mulI, std_ssize, std_not, std_band, std_bcmp, std_nat, std_ofNat, std_nadd, std_nsub, IntKind.wrap_i64, decide_eq_true_eq, decide_eq_false_iff_not, Bool.not_eq_true', Bool.not_eq_false', Option.getD_none, Option.getD_some] at h2
    cbv
    try simp only [nc] at *
    refine LpW.app 0 rfl (κ := Nat) (fun k => k ≤ l.length) (fun k => l.length - k) (fun k => [(0, .d (.sc (.string s))), (4, .ref 1 0 (2 * k)), (5, .d (.sc (.int .i64 k)))]) (fun k => [.dead] ++ [.row 1 false ((hexL (l.take k)).map cB)]) 0 1 rfl (by omega) ?_ rfl ?_
    · exact .cons rfl (.cons rfl (.cons rfl (.nil _)))
    · intro k hk
      generalize hz : (hexL (l.take k)).map cB = zs
      have hzl : zs.length = 2 * k := by rw [← hz, List.length_map, hexL_length, List.length_take]; omega
      generalize hi : (k : Int) = i
      generalize hm' : 2 * k = m at *
      refine vc_ok hT hm ?_
      rw [hA]
      cbv
      try simp only [nc] at *
      split
      · rename_i h3
        simp only [hE, List.length_map, std_lss, std_leq, std_gtr, std_geq, std_eql, std_neq, std_len, std_add, std_subI, std_mulI, std_ssize, std_not, std_band, std_bcmp, std_nat, std_ofNat, std_nadd, std_nsub, IntKind.wrap_i64, decide_eq_true_eq, decide_eq_false_iff_not, Bool.not_eq_true', Bool.not_eq_false', Option.getD_none, Option.getD_some] at h3
        have hk' : k < l.length := by omega
        have hsuc := hexL_succ hk'
        have hb := l[k].toNat_lt
        generalize hbk : l[k].toNat = b at *
        have hget : qsget s i = (b : Int) := by simp only [hE, ← hs, std_sget hi hk', hbk]
        cbv
        try simp only [nc] at *
        rw [hget]
        generalize hbi : (b : Int) = bi
        have hq : qbin .quo .i64 (qwrap .i64 bi) 16 = ((b / 16 : Nat) : Int) := by
          simp only [hE, std_wrapK]
          rw [wrap_in (by omega), std_quo (by omega) (by omega), wrap_in (by omega)]
          omega
        have hrm : qbin .rem .i64 (qwrap .i64 bi) 16 = ((b % 16 : Nat) : Int) := by
          simp only [hE, std_wrapK]
          rw [wrap_in (by omega), std_rem (by omega) (by omega)]
          omega
        rw [hq]
        refine ⟨by simp only [hE, List.length_map, std_lss, std_leq, std_gtr, std_geq, std_eql, std_neq, std_len, std_add, std_subI, std_mulI, std_ssize, std_not, std_band, std_bcmp, std_nat, std_ofNat, std_nadd, std_nsub, IntKind.wrap_i64, decide_eq_true_eq, decide_eq_false_iff_not, Bool.not_eq_true', Bool.not_eq_false', Option.getD_none, Option.getD_some, ]; exact ⟨by omega, by omega⟩, ⟨by omega⟩, ?_⟩
        refine ClW.dd (f := 14) rfl rfl rfl rfl (.cons rfl .nil) rfl e1 (t1 (n := b / 16) (by omega)) rfl ?_
        generalize hf1 : ((fig (b / 16)).toNat : Int) = f1
        cbv
        try simp only [nc] at *
        rw [hget, hbi, hrm]
        refine ⟨by simp only [hE, List.length_map, std_lss, std_leq, std_gtr, std_geq, std_eql, std_neq, std_len, std_add, std_subI, std_mulI, std_ssize, std_not, std_band, std_bcmp, std_nat, std_ofNat, std_nadd, std_nsub, IntKind.wrap_i64, decide_eq_true_eq, decide_eq_false_iff_not, Bool.not_eq_true', Bool.not_eq_false', Option.getD_none, Option.getD_some, ]; exact ⟨by omega, by omega⟩, ⟨by omega⟩, ?_⟩
        refine ClW.dd (f := 14) rfl rfl rfl rfl (.cons rfl .nil) rfl e1 (t1 (n := b % 16) (by omega)) rfl ?_
        generalize hf2 : ((fig (b % 16)).toNat : Int) = f2
        cbv
        try simp only [nc] at *
        have hr : qrsub [[D.sc (Value.int IntKind.u8 f1)], [D.sc (Value.int IntKind.u8 f2)]] (qofNat 0) (qofNat (qnadd 0 2)) = [fig (b / 16), fig (b % 16)].map cB := by
          rw [← hf1, ← hf2]
          simp only [hE]
          rfl
        have ha : qapp zs (qrsub [[D.sc (Value.int IntKind.u8 f1)], [D.sc (Value.int IntKind.u8 f2)]] (qofNat 0) (qofNat (qnadd 0 2))) = (hexL (l.take (k + 1))).map cB := by
          rw [hr, hsuc, List.map_append, hz]
          simp only [hE, std_app]
        have hN : qnat (qlen (qapp zs (qrsub [[D.sc (Value.int IntKind.u8 f1)], [D.sc (Value.int IntKind.u8 f2)]] (qofNat 0) (qofNat (qnadd 0 2))))) = 2 * (k + 1) := by
          rw [ha]
          simp only [hE, std_len, std_nat, List.length_map, hexL_length, List.length_take, Int.toNat_natCast]
          omega
        refine ⟨?_, ⟨by simp⟩, k + 1, by omega, by omega, RoundEnd.one (r := 3) (by omega) rfl rfl rfl ha (.cons rfl (.cons ?_ (.cons ?_ .nil)))⟩
        · rw [hr]
          simp only [List.map_cons, List.map_nil]
          exact ⟨rfl, hzl.symm, by simp only [List.length_cons, List.length_nil]; omega, by simp only [List.length_cons, List.length_nil]; omega⟩
        · show some (AV.ref 1 0 (qnat (qlen (qapp zs (qrsub [[D.sc (Value.int IntKind.u8 f1)], [D.sc (Value.int IntKind.u8 f2)]] (qofNat 0) (qofNat (qnadd 0 2))))))) = _
          rw [hN]
        · show some (AV.d (D.sc (Value.int IntKind.i64 (qbin .add .i64 i 1)))) = _
          simp only [hE, i_next hi (by omega)]
      · rename_i h3
        simp only [hE, List.length_map, std_lss, std_leq, std_gtr, std_geq, std_eql, std_neq, std_len, std_add, std_subI, std_mulI, std_ssize, std_not, std_band, std_bcmp, std_nat, std_ofNat, std_nadd, std_nsub, IntKind.wrap_i64, decide_eq_true_eq, decide_eq_false_iff_not, Bool.not_eq_true', Bool.not_eq_false', Option.getD_none, Option.getD_some] at h3
        cbv
        try simp only [nc] at *
        have hk' : k = l.length := by omega
        subst hk'
        rw [List.take_length] at hz
        have hr : qrsub zs (qofNat 0) (qofNat (qnadd 0 m)) = (hexL l).map cB := by
          simp only [hE]
          show (zs.drop 0).take (0 + m - 0) = _
          rw [List.drop_zero, List.take_of_length_le (by omega), ← hz]
        rw [hr]
        refine ⟨⟨by omega⟩, ok_bytes _, ?_⟩
        rw [← hQ, if_pos (by omega), decide_eq_true (by omega)]
        refine endD_val2 rfl rfl (str_eq ?_) rfl
        simp only [hE]
        exact std_bytes _
theorem T16 {l : List UInt8} {s : ByteArray} (hs : tx l = s) (hl : l.length ≤ 20000) : CallOk Try.prog 16 [.d (.sc (.string s))] [] ⟨.d (.sc (.string (tx (hexL l)))), [], []⟩ := by
  have hss : s.size = l.length := by rw [← hs, tx_size]
  refine CallOk.of_bodyD (body := c16) Try.func16 rfl (Nat.le_of_ble_eq_true (by kernel_rfl)) rfl ?_
  refine vc_ok tab_ok mixed ?_
  have hT := tab_ok
  have hm := mixed
  generalize hP : Try.prog = P at *
  generalize hA : std = A
  obtain ⟨qbin, qsh, qcmp, qscmp, qbcmp, qbnot, qneg, qwrap, qcat, qssize, qssub, qsget, qlen, qrsub, qapp, qelt, qset, qnth, qdrp, qstr, qint, qbool, qrow, qnat, qnadd, qnsub, qband, qofNat, qstrRow, qmkRow, qmx, qmn, qbytes⟩ := A
  have hE := Ar.eqs hA
  dsimp only at hE
  generalize hQ : EndD P Try.f16.results _ = Q
  cbv
  try simp only [nc] at *
  refine ⟨?_, ?_⟩
  · simp only [hE, List.length_map, std_lss, std_leq, std_gtr, std_geq, std_eql, std_neq, std_len, std_add, std_subI, std_mulI, std_ssize, std_not, std_band, std_bcmp, std_nat, std_ofNat, std_nadd, std_nsub, IntKind.wrap_i64, decide_eq_true_eq, decide_eq_false_iff_not, Bool.not_eq_true', Bool.not_eq_false', Option.getD_none, Option.getD_some, ]; exact ⟨by omega, by omega, by omega, by omega⟩
  refine LpW.app 0 rfl (κ := Nat) (fun k => k ≤ l.length) (fun k => l.length - k) (fun k => [(0, .d (.sc (.string s))), (3, .ref 1 0 (2 * k)), (10, .d (.sc (.int .i64 l.length))), (11, .d (.sc (.int .i64 k)))]) (fun k => [.dead] ++ [.row 1 false ((hexL (l.take k)).map cB)]) 0 1 rfl (by omega) ?_ ?_ ?_
  · refine .cons rfl (.cons ?_ (.cons ?_ (.cons rfl (.nil _))))
    · show AV.ref 1 0 (qnat 0) = .ref 1 0 0
      simp only [hE]
      rfl
    · show AV.d (D.sc (Value.int IntKind.i64 (qssize s))) = _
      simp only [hE, std_ssize, hss]
  · show [Root.dead] ++ [Root.row 1 false (qmkRow 0 [.sc (.int .u8 0)])] = _
    simp only [hE]
    rfl
  · intro k hk
    generalize hz : (hexL (l.take k)).map cB = zs
    have hzl : zs.length = 2 * k := by rw [← hz, List.length_map, hexL_length, List.length_take]; omega
    generalize hi : (k : Int) = i
    generalize hm' : 2 * k = m at *
    generalize hll : (l.length : Int) = ll
    refine vc_ok hT hm ?_
    rw [hA]
    cbv
    try simp only [nc] at *
    split
    · rename_i h3
      simp only [hE, List.length_map, std_lss, std_leq, std_gtr, std_geq, std_eql, std_neq, std_len, std_add, std_subI, std_mulI, std_ssize, std_not, std_band, std_bcmp, std_nat, std_ofNat, std_nadd, std_nsub, IntKind.wrap_i64, decide_eq_true_eq, decide_eq_false_iff_not, Bool.not_eq_true', Bool.not_eq_false', Option.getD_none, Option.getD_some] at h3
      have hk' : k < l.length := by omega
      cbv
      try simp only [nc] at *
      have hsuc := hexL_succ hk'
      have hb := l[k].toNat_lt
      generalize hbk : l[k].toNat = b at *
      have hget : qsget s i = (b : Int) := by simp only [hE, ← hs, std_sget hi hk', hbk]
      rw [hget]
      have hq : qsh .shr .u8 (b : Int) 4 = ((b / 16 : Nat) : Int) := by simp only [hE]; exact shr4
      have hrm : qbin .and .u8 (b : Int) 15 = ((b % 16 : Nat) : Int) := by simp only [hE]; exact and15 b (by omega)
      rw [hq, hrm]
      have hd1 : qsget { data := { toList := [48, 49, 50, 51, 52, 53, 54, 55, 56, 57, 97, 98, 99, 100, 101, 102] } } ((b / 16 : Nat) : Int) = ((fig (b / 16)).toNat : Int) := by simp only [hE]; exact dig_at _ (by omega)
      have hd2 : qsget { data := { toList := [48, 49, 50, 51, 52, 53, 54, 55, 56, 57, 97, 98, 99, 100, 101, 102] } } ((b % 16 : Nat) : Int) = ((fig (b % 16)).toNat : Int) := by simp only [hE]; exact dig_at _ (by omega)
      have hsd : qssize { data := { toList := [48, 49, 50, 51, 52, 53, 54, 55, 56, 57, 97, 98, 99, 100, 101, 102] } } = 16 := by simp only [hE]; rfl
      rw [hd1, hd2, hsd]
      have hr : qrsub [[D.sc (Value.int IntKind.u8 ((fig (b / 16)).toNat : Int))], [D.sc (Value.int IntKind.u8 ((fig (b % 16)).toNat : Int))]] (qofNat 0) (qofNat (qnadd 0 2)) = [fig (b / 16), fig (b % 16)].map cB := by
        simp only [hE]
        rfl
      rw [hr]
      have ha : qapp zs ([fig (b / 16), fig (b % 16)].map cB) = (hexL (l.take (k + 1))).map cB := by
        rw [hsuc, List.map_append, hz]
        simp only [hE, std_app]
      have hN : qnat (qlen (qapp zs ([fig (b / 16), fig (b % 16)].map cB))) = 2 * (k + 1) := by
        rw [ha]
        simp only [hE, std_len, std_nat, List.length_map, hexL_length, List.length_take, Int.toNat_natCast]
        omega
      refine ⟨by simp only [hE, List.length_map, std_lss, std_leq, std_gtr, std_geq, std_eql, std_neq, std_len, std_add, std_subI, std_mulI, std_ssize, std_not, std_band, std_bcmp, std_nat, std_ofNat, std_nadd, std_nsub, IntKind.wrap_i64, decide_eq_true_eq, decide_eq_false_iff_not, Bool.not_eq_true', Bool.not_eq_false', Option.getD_none, Option.getD_some, ]; exact ⟨by omega, by omega⟩, ⟨by omega⟩, ⟨by omega, by omega⟩, by simp only [hE, List.length_map, std_lss, std_leq, std_gtr, std_geq, std_eql, std_neq, std_len, std_add, std_subI, std_mulI, std_ssize, std_not, std_band, std_bcmp, std_nat, std_ofNat, std_nadd, std_nsub, IntKind.wrap_i64, decide_eq_true_eq, decide_eq_false_iff_not, Bool.not_eq_true', Bool.not_eq_false', Option.getD_none, Option.getD_some, ]; exact ⟨by omega, by omega⟩, ⟨by omega, by omega⟩, ?_, ⟨by simp⟩, k + 1, by omega, by omega, RoundEnd.one (r := 3) (by omega) rfl rfl rfl ha (.cons rfl (.cons ?_ (.cons rfl (.cons ?_ .nil))))⟩
      · simp only [List.map_cons, List.map_nil]
        exact ⟨rfl, hzl.symm, by simp only [List.length_cons, List.length_nil]; omega, by simp only [List.length_cons, List.length_nil]; omega⟩
      · show some (AV.ref 1 0 (qnat (qlen (qapp zs ([fig (b / 16), fig (b % 16)].map cB))))) = _
        rw [hN]
      · show some (AV.d (D.sc (Value.int IntKind.i64 (qbin .add .i64 i 1)))) = _
        simp only [hE, i_next hi (by omega)]
    · rename_i h3
      simp only [hE, List.length_map, std_lss, std_leq, std_gtr, std_geq, std_eql, std_neq, std_len, std_add, std_subI, std_mulI, std_ssize, std_not, std_band, std_bcmp, std_nat, std_ofNat, std_nadd, std_nsub, IntKind.wrap_i64, decide_eq_true_eq, decide_eq_false_iff_not, Bool.not_eq_true', Bool.not_eq_false', Option.getD_none, Option.getD_some] at h3
      cbv
      try simp only [nc] at *
      have hk' : k = l.length := by omega
      subst hk'
      rw [List.take_length] at hz
      have hr : qrsub zs (qofNat 0) (qofNat (qnadd 0 m)) = (hexL l).map cB := by
        simp only [hE]
        show (zs.drop 0).take (0 + m - 0) = _
        rw [List.drop_zero, List.take_of_length_le (by omega), ← hz]
      rw [hr]
      refine ⟨⟨by omega⟩, ok_bytes _, ?_⟩
      rw [← hQ]
      refine endD_val rfl (str_eq ?_)
      simp only [hE]
      exact std_bytes _
theorem T15 {l : List UInt8} {s : ByteArray} (hs : tx l = s) : CallOk Try.prog 15 [.d (.sc (.string s))] [] ⟨.tup [.d (.sc (.string (if l.length ≤ 20000 then tx (hexL l) else tx []))), .d (.sc (.bool (decide (l.length ≤ 20000))))], [], []⟩ := by
  have hss : s.size = l.length := by rw [← hs, tx_size]
  have e1 := ent16
  have t1 := @T16
  refine CallOk.of_bodyD (body := c15) Try.func15 rfl (Nat.le_of_ble_eq_true (by kernel_rfl)) rfl ?_
  refine vc_ok tab_ok mixed ?_
  have hT := tab_ok
  have hm := mixed
  generalize hP : Try.prog = P at *
  generalize hA : std = A
  obtain ⟨qbin, qsh, qcmp, qscmp, qbcmp, qbnot, qneg, qwrap, qcat, qssize, qssub, qsget, qlen, qrsub, qapp, qelt, qset, qnth, qdrp, qstr, qint, qbool, qrow, qnat, qnadd, qnsub, qband, qofNat, qstrRow, qmkRow, qmx, qmn, qbytes⟩ := A
  have hE := Ar.eqs hA
  dsimp only at hE
  generalize hQ : EndD P Try.f15.results _ = Q
  cbv
  try simp only [nc] at *
  split
  · rename_i h2
    simp only [hE, List.length_map, std_lss, std_leq, std_gtr, std_geq, std_eql, std_neq, std_len, std_add, std_subI, std_mulI, std_ssize, std_not, std_band, std_bcmp, std_nat, std_ofNat, std_nadd, std_nsub, IntKind.wrap_i64, decide_eq_true_eq, decide_eq_false_iff_not, Bool.not_eq_true', Bool.not_eq_false', Option.getD_none, Option.getD_some] at h2
    cbv
    try simp only [nc] at *
    rw [← hQ, if_neg (by omega), decide_eq_false (by omega)]
    exact endD_val2 rfl rfl rfl rfl
  · rename_i h2
    simp only [hE, List.length_map, std_lss, std_leq, std_gtr, std_geq, std_eql, std_neq, std_len, std_add, std_subI, std_mulI, std_ssize, std_not, std_band, std_bcmp, std_nat, std_ofNat, std_nadd, std_nsub, IntKind.wrap_i64, decide_eq_true_eq, decide_eq_false_iff_not, Bool.not_eq_true', Bool.not_eq_false', Option.getD_none, Option.getD_some] at h2
    cbv
    try simp only [nc] at *
    refine ClW.dd (f := 16) rfl rfl rfl rfl (.cons rfl .nil) rfl e1 (t1 hs (by omega)) rfl ?_
    generalize hr : tx (hexL l) = r
    cbv
    try simp only [nc] at *
    rw [← hQ, if_pos (by omega), decide_eq_true (by omega), hr]
    exact endD_val2 rfl rfl rfl rfl
def hexD (l : List UInt8) : List UInt8 := if l.length ≤ 20000 ∧ l ≠ [] then hexL l else [45]
theorem hexL_nil {l : List UInt8} : hexL l = [] ↔ l = [] := by
  constructor
  · intro h
    have := hexL_length l
    rw [h] at this
    simp only [List.length_nil] at this
    exact List.eq_nil_of_length_eq_zero (by omega)
  · rintro rfl; rfl
theorem T12 {l : List UInt8} {s : ByteArray} (hs : tx l = s) : CallOk Try.prog 12 [.d (.sc (.string s))] [] ⟨.d (.sc (.string (tx (hexD l)))), [], []⟩ := by
  have e1 := ent15
  have t1 := @T15
  refine CallOk.of_bodyD (body := c12) Try.func12 rfl (Nat.le_of_ble_eq_true (by kernel_rfl)) rfl ?_
  refine vc_ok tab_ok mixed ?_
  have hT := tab_ok
  have hm := mixed
  generalize hP : Try.prog = P at *
  generalize hA : std = A
  obtain ⟨qbin, qsh, qcmp, qscmp, qbcmp, qbnot, qneg, qwrap, qcat, qssize, qssub, qsget, qlen, qrsub, qapp, qelt, qset, qnth, qdrp, qstr, qint, qbool, qrow, qnat, qnadd, qnsub, qband, qofNat, qstrRow, qmkRow, qmx, qmn, qbytes⟩ := A
  have hE := Ar.eqs hA
  dsimp only at hE
  generalize hQ : EndD P Try.f12.results _ = Q
  cbv
  try simp only [nc] at *
  refine ClW.dd (f := 15) rfl rfl rfl rfl (.cons rfl .nil) rfl e1 (t1 hs) rfl ?_
  generalize hr : (if l.length ≤ 20000 then tx (hexL l) else tx []) = r
  generalize decide (l.length ≤ 20000) = b
  cbv
  try simp only [nc] at *
  split
  · rename_i h
    simp only [hE, std_seql, decide_eq_true_eq] at h
    cbv
    try simp only [nc] at *
    rw [← hQ]
    have : hexD l = [45] := by
      unfold hexD
      rw [if_neg]
      rintro ⟨h1, h2⟩
      rw [if_pos h1, h] at hr
      exact h2 (hexL_nil.1 (tx_inj (b := []) hr))
    rw [this]
    exact endD_one rfl rfl
  · rename_i h
    simp only [hE, std_seql, decide_eq_false_iff_not] at h
    cbv
    try simp only [nc] at *
    rw [← hQ]
    have : tx (hexD l) = r := by
      unfold hexD
      by_cases h1 : l.length ≤ 20000
      · rw [if_pos h1] at hr
        have hne : l ≠ [] := by
          rintro rfl
          exact h hr.symm
        rw [if_pos ⟨h1, hne⟩, hr]
      · rw [if_neg h1] at hr
        exact absurd hr.symm h
    rw [this]
    exact endD_one rfl rfl
end Go.Proofs.Ytbdlhemakfmadab.Ab
