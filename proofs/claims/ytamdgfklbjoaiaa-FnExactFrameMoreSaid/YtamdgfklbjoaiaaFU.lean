/- What functions of the program come to, for all arguments in the given bounds. -/
import Derived.Test.YtamdgfklbjoaiaaCO
set_option linter.unusedVariables false
set_option linter.unusedSimpArgs false
namespace Go.Proofs.Ytamdgfklbjoaiaa.Ab
open Go Go.Proofs
set_option maxRecDepth 20000
/-! Sums. -/
theorem bv_nat {w n : Nat} (h : n < 2 ^ w) : (BitVec.ofInt w (n : Int)).toNat = n := by
  rw [BitVec.ofInt_natCast, BitVec.toNat_ofNat, Nat.mod_eq_of_lt h]
theorem std_and64 {a b : Nat} (ha : a < 2 ^ 63) (hb : b < 2 ^ 63) : std.bin .and .i64 (a : Int) (b : Int) = ((a &&& b : Nat) : Int) := by
  show IntKind.i64.wrap ((BitVec.ofInt 64 (a : Int) &&& BitVec.ofInt 64 (b : Int)).toNat : Int) = _
  rw [BitVec.toNat_and, bv_nat (by omega), bv_nat (by omega)]
  have : a &&& b ≤ a := Nat.and_le_left
  exact i64_wrap (by omega) (by omega)
theorem std_xor64 {a b : Nat} (ha : a < 2 ^ 63) (hb : b < 2 ^ 63) : std.bin .xor .i64 (a : Int) (b : Int) = ((a ^^^ b : Nat) : Int) := by
  show IntKind.i64.wrap ((BitVec.ofInt 64 (a : Int) ^^^ BitVec.ofInt 64 (b : Int)).toNat : Int) = _
  rw [BitVec.toNat_xor, bv_nat (by omega), bv_nat (by omega)]
  have : a ^^^ b < 2 ^ 63 := Nat.xor_lt_two_pow ha hb
  exact i64_wrap (by omega) (by omega)
theorem u32_wrap {n : Int} (h0 : 0 ≤ n) (h1 : n < 2 ^ 32) : IntKind.u32.wrap n = n := by
  show (let m := n % (2 ^ 32 : Int); if false && decide (m ≥ (2 ^ 31 : Int)) then m - (2 ^ 32 : Int) else m) = n
  simp
  omega
theorem std_and32 {a b : Nat} (ha : a < 2 ^ 32) (hb : b < 2 ^ 32) : std.bin .and .u32 (a : Int) (b : Int) = ((a &&& b : Nat) : Int) := by
  show IntKind.u32.wrap ((BitVec.ofInt 32 (a : Int) &&& BitVec.ofInt 32 (b : Int)).toNat : Int) = _
  rw [BitVec.toNat_and, bv_nat (by omega), bv_nat (by omega)]
  have : a &&& b ≤ a := Nat.and_le_left
  exact u32_wrap (by omega) (by omega)
theorem std_xor32 {a b : Nat} (ha : a < 2 ^ 32) (hb : b < 2 ^ 32) : std.bin .xor .u32 (a : Int) (b : Int) = ((a ^^^ b : Nat) : Int) := by
  show IntKind.u32.wrap ((BitVec.ofInt 32 (a : Int) ^^^ BitVec.ofInt 32 (b : Int)).toNat : Int) = _
  rw [BitVec.toNat_xor, bv_nat (by omega), bv_nat (by omega)]
  have : a ^^^ b < 2 ^ 32 := Nat.xor_lt_two_pow ha hb
  exact u32_wrap (by omega) (by omega)
theorem shr1 {k : IntKind} {n : Nat} (hk : 1 ≤ k.bits) : std.sh .shr k (n : Int) 1 = ((n / 2 : Nat) : Int) := by
  show Int.fdiv (n : Int) (2 ^ (min (1 : Int).toNat k.bits)) = _
  rw [show min (1 : Int).toNat k.bits = 1 from Nat.min_eq_left hk, Int.fdiv_eq_ediv_of_nonneg _ (by omega)]
  omega
def crcS (x : Nat) : Nat := if x % 2 = 1 then (x / 2) ^^^ 2197175160 else x / 2
def crcN : Nat → Nat → Nat
  | 0, x => x
  | n + 1, x => crcS (crcN n x)
def crcB (x b : Nat) : Nat := crcN 8 (x ^^^ b)
theorem crcS_lt {x : Nat} (h : x < 2 ^ 32) : crcS x < 2 ^ 32 := by
  unfold crcS
  split
  · exact Nat.xor_lt_two_pow (by omega) (by omega)
  · omega
theorem crcN_lt {x : Nat} (h : x < 2 ^ 32) : ∀ n, crcN n x < 2 ^ 32
  | 0 => h
  | n + 1 => crcS_lt (crcN_lt h n)
theorem crcB_lt {x b : Nat} (h : x < 2 ^ 32) (hb : b < 256) : crcB x b < 2 ^ 32 := crcN_lt (Nat.xor_lt_two_pow h (by omega)) 8
def crcL (x : Nat) (l : List UInt8) : Nat := l.foldl (fun x b => crcB x b.toNat) x
theorem crcL_lt {x : Nat} (h : x < 2 ^ 32) (l : List UInt8) : crcL x l < 2 ^ 32 := by
  unfold crcL
  induction l generalizing x with
  | nil => exact h
  | cons b l ih => exact ih (crcB_lt h b.toNat_lt)
theorem crcL_succ {x : Nat} {l : List UInt8} {k : Nat} (h : k < l.length) : crcL x (l.take (k + 1)) = crcB (crcL x (l.take k)) l[k].toNat := by
  unfold crcL
  rw [List.take_succ_eq_append_getElem h, List.foldl_append]
  rfl
def sumN (x : Nat) (l : List UInt8) : Nat := crcL (x ^^^ 4294967295) l ^^^ 4294967295
theorem sumN_lt {x : Nat} (h : x < 2 ^ 32) (l : List UInt8) : sumN x l < 2 ^ 32 := Nat.xor_lt_two_pow (crcL_lt (Nat.xor_lt_two_pow h (by omega)) l) (by omega)
noncomputable def c139 : Code := (Try.f139.body).getD .skip
theorem ent139 : Entered Try.prog 139 := ⟨_, Try.func139, rfl, rfl⟩
noncomputable def c128 : Code := (Try.f128.body).getD .skip
theorem ent128 : Entered Try.prog 128 := ⟨_, Try.func128, rfl, rfl⟩
noncomputable def c107 : Code := (Try.f107.body).getD .skip
theorem ent107 : Entered Try.prog 107 := ⟨_, Try.func107, rfl, rfl⟩
noncomputable def c141 : Code := (Try.f141.body).getD .skip
theorem ent141 : Entered Try.prog 141 := ⟨_, Try.func141, rfl, rfl⟩
noncomputable def c132 : Code := (Try.f132.body).getD .skip
theorem ent132 : Entered Try.prog 132 := ⟨_, Try.func132, rfl, rfl⟩
noncomputable def c115 : Code := (Try.f115.body).getD .skip
theorem ent115 : Entered Try.prog 115 := ⟨_, Try.func115, rfl, rfl⟩
theorem T139 {x b : Nat} (hx : x < 2 ^ 32) (hb : b < 256) : CallOk Try.prog 139 [.d (.sc (.int .i64 x)), .d (.sc (.int .i64 b))] [] ⟨.d (.sc (.int .i64 (crcB x b))), [], []⟩ := by
  generalize hxi : (x : Int) = xi
  generalize hbi : (b : Int) = bi
  generalize hri : ((crcB x b : Nat) : Int) = ri
  refine CallOk.of_bodyD (body := c139) Try.func139 rfl (Nat.le_of_ble_eq_true (by kernel_rfl)) rfl ?_
  refine vc_ok tab_ok mixed ?_
  have hT := tab_ok
  have hm := mixed
  generalize hP : Try.prog = P at *
  generalize hA : std = A
  obtain ⟨qbin, qsh, qcmp, qscmp, qbcmp, qbnot, qneg, qwrap, qcat, qssize, qssub, qsget, qlen, qrsub, qapp, qelt, qset, qnth, qdrp, qstr, qint, qbool, qrow, qnat, qnadd, qnsub, qband, qofNat, qstrRow, qmkRow, qmx, qmn, qbytes, qemp⟩ := A
  have hE := Ar.eqs hA
  dsimp only at hE
  generalize hQ : EndD P Try.f139.results _ = Q
  have h1 : qbin .and .i64 xi 4294967295 = ((x : Nat) : Int) := by
    simp only [hE]
    rw [← hxi]
    exact (std_and64 (b := 4294967295) (by omega) (by omega)).trans (by rw [show (4294967295 : Nat) = 2 ^ 32 - 1 from rfl, Nat.and_two_pow_sub_one_eq_mod, Nat.mod_eq_of_lt hx])
  have h2 : qbin .and .i64 bi 255 = ((b : Nat) : Int) := by
    simp only [hE]
    rw [← hbi]
    exact (std_and64 (b := 255) (by omega) (by omega)).trans (by rw [show (255 : Nat) = 2 ^ 8 - 1 from rfl, Nat.and_two_pow_sub_one_eq_mod, Nat.mod_eq_of_lt hb])
  cbv
  try simp only [nc] at *
  refine LpW.of (κ := Nat) (fun k => k ≤ 8) (fun k => 8 - k) (fun k => [(5, .d (.sc (.int .i64 (crcN k (x ^^^ b))))), (6, .d (.sc (.int .i64 k)))]) (fun _ => []) 0 (by omega) ?_ (by first | rfl | trivial) ?_
  · refine .cons ?_ (.cons rfl (.nil _))
    show AV.d (.sc (.int .i64 (qbin .xor .i64 (qbin .and .i64 xi 4294967295) (qbin .and .i64 bi 255)))) = _
    rw [h1, h2]
    simp only [hE]
    rw [std_xor64 (by omega) (by omega)]
    rfl
  · intro k hk
    have hlt := crcN_lt (Nat.xor_lt_two_pow hx (show b < 2 ^ 32 by omega)) k
    obtain ⟨y, hy⟩ : ∃ y, y = crcN k (x ^^^ b) := ⟨_, rfl⟩
    rw [← hy] at hlt ⊢
    generalize hyi : (y : Int) = yi
    generalize hi : (k : Int) = i
    refine vc_ok hT hm ?_
    rw [hA]
    cbv
    try simp only [nc] at *
    split
    · rename_i h3
      simp only [hE, List.length_map, std_lss, std_leq, std_gtr, std_geq, std_eql, std_neq, std_len, std_add, std_subI, std_mulI, std_ssize, std_not, std_band, std_bcmp, std_nat, std_ofNat, std_nadd, std_nsub, std_emp, IntKind.wrap_i64, decide_eq_true_eq, decide_eq_false_iff_not, Bool.not_eq_true', Bool.not_eq_false', Option.getD_none, Option.getD_some] at h3
      have hs : crcN (k + 1) (x ^^^ b) = crcS y := by rw [hy]; rfl
      have ha : qbin .and .i64 yi 1 = ((y % 2 : Nat) : Int) := by
        simp only [hE]
        rw [← hyi]
        exact (std_and64 (b := 1) (by omega) (by omega)).trans (by rw [Nat.and_one_is_mod])
      have hsh : qsh .shr .i64 yi 1 = ((y / 2 : Nat) : Int) := by
        simp only [hE]
        rw [← hyi]
        exact shr1 (by decide)
      cbv
      try simp only [nc] at *
      refine ⟨⟨by omega⟩, ?_⟩
      rw [ha]
      split
      · rename_i h4
        simp only [hE, List.length_map, std_lss, std_leq, std_gtr, std_geq, std_eql, std_neq, std_len, std_add, std_subI, std_mulI, std_ssize, std_not, std_band, std_bcmp, std_nat, std_ofNat, std_nadd, std_nsub, std_emp, IntKind.wrap_i64, decide_eq_true_eq, decide_eq_false_iff_not, Bool.not_eq_true', Bool.not_eq_false', Option.getD_none, Option.getD_some] at h4
        cbv
        try simp only [nc] at *
        refine ⟨k + 1, by omega, by omega, ?_, by first | rfl | trivial⟩
        refine .cons ?_ (.cons ?_ (.nil _))
        · show AV.d (D.sc (Value.int IntKind.i64 (qbin .xor .i64 (qsh .shr .i64 yi 1) 2197175160))) = _
          rw [hsh, hs]
          unfold crcS
          rw [if_pos (by omega)]
          simp only [hE]
          exact congrArg (fun z => AV.d (D.sc (Value.int IntKind.i64 z))) (std_xor64 (b := 2197175160) (by omega) (by omega))
        · show AV.d (D.sc (Value.int IntKind.i64 (qbin .add .i64 i 1))) = _
          simp only [hE, i_next hi (by omega)]
      · rename_i h4
        simp only [hE, List.length_map, std_lss, std_leq, std_gtr, std_geq, std_eql, std_neq, std_len, std_add, std_subI, std_mulI, std_ssize, std_not, std_band, std_bcmp, std_nat, std_ofNat, std_nadd, std_nsub, std_emp, IntKind.wrap_i64, decide_eq_true_eq, decide_eq_false_iff_not, Bool.not_eq_true', Bool.not_eq_false', Option.getD_none, Option.getD_some] at h4
        cbv
        try simp only [nc] at *
        refine ⟨k + 1, by omega, by omega, ?_, by first | rfl | trivial⟩
        refine .cons ?_ (.cons ?_ (.nil _))
        · show AV.d (D.sc (Value.int IntKind.i64 (qsh .shr .i64 yi 1))) = _
          rw [hsh, hs]
          unfold crcS
          rw [if_neg (by omega)]
        · show AV.d (D.sc (Value.int IntKind.i64 (qbin .add .i64 i 1))) = _
          simp only [hE, i_next hi (by omega)]
    · rename_i h3
      simp only [hE, List.length_map, std_lss, std_leq, std_gtr, std_geq, std_eql, std_neq, std_len, std_add, std_subI, std_mulI, std_ssize, std_not, std_band, std_bcmp, std_nat, std_ofNat, std_nadd, std_nsub, std_emp, IntKind.wrap_i64, decide_eq_true_eq, decide_eq_false_iff_not, Bool.not_eq_true', Bool.not_eq_false', Option.getD_none, Option.getD_some] at h3
      cbv
      try simp only [nc] at *
      have hk8 : k = 8 := by omega
      subst hk8
      rw [← hQ]
      refine endD_val rfl (int_eq ?_)
      rw [← hri, ← hyi, hy]
      rfl
theorem T141 {x b : Nat} (hx : x < 2 ^ 32) (hb : b < 256) : CallOk Try.prog 141 [.d (.sc (.int .u32 x)), .d (.sc (.int .u8 b))] [] ⟨.d (.sc (.int .u32 (crcB x b))), [], []⟩ := by
  generalize hxi : (x : Int) = xi
  generalize hbi : (b : Int) = bi
  generalize hri : ((crcB x b : Nat) : Int) = ri
  refine CallOk.of_bodyD (body := c141) Try.func141 rfl (Nat.le_of_ble_eq_true (by kernel_rfl)) rfl ?_
  refine vc_ok tab_ok mixed ?_
  have hT := tab_ok
  have hm := mixed
  generalize hP : Try.prog = P at *
  generalize hA : std = A
  obtain ⟨qbin, qsh, qcmp, qscmp, qbcmp, qbnot, qneg, qwrap, qcat, qssize, qssub, qsget, qlen, qrsub, qapp, qelt, qset, qnth, qdrp, qstr, qint, qbool, qrow, qnat, qnadd, qnsub, qband, qofNat, qstrRow, qmkRow, qmx, qmn, qbytes, qemp⟩ := A
  have hE := Ar.eqs hA
  dsimp only at hE
  generalize hQ : EndD P Try.f141.results _ = Q
  have h1 : qwrap .u32 bi = ((b : Nat) : Int) := by
    simp only [hE, std_wrapK]
    rw [u32_wrap (by omega) (by omega)]
    exact hbi.symm
  cbv
  try simp only [nc] at *
  refine LpW.of (κ := Nat) (fun k => k ≤ 8) (fun k => 8 - k) (fun k => [(0, .d (.sc (.int .u32 (crcN k (x ^^^ b))))), (10, .d (.sc (.int .i64 k)))]) (fun _ => []) 0 (by omega) ?_ (by first | rfl | trivial) ?_
  · refine .cons ?_ (.cons rfl (.nil _))
    show AV.d (.sc (.int .u32 (qbin .xor .u32 xi (qwrap .u32 bi)))) = _
    rw [h1, ← hxi]
    simp only [hE]
    rw [std_xor32 (by omega) (by omega)]
    rfl
  · intro k hk
    have hlt := crcN_lt (Nat.xor_lt_two_pow hx (show b < 2 ^ 32 by omega)) k
    obtain ⟨y, hy⟩ : ∃ y, y = crcN k (x ^^^ b) := ⟨_, rfl⟩
    rw [← hy] at hlt ⊢
    generalize hyi : (y : Int) = yi
    generalize hi : (k : Int) = i
    refine vc_ok hT hm ?_
    rw [hA]
    cbv
    try simp only [nc] at *
    split
    · rename_i h3
      simp only [hE, List.length_map, std_lss, std_leq, std_gtr, std_geq, std_eql, std_neq, std_len, std_add, std_subI, std_mulI, std_ssize, std_not, std_band, std_bcmp, std_nat, std_ofNat, std_nadd, std_nsub, std_emp, IntKind.wrap_i64, decide_eq_true_eq, decide_eq_false_iff_not, Bool.not_eq_true', Bool.not_eq_false', Option.getD_none, Option.getD_some] at h3
      have hs : crcN (k + 1) (x ^^^ b) = crcS y := by rw [hy]; rfl
      have ha : qbin .and .u32 yi 1 = ((y % 2 : Nat) : Int) := by
        simp only [hE]
        rw [← hyi]
        exact (std_and32 (b := 1) (by omega) (by omega)).trans (by rw [Nat.and_one_is_mod])
      have hsh : qsh .shr .u32 yi 1 = ((y / 2 : Nat) : Int) := by
        simp only [hE]
        rw [← hyi]
        exact shr1 (by decide)
      cbv
      try simp only [nc] at *
      refine ⟨⟨by omega⟩, ?_⟩
      rw [ha]
      split
      · rename_i h4
        simp only [hE, List.length_map, std_lss, std_leq, std_gtr, std_geq, std_eql, std_neq, std_len, std_add, std_subI, std_mulI, std_ssize, std_not, std_band, std_bcmp, std_nat, std_ofNat, std_nadd, std_nsub, std_emp, IntKind.wrap_i64, decide_eq_true_eq, decide_eq_false_iff_not, Bool.not_eq_true', Bool.not_eq_false', Option.getD_none, Option.getD_some] at h4
        cbv
        try simp only [nc] at *
        refine ⟨k + 1, by omega, by omega, ?_, by first | rfl | trivial⟩
        refine .cons ?_ (.cons ?_ (.nil _))
        · show AV.d (D.sc (Value.int IntKind.u32 (qbin .xor .u32 (qsh .shr .u32 yi 1) 2197175160))) = _
          rw [hsh, hs]
          unfold crcS
          rw [if_pos (by omega)]
          simp only [hE]
          exact congrArg (fun z => AV.d (D.sc (Value.int IntKind.u32 z))) (std_xor32 (b := 2197175160) (by omega) (by omega))
        · show AV.d (D.sc (Value.int IntKind.i64 (qbin .add .i64 i 1))) = _
          simp only [hE, i_next hi (by omega)]
      · rename_i h4
        simp only [hE, List.length_map, std_lss, std_leq, std_gtr, std_geq, std_eql, std_neq, std_len, std_add, std_subI, std_mulI, std_ssize, std_not, std_band, std_bcmp, std_nat, std_ofNat, std_nadd, std_nsub, std_emp, IntKind.wrap_i64, decide_eq_true_eq, decide_eq_false_iff_not, Bool.not_eq_true', Bool.not_eq_false', Option.getD_none, Option.getD_some] at h4
        cbv
        try simp only [nc] at *
        refine ⟨k + 1, by omega, by omega, ?_, by first | rfl | trivial⟩
        refine .cons ?_ (.cons ?_ (.nil _))
        · show AV.d (D.sc (Value.int IntKind.u32 (qsh .shr .u32 yi 1))) = _
          rw [hsh, hs]
          unfold crcS
          rw [if_neg (by omega)]
        · show AV.d (D.sc (Value.int IntKind.i64 (qbin .add .i64 i 1))) = _
          simp only [hE, i_next hi (by omega)]
    · rename_i h3
      simp only [hE, List.length_map, std_lss, std_leq, std_gtr, std_geq, std_eql, std_neq, std_len, std_add, std_subI, std_mulI, std_ssize, std_not, std_band, std_bcmp, std_nat, std_ofNat, std_nadd, std_nsub, std_emp, IntKind.wrap_i64, decide_eq_true_eq, decide_eq_false_iff_not, Bool.not_eq_true', Bool.not_eq_false', Option.getD_none, Option.getD_some] at h3
      cbv
      try simp only [nc] at *
      have hk8 : k = 8 := by omega
      subst hk8
      rw [← hQ]
      refine endD_val rfl (int_eq ?_)
      rw [← hri, ← hyi, hy]
      rfl
theorem T128 {x : Nat} (hx : x < 2 ^ 32) {l : List UInt8} {s : ByteArray} (hs : tx l = s) (hl : l.length < 2 ^ 47) : CallOk Try.prog 128 [.d (.sc (.int .i64 x)), .d (.sc (.string s))] [] ⟨.d (.sc (.int .i64 (sumN x l))), [], []⟩ := by
  have e1 := ent139
  have t1 := @T139
  have hss : s.size = l.length := by rw [← hs, tx_size]
  have hx0 : x ^^^ 4294967295 < 2 ^ 32 := Nat.xor_lt_two_pow hx (by omega)
  generalize hxi : (x : Int) = xi
  generalize hri : ((sumN x l : Nat) : Int) = ri
  refine CallOk.of_bodyD (body := c128) Try.func128 rfl (Nat.le_of_ble_eq_true (by kernel_rfl)) rfl ?_
  refine vc_ok tab_ok mixed ?_
  have hT := tab_ok
  have hm := mixed
  generalize hP : Try.prog = P at *
  generalize hA : std = A
  obtain ⟨qbin, qsh, qcmp, qscmp, qbcmp, qbnot, qneg, qwrap, qcat, qssize, qssub, qsget, qlen, qrsub, qapp, qelt, qset, qnth, qdrp, qstr, qint, qbool, qrow, qnat, qnadd, qnsub, qband, qofNat, qstrRow, qmkRow, qmx, qmn, qbytes, qemp⟩ := A
  have hE := Ar.eqs hA
  dsimp only at hE
  generalize hQ : EndD P Try.f128.results _ = Q
  have h1 : qbin .and .i64 xi 4294967295 = ((x : Nat) : Int) := by
    simp only [hE]
    rw [← hxi]
    exact (std_and64 (b := 4294967295) (by omega) (by omega)).trans (by rw [show (4294967295 : Nat) = 2 ^ 32 - 1 from rfl, Nat.and_two_pow_sub_one_eq_mod, Nat.mod_eq_of_lt hx])
  cbv
  try simp only [nc] at *
  refine LpW.of (κ := Nat) (fun k => k ≤ l.length) (fun k => l.length - k) (fun k => [(1, .d (.sc (.string s))), (5, .d (.sc (.int .i64 (crcL (x ^^^ 4294967295) (l.take k))))), (6, .d (.sc (.int .i64 k)))]) (fun _ => []) 0 (by omega) ?_ (by first | rfl | trivial) ?_
  · refine .cons rfl (.cons ?_ (.cons rfl (.nil _)))
    show AV.d (.sc (.int .i64 (qbin .xor .i64 (qbin .and .i64 xi 4294967295) 4294967295))) = _
    rw [h1]
    simp only [hE]
    exact congrArg (fun z => AV.d (D.sc (Value.int IntKind.i64 z))) (std_xor64 (b := 4294967295) (by omega) (by omega))
  · intro k hk
    have hlt := crcL_lt hx0 (l.take k)
    obtain ⟨y, hy⟩ : ∃ y, y = crcL (x ^^^ 4294967295) (l.take k) := ⟨_, rfl⟩
    rw [← hy] at hlt ⊢
    generalize hyi : (y : Int) = yi
    generalize hi : (k : Int) = i
    refine vc_ok hT hm ?_
    rw [hA]
    cbv
    try simp only [nc] at *
    split
    · rename_i h3
      simp only [hE, List.length_map, std_lss, std_leq, std_gtr, std_geq, std_eql, std_neq, std_len, std_add, std_subI, std_mulI, std_ssize, std_not, std_band, std_bcmp, std_nat, std_ofNat, std_nadd, std_nsub, std_emp, IntKind.wrap_i64, decide_eq_true_eq, decide_eq_false_iff_not, Bool.not_eq_true', Bool.not_eq_false', Option.getD_none, Option.getD_some] at h3
      have hk' : k < l.length := by omega
      have hsuc := crcL_succ (x := x ^^^ 4294967295) hk'
      rw [← hy] at hsuc
      have hb := l[k].toNat_lt
      have hget : qwrap .i64 (qsget s i) = ((l[k].toNat : Nat) : Int) := by
        simp only [hE, ← hs, std_sget hi hk', std_wrapK]
        exact wrap_in (by omega)
      generalize hbk : l[k].toNat = b at *
      cbv
      try simp only [nc] at *
      refine ⟨by simp only [hE, List.length_map, std_lss, std_leq, std_gtr, std_geq, std_eql, std_neq, std_len, std_add, std_subI, std_mulI, std_ssize, std_not, std_band, std_bcmp, std_nat, std_ofNat, std_nadd, std_nsub, std_emp, IntKind.wrap_i64, decide_eq_true_eq, decide_eq_false_iff_not, Bool.not_eq_true', Bool.not_eq_false', Option.getD_none, Option.getD_some, ]; exact ⟨by omega, by omega⟩, ?_⟩
      rw [hget, ← hyi]
      refine ClW.dd (f := 139) rfl rfl rfl rfl (.cons rfl (.cons rfl .nil)) rfl e1 (t1 hlt (by omega)) rfl ?_
      rw [← hsuc]
      generalize hzi : ((crcL (x ^^^ 4294967295) (l.take (k + 1)) : Nat) : Int) = zi
      cbv
      try simp only [nc] at *
      refine ⟨k + 1, by omega, by omega, ?_, by first | rfl | trivial⟩
      refine .cons rfl (.cons ?_ (.cons ?_ (.nil _)))
      · rw [hzi]
        rfl
      · show AV.d (D.sc (Value.int IntKind.i64 (qbin .add .i64 i 1))) = _
        simp only [hE, i_next hi (by omega)]
    · rename_i h3
      simp only [hE, List.length_map, std_lss, std_leq, std_gtr, std_geq, std_eql, std_neq, std_len, std_add, std_subI, std_mulI, std_ssize, std_not, std_band, std_bcmp, std_nat, std_ofNat, std_nadd, std_nsub, std_emp, IntKind.wrap_i64, decide_eq_true_eq, decide_eq_false_iff_not, Bool.not_eq_true', Bool.not_eq_false', Option.getD_none, Option.getD_some] at h3
      cbv
      try simp only [nc] at *
      have hk' : k = l.length := by omega
      subst hk'
      rw [List.take_length] at hy
      rw [← hQ]
      refine endD_val rfl (int_eq ?_)
      rw [← hri, ← hyi]
      simp only [hE]
      unfold sumN
      rw [← hy]
      exact std_xor64 (b := 4294967295) (by omega) (by omega)
theorem T107 {l : List UInt8} {s : ByteArray} (hs : tx l = s) (hl : l.length < 2 ^ 47) : CallOk Try.prog 107 [.d (.sc (.string s))] [] ⟨.d (.sc (.int .i64 (sumN 0 l))), [], []⟩ := by
  have e1 := ent128
  have t1 := @T128
  refine CallOk.of_bodyD (body := c107) Try.func107 rfl (Nat.le_of_ble_eq_true (by kernel_rfl)) rfl ?_
  refine vc_ok tab_ok mixed ?_
  have hT := tab_ok
  have hm := mixed
  generalize hP : Try.prog = P at *
  generalize hA : std = A
  obtain ⟨qbin, qsh, qcmp, qscmp, qbcmp, qbnot, qneg, qwrap, qcat, qssize, qssub, qsget, qlen, qrsub, qapp, qelt, qset, qnth, qdrp, qstr, qint, qbool, qrow, qnat, qnadd, qnsub, qband, qofNat, qstrRow, qmkRow, qmx, qmn, qbytes, qemp⟩ := A
  have hE := Ar.eqs hA
  dsimp only at hE
  generalize hQ : EndD P Try.f107.results _ = Q
  cbv
  try simp only [nc] at *
  refine ClW.dd (f := 128) rfl rfl rfl rfl (.cons rfl (.cons rfl .nil)) rfl e1 (t1 (x := 0) (by omega) hs hl) rfl ?_
  generalize hr : ((sumN 0 l : Nat) : Int) = r
  cbv
  try simp only [nc] at *
  rw [← hQ, hr]
  exact endD_one rfl rfl
theorem T132 {x : Nat} (hx : x < 2 ^ 32) {l : List UInt8} {s : ByteArray} (hs : tx l = s) (hl : l.length < 2 ^ 47) : CallOk Try.prog 132 [.d (.sc (.int .i64 x)), .d (.sc (.string s))] [] ⟨.d (.sc (.int .i64 (sumN x l))), [], []⟩ := by
  have e1 := ent141
  have t1 := @T141
  have hss : s.size = l.length := by rw [← hs, tx_size]
  have hx0 : x ^^^ 4294967295 < 2 ^ 32 := Nat.xor_lt_two_pow hx (by omega)
  generalize hxi : (x : Int) = xi
  generalize hri : ((sumN x l : Nat) : Int) = ri
  refine CallOk.of_bodyD (body := c132) Try.func132 rfl (Nat.le_of_ble_eq_true (by kernel_rfl)) rfl ?_
  refine vc_ok tab_ok mixed ?_
  have hT := tab_ok
  have hm := mixed
  generalize hP : Try.prog = P at *
  generalize hA : std = A
  obtain ⟨qbin, qsh, qcmp, qscmp, qbcmp, qbnot, qneg, qwrap, qcat, qssize, qssub, qsget, qlen, qrsub, qapp, qelt, qset, qnth, qdrp, qstr, qint, qbool, qrow, qnat, qnadd, qnsub, qband, qofNat, qstrRow, qmkRow, qmx, qmn, qbytes, qemp⟩ := A
  have hE := Ar.eqs hA
  dsimp only at hE
  generalize hQ : EndD P Try.f132.results _ = Q
  have h1 : qwrap .u32 xi = ((x : Nat) : Int) := by
    simp only [hE, std_wrapK]
    rw [u32_wrap (by omega) (by omega)]
    exact hxi.symm
  cbv
  try simp only [nc] at *
  refine LpW.of (κ := Nat) (fun k => k ≤ l.length) (fun k => l.length - k) (fun k => [(1, .d (.sc (.string s))), (5, .d (.sc (.int .u32 (crcL (x ^^^ 4294967295) (l.take k))))), (11, .d (.sc (.int .i64 l.length))), (12, .d (.sc (.int .i64 k)))]) (fun _ => []) 0 (by omega) ?_ (by first | rfl | trivial) ?_
  · refine .cons rfl (.cons ?_ (.cons ?_ (.cons rfl (.nil _))))
    rotate_left
    · show AV.d (D.sc (Value.int IntKind.i64 (qssize s))) = _
      simp only [hE, std_ssize, hss]
    show AV.d (.sc (.int .u32 (qbin .xor .u32 (qwrap .u32 xi) 4294967295))) = _
    rw [h1]
    simp only [hE]
    exact congrArg (fun z => AV.d (D.sc (Value.int IntKind.u32 z))) (std_xor32 (b := 4294967295) (by omega) (by omega))
  · intro k hk
    have hlt := crcL_lt hx0 (l.take k)
    obtain ⟨y, hy⟩ : ∃ y, y = crcL (x ^^^ 4294967295) (l.take k) := ⟨_, rfl⟩
    rw [← hy] at hlt ⊢
    generalize hyi : (y : Int) = yi
    generalize hi : (k : Int) = i
    generalize hll : (l.length : Int) = ll at *
    refine vc_ok hT hm ?_
    rw [hA]
    cbv
    try simp only [nc] at *
    split
    · rename_i h3
      simp only [hE, List.length_map, std_lss, std_leq, std_gtr, std_geq, std_eql, std_neq, std_len, std_add, std_subI, std_mulI, std_ssize, std_not, std_band, std_bcmp, std_nat, std_ofNat, std_nadd, std_nsub, std_emp, IntKind.wrap_i64, decide_eq_true_eq, decide_eq_false_iff_not, Bool.not_eq_true', Bool.not_eq_false', Option.getD_none, Option.getD_some] at h3
      have hk' : k < l.length := by omega
      have hsuc := crcL_succ (x := x ^^^ 4294967295) hk'
      rw [← hy] at hsuc
      have hb := l[k].toNat_lt
      have hget : qsget s i = ((l[k].toNat : Nat) : Int) := by
        simp only [hE, ← hs, std_sget hi hk']
      generalize hbk : l[k].toNat = b at *
      cbv
      try simp only [nc] at *
      refine ⟨by simp only [hE, List.length_map, std_lss, std_leq, std_gtr, std_geq, std_eql, std_neq, std_len, std_add, std_subI, std_mulI, std_ssize, std_not, std_band, std_bcmp, std_nat, std_ofNat, std_nadd, std_nsub, std_emp, IntKind.wrap_i64, decide_eq_true_eq, decide_eq_false_iff_not, Bool.not_eq_true', Bool.not_eq_false', Option.getD_none, Option.getD_some, ]; exact ⟨by omega, by omega⟩, ?_⟩
      rw [hget, ← hyi]
      refine ClW.dd (f := 141) rfl rfl rfl rfl (.cons rfl (.cons rfl .nil)) rfl e1 (t1 hlt (by omega)) rfl ?_
      rw [← hsuc]
      generalize hzi : ((crcL (x ^^^ 4294967295) (l.take (k + 1)) : Nat) : Int) = zi
      cbv
      try simp only [nc] at *
      refine ⟨k + 1, by omega, by omega, ?_, by first | rfl | trivial⟩
      refine .cons rfl (.cons ?_ (.cons rfl (.cons ?_ (.nil _))))
      · rw [hzi]
        rfl
      · show AV.d (D.sc (Value.int IntKind.i64 (qbin .add .i64 i 1))) = _
        simp only [hE, i_next hi (by omega)]
    · rename_i h3
      simp only [hE, List.length_map, std_lss, std_leq, std_gtr, std_geq, std_eql, std_neq, std_len, std_add, std_subI, std_mulI, std_ssize, std_not, std_band, std_bcmp, std_nat, std_ofNat, std_nadd, std_nsub, std_emp, IntKind.wrap_i64, decide_eq_true_eq, decide_eq_false_iff_not, Bool.not_eq_true', Bool.not_eq_false', Option.getD_none, Option.getD_some] at h3
      cbv
      try simp only [nc] at *
      have hk' : k = l.length := by omega
      subst hk'
      rw [List.take_length] at hy
      rw [← hQ]
      refine endD_val rfl (int_eq ?_)
      rw [← hri, ← hyi]
      simp only [hE]
      unfold sumN
      rw [← hy, std_wrapK, show std.bin .xor .u32 (y : Int) 4294967295 = ((y ^^^ 4294967295 : Nat) : Int) from std_xor32 (b := 4294967295) (by omega) (by omega)]
      have : y ^^^ 4294967295 < 2 ^ 32 := Nat.xor_lt_two_pow hlt (by omega)
      exact wrap_in (by omega)
theorem T115 {l : List UInt8} {s : ByteArray} (hs : tx l = s) (hl : l.length < 2 ^ 47) : CallOk Try.prog 115 [.d (.sc (.string s))] [] ⟨.d (.sc (.int .i64 (sumN 0 l))), [], []⟩ := by
  have e1 := ent132
  have t1 := @T132
  refine CallOk.of_bodyD (body := c115) Try.func115 rfl (Nat.le_of_ble_eq_true (by kernel_rfl)) rfl ?_
  refine vc_ok tab_ok mixed ?_
  have hT := tab_ok
  have hm := mixed
  generalize hP : Try.prog = P at *
  generalize hA : std = A
  obtain ⟨qbin, qsh, qcmp, qscmp, qbcmp, qbnot, qneg, qwrap, qcat, qssize, qssub, qsget, qlen, qrsub, qapp, qelt, qset, qnth, qdrp, qstr, qint, qbool, qrow, qnat, qnadd, qnsub, qband, qofNat, qstrRow, qmkRow, qmx, qmn, qbytes, qemp⟩ := A
  have hE := Ar.eqs hA
  dsimp only at hE
  generalize hQ : EndD P Try.f115.results _ = Q
  cbv
  try simp only [nc] at *
  refine ClW.dd (f := 132) rfl rfl rfl rfl (.cons rfl (.cons rfl .nil)) rfl e1 (t1 (x := 0) (by omega) hs hl) rfl ?_
  generalize hr : ((sumN 0 l : Nat) : Int) = r
  cbv
  try simp only [nc] at *
  rw [← hQ, hr]
  exact endD_one rfl rfl
end Go.Proofs.Ytamdgfklbjoaiaa.Ab
