/- What functions of the program come to, for all arguments in the given bounds. -/
import Derived.Test.YtmhinjjgpabkfaaGreatDoorch03
set_option linter.unusedVariables false
set_option linter.unusedSimpArgs false
namespace Go.Proofs.YtmhinjjgpabkfaaGreatDoor.Ab
open Go Go.Proofs
set_option maxRecDepth 20000
set_option maxHeartbeats 4000000
set_option linter.unusedSimpArgs false
set_option linter.unusedVariables false
def tab_ch03b : List (Nat × TyRow) := [
  (3, ⟨.int .i64, some 1, some false, none, false, [.int .i64], [], some [(.int .i64 0, 0)], none, none, none⟩),
  (5, ⟨.int .u8, some 1, some false, none, false, [.int .u8], [], some [(.int .u8 0, 0)], none, none, none⟩),
  (9, ⟨.str, some 1, some false, none, false, [.str], [], some [(.string default, 0)], none, none, none⟩),
  (22, ⟨.sl 1, some 1, some false, some (1, 1), true, [.sl 1], [], some [(.slice none 0 0, 1)], some ([.sc (.int .u8 0)], 1, 1), none, none⟩)]
theorem tab_ch03b_ok : TabOk Tryz.prog tab_ch03b := TabOk.of (by kernel_rfl)
theorem su_ch03b : Setup Tryz.prog tab_ch03b := ⟨tab_ch03b_ok, mixed⟩
def fixL (n w : Nat) : List UInt8 := (List.range w).map fun i => UInt8.ofNat (n / 2 ^ (8 * i) % 256)
theorem fixL_length {n w : Nat} : (fixL n w).length = w := by simp [fixL]
theorem fixL_succ {n k : Nat} : fixL n (k + 1) = fixL n k ++ [UInt8.ofNat (n / 2 ^ (8 * k) % 256)] := by
  unfold fixL
  rw [List.range_succ, List.map_append]
  rfl
theorem div_next {n k : Nat} : n / 2 ^ (8 * k) / 256 = n / 2 ^ (8 * (k + 1)) := by
  rw [Nat.div_div_eq_div_mul, show 8 * (k + 1) = 8 * k + 8 by omega, Nat.pow_add]
def rFixText (n w : Int) : ByteArray := if 0 ≤ n ∧ 1 ≤ w ∧ w ≤ 8 ∧ n.toNat / 2 ^ (8 * w.toNat) = 0 then tx (fixL n.toNat w.toNat) else tx []
theorem rFixText_le {n w : Int} : (rFixText n w).size ≤ 8 := by
  unfold rFixText
  split
  · rw [tx_size, fixL_length]; omega
  · simp [tx_size]
theorem rFixText_b {n w : Int} {o : ByteArray} (h : rFixText n w = o) : o.size ≤ 8 := by rw [← h]; exact rFixText_le
theorem rFixText_size {n w : Int} (h : 0 ≤ n ∧ 1 ≤ w ∧ w ≤ 8 ∧ n.toNat / 2 ^ (8 * w.toNat) = 0) : (rFixText n w).size = w.toNat := by
  unfold rFixText
  rw [if_pos h, tx_size, fixL_length]
def fillL (n w k : Nat) : List UInt8 := (List.range w).map fun i => if i < k then UInt8.ofNat (n / 2 ^ (8 * i) % 256) else 0
theorem fillL_length {n w k : Nat} : (fillL n w k).length = w := by simp [fillL]
theorem fillL_zero {n w : Nat} : List.replicate w 0 = fillL n w 0 := by
  refine List.ext_getElem (by simp [fillL]) ?_
  intro i h1 h2
  simp [fillL]
theorem fillL_all {n w : Nat} : fillL n w w = fixL n w := by
  refine List.ext_getElem (by simp [fillL, fixL]) ?_
  intro i h1 h2
  simp [fillL] at h1
  simp [fillL, fixL, h1]
theorem fillL_set {n w k : Nat} : (fillL n w k).set k (UInt8.ofNat (n / 2 ^ (8 * k) % 256)) = fillL n w (k + 1) := by
  refine List.ext_getElem (by simp [fillL]) ?_
  intro i h1 h2
  rw [List.getElem_set]
  split
  · rename_i h; subst h; simp [fillL]
  · rename_i h
    simp only [fillL, List.getElem_map, List.getElem_range]
    by_cases h3 : i < k
    · rw [if_pos h3, if_pos (by omega)]
    · rw [if_neg h3, if_neg (by omega)]
def fixV : List UInt8 → Nat
  | [] => 0
  | x :: l => x.toNat + 256 * fixV l
theorem fixV_lt : ∀ l : List UInt8, fixV l < 256 ^ l.length
  | [] => by simp [fixV]
  | x :: l => by
    have := fixV_lt l
    have := x.toNat_lt
    simp only [fixV, List.length_cons, Nat.pow_succ]
    omega
theorem fixV_append : ∀ (a b : List UInt8), fixV (a ++ b) = fixV a + 256 ^ a.length * fixV b
  | [], b => by simp [fixV]
  | x :: a, b => by
    simp only [List.cons_append, fixV, fixV_append a b, List.length_cons, Nat.pow_succ, Nat.mul_add]
    rw [← Nat.mul_assoc, Nat.mul_comm 256 (256 ^ _)]
    omega
def rReadFix (b : ByteArray) (p w : Int) : Int × Bool :=
  if (1 ≤ w ∧ w ≤ 8) ∧ 0 ≤ p ∧ p ≤ b.size - w then
    (if fixV ((b.data.toList.drop p.toNat).take w.toNat) < 2 ^ 63 then ((fixV ((b.data.toList.drop p.toNat).take w.toNat) : Nat), true) else (0, false))
  else (0, false)
theorem bit_or64W {a y : Nat} (ha : a < 2 ^ 64) (hy : y < 2 ^ 64) : bitI .or .i64 (a : Int) (IntKind.i64.wrap (y : Int)) = IntKind.i64.wrap ((a ||| y : Nat) : Int) := by
  show IntKind.i64.wrap ((BitVec.ofInt 64 (a : Int) ||| BitVec.ofInt 64 (IntKind.i64.wrap (y : Int))).toNat : Int) = _
  have : (BitVec.ofInt 64 (IntKind.i64.wrap (y : Int))).toNat = y := by
    rw [BitVec.toNat_ofInt, i64_wrapE]
    omega
  rw [BitVec.toNat_or, bv_nat ha, this]
theorem fstep {l : List UInt8} {k : Nat} (h : k < l.length) (hk : k < 8) {i x : Int} (hi : i = IntKind.i64.wrap ((fixV (l.take k) : Nat) : Int)) (hx : x = (l[k].toNat : Int)) :
    bitI .or .i64 i (IntKind.i64.wrap (x * 2 ^ min (8 * k) 64)) = IntKind.i64.wrap ((fixV (l.take (k + 1)) : Nat) : Int) := by
  have hlt := fixV_lt (l.take k)
  have hlen : (l.take k).length = k := by rw [List.length_take]; omega
  rw [hlen] at hlt
  have hp : (256 : Nat) ^ k ≤ 256 ^ 7 := Nat.pow_le_pow_right (by omega) (by omega)
  have e7 : (2 : Int) ^ min (8 * k) 64 = ((256 ^ k : Nat) : Int) := by
    rw [Nat.min_eq_left (by omega), Int.natCast_pow, show ((256 : Nat) : Int) = 2 ^ 8 from rfl, ← Int.pow_mul]
  have hb := l[k].toNat_lt
  rw [hi, i64_wrap (by omega) (by omega), hx, e7, ← Int.natCast_mul]
  have hm : l[k].toNat * 256 ^ k ≤ 255 * 256 ^ 7 := Nat.mul_le_mul (by omega) hp
  rw [bit_or64W (by omega) (by omega), List.take_succ_eq_append_getElem h, fixV_append, hlen]
  congr 2
  have e8 : (256 : Nat) ^ k = 2 ^ (8 * k) := by rw [Nat.pow_mul]
  rw [e8] at hlt ⊢
  rw [or_parts hlt]
  simp [fixV, Nat.mul_comm]
theorem fback {l : List UInt8} {k : Nat} (h : k < l.length) {i x : Int} (hi : i = ((fixV (l.drop (k + 1)) : Nat) : Int)) (hx : x = (l[k].toNat : Int)) (hv : fixV l < 2 ^ 63) :
    bitI .or .i64 (IntKind.i64.wrap (i * 2 ^ min 8 64)) x = ((fixV (l.drop k) : Nat) : Int) := by
  have hb := l[k].toNat_lt
  have e : l.drop k = l[k] :: l.drop (k + 1) := List.drop_eq_getElem_cons h
  have h1 : fixV l = fixV (l.take k) + 256 ^ (l.take k).length * fixV (l.drop k) := by rw [← fixV_append, List.take_append_drop]
  have h2 : fixV (l.drop k) = l[k].toNat + 256 * fixV (l.drop (k + 1)) := by rw [e]; rfl
  have hp : 0 < 256 ^ (l.take k).length := Nat.pow_pos (by omega)
  have h3 : fixV (l.drop k) ≤ 256 ^ (l.take k).length * fixV (l.drop k) := Nat.le_mul_of_pos_left _ hp
  rw [hi, hx, show (2 : Int) ^ min 8 64 = ((256 : Nat) : Int) from rfl, ← Int.natCast_mul, i64_wrap (by omega) (by omega), bit_or64 (by omega) (by omega), h2, Nat.or_comm]
  have := or_parts (a := l[k].toNat) (b := fixV (l.drop (k + 1))) (k := 8) (by omega)
  rw [show (2 : Nat) ^ 8 = 256 from rfl] at this
  rw [this, Nat.mul_comm]
theorem tk_get {b : ByteArray} {p w : Int} {k : Nat} {l : List UInt8} (hl : l = (b.data.toList.drop p.toNat).take w.toNat) {j : Nat} (hj : j < b.size) (h : k < l.length) (e : j = p.toNat + k) : b[j] = l[k] := by
  subst e
  rw [lst_get hj]
  simp only [hl, List.getElem_take, List.getElem_drop]
theorem tk_len {b : ByteArray} {p w : Int} {l : List UInt8} (hl : l = (b.data.toList.drop p.toNat).take w.toNat) (h : (1 ≤ w ∧ w ≤ 8) ∧ 0 ≤ p ∧ p ≤ b.size - w) : l.length = w.toNat := by
  rw [hl, List.length_take, List.length_drop, lst_size]
  omega
theorem FsFixText {n : Int} {width : Int} {o : ByteArray}  (hn : n < 9223372036854775808) (hr : rFixText n width = o)  : Fn Tryz.prog 176 [I n, I width] [] ⟨S o, [], []⟩ := by
 refine Fn.go su_ch03b Tryz.func176 fun P hP Q hQ => ?_
 conv => cbv
 refine .lss (fun h1 => ?_) fun h1 => ?_
 conv => cbv
 have e : (tx []) = rFixText n width := (by unfold rFixText; rw [if_neg (by omega)])
 rw [hr] at e
 subst e
 exact hQ _ _ (.s rfl rfl)
 conv => cbv
 generalize hr2 : rl01In width 1 8 = r2
 refine .dd hP (Fsl01In hr2) ?_
 cases r2
 simp only [rl01In, decide_eq_true_eq, decide_eq_false_iff_not] at hr2
 conv => cbv
 have e : (tx []) = rFixText n width := (by unfold rFixText; rw [if_neg (by omega)])
 rw [hr] at e
 subst e
 exact hQ _ _ (.s rfl rfl)
 simp only [rl01In, decide_eq_true_eq, decide_eq_false_iff_not] at hr2
 conv => cbv
 refine LoopW.lp (κ := Int × Int × (List (List D)) × Nat) su_ch03b hP [0] [1] (fun (i0, i6, zw1, nw1) => [(0, I i0), (5, .ref 1 0 nw1), (6, I i6)]) (fun (i0, i6, zw1, nw1) => [(1, .row 1 false zw1)])
   (fun (i0, i6, zw1, nw1) => ∃ (w1 : List UInt8), w1.map cB = zw1 ∧ nw1 = w1.length ∧ ∃ k : Nat, i6 = (k : Int) ∧ (k : Int) ≤ width ∧ w1 = fixL n.toNat k ∧ i0 = ((n.toNat / 2 ^ (8 * k) : Nat) : Int))
   (fun (i0, i6, zw1, nw1) => (width - i6).toNat) (n, 0, [], 0) ⟨[], rfl, rfl, 0, rfl, by omega, rfl, by rw [show (2 : Nat) ^ (8 * 0) = 1 from rfl]; omega⟩ ⟨rfl, rfl, rfl, trivial⟩ rfl ?_
 rintro ⟨i0, i6, zw1, nw1⟩ J ⟨w1, hw1, hnw1, k, hi, hk, hw, hx⟩ hJ
 conv => cbv
 refine .lss (fun h3 => ?_) fun h3 => ?_
 conv => cbv
 refine .go fun v4 hv4 => ?_
 conv => cbv
 refine .one (UInt8.ofNat (n.toNat / 2 ^ (8 * k) % 256)) hw1 (cB_eq (by rw [hv4, hx, u8_wrap]; omega) (by omega)) (fun nz5 z5 hnz5 hz5 => ?_) (hl := hnw1) (hb := by rw [hw, fixL_length]; omega) (hb2 := by rw [hw, fixL_length]; omega)
 conv => cbv
 refine .shr fun v6 hv6 => ?_
 conv => cbv
 refine .add fun v7 hv7 => ?_
 conv => cbv
 exact .go [3] (v6, v7, z5, nz5) (hJ _ ⟨_, hz5, (by first | omega | (simp; omega)), k + 1, by omega, by omega, by rw [hw, fixL_succ], by rw [hv6, hx, ← div_next]; generalize n.toNat / 2 ^ (8 * k) = q; show (q : Int) / 256 = _; omega⟩ (by first | (dsimp only; omega) | omega))
 conv => cbv
 refine .gtr (fun h4 => ?_) fun h4 => ?_
 conv => cbv
 have e : (tx []) = rFixText n width := (by unfold rFixText; rw [if_neg]; rintro ⟨_, _, _, h⟩; rw [show width.toNat = k by omega] at h; omega)
 rw [hr] at e
 subst e
 exact hQ _ _ (.s rfl rfl)
 conv => cbv
 refine .go hw1 fun s5 hs5 => ?_
 conv => cbv
 have e : s5 = rFixText n width := (by unfold rFixText; rw [hs5, hw, if_pos, show width.toNat = k by omega]; refine ⟨by omega, by omega, by omega, ?_⟩; rw [show width.toNat = k by omega]; generalize n.toNat / 2 ^ (8 * k) = q at *; omega)
 rw [hr] at e
 subst e
 exact hQ _ _ (.s rfl rfl)
theorem FiFixText {n : Int} {width : Int} {o : ByteArray}  (hn : n < 9223372036854775808) (hr : rFixText n width = o)  : Fn Tryz.prog 218 [I n, I width] [] ⟨S o, [], []⟩ := by
 refine Fn.go su_ch03b Tryz.func218 fun P hP Q hQ => ?_
 conv => cbv
 refine .lss (fun h1 => ?_) fun h1 => ?_
 conv => cbv
 have e : (tx []) = rFixText n width := (by unfold rFixText; rw [if_neg (by omega)])
 rw [hr] at e
 subst e
 exact hQ _ _ (.s rfl rfl)
 conv => cbv
 generalize hr2 : rwithin width 1 8 = r2
 refine .dd hP (Fiwithin hr2) ?_
 cases r2
 simp only [rwithin, decide_eq_true_eq, decide_eq_false_iff_not] at hr2
 conv => cbv
 have e : (tx []) = rFixText n width := (by unfold rFixText; rw [if_neg (by omega)])
 rw [hr] at e
 subst e
 exact hQ _ _ (.s rfl rfl)
 simp only [rwithin, decide_eq_true_eq, decide_eq_false_iff_not] at hr2
 conv => cbv
 refine .lss (fun h3 => ?_) fun h3 => ?_
 conv => cbv
 refine .mul fun v4 hv4 => ?_
 conv => cbv
 refine .shr fun v5 hv5 => ?_
 conv => cbv
 refine .neq (fun h6 => ?_) fun h6 => ?_
 conv => cbv
 have h64 : v5 = ((n.toNat / 2 ^ (8 * width.toNat) : Nat) : Int) := by rw [hv5, Int.natCast_ediv, Int.natCast_pow]; congr 2 <;> omega
 have e : (tx []) = rFixText n width := (by unfold rFixText; rw [if_neg]; rintro ⟨_, _, _, h⟩; omega)
 rw [hr] at e
 subst e
 exact hQ _ _ (.s rfl rfl)
 conv => cbv
 refine .go (c := cB) (0 : UInt8) fun z7 nz7 hnz7 hz7 => ?_
 conv => cbv
 refine .go fun v8 hv8 => ?_
 conv => cbv
 refine LoopW.lp (κ := Int × (List (List D))) su_ch03b hP [] [0, 5, 28] (fun (i29, zw0) => [(29, I i29)]) (fun (i29, zw0) => [(0, .row 1 false zw0)])
   (fun (i29, zw0) => ∃ (w0 : List UInt8), w0.map cB = zw0 ∧ ∃ k : Nat, i29 = (k : Int) ∧ (k : Int) ≤ width ∧ w0 = fillL n.toNat width.toNat k)
   (fun (i29, zw0) => (width - i29).toNat) (0, z7) ⟨(List.replicate width.toNat _), hz7, 0, rfl, by omega, by rw [← fillL_zero]⟩ ⟨rfl, trivial⟩ rfl ?_
 rintro ⟨i29, zw0⟩ J ⟨w0, hw0, k, hi, hk, hw⟩ hJ
 have hwl : w0.length = width.toNat := by rw [hw, fillL_length]
 conv => cbv
 refine .lss (fun h9 => ?_) fun h9 => ?_
 conv => cbv
 refine .mul fun v10 hv10 => ?_
 conv => cbv
 refine .shr fun v11 hv11 => ?_
 conv => cbv
 refine .go fun v12 hv12 => ?_
 conv => cbv
 refine .go i29.toNat fun p13 hp13 hjp13 => ?_
 conv => cbv
 refine .all (UInt8.ofNat (n.toNat / 2 ^ (8 * k) % 256)) hw0 (cB_eq (by rw [hv12, u8_wrap, hv11, show (2 : Int) ^ (v10).toNat = ((2 ^ (8 * k) : Nat) : Int) by rw [Int.natCast_pow]; congr 1; omega, show n = (n.toNat : Int) by omega, ← Int.natCast_ediv, Int.toNat_natCast]; omega) (by omega)) fun z14 hz14 => ?_
 conv => cbv
 refine .add fun v15 hv15 => ?_
 conv => cbv
 exact .go [] (v15, z14) (hJ _ ⟨_, hz14, k + 1, by omega, by omega, by first | rw [hw, show p13 = k by omega, fillL_set] | rw [hw, show p10 = k by omega, fillL_set]⟩ (by first | (dsimp only; omega) | omega))
 conv => cbv
 refine .go hw0 fun s10 hs10 => ?_
 conv => cbv
 have e : s10 = rFixText n width := (by unfold rFixText; rw [hs10, hw, show k = width.toNat by omega, fillL_all, if_pos]; refine ⟨by omega, by omega, by omega, ?_⟩; have h64 : v5 = ((n.toNat / 2 ^ (8 * width.toNat) : Nat) : Int) := (by rw [hv5, Int.natCast_ediv, Int.natCast_pow]; congr 2 <;> omega); omega)
 rw [hr] at e
 subst e
 exact hQ _ _ (.s rfl rfl)
 conv => cbv
 refine .go (c := cB) (0 : UInt8) fun z4 nz4 hnz4 hz4 => ?_
 conv => cbv
 refine .go fun v5 hv5 => ?_
 conv => cbv
 refine LoopW.lp (κ := Int × (List (List D))) su_ch03b hP [] [0, 5, 28] (fun (i29, zw0) => [(29, I i29)]) (fun (i29, zw0) => [(0, .row 1 false zw0)])
   (fun (i29, zw0) => ∃ (w0 : List UInt8), w0.map cB = zw0 ∧ ∃ k : Nat, i29 = (k : Int) ∧ (k : Int) ≤ width ∧ w0 = fillL n.toNat width.toNat k)
   (fun (i29, zw0) => (width - i29).toNat) (0, z4) ⟨(List.replicate width.toNat _), hz4, 0, rfl, by omega, by rw [← fillL_zero]⟩ ⟨rfl, trivial⟩ rfl ?_
 rintro ⟨i29, zw0⟩ J ⟨w0, hw0, k, hi, hk, hw⟩ hJ
 have hwl : w0.length = width.toNat := by rw [hw, fillL_length]
 conv => cbv
 refine .lss (fun h6 => ?_) fun h6 => ?_
 conv => cbv
 refine .mul fun v7 hv7 => ?_
 conv => cbv
 refine .shr fun v8 hv8 => ?_
 conv => cbv
 refine .go fun v9 hv9 => ?_
 conv => cbv
 refine .go i29.toNat fun p10 hp10 hjp10 => ?_
 conv => cbv
 refine .all (UInt8.ofNat (n.toNat / 2 ^ (8 * k) % 256)) hw0 (cB_eq (by rw [hv9, u8_wrap, hv8, show (2 : Int) ^ (v7).toNat = ((2 ^ (8 * k) : Nat) : Int) by rw [Int.natCast_pow]; congr 1; omega, show n = (n.toNat : Int) by omega, ← Int.natCast_ediv, Int.toNat_natCast]; omega) (by omega)) fun z11 hz11 => ?_
 conv => cbv
 refine .add fun v12 hv12 => ?_
 conv => cbv
 exact .go [] (v12, z11) (hJ _ ⟨_, hz11, k + 1, by omega, by omega, by first | rw [hw, show p13 = k by omega, fillL_set] | rw [hw, show p10 = k by omega, fillL_set]⟩ (by first | (dsimp only; omega) | omega))
 conv => cbv
 refine .go hw0 fun s7 hs7 => ?_
 conv => cbv
 have e : s7 = rFixText n width := (by unfold rFixText; rw [hs7, hw, show k = width.toNat by omega, fillL_all, if_pos]; refine ⟨by omega, by omega, by omega, ?_⟩; rw [show width.toNat = 8 by omega]; exact Nat.div_eq_of_lt (by omega))
 rw [hr] at e
 subst e
 exact hQ _ _ (.s rfl rfl)
theorem FiReadFix {b : ByteArray} {p : Int} {width : Int} {oa : Int} {ob : Bool}  (hs : b.size < 2 ^ 47) (hr : rReadFix b p width = (oa, ob))  : Fn Tryz.prog 213 [S b, I p, I width] [] ⟨.tup [I oa, B ob], [], []⟩ := by
 refine Fn.go su_ch03b Tryz.func213 fun P hP Q hQ => ?_
 conv => cbv
 generalize hr1 : rwithin width 1 8 = r1
 refine .dd hP (Fiwithin hr1) ?_
 cases r1
 simp only [rwithin, decide_eq_true_eq, decide_eq_false_iff_not] at hr1
 conv => cbv
 have e : (0, false) = rReadFix b p width := (by unfold rReadFix; rw [if_neg (by omega)])
 rw [hr] at e
 simp only [Prod.mk.injEq] at e
 obtain ⟨rfl, rfl⟩ := e
 refine hQ _ _ ?_
 exact .many (.inl rfl) rfl rfl (.d rfl rfl (.d rfl rfl (.nil)))
 simp only [rwithin, decide_eq_true_eq, decide_eq_false_iff_not] at hr1
 conv => cbv
 refine .go fun v2 hv2 => ?_
 conv => cbv
 refine .sub fun v3 hv3 => ?_
 conv => cbv
 generalize hr4 : rwithin p 0 v3 = r4
 refine .dd hP (Fiwithin hr4) ?_
 cases r4
 simp only [rwithin, decide_eq_true_eq, decide_eq_false_iff_not] at hr4
 conv => cbv
 have e : (0, false) = rReadFix b p width := (by unfold rReadFix; rw [if_neg (by omega)])
 rw [hr] at e
 simp only [Prod.mk.injEq] at e
 obtain ⟨rfl, rfl⟩ := e
 refine hQ _ _ ?_
 exact .many (.inl rfl) rfl rfl (.d rfl rfl (.d rfl rfl (.nil)))
 simp only [rwithin, decide_eq_true_eq, decide_eq_false_iff_not] at hr4
 conv => cbv
 refine LoopW.lp (κ := Int × Int) su_ch03b hP [] [0, 1, 22] (fun (i8, i23) => [(8, I i8), (23, I i23)]) (fun (i8, i23) => [])
   (fun (i8, i23) => ∃ k : Nat, i23 = (k : Int) ∧ (k : Int) ≤ width ∧ i8 = IntKind.i64.wrap ((fixV (((b.data.toList.drop p.toNat).take width.toNat).take k) : Nat) : Int))
   (fun (i8, i23) => (width - i23).toNat) (0, 0) ⟨0, rfl, by omega, rfl⟩ ⟨rfl, rfl, trivial⟩ rfl ?_
 rintro ⟨i8, i23⟩ J ⟨k, hi, hk, hx⟩ hJ
 obtain ⟨l, hl⟩ : ∃ l, l = (b.data.toList.drop p.toNat).take width.toNat := ⟨_, rfl⟩
 rw [← hl] at hx hJ
 have hll := tk_len hl ⟨hr1, by omega⟩
 conv => cbv
 refine .lss (fun h5 => ?_) fun h5 => ?_
 conv => cbv
 refine .add fun v6 hv6 => ?_
 conv => cbv
 refine .go v6.toNat fun hjv7 v7 hv7 bv7 => ?_
 conv => cbv
 have hb8 := (b[v6.toNat]).toNat_lt
 refine .id fun v8 hv8 => ?_
 conv => cbv
 refine .mul fun v9 hv9 => ?_
 conv => cbv
 refine .shlW fun v10 hv10 => ?_
 conv => cbv
 refine .or fun v11 hv11 => ?_
 conv => cbv
 have hkl : k < l.length := by omega
 have e11 : v11 = IntKind.i64.wrap ((fixV (l.take (k + 1)) : Nat) : Int) := by rw [hv11, hv10, ← fstep (x := v8) hkl (by omega) hx (by rw [hv8, hv7, tk_get hl hjv7 hkl (by omega)]), show v9 = 8 * (k : Int) by omega]; congr 4
 refine .add fun v12 hv12 => ?_
 conv => cbv
 exact .go [] (v11, v12) (hJ _ ⟨k + 1, by omega, by omega, e11⟩ (by first | (dsimp only; omega) | omega))
 conv => cbv
 refine .lss (fun h6 => ?_) fun h6 => ?_
 conv => cbv
 have hlt := fixV_lt l
 rw [hll] at hlt
 have hp : (256 : Nat) ^ width.toNat ≤ 256 ^ 8 := Nat.pow_le_pow_right (by omega) (by omega)
 rw [show l.take k = l from List.take_of_length_le (by omega), i64_wrapE] at hx
 have e : (0, false) = rReadFix b p width := (by unfold rReadFix; rw [if_pos ⟨hr1, by omega⟩, ← hl, if_neg (by omega)])
 rw [hr] at e
 simp only [Prod.mk.injEq] at e
 obtain ⟨rfl, rfl⟩ := e
 refine hQ _ _ ?_
 exact .many (.inl rfl) rfl rfl (.d rfl rfl (.d rfl rfl (.nil)))
 conv => cbv
 have hlt := fixV_lt l
 rw [hll] at hlt
 have hp : (256 : Nat) ^ width.toNat ≤ 256 ^ 8 := Nat.pow_le_pow_right (by omega) (by omega)
 rw [show l.take k = l from List.take_of_length_le (by omega), i64_wrapE] at hx
 have e : (i8, true) = rReadFix b p width := (by unfold rReadFix; rw [if_pos ⟨hr1, by omega⟩, ← hl, if_pos (by omega)]; simp only [Prod.mk.injEq, and_true]; omega)
 rw [hr] at e
 simp only [Prod.mk.injEq] at e
 obtain ⟨rfl, rfl⟩ := e
 refine hQ _ _ ?_
 exact .many (.inl rfl) rfl rfl (.d rfl rfl (.d rfl rfl (.nil)))
theorem FsReadFix {b : ByteArray} {p : Int} {width : Int} {oa : Int} {ob : Bool}  (hs : b.size < 2 ^ 47) (hr : rReadFix b p width = (oa, ob))  : Fn Tryz.prog 173 [S b, I p, I width] [] ⟨.tup [I oa, B ob], [], []⟩ := by
 refine Fn.go su_ch03b Tryz.func173 fun P hP Q hQ => ?_
 conv => cbv
 generalize hr1 : rl01In width 1 8 = r1
 refine .dd hP (Fsl01In hr1) ?_
 cases r1
 simp only [rl01In, decide_eq_true_eq, decide_eq_false_iff_not] at hr1
 conv => cbv
 have e : (0, false) = rReadFix b p width := (by unfold rReadFix; rw [if_neg (by omega)])
 rw [hr] at e
 simp only [Prod.mk.injEq] at e
 obtain ⟨rfl, rfl⟩ := e
 refine hQ _ _ ?_
 exact .many (.inl rfl) rfl rfl (.d rfl rfl (.d rfl rfl (.nil)))
 simp only [rl01In, decide_eq_true_eq, decide_eq_false_iff_not] at hr1
 conv => cbv
 refine .go fun v2 hv2 => ?_
 conv => cbv
 refine .sub fun v3 hv3 => ?_
 conv => cbv
 generalize hr4 : rl01In p 0 v3 = r4
 refine .dd hP (Fsl01In hr4) ?_
 cases r4
 simp only [rl01In, decide_eq_true_eq, decide_eq_false_iff_not] at hr4
 conv => cbv
 have e : (0, false) = rReadFix b p width := (by unfold rReadFix; rw [if_neg (by omega)])
 rw [hr] at e
 simp only [Prod.mk.injEq] at e
 obtain ⟨rfl, rfl⟩ := e
 refine hQ _ _ ?_
 exact .many (.inl rfl) rfl rfl (.d rfl rfl (.d rfl rfl (.nil)))
 simp only [rl01In, decide_eq_true_eq, decide_eq_false_iff_not] at hr4
 conv => cbv
 refine .eql (fun h5 => ?_) fun h5 => ?_
 conv => cbv
 refine .add fun v6 hv6 => ?_
 conv => cbv
 refine .go v6.toNat fun hjv7 v7 hv7 bv7 => ?_
 conv => cbv
 refine .gtr (fun h8 => ?_) fun h8 => ?_
 conv => cbv
 obtain ⟨l, hl⟩ : ∃ l, l = (b.data.toList.drop p.toNat).take width.toNat := ⟨_, rfl⟩
 have hll := tk_len hl ⟨hr1, by omega⟩
 have hlt := fixV_lt l
 rw [hll] at hlt
 have e7 : l = l.take 7 ++ [l[7]] := by rw [← List.take_succ_eq_append_getElem (by omega), List.take_of_length_le (by omega)]
 have hb7 : b[v6.toNat] = l[7] := tk_get hl hjv7 (by omega) (by omega)
 have hV : ¬ fixV l < 2 ^ 63 := by
   rw [e7, fixV_append, show (l.take 7).length = 7 by rw [List.length_take]; omega]
   have e1 : fixV [l[7]] = l[7].toNat := by simp [fixV]
   rw [e1, ← hb7]
   omega
 have e : (0, false) = rReadFix b p width := (by unfold rReadFix; rw [if_pos ⟨hr1, by omega⟩, ← hl, if_neg hV])
 rw [hr] at e
 simp only [Prod.mk.injEq] at e
 obtain ⟨rfl, rfl⟩ := e
 refine hQ _ _ ?_
 exact .many (.inl rfl) rfl rfl (.d rfl rfl (.d rfl rfl (.nil)))
 conv => cbv
 obtain ⟨l, hl⟩ : ∃ l, l = (b.data.toList.drop p.toNat).take width.toNat := ⟨_, rfl⟩
 have hll := tk_len hl ⟨hr1, by omega⟩
 have hlt := fixV_lt l
 rw [hll] at hlt
 have e7 : l = l.take 7 ++ [l[7]] := by rw [← List.take_succ_eq_append_getElem (by omega), List.take_of_length_le (by omega)]
 have hb7 : b[v6.toNat] = l[7] := tk_get hl hjv7 (by omega) (by omega)
 have hV : fixV l < 2 ^ 63 := by
   rw [e7, fixV_append]
   have := fixV_lt (l.take 7)
   rw [show (l.take 7).length = 7 by rw [List.length_take]; omega] at this ⊢
   have e1 : fixV [l[7]] = l[7].toNat := by simp [fixV]
   rw [e1]
   rw [← hb7]
   omega
 refine .sub fun v9 hv9 => ?_
 conv => cbv
 refine LoopW.lp (κ := Int × Int) su_ch03b hP [] [0, 1] (fun (i8, i9) => [(8, I i8), (9, I i9)]) (fun (i8, i9) => [])
   (fun (i8, i9) => ∃ k : Nat, i9 = (k : Int) - 1 ∧ (k : Int) ≤ width ∧ i8 = ((fixV (l.drop k) : Nat) : Int))
   (fun (i8, i9) => (i9 + 1).toNat) (0, v9) ⟨width.toNat, by omega, by omega, by rw [List.drop_of_length_le (by omega)]; rfl⟩ ⟨rfl, rfl, trivial⟩ rfl ?_
 rintro ⟨i8, i9⟩ J ⟨k, hi, hk, hx⟩ hJ
 conv => cbv
 refine .geq (fun h10 => ?_) fun h10 => ?_
 conv => cbv
 refine .shlW fun v11 hv11 => ?_
 conv => cbv
 refine .add fun v12 hv12 => ?_
 conv => cbv
 refine .go v12.toNat fun hjv13 v13 hv13 bv13 => ?_
 conv => cbv
 have hb8 := (b[v12.toNat]).toNat_lt
 refine .id fun v14 hv14 => ?_
 conv => cbv
 refine .or fun v15 hv15 => ?_
 conv => cbv
 have hkl : k - 1 < l.length := by omega
 have e15 : v15 = ((fixV (l.drop (k - 1)) : Nat) : Int) := by rw [hv15, hv11]; exact fback hkl (by rw [hx, show k - 1 + 1 = k by omega]) (by rw [hv14, hv13, tk_get hl hjv13 hkl (by omega)]) hV
 refine .sub fun v16 hv16 => ?_
 conv => cbv
 exact .go [] (v15, v16) (hJ _ ⟨k - 1, by omega, by omega, e15⟩ (by first | (dsimp only; omega) | omega))
 conv => cbv
 have e : (i8, true) = rReadFix b p width := (by unfold rReadFix; rw [if_pos ⟨hr1, by omega⟩, ← hl, if_pos hV, hx, show k = 0 by omega, List.drop_zero])
 rw [hr] at e
 simp only [Prod.mk.injEq] at e
 obtain ⟨rfl, rfl⟩ := e
 refine hQ _ _ ?_
 exact .many (.inl rfl) rfl rfl (.d rfl rfl (.d rfl rfl (.nil)))
 conv => cbv
 obtain ⟨l, hl⟩ : ∃ l, l = (b.data.toList.drop p.toNat).take width.toNat := ⟨_, rfl⟩
 have hll := tk_len hl ⟨hr1, by omega⟩
 have hlt := fixV_lt l
 rw [hll] at hlt
 have hV : fixV l < 2 ^ 63 := by
   have hp : (256 : Nat) ^ width.toNat ≤ 256 ^ 7 := Nat.pow_le_pow_right (by omega) (by omega)
   omega
 refine .sub fun v6 hv6 => ?_
 conv => cbv
 refine LoopW.lp (κ := Int × Int) su_ch03b hP [] [0, 1] (fun (i8, i9) => [(8, I i8), (9, I i9)]) (fun (i8, i9) => [])
   (fun (i8, i9) => ∃ k : Nat, i9 = (k : Int) - 1 ∧ (k : Int) ≤ width ∧ i8 = ((fixV (l.drop k) : Nat) : Int))
   (fun (i8, i9) => (i9 + 1).toNat) (0, v6) ⟨width.toNat, by omega, by omega, by rw [List.drop_of_length_le (by omega)]; rfl⟩ ⟨rfl, rfl, trivial⟩ rfl ?_
 rintro ⟨i8, i9⟩ J ⟨k, hi, hk, hx⟩ hJ
 conv => cbv
 refine .geq (fun h7 => ?_) fun h7 => ?_
 conv => cbv
 refine .shlW fun v8 hv8 => ?_
 conv => cbv
 refine .add fun v9 hv9 => ?_
 conv => cbv
 refine .go v9.toNat fun hjv10 v10 hv10 bv10 => ?_
 conv => cbv
 have hb8 := (b[v9.toNat]).toNat_lt
 refine .id fun v11 hv11 => ?_
 conv => cbv
 refine .or fun v12 hv12 => ?_
 conv => cbv
 have hkl : k - 1 < l.length := by omega
 have e15 : v12 = ((fixV (l.drop (k - 1)) : Nat) : Int) := by rw [hv12, hv8]; exact fback hkl (by rw [hx, show k - 1 + 1 = k by omega]) (by rw [hv11, hv10, tk_get hl hjv10 hkl (by omega)]) hV
 refine .sub fun v13 hv13 => ?_
 conv => cbv
 exact .go [] (v12, v13) (hJ _ ⟨k - 1, by omega, by omega, e15⟩ (by first | (dsimp only; omega) | omega))
 conv => cbv
 have e : (i8, true) = rReadFix b p width := (by unfold rReadFix; rw [if_pos ⟨hr1, by omega⟩, ← hl, if_pos hV, hx, show k = 0 by omega, List.drop_zero])
 rw [hr] at e
 simp only [Prod.mk.injEq] at e
 obtain ⟨rfl, rfl⟩ := e
 refine hQ _ _ ?_
 exact .many (.inl rfl) rfl rfl (.d rfl rfl (.d rfl rfl (.nil)))
end Go.Proofs.YtmhinjjgpabkfaaGreatDoor.Ab
