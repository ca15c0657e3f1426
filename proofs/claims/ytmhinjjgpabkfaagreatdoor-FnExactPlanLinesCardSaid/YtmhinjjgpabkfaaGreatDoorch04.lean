/- What functions of the program come to, for all arguments in the given bounds. -/
import Derived.Test.YtmhinjjgpabkfaaGreatDoorch05
import Derived.Test.YtmhinjjgpabkfaaGreatDoorSh
import Derived.Below
import Derived.ProofKit
set_option linter.unusedVariables false
set_option linter.unusedSimpArgs false
namespace Go.Proofs.YtmhinjjgpabkfaaGreatDoor.Ab
open Go Go.Proofs
set_option maxRecDepth 20000
set_option maxHeartbeats 4000000
set_option linter.unusedSimpArgs false
set_option linter.unusedVariables false
def tab_ch04 : List (Nat × TyRow) := [
  (2, ⟨.int .i64, some 1, some false, none, false, [.int .i64], [], some [(.int .i64 0, 0)], none, none, none⟩),
  (3, ⟨.int .i64, some 1, some false, none, false, [.int .i64], [], some [(.int .i64 0, 0)], none, none, none⟩),
  (4, ⟨.bool, some 1, some false, none, false, [.bool], [], some [(.bool false, 0)], none, none, none⟩),
  (5, ⟨.int .u8, some 1, some false, none, false, [.int .u8], [], some [(.int .u8 0, 0)], none, none, none⟩),
  (9, ⟨.str, some 1, some false, none, false, [.str], [], some [(.string default, 0)], none, none, none⟩),
  (22, ⟨.sl 1, some 1, some false, some (1, 1), true, [.sl 1], [], some [(.slice none 0 0, 1)], some ([.sc (.int .u8 0)], 1, 1), none, none⟩),
  (169, ⟨.int .u64, some 1, some false, none, false, [.int .u64], [], some [(.int .u64 0, 0)], none, none, none⟩),
  (183, ⟨.int .u64, some 1, some false, none, false, [.int .u64], [], some [(.int .u64 0, 0)], none, none, none⟩)]
theorem tab_ch04_ok : TabOk Tryz.prog tab_ch04 := TabOk.of (by kernel_rfl)
theorem su_ch04 : Setup Tryz.prog tab_ch04 := ⟨tab_ch04_ok, mixed⟩
def dig (n : Nat) : UInt8 := if n % 16 < 10 then UInt8.ofNat (48 + n % 16) else UInt8.ofNat (87 + n % 16)
def padN : Nat → Nat → List UInt8
  | 0, _ => []
  | k + 1, n => padN k (n / 16) ++ [dig n]
def hexL (n : Nat) : List UInt8 := if h : n < 16 then [dig n] else hexL (n / 16) ++ [dig n]
termination_by n
decreasing_by omega
theorem hexL_small {n : Nat} (h : n < 16) : hexL n = [dig n] := by rw [hexL, dif_pos h]
theorem hexL_next {n : Nat} (h : ¬ n < 16) : hexL n = hexL (n / 16) ++ [dig n] := by rw [hexL, dif_neg h]
theorem dig_zero : dig 0 = 48 := rfl
theorem padN_zero : ∀ (k : Nat), padN k 0 = List.replicate k 48
  | 0 => rfl
  | k + 1 => by rw [padN, Nat.zero_div, padN_zero k, dig_zero, List.replicate_succ']
theorem padN_len : ∀ (k n : Nat), (padN k n).length = k
  | 0, _ => rfl
  | k + 1, n => by rw [padN, List.length_append, padN_len]; rfl
theorem hexPad : ∀ (k n : Nat), n < 16 ^ (k + 1) → padN (k + 1) n = List.replicate (k + 1 - (hexL n).length) 48 ++ hexL n ∧ 1 ≤ (hexL n).length ∧ (hexL n).length ≤ k + 1
  | 0, n, h => by
    have h : n < 16 := by simpa using h
    rw [hexL_small h]
    simp [padN]
  | k + 1, n, h => by
    by_cases hn : n < 16
    · rw [hexL_small hn, padN, Nat.div_eq_of_lt hn, padN_zero]
      simp
    · have h2 : n / 16 < 16 ^ (k + 1) := by rw [Nat.pow_succ] at h; omega
      obtain ⟨i1, i2, i3⟩ := hexPad k (n / 16) h2
      rw [hexL_next hn, padN, i1, List.length_append, List.length_singleton, List.append_assoc]
      refine ⟨?_, by omega, by omega⟩
      congr 2
      omega
def rSegmentName (n : Int) : ByteArray := if 0 ≤ n ∧ n ≤ 1000000000 then tx (115 :: (padN 8 n.toNat ++ [46, 115, 101, 103])) else tx []
theorem rSegmentName_b {n : Int} {o : ByteArray} (e : rSegmentName n = o) : o.size ≤ 13 := by
  rw [← e]
  unfold rSegmentName
  split
  · rw [tx_size, List.length_cons, List.length_append, padN_len]; simp
  · simp [tx_size]
theorem digL : ∀ (j : Nat) (h : j < (⟨⟨[48, 49, 50, 51, 52, 53, 54, 55, 56, 57, 97, 98, 99, 100, 101, 102]⟩⟩ : ByteArray).size), (⟨⟨[48, 49, 50, 51, 52, 53, 54, 55, 56, 57, 97, 98, 99, 100, 101, 102]⟩⟩ : ByteArray)[j] = dig j := by
  have key : ∀ j : Fin 16, (⟨⟨[48, 49, 50, 51, 52, 53, 54, 55, 56, 57, 97, 98, 99, 100, 101, 102]⟩⟩ : ByteArray)[j.val]'j.isLt = dig j.val := by decide
  intro j h
  exact key ⟨j, h⟩
theorem dig_mod (n : Nat) : dig (n % 16) = dig n := by unfold dig; rw [Nat.mod_mod]
theorem and15 (a : Int) : bitI .and .i64 a 15 = a % 16 := bit_and_mask (k := 4) (by omega)
theorem and15u {x : Nat} (h : x < 18446744073709551616) : bitI .and .u64 (x : Int) 15 = ((x % 16 : Nat) : Int) := by
  show IntKind.u64.wrap ((BitVec.ofInt 64 (x : Int) &&& BitVec.ofInt 64 ((15 : Nat) : Int)).toNat : Int) = _
  rw [BitVec.toNat_and, bv_nat (by omega), bv_nat (by omega), u64_wrap, show (15 : Nat) = 2 ^ 4 - 1 from rfl, Nat.and_two_pow_sub_one_eq_mod]
  omega
theorem digF : ∀ (j : Nat) (hj : j < 16) (h : j < (⟨⟨[48, 49, 50, 51, 52, 53, 54, 55, 56, 57, 97, 98, 99, 100, 101, 102, 103, 104, 105, 106, 107, 108, 109, 110, 111, 112, 113, 114, 115, 116, 117, 118, 119, 120, 121, 122]⟩⟩ : ByteArray).size), (⟨⟨[48, 49, 50, 51, 52, 53, 54, 55, 56, 57, 97, 98, 99, 100, 101, 102, 103, 104, 105, 106, 107, 108, 109, 110, 111, 112, 113, 114, 115, 116, 117, 118, 119, 120, 121, 122]⟩⟩ : ByteArray)[j] = dig j := by
  have key : ∀ j : Fin 16, (⟨⟨[48, 49, 50, 51, 52, 53, 54, 55, 56, 57, 97, 98, 99, 100, 101, 102, 103, 104, 105, 106, 107, 108, 109, 110, 111, 112, 113, 114, 115, 116, 117, 118, 119, 120, 121, 122]⟩⟩ : ByteArray)[j.val]'(Nat.lt_of_lt_of_le j.isLt (by decide)) = dig j.val := by decide
  intro j hj h
  exact key ⟨j, hj⟩
theorem cB_dig {v : Int} {n : Nat} (h : v = ((dig n).toNat : Int)) : [D.sc (.int .u8 v)] = cB (dig n) := by rw [h]; rfl
theorem drop_set {α : Type} {l : List α} {p : Nat} {x : α} (h : p < l.length) : (l.set p x).drop p = x :: l.drop (p + 1) := by
  rw [List.drop_eq_getElem_cons (by rw [List.length_set]; exact h), List.getElem_set_self]
  congr 1
  rw [List.drop_set_of_lt (by omega)]
def risPowerOfTwo : Bool := true
def rTrailingZeros (_ : Int) : Int := 4
def rformatBits (u : Int) : List UInt8 × ByteArray := ([], tx (hexL u.toNat))
def rFormatInt (n : Int) : ByteArray := tx (hexL n.toNat)
def rRepeat (n : Int) : ByteArray := tx (List.replicate n.toNat 48)
theorem tz64 {w : World} (h : Lib.TabIs Tryz.prog w "math/bits.deBruijn64tab" .u8 tabOf7) : Calls Tryz.prog 249 #[.int .u64 16] w fun e w' => e = .returned (.int .i64 4) ∧ w' = w := by
  have hq : IntKind.u64.wrap (bits BinOp.and IntKind.u64 16 (IntKind.u64.wrap (-16)) * 285870213051353865) / 288230376151711744 = 15 := by decide +kernel
  have hc : w.cell? ⟨7, 15, none⟩ = some (.int .u8 4) := h.cell gn7 15 (by decide)
  go_enter Tryz.func249, Tryz.ntmps249
  go_wp2
  go_ret
  exact ⟨rfl, rfl⟩
theorem tz {w : World} (h : Lib.TabIs Tryz.prog w "math/bits.deBruijn64tab" .u8 tabOf7) : Calls Tryz.prog 247 #[.int .u64 16] w fun e w' => e = .returned (.int .i64 4) ∧ w' = w := by
  go_enter Tryz.func247, Tryz.ntmps247
  go_wp2_with (first
    | (go_at_call 249; refine (tz64 h).mono ?_; rintro e w' ⟨rfl, rfl⟩)
    | go_in)
  go_ret
  exact ⟨rfl, rfl⟩
theorem Flmath_bits_TrailingZeros {x o : Int} (hx : x = 16) (hr : rTrailingZeros x = o) : Fn Tryz.prog 247 [.d (.sc (.int .u64 x))] [] ⟨I o, [], []⟩ := by
 refine ⟨entered_of Tryz.func247 rfl rfl, CallOk.ofCallsG fun E vs hS hG hA => ?_⟩
 obtain ⟨u, rfl, h1⟩ := args1 hA
 rw [relSc h1, hx]
 refine (tz (globs_7 hG)).mono ?_
 rintro e w' ⟨rfl, rfl⟩
 exact ⟨_, rfl, ⟨rfl, rfl, rfl, Nat.le_refl _, fun _ _ => rfl⟩, by rw [← hr]; exact .sc _ rfl⟩
theorem FsSegmentName {n : Int} {o : ByteArray}  (hr : rSegmentName n = o)  : Fn Tryz.prog 105 [I n] [] ⟨S o, [], []⟩ := by
 refine Fn.go su_ch04 Tryz.func105 fun P hP Q hQ => ?_
 conv => cbv
 generalize hr1 : rl01In n 0 1000000000 = r1
 refine .dd hP (Fsl01In hr1) ?_
 cases r1
 simp only [rl01In, decide_eq_true_eq, decide_eq_false_iff_not] at hr1
 conv => cbv
 have e : (tx []) = rSegmentName n := (by unfold rSegmentName; rw [if_neg (by omega)])
 rw [hr] at e
 subst e
 exact hQ _ _ (.s rfl rfl)
 simp only [rl01In, decide_eq_true_eq, decide_eq_false_iff_not] at hr1
 conv => cbv
 refine LoopW.lp (κ := Int × (List (List D)) × Nat) su_ch04 hP [0] [0] (fun (i4, zw1, nw1) => [(3, .ref 1 0 nw1), (4, I i4)]) (fun (i4, zw1, nw1) => [(1, .row 1 false zw1)])
   (fun (i4, zw1, nw1) => ∃ (w1 : List UInt8), w1.map cB = zw1 ∧ nw1 = w1.length ∧ -1 ≤ i4 ∧ i4 ≤ 7 ∧ w1 = padN (7 - i4).toNat (n.toNat / 16 ^ (i4 + 1).toNat))
   (fun (i4, zw1, nw1) => (i4 + 1).toNat) (7, [], 0) ⟨[], rfl, rfl, by omega, by omega, rfl⟩ ⟨rfl, rfl, trivial⟩ rfl ?_
 rintro ⟨i4, zw1, nw1⟩ J ⟨w1, hw1, hnw1, h0, h1, hw⟩ hJ
 have hwl : w1.length = (7 - i4).toNat := by rw [hw, padN_len]
 have hsz : (⟨⟨[48, 49, 50, 51, 52, 53, 54, 55, 56, 57, 97, 98, 99, 100, 101, 102]⟩⟩ : ByteArray).size = 16 := rfl
 conv => cbv
 refine .geq (fun h2 => ?_) fun h2 => ?_
 conv => cbv
 refine .mul fun v3 hv3 => ?_
 conv => cbv
 refine .go fun v4 hv4 => ?_
 conv => cbv
 have e4 : v4 = v3 := by rw [hv4, u64_wrap]; omega
 refine .shr fun v5 hv5 => ?_
 conv => cbv
 refine .and fun v6 hv6 => ?_
 conv => cbv
 have e5 : v5 = ((n.toNat / 16 ^ i4.toNat : Nat) : Int) := by
   have e2 : (2 : Int) ^ v4.toNat = ((16 ^ i4.toNat : Nat) : Int) := by
     rw [show v4.toNat = 4 * i4.toNat by omega, Int.pow_mul, Int.natCast_pow]
     rfl
   rw [hv5, e2, Int.natCast_ediv, Int.toNat_of_nonneg (by omega)]
 have e6 : v6 = ((n.toNat / 16 ^ i4.toNat % 16 : Nat) : Int) := by rw [hv6, and15, e5]; omega
 have e6l : n.toNat / 16 ^ i4.toNat % 16 < 16 := Nat.mod_lt _ (by omega)
 refine .go v6.toNat fun hjv7 v7 hv7 bv7 => ?_
 conv => cbv
 have e7 : [D.sc (.int .u8 v7)] = cB (dig (n.toNat / 16 ^ i4.toNat)) := cB_dig (by rw [hv7, digL, e6, Int.toNat_natCast, dig_mod])
 refine .one (dig (n.toNat / 16 ^ i4.toNat)) hw1 e7 fun nz8 z8 hnz8 hz8 => ?_
 conv => cbv
 refine .sub fun v9 hv9 => ?_
 conv => cbv
 exact .go [3] (v9, z8, nz8) (hJ _ ⟨_, hz8, (by first | omega | (simp; omega)), by omega, by omega, by rw [hw, show (7 - v9).toNat = (7 - i4).toNat + 1 by omega, padN, show (v9 + 1).toNat = i4.toNat by omega, Nat.div_div_eq_div_mul, ← Nat.pow_succ, show (i4 + 1).toNat = i4.toNat + 1 by omega]⟩ (by first | (dsimp only; omega) | omega))
 conv => cbv
 refine .go hw1 fun s3 hs3 => ?_
 conv => cbv
 have zs3 : s3.size = w1.length := by rw [hs3, tx_size]
 refine .litL 1 fun s4 hs4 zs4 => ?_
 conv => cbv
 refine .litR 4 fun s5 hs5 zs5 => ?_
 conv => cbv
 have e : s5 = rSegmentName n := (by unfold rSegmentName; rw [if_pos (by omega), hs5, hs4, hs3, hw, show i4 = -1 by omega]; show tx [115] ++ tx _ ++ tx [46, 115, 101, 103] = _; rw [tx_append, tx_append]; simp)
 rw [hr] at e
 subst e
 exact hQ _ _ (.s rfl rfl)
theorem Flinternal_strconv_isPowerOfTwo {o : Bool}  (hr : risPowerOfTwo  = o)  : Fn Tryz.prog 246 [I 16] [] ⟨B o, [], []⟩ := by
 refine Fn.go su_ch04 Tryz.func246 fun P hP Q hQ => ?_
 conv => cbv
 refine .sub fun v1 hv1 => ?_
 conv => cbv
 refine .and fun v2 hv2 => ?_
 conv => cbv
 refine .eql (fun h3 => ?_) fun h3 => ?_
 conv => cbv
 have e : true = risPowerOfTwo  := (by rfl)
 rw [hr] at e
 subst e
 exact hQ _ _ (.b rfl rfl)
 conv => cbv
 have e : false = risPowerOfTwo  := (by exfalso; apply h3; rw [hv2, hv1]; rfl)
 rw [hr] at e
 subst e
 exact hQ _ _ (.b rfl rfl)
theorem Flinternal_strconv_formatBits {u : Int} {oa : List UInt8} {xoa : List (List D)} {ob : ByteArray}  (hu : 0 ≤ u ∧ u < 4294967296) (hr : rformatBits u = (oa, ob)) (hoa : oa.map cB = xoa) : Fn Tryz.prog 234 [.d (.row 1 []), .d (.sc (.int .u64 u)), I 16, B false, B false] [] ⟨.tup [.d (.row 1 xoa), S ob], [], []⟩ := by
 refine Fn.go su_ch04 Tryz.func234 fun P hP Q hQ => ?_
 conv => cbv
 refine .lss (fun h1 => ?_) fun h1 => ?_
 omega
 conv => cbv
 refine .eql (fun h2 => ?_) fun h2 => ?_
 omega
 conv => cbv
 refine .gtr (fun h3 => ?_) fun h3 => ?_
 omega
 conv => cbv
 refine .go 65 hP (by kernel_rfl) fun z4 hz4 => ?_
 conv => cbv
 generalize hr5 : risPowerOfTwo  = r5
 refine .dd hP (Flinternal_strconv_isPowerOfTwo hr5) ?_
 cases r5
 cases hr5
 conv => cbv
 refine .go fun v6 hv6 => ?_
 conv => cbv
 generalize hr7 : rTrailingZeros v6 = r7
 refine .dd hP (Flmath_bits_TrailingZeros (by rw [hv6, u64_wrap]; rfl) hr7) ?_
 conv => cbv
 refine .go fun v8 hv8 => ?_
 conv => cbv
 refine .go fun v9 hv9 => ?_
 conv => cbv
 refine .go fun v10 hv10 => ?_
 conv => cbv
 refine .subW fun v11 hv11 => ?_
 conv => cbv
 refine LoopW.lp (κ := Int × Int × (List (List D))) su_ch04 hP [] [0, 3, 4, 10, 11, 12, 14, 15, 16] (fun (i1, i13, zw1) => [(1, .d (.sc (.int .u64 i1))), (13, I i13)]) (fun (i1, i13, zw1) => [(1, .row 1 false zw1)])
   (fun (i1, i13, zw1) => ∃ (w1 : List UInt8), w1.map cB = zw1 ∧ ∃ k : Nat, i1 = ((u.toNat / 16 ^ k : Nat) : Int) ∧ i13 = 65 - (k : Int) ∧ k ≤ 7 ∧ w1.length = 65 ∧ hexL u.toNat = hexL (u.toNat / 16 ^ k) ++ w1.drop (65 - k))
   (fun (i1, i13, zw1) => (i13).toNat) (u, 65, z4) ⟨(List.replicate 65 (0 : UInt8)), hz4, 0, by simp; omega, rfl, by omega, by simp, by simp⟩ ⟨rfl, rfl, trivial⟩ rfl ?_
 rintro ⟨i1, i13, zw1⟩ J ⟨w1, hw1, k, hi1, hi13, hk, hwl, hx⟩ hJ
 have e7 : r7 = 4 := hr7.symm
 have e8 : v8 = 4 := by rw [hv8, u64_wrap, e7]; rfl
 have e9 : v9 = 16 := by rw [hv9, u64_wrap]; rfl
 have e11 : v11 = 15 := by rw [hv11, hv10, u64_wrap, u64_wrap]; rfl
 have hlt : u.toNat / 16 ^ k ≤ u.toNat := Nat.div_le_self _ _
 have hk7 : 16 ≤ u.toNat / 16 ^ k → k < 7 := by
   intro h
   rcases Nat.lt_or_ge k 7 with h7 | h7
   · exact h7
   · obtain rfl : k = 7 := by omega
     omega
 have hnx : u.toNat / 16 ^ (k + 1) = u.toNat / 16 ^ k / 16 := by rw [Nat.pow_succ, ← Nat.div_div_eq_div_mul]
 generalize hq : u.toNat / 16 ^ k = q at *
 conv => cbv
 refine .geq (fun h12 => ?_) fun h12 => ?_
 conv => cbv
 refine .sub fun v13 hv13 => ?_
 conv => cbv
 refine .and fun v14 hv14 => ?_
 conv => cbv
 have h7 := hk7 (by omega)
 have e14 : v14 = ((q % 16 : Nat) : Int) := by rw [hv14, e11, hi1, and15u (by omega)]
 have e14l : q % 16 < 16 := Nat.mod_lt _ (by omega)
 refine .go v14.toNat (hj := by show v14.toNat < 36; omega) fun hjv15 v15 hv15 bv15 => ?_
 conv => cbv
 refine .go hP Tryz.underlying261 (by kernel_rfl) fun p16 hp16 => ?_
 conv => cbv
 have e15 : [D.sc (.int .u8 v15)] = cB (dig q) := cB_dig (by rw [hv15, digF _ (by omega), e14, Int.toNat_natCast, dig_mod])
 refine .all (dig q) hw1 e15 fun z17 hz17 => ?_
 conv => cbv
 refine .shrW fun v18 hv18 => ?_
 conv => cbv
 exact .go [] (v18, v13, z17) (hJ _ ⟨_, hz17, k + 1, by rw [hv18, e8, hi1, Int.fdiv_eq_ediv_of_nonneg _ (by decide), hnx]; show (q : Int) / 16 = _; omega, by omega, by omega, by rw [List.length_set]; exact hwl, by rw [hx, hexL_next (show ¬ q < 16 by omega), List.append_assoc, hnx, show 65 - (k + 1) = p16 by omega, drop_set (by omega), show p16 + 1 = 65 - k by omega]; rfl⟩ (by first | (dsimp only; omega) | omega))
 conv => cbv
 refine .sub fun v13 hv13 => ?_
 conv => cbv
 refine .go i1.toNat (hj := by show i1.toNat < 36; omega) fun hjv14 v14 hv14 bv14 => ?_
 conv => cbv
 refine .go hP Tryz.underlying261 (by kernel_rfl) fun p15 hp15 => ?_
 conv => cbv
 have e14 : [D.sc (.int .u8 v14)] = cB (dig q) := cB_dig (by rw [hv14, digF _ (by omega), hi1, Int.toNat_natCast])
 refine .all (dig q) hw1 e14 fun z16 hz16 => ?_
 conv => cbv
 refine .lo hP hz16 Tryz.underlying261 (by kernel_rfl) fun on17 n17 hon17 hn17 => ?_
 conv => cbv
 refine .off hz16 fun s18 hs18 => ?_
 conv => cbv
 have e : ([], s18) = rformatBits u := (by unfold rformatBits; rw [hs18, hx, hexL_small (show q < 16 by omega), hon17, hn17, show v13.toNat = p15 by omega, drop_set (by omega), show p15 + 1 = 65 - k by omega, List.take_of_length_le (by simp; omega)]; rfl)
 rw [hr] at e
 simp only [Prod.mk.injEq] at e
 obtain ⟨rfl, rfl⟩ := e
 refine hQ _ _ ?_
 exact .many (.inl rfl) rfl rfl (.ref rfl rfl (by rw [← hoa]; rfl) (.d rfl rfl (.nil)))
theorem Flinternal_strconv_FormatInt {n : Int} {o : ByteArray}  (hn : 0 ≤ n ∧ n ≤ 1000000000) (hr : rFormatInt n = o)  : Fn Tryz.prog 196 [I n, I 16] [] ⟨S o, [], []⟩ := by
 refine Fn.go su_ch04 Tryz.func196 fun P hP Q hQ => ?_
 conv => cbv
 refine .eql (fun h1 => ?_) fun h1 => ?_
 omega
 conv => cbv
 refine .go fun v2 hv2 => ?_
 conv => cbv
 refine .lss (fun h3 => ?_) fun h3 => ?_
 omega
 conv => cbv
 rcases hr4 : rformatBits v2 with ⟨r4a, r4b⟩
 generalize hr4a : r4a.map cB = xr4a
 refine .dd hP (Flinternal_strconv_formatBits (by rw [hv2, u64_wrap]; omega) hr4 hr4a) ?_
 conv => cbv
 have e : r4b = rFormatInt n := (by have e2 : v2 = n := (by rw [hv2, u64_wrap]; omega); unfold rFormatInt; rw [← e2]; exact (congrArg Prod.snd hr4).symm)
 rw [hr] at e
 subst e
 exact hQ _ _ (.s rfl rfl)
theorem Flstrconv_FormatInt {n : Int} {o : ByteArray}  (hn : 0 ≤ n ∧ n ≤ 1000000000) (hr : rFormatInt n = o)  : Fn Tryz.prog 163 [I n, I 16] [] ⟨S o, [], []⟩ := by
 refine Fn.go su_ch04 Tryz.func163 fun P hP Q hQ => ?_
 conv => cbv
 generalize hr1 : rFormatInt n = r1
 refine .dd hP (Flinternal_strconv_FormatInt hn hr1) ?_
 conv => cbv
 have e : r1 = rFormatInt n := (by exact hr1.symm)
 rw [hr] at e
 subst e
 exact hQ _ _ (.s rfl rfl)
theorem Flstrings_Repeat {c : Int} {o : ByteArray} (hc : 0 ≤ c ∧ c ≤ 8) (hr : rRepeat c = o) : Fn Tryz.prog 164 [S (tx [48]), I c] [] ⟨S o, [], []⟩ := by
 refine ⟨entered_of Tryz.func164 rfl rfl, CallOk.ofCalls fun E vs hS hA => ?_⟩
 obtain ⟨u, v, rfl, h1, h2⟩ := args2 hA
 rw [relSc h1, relSc h2]
 obtain ⟨k, rfl⟩ := Int.eq_ofNat_of_zero_le hc.1
 refine (Tryz.strings_Repeat (tx [48]) k E.w (by omega) (by rw [tx_size]; simp; omega)).mono ?_
 rintro e w' ⟨rfl, hb⟩
 refine ⟨_, rfl, hb, ?_⟩
 have : (⟨(Lib.repeatL (tx [48]).data.toList k).toArray⟩ : ByteArray) = o := by
   rw [← hr]
   unfold rRepeat tx
   congr 2
   rw [Int.toNat_natCast]
   have key : ∀ k, Lib.repeatL (tx [48]).data.toList k = List.replicate k 48 := by
     intro k
     induction k with
     | zero => rfl
     | succ k ih => show [48] ++ Lib.repeatL _ k = _; rw [ih]; rfl
   exact key k
 rw [this]
 exact .sc _ rfl
theorem FiSegmentName {n : Int} {o : ByteArray}  (hr : rSegmentName n = o)  : Fn Tryz.prog 126 [I n] [] ⟨S o, [], []⟩ := by
 refine Fn.go su_ch04 Tryz.func126 fun P hP Q hQ => ?_
 conv => cbv
 generalize hr1 : risNumber n = r1
 refine .dd hP (FiisNumber hr1) ?_
 cases r1
 simp only [risNumber, decide_eq_true_eq, decide_eq_false_iff_not] at hr1
 conv => cbv
 have e : (tx []) = rSegmentName n := (by unfold rSegmentName; rw [if_neg (by omega)])
 rw [hr] at e
 subst e
 exact hQ _ _ (.s rfl rfl)
 simp only [risNumber, decide_eq_true_eq, decide_eq_false_iff_not] at hr1
 conv => cbv
 generalize hr2 : rFormatInt n = r2
 refine .dd hP (Flstrconv_FormatInt hr1 hr2) ?_
 conv => cbv
 obtain ⟨p1, p2, p3⟩ := hexPad 7 n.toNat (by omega)
 have z2 : r2.size = (hexL n.toNat).length := by rw [← hr2]; exact tx_size
 refine .go fun v3 hv3 => ?_
 conv => cbv
 refine .sub fun v4 hv4 => ?_
 conv => cbv
 generalize hr5 : rRepeat v4 = r5
 refine .dd hP (Flstrings_Repeat (by omega) hr5) ?_
 conv => cbv
 have z5 : r5.size = v4.toNat := by rw [← hr5]; unfold rRepeat; rw [tx_size, List.length_replicate]
 refine .litL 1 fun s6 hs6 zs6 => ?_
 conv => cbv
 refine .go fun s7 hs7 zs7 => ?_
 conv => cbv
 refine .litR 4 fun s8 hs8 zs8 => ?_
 conv => cbv
 have e : s8 = rSegmentName n := (by unfold rSegmentName; rw [if_pos (by omega), hs8, hs7, hs6, ← hr5, ← hr2, p1]; unfold rRepeat rFormatInt; show tx [115] ++ tx _ ++ tx _ ++ tx [46, 115, 101, 103] = _; rw [tx_append, tx_append, tx_append, show v4.toNat = 7 + 1 - (hexL n.toNat).length by omega]; simp)
 rw [hr] at e
 subst e
 exact hQ _ _ (.s rfl rfl)
end Go.Proofs.YtmhinjjgpabkfaaGreatDoor.Ab
