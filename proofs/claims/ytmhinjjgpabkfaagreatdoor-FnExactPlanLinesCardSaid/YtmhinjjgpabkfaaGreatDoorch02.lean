/- What functions of the program come to, for all arguments in the given bounds. -/
import Derived.Test.YtmhinjjgpabkfaaGreatDoorch01a
set_option linter.unusedVariables false
set_option linter.unusedSimpArgs false
namespace Go.Proofs.YtmhinjjgpabkfaaGreatDoor.Ab
open Go Go.Proofs
set_option maxRecDepth 20000
set_option maxHeartbeats 4000000
set_option linter.unusedSimpArgs false
set_option linter.unusedVariables false
def tab_ch02 : List (Nat × TyRow) := [
  (3, ⟨.int .i64, some 1, some false, none, false, [.int .i64], [], some [(.int .i64 0, 0)], none, none, none⟩),
  (5, ⟨.int .u8, some 1, some false, none, false, [.int .u8], [], some [(.int .u8 0, 0)], none, none, none⟩),
  (9, ⟨.str, some 1, some false, none, false, [.str], [], some [(.string default, 0)], none, none, none⟩),
  (193, ⟨.int .u32, some 1, some false, none, false, [.int .u32], [], some [(.int .u32 0, 0)], none, none, none⟩)]
theorem tab_ch02_ok : TabOk Tryz.prog tab_ch02 := TabOk.of (by kernel_rfl)
theorem su_ch02 : Setup Tryz.prog tab_ch02 := ⟨tab_ch02_ok, mixed⟩
def crcS (x : Nat) : Nat := if x % 2 = 1 then (x / 2) ^^^ 2197175160 else x / 2
def crcN : Nat → Nat → Nat
  | 0, x => x
  | n + 1, x => crcS (crcN n x)
def crcB (x b : Nat) : Nat := crcN 8 (x ^^^ b)
theorem crcS_lt {x : Nat} (h : x < 2 ^ 32) : crcS x < 2 ^ 32 := by
  unfold crcS
  split
  · exact Nat.xor_lt_two_pow (by omega) (by omega)
  · omega
theorem crcN_lt {x : Nat} (h : x < 2 ^ 32) : ∀ n, crcN n x < 2 ^ 32
  | 0 => h
  | n + 1 => crcS_lt (crcN_lt h n)
theorem crcB_lt {x b : Nat} (h : x < 2 ^ 32) (hb : b < 256) : crcB x b < 2 ^ 32 := crcN_lt (Nat.xor_lt_two_pow h (by omega)) 8
def crcL (x : Nat) (l : List UInt8) : Nat := l.foldl (fun x b => crcB x b.toNat) x
theorem crcL_lt {x : Nat} (h : x < 2 ^ 32) (l : List UInt8) : crcL x l < 2 ^ 32 := by
  unfold crcL
  induction l generalizing x with
  | nil => exact h
  | cons b l ih => exact ih (crcB_lt h b.toNat_lt)
theorem crcL_succ {x : Nat} {l : List UInt8} {k : Nat} (h : k < l.length) : crcL x (l.take (k + 1)) = crcB (crcL x (l.take k)) l[k].toNat := by
  unfold crcL
  rw [List.take_succ_eq_append_getElem h, List.foldl_append]
  rfl
def sumN (x : Nat) (l : List UInt8) : Nat := crcL (x ^^^ 4294967295) l ^^^ 4294967295
theorem sumN_lt {x : Nat} (h : x < 2 ^ 32) (l : List UInt8) : sumN x l < 2 ^ 32 := Nat.xor_lt_two_pow (crcL_lt (Nat.xor_lt_two_pow h (by omega)) l) (by omega)
theorem crc_xor32 {x : Nat} (h : x < 2 ^ 32) : bitI .xor .u32 ((x : Int)) 2197175160 = ((x ^^^ 2197175160 : Nat) : Int) := bit_xor32 (b := 2197175160) h (by omega)
theorem crc_xor64 {x : Nat} (h : x < 2 ^ 32) : bitI .xor .i64 ((x : Int)) 2197175160 = ((x ^^^ 2197175160 : Nat) : Int) := bit_xor64 (b := 2197175160) (by omega) (by omega)
theorem and1_32 {x : Nat} (h : x < 2 ^ 32) : bitI .and .u32 (x : Int) 1 = ((x % 2 : Nat) : Int) := by rw [show (1 : Int) = ((1 : Nat) : Int) from rfl, bit_and32 h (by omega), Nat.and_one_is_mod]
theorem and1_64 {x : Nat} (h : x < 2 ^ 32) : bitI .and .i64 (x : Int) 1 = ((x % 2 : Nat) : Int) := by have := bit_and_mask (a := (x : Int)) (k := 1) (by omega); simpa using this
theorem mask32 (a : Int) : bitI .and .i64 a 4294967295 = a % 4294967296 := bit_and_mask (k := 32) (by omega)
theorem mask8 (a : Int) : bitI .and .i64 a 255 = a % 256 := bit_and_mask (k := 8) (by omega)
theorem ones64 {x : Nat} (h : x < 2 ^ 32) : bitI .xor .i64 (x : Int) 4294967295 = ((x ^^^ 4294967295 : Nat) : Int) := bit_xor64 (b := 4294967295) (by omega) (by omega)
theorem ones32 {x : Nat} (h : x < 2 ^ 32) : bitI .xor .u32 (x : Int) 4294967295 = ((x ^^^ 4294967295 : Nat) : Int) := bit_xor32 (b := 4294967295) h (by omega)
def rsumByte (s b : Int) : Int := (crcB s.toNat b.toNat : Nat)
def rSumByte (s b : Int) : Int := (crcB (s % 4294967296).toNat (b % 256).toNat : Nat)
def rSumMore (s : Int) (text : ByteArray) : Int := (sumN (s % 4294967296).toNat text.data.toList : Nat)
def rSumOf (text : ByteArray) : Int := rSumMore 0 text
theorem rSumByte_nat {x b : Nat} (hx : x < 2 ^ 32) (hb : b < 256) : rSumByte (x : Int) (b : Int) = ((crcB x b : Nat) : Int) := by
  unfold rSumByte
  rw [show ((x : Int) % 4294967296).toNat = x by omega, show ((b : Int) % 256).toNat = b by omega]
theorem rSumMore_lt (s : Int) (text : ByteArray) : 0 ≤ rSumMore s text ∧ rSumMore s text < 4294967296 := by
  have := sumN_lt (x := (s % 4294967296).toNat) (by omega) text.data.toList
  unfold rSumMore
  omega
theorem rSumOf_lt (text : ByteArray) : 0 ≤ rSumOf text ∧ rSumOf text < 4294967296 := rSumMore_lt 0 text
theorem rSumOf_b {s : ByteArray} {o : Int} (h : rSumOf s = o) : 0 ≤ o ∧ o < 4294967296 := by rw [← h]; exact rSumOf_lt s
theorem rSumMore_b {x : Int} {s : ByteArray} {o : Int} (h : rSumMore x s = o) : 0 ≤ o ∧ o < 4294967296 := by rw [← h]; exact rSumMore_lt x s
theorem FisumByte {s : Int} {b : Int} {o : Int}  (hs : 0 ≤ s ∧ s < 4294967296) (hb : 0 ≤ b ∧ b < 256) (hr : rsumByte s b = o)  : Fn Tryz.prog 241 [.d (.sc (.int .u32 s)), .d (.sc (.int .u8 b))] [] ⟨.d (.sc (.int .u32 o)), [], []⟩ := by
 refine Fn.go su_ch02 Tryz.func241 fun P hP Q hQ => ?_
 conv => cbv
 refine .go fun v1 hv1 => ?_
 conv => cbv
 refine .xor fun v2 hv2 => ?_
 conv => cbv
 refine LoopW.lp (κ := Int × Int) su_ch02 hP [] [] (fun (i0, i10) => [(0, .d (.sc (.int .u32 i0))), (10, I i10)]) (fun (i0, i10) => [])
   (fun (i0, i10) => ∃ k : Nat, i10 = (k : Int) ∧ k ≤ 8 ∧ i0 = ((crcN k (s.toNat ^^^ b.toNat) : Nat) : Int))
   (fun (i0, i10) => 8 - i10.toNat) (v2, 0) ⟨0, rfl, by omega, by rw [hv2, hv1, u32_wrap, Int.emod_eq_of_lt hb.1 (by omega)]; have := bit_xor32 (a := s.toNat) (b := b.toNat) (by omega) (by omega); rw [Int.toNat_of_nonneg hs.1, Int.toNat_of_nonneg hb.1] at this; exact this⟩ ⟨rfl, rfl, trivial⟩ rfl ?_
 rintro ⟨i0, i10⟩ J ⟨k, hi, hk, hx⟩ hJ
 have hlt := crcN_lt (Nat.xor_lt_two_pow (show s.toNat < 2 ^ 32 by omega) (show b.toNat < 2 ^ 32 by omega)) k
 generalize hy : crcN k (s.toNat ^^^ b.toNat) = y at hlt hx
 have hn : crcN (k + 1) (s.toNat ^^^ b.toNat) = crcS y := by rw [← hy]; rfl
 conv => cbv
 refine .lss (fun h3 => ?_) fun h3 => ?_
 conv => cbv
 refine .and fun v4 hv4 => ?_
 conv => cbv
 refine .eql (fun h5 => ?_) fun h5 => ?_
 conv => cbv
 refine .shrW fun v6 hv6 => ?_
 conv => cbv
 refine .xor fun v7 hv7 => ?_
 conv => cbv
 refine .add fun v8 hv8 => ?_
 conv => cbv
 rw [hv4, hx, and1_32 hlt] at h5
 have e6 : v6 = ((y / 2 : Nat) : Int) := by rw [hv6, hx]; show Int.fdiv _ 2 = _; rw [Int.fdiv_eq_ediv_of_nonneg _ (by decide)]; omega
 have e7 : v7 = ((crcS y : Nat) : Int) := by rw [hv7, e6, crc_xor32 (by omega)]; unfold crcS; rw [if_pos (by omega)]
 exact .go [] (v7, v8) (hJ _ ⟨k + 1, by omega, by omega, by rw [hn]; exact e7⟩ (by first | (dsimp only; omega) | omega))
 conv => cbv
 refine .shrW fun v6 hv6 => ?_
 conv => cbv
 refine .add fun v7 hv7 => ?_
 conv => cbv
 rw [hv4, hx, and1_32 hlt] at h5
 have e6 : v6 = ((crcS y : Nat) : Int) := by unfold crcS; rw [hv6, hx, if_neg (by omega)]; show Int.fdiv _ 2 = _; rw [Int.fdiv_eq_ediv_of_nonneg _ (by decide)]; omega
 exact .go [] (v6, v7) (hJ _ ⟨k + 1, by omega, by omega, by rw [hn]; exact e6⟩ (by first | (dsimp only; omega) | omega))
 conv => cbv
 have e : i0 = rsumByte s b := (by rw [hx, ← hy, show k = 8 by omega]; rfl)
 rw [hr] at e
 subst e
 exact hQ _ _ (.i rfl rfl)
theorem FsSumByte {s : Int} {b : Int} {o : Int}  (hr : rSumByte s b = o)  : Fn Tryz.prog 208 [I s, I b] [] ⟨I o, [], []⟩ := by
 refine Fn.go su_ch02 Tryz.func208 fun P hP Q hQ => ?_
 conv => cbv
 refine .and fun v1 hv1 => ?_
 conv => cbv
 refine .and fun v2 hv2 => ?_
 conv => cbv
 refine .xor fun v3 hv3 => ?_
 conv => cbv
 refine LoopW.lp (κ := Int × Int) su_ch02 hP [] [] (fun (i5, i6) => [(5, I i5), (6, I i6)]) (fun (i5, i6) => [])
   (fun (i5, i6) => ∃ k : Nat, i6 = (k : Int) ∧ k ≤ 8 ∧ i5 = ((crcN k ((s % 4294967296).toNat ^^^ (b % 256).toNat) : Nat) : Int))
   (fun (i5, i6) => 8 - i6.toNat) (v3, 0) ⟨0, rfl, by omega, by rw [hv3, hv1, hv2, mask32, mask8]; have := bit_xor64 (a := (s % 4294967296).toNat) (b := (b % 256).toNat) (by omega) (by omega); rw [Int.toNat_of_nonneg (by omega), Int.toNat_of_nonneg (by omega)] at this; exact this⟩ ⟨rfl, rfl, trivial⟩ rfl ?_
 rintro ⟨i5, i6⟩ J ⟨k, hi, hk, hx⟩ hJ
 have hlt := crcN_lt (Nat.xor_lt_two_pow (show (s % 4294967296).toNat < 2 ^ 32 by omega) (show (b % 256).toNat < 2 ^ 32 by omega)) k
 generalize hy : crcN k ((s % 4294967296).toNat ^^^ (b % 256).toNat) = y at hlt hx
 have hn : crcN (k + 1) ((s % 4294967296).toNat ^^^ (b % 256).toNat) = crcS y := by rw [← hy]; rfl
 conv => cbv
 refine .lss (fun h4 => ?_) fun h4 => ?_
 conv => cbv
 refine .and fun v5 hv5 => ?_
 conv => cbv
 refine .eql (fun h6 => ?_) fun h6 => ?_
 conv => cbv
 refine .shr fun v7 hv7 => ?_
 conv => cbv
 refine .xor fun v8 hv8 => ?_
 conv => cbv
 refine .add fun v9 hv9 => ?_
 conv => cbv
 rw [hv5, hx, and1_64 hlt] at h6
 have e7 : v7 = ((y / 2 : Nat) : Int) := by rw [hv7, hx]; show _ / 2 = _; omega
 have e8 : v8 = ((crcS y : Nat) : Int) := by rw [hv8, e7, crc_xor64 (by omega)]; unfold crcS; rw [if_pos (by omega)]
 exact .go [] (v8, v9) (hJ _ ⟨k + 1, by omega, by omega, by rw [hn]; exact e8⟩ (by first | (dsimp only; omega) | omega))
 conv => cbv
 refine .shr fun v7 hv7 => ?_
 conv => cbv
 refine .add fun v8 hv8 => ?_
 conv => cbv
 rw [hv5, hx, and1_64 hlt] at h6
 have e7 : v7 = ((crcS y : Nat) : Int) := by unfold crcS; rw [hv7, hx, if_neg (by omega)]; show _ / 2 = _; omega
 exact .go [] (v7, v8) (hJ _ ⟨k + 1, by omega, by omega, by rw [hn]; exact e7⟩ (by first | (dsimp only; omega) | omega))
 conv => cbv
 have e : i5 = rSumByte s b := (by rw [hx, ← hy, show k = 8 by omega]; rfl)
 rw [hr] at e
 subst e
 exact hQ _ _ (.i rfl rfl)
theorem FiSumMore {s : Int} {text : ByteArray} {o : Int}  (hb : text.size < 2 ^ 47) (hr : rSumMore s text = o)  : Fn Tryz.prog 217 [I s, S text] [] ⟨I o, [], []⟩ := by
 refine Fn.go su_ch02 Tryz.func217 fun P hP Q hQ => ?_
 conv => cbv
 refine .go fun v1 hv1 => ?_
 conv => cbv
 refine .xor fun v2 hv2 => ?_
 conv => cbv
 refine .go fun v3 hv3 => ?_
 conv => cbv
 refine LoopW.lp (κ := Int × Int) su_ch02 hP [] [1, 11] (fun (i5, i12) => [(5, .d (.sc (.int .u32 i5))), (12, I i12)]) (fun (i5, i12) => [])
   (fun (i5, i12) => ∃ k : Nat, i12 = (k : Int) ∧ k ≤ text.size ∧ i5 = ((crcL ((s % 4294967296).toNat ^^^ 4294967295) (text.data.toList.take k) : Nat) : Int))
   (fun (i5, i12) => text.size - i12.toNat) (v2, 0) ⟨0, rfl, by omega, by rw [hv2, hv1, u32_wrap]; have := ones32 (x := (s % 4294967296).toNat) (by omega); rw [Int.toNat_of_nonneg (by omega)] at this; exact this⟩ ⟨rfl, rfl, trivial⟩ rfl ?_
 rintro ⟨i5, i12⟩ J ⟨k, hi, hk, hx⟩ hJ
 have hlt := crcL_lt (Nat.xor_lt_two_pow (show (s % 4294967296).toNat < 2 ^ 32 by omega) (show 4294967295 < 2 ^ 32 by omega)) (text.data.toList.take k)
 have hz := lst_size text
 conv => cbv
 refine .lss (fun h4 => ?_) fun h4 => ?_
 conv => cbv
 refine .go i12.toNat fun hjv5 v5 hv5 bv5 => ?_
 conv => cbv
 generalize hr6 : rsumByte i5 v5 = r6
 refine .dd hP (FisumByte (by omega) (by have := (text[i12.toNat]).toNat_lt; omega) hr6) ?_
 conv => cbv
 refine .add fun v7 hv7 => ?_
 conv => cbv
 exact .go [] (r6, v7) (hJ _ ⟨k + 1, by omega, by omega, by rw [← hr6, hv5, hx, crcL_succ (by omega)]; unfold rsumByte; simp only [Int.toNat_natCast, hi]; rfl⟩ (by first | (dsimp only; omega) | omega))
 conv => cbv
 refine .xor fun v5 hv5 => ?_
 conv => cbv
 have e5 := ones32 hlt
 rw [← hx, ← hv5] at e5
 have := Nat.xor_lt_two_pow hlt (show 4294967295 < 2 ^ 32 by omega)
 refine .id fun v6 hv6 => ?_
 conv => cbv
 have e : v6 = rSumMore s text := (by rw [hv6, e5, List.take_of_length_le (by omega)]; rfl)
 rw [hr] at e
 subst e
 exact hQ _ _ (.i rfl rfl)
theorem FsSumMore {s : Int} {text : ByteArray} {o : Int}  (hb : text.size < 2 ^ 47) (hr : rSumMore s text = o)  : Fn Tryz.prog 175 [I s, S text] [] ⟨I o, [], []⟩ := by
 refine Fn.go su_ch02 Tryz.func175 fun P hP Q hQ => ?_
 conv => cbv
 refine .and fun v1 hv1 => ?_
 conv => cbv
 refine .xor fun v2 hv2 => ?_
 conv => cbv
 refine LoopW.lp (κ := Int × Int) su_ch02 hP [] [1] (fun (i5, i6) => [(5, I i5), (6, I i6)]) (fun (i5, i6) => [])
   (fun (i5, i6) => ∃ k : Nat, i6 = (k : Int) ∧ k ≤ text.size ∧ i5 = ((crcL ((s % 4294967296).toNat ^^^ 4294967295) (text.data.toList.take k) : Nat) : Int))
   (fun (i5, i6) => text.size - i6.toNat) (v2, 0) ⟨0, rfl, by omega, by rw [hv2, hv1, mask32]; have := ones64 (x := (s % 4294967296).toNat) (by omega); rw [Int.toNat_of_nonneg (by omega)] at this; exact this⟩ ⟨rfl, rfl, trivial⟩ rfl ?_
 rintro ⟨i5, i6⟩ J ⟨k, hi, hk, hx⟩ hJ
 have hlt := crcL_lt (Nat.xor_lt_two_pow (show (s % 4294967296).toNat < 2 ^ 32 by omega) (show 4294967295 < 2 ^ 32 by omega)) (text.data.toList.take k)
 have hz := lst_size text
 conv => cbv
 refine .go fun v3 hv3 => ?_
 conv => cbv
 refine .lss (fun h4 => ?_) fun h4 => ?_
 conv => cbv
 refine .go i6.toNat fun hjv5 v5 hv5 bv5 => ?_
 conv => cbv
 have := (text[i6.toNat]).toNat_lt
 refine .id fun v6 hv6 => ?_
 conv => cbv
 generalize hr7 : rSumByte i5 v6 = r7
 refine .dd hP (FsSumByte hr7) ?_
 conv => cbv
 refine .add fun v8 hv8 => ?_
 conv => cbv
 have hb8 := (text[i6.toNat]).toNat_lt
 have e7 := rSumByte_nat hlt hb8
 rw [← hx, ← hv5, ← hv6, hr7] at e7
 exact .go [] (r7, v8) (hJ _ ⟨k + 1, by omega, by omega, by rw [e7, crcL_succ (by omega)]; simp only [hi, Int.toNat_natCast]; rfl⟩ (by first | (dsimp only; omega) | omega))
 conv => cbv
 refine .xor fun v5 hv5 => ?_
 conv => cbv
 have e : v5 = rSumMore s text := (by rw [hv5, hx, ones64 hlt, List.take_of_length_le (by omega)]; rfl)
 rw [hr] at e
 subst e
 exact hQ _ _ (.i rfl rfl)
theorem FiSumOf {text : ByteArray} {o : Int}  (hb : text.size < 2 ^ 47) (hr : rSumOf text = o)  : Fn Tryz.prog 219 [S text] [] ⟨I o, [], []⟩ := by
 refine Fn.go su_ch02 Tryz.func219 fun P hP Q hQ => ?_
 conv => cbv
 generalize hr1 : rSumMore 0 text = r1
 have zr1 := rSumMore_b hr1
 refine .dd hP (FiSumMore hb hr1) ?_
 conv => cbv
 have e : r1 = rSumOf text := (by rw [← hr1]; rfl)
 rw [hr] at e
 subst e
 exact hQ _ _ (.i rfl rfl)
theorem FsSumOf {text : ByteArray} {o : Int}  (hb : text.size < 2 ^ 47) (hr : rSumOf text = o)  : Fn Tryz.prog 207 [S text] [] ⟨I o, [], []⟩ := by
 refine Fn.go su_ch02 Tryz.func207 fun P hP Q hQ => ?_
 conv => cbv
 generalize hr1 : rSumMore 0 text = r1
 have zr1 := rSumMore_b hr1
 refine .dd hP (FsSumMore hb hr1) ?_
 conv => cbv
 have e : r1 = rSumOf text := (by rw [← hr1]; rfl)
 rw [hr] at e
 subst e
 exact hQ _ _ (.i rfl rfl)
end Go.Proofs.YtmhinjjgpabkfaaGreatDoor.Ab
