/- What functions of the program come to, for all arguments in the given bounds. -/
import Derived.Test.YtmkpihcfglinjaaGreatDoorch01a
import Derived.Lib.ItoaNum
import Derived.Lib.AppendIntMem
import Derived.Test.YtmkpihcfglinjaaGreatDoorSh
import Derived.Below
import Derived.ProofKit
set_option linter.unusedVariables false
set_option linter.unusedSimpArgs false
namespace Go.Proofs.YtmkpihcfglinjaaGreatDoor.Ab
open Go Go.Proofs
set_option maxRecDepth 20000
set_option maxHeartbeats 4000000
set_option linter.unusedSimpArgs false
set_option linter.unusedVariables false
def tab_ch01d : List (Nat × TyRow) := [
  (3, ⟨.int .i64, some 1, some false, none, false, [.int .i64], [], some [(.int .i64 0, 0)], none, none, none⟩),
  (5, ⟨.int .u8, some 1, some false, none, false, [.int .u8], [], some [(.int .u8 0, 0)], none, none, none⟩),
  (9, ⟨.str, some 1, some false, none, false, [.str], [], some [(.string default, 0)], none, none, none⟩),
  (22, ⟨.sl 1, some 1, some false, some (1, 1), true, [.sl 1], [], some [(.slice none 0 0, 1)], some ([.sc (.int .u8 0)], 1, 1), none, none⟩),
  (24, ⟨.sl 1, some 1, some false, some (1, 8), false, [.sl 1], [], some [(.slice none 0 0, 1)], some ([.sc (.int .i64 0)], 1, 8), none, none⟩)]
theorem tab_ch01d_ok : TabOk Tryz.prog tab_ch01d := TabOk.of (by kernel_rfl)
theorem su_ch01d : Setup Tryz.prog tab_ch01d := ⟨tab_ch01d_ok, mixed⟩
def fig (x : Int) : UInt8 := UInt8.ofNat (if x < 10 then 48 + x.toNat else 87 + x.toNat)
def rl01Figure (x : Int) : Int := (if x < 10 then 48 + x else 97 + x - 10) % 256
theorem fig_toNat {x : Int} (h : 0 ≤ x ∧ x < 16) : ((fig x).toNat : Int) = rl01Figure x := by
  unfold fig rl01Figure
  split
  · rw [UInt8.toNat_ofNat', Nat.mod_eq_of_lt (by omega)]; omega
  · rw [UInt8.toNat_ofNat', Nat.mod_eq_of_lt (by omega)]; omega
theorem cB_fig {x r : Int} (hr : rl01Figure x = r) (h : 0 ≤ x ∧ x < 16) : [D.sc (.int .u8 r)] = cB (fig x) := by
  show _ = [D.sc (.int .u8 ((fig x).toNat : Int))]
  rw [fig_toNat h, hr]
theorem fig10 (n : Nat) : fig ((n % 10 : Nat) : Int) = UInt8.ofNat (48 + n % 10) := by
  unfold fig
  rw [if_pos (by omega), Int.toNat_natCast]
theorem decDigits_len : ∀ (k u : Nat), u < 10 ^ (k + 1) → 1 ≤ (Lib.decDigits u).length ∧ (Lib.decDigits u).length ≤ k + 1
  | 0, u, h => by rw [Lib.decDigits, dif_pos (by simpa using h)]; simp
  | k + 1, u, h => by
    by_cases hn : u < 10
    · rw [Lib.decDigits, dif_pos hn]; simp
    · rw [Lib.decDigits, dif_neg hn]
      have := decDigits_len k (u / 10) (by rw [Nat.pow_succ] at h; omega)
      simp; omega
def decL (n : Nat) : List UInt8 := if n = 0 then [] else Lib.decDigits n
theorem decL_next {n : Nat} (h : n ≠ 0) : decL n = decL (n / 10) ++ [fig ((n % 10 : Nat) : Int)] := by
  unfold decL
  rw [if_neg h, Lib.decDigits, fig10]
  split
  · rw [if_pos (by omega), Nat.mod_eq_of_lt (by omega)]; rfl
  · rw [if_neg (by omega)]
theorem decL_len {u : Nat} (h : u ≤ 9223372036854775808) : (decL u).length ≤ 19 := by
  unfold decL
  split
  · simp
  · exact (decDigits_len 18 u (by omega)).2
abbrev in64 (n : Int) : Prop := -9223372036854775808 ≤ n ∧ n ≤ 9223372036854775807
def rDecimal (n : Int) : ByteArray := tx (Lib.itoa n)
def rItoa (n : Int) : ByteArray := rDecimal n
theorem itoa_eq (n : Int) (h : n ≠ 0) : Lib.itoa n = (if n < 0 then [45] else []) ++ decL n.natAbs := by
  unfold Lib.itoa decL
  rw [if_neg (show ¬ n.natAbs = 0 by omega)]
  split
  · rfl
  · rw [show n.toNat = n.natAbs by omega]; rfl
theorem itoa_len {n : Int} (h : in64 n) : 1 ≤ (Lib.itoa n).length ∧ (Lib.itoa n).length ≤ 20 := by
  unfold in64 at h
  unfold Lib.itoa
  split
  · have := decDigits_len 18 n.natAbs (by omega)
    simp; omega
  · have := decDigits_len 18 n.toNat (by omega)
    omega
theorem rDecimal_b {n : Int} {o : ByteArray} (e : rDecimal n = o) (h : in64 n) : 1 ≤ o.size ∧ o.size ≤ 20 := by
  rw [← e]
  unfold rDecimal
  rw [tx_size]
  exact itoa_len h
theorem MakeW.cap {α : Type} {c : α → List D} {K : Nat → List (List D) → Prop} {m : Int} {bytes : Nat} {z : List D} (h : ∀ v l, l = 0 → ([] : List α).map c = v → K l v) (h0 : 0 ≤ m := by omega) (h2 : bytes * m ≤ 2 ^ 48 := by omega) (h3 : m < 2 ^ 63 := by omega) : MakeW 0 m bytes z K :=
  ⟨0, [], by omega, h0, h2, h3, rfl, rfl, h _ _ rfl rfl⟩
theorem ArW.quoT {K : Int → Prop} {a : Int} (h : ∀ v, v = a.tdiv 10 → K v) (hr : -9223372036854775808 ≤ a ∧ a < 9223372036854775808 := by omega) : ArW .quo .i64 .i64 a 10 K := by
  refine ⟨a.tdiv 10, ?_, h _ rfl⟩
  show (if (10 : Int) = 0 then none else some (Value.int .i64 (IntKind.i64.wrap (a.tdiv 10)))) = _
  rw [if_neg (by decide), wrap_in]
  rcases Int.le_total 0 a with h0 | h0
  · rw [Int.tdiv_eq_ediv_of_nonneg h0]; omega
  · have : a.tdiv 10 = -((-a) / 10) := by rw [← Int.tdiv_eq_ediv_of_nonneg (by omega), Int.neg_tdiv]; omega
    omega
theorem ArW.remT {K : Int → Prop} {k : IntKind} {a : Int} (h : ∀ v, v = a.tmod 10 → K v) : ArW .rem k k a 10 K := by
  refine ⟨a.tmod 10, ?_, h _ rfl⟩
  show (if k = k then (if (10 : Int) = 0 then none else some (Value.int k (a.tmod 10))) else none) = _
  rw [if_pos rfl, if_neg (by decide)]
theorem tdivN {a : Int} {q : Nat} (h : a = -(q : Int)) : a.tdiv 10 = -((q / 10 : Nat) : Int) := by
  subst h
  rw [Int.neg_tdiv, Int.tdiv_eq_ediv_of_nonneg (by omega)]
  omega
theorem tmodN {a : Int} {q : Nat} (h : a = -(q : Int)) : a.tmod 10 = -((q % 10 : Nat) : Int) := by
  subst h
  rw [Int.neg_tmod, Int.tmod_eq_emod_of_nonneg (by omega)]
  omega
theorem tdivP {a : Int} {q : Nat} (h : a = (q : Int)) : a.tdiv 10 = ((q / 10 : Nat) : Int) := by
  subst h
  rw [Int.tdiv_eq_ediv_of_nonneg (by omega)]
  omega
theorem tmodP {a : Int} {q : Nat} (h : a = (q : Int)) : a.tmod 10 = ((q % 10 : Nat) : Int) := by
  subst h
  rw [Int.tmod_eq_emod_of_nonneg (by omega)]
  omega
def rfigures (l : List Int) : ByteArray := tx (l.flatMap fun n => 32 :: Lib.itoa n)
theorem figs_len : ∀ {l : List Int}, (∀ n ∈ l, in64 n) → (l.flatMap fun n => 32 :: Lib.itoa n).length ≤ 21 * l.length
  | [], _ => by simp
  | n :: l, h => by
    have h1 := figs_len (l := l) fun x hx => h x (List.mem_cons_of_mem _ hx)
    have h2 := itoa_len (h n List.mem_cons_self)
    rw [List.flatMap_cons, List.length_append, List.length_cons, List.length_cons]
    omega
theorem rfigures_b {l : List Int} {o : ByteArray} (e : rfigures l = o) (h : ∀ n ∈ l, in64 n) : o.size ≤ 21 * l.length := by
  rw [← e]
  unfold rfigures
  rw [tx_size]
  exact figs_len h
def hex2 (b : UInt8) : List UInt8 := [fig ((b.toNat / 16 : Nat) : Int), fig ((b.toNat % 16 : Nat) : Int)]
def rhexText (t : ByteArray) : ByteArray := tx (t.data.toList.flatMap hex2)
def rHex (t : ByteArray) : ByteArray × Bool := if 20000 < (t.size : Int) then (tx [], false) else (rhexText t, true)
def rhexOrDash (t : ByteArray) : ByteArray := if (rHex t).1 = tx [] then tx [45] else (rHex t).1
theorem hex2_len : ∀ (l : List UInt8), (l.flatMap hex2).length = 2 * l.length
  | [] => rfl
  | b :: l => by rw [List.flatMap_cons, List.length_append, hex2_len l, List.length_cons, show (hex2 b).length = 2 from rfl]; omega
theorem hex2_take {t : ByteArray} {i : Nat} (h : i < t.size) : (t.data.toList.take (i + 1)).flatMap hex2 = (t.data.toList.take i).flatMap hex2 ++ hex2 t[i] := by
  have h' : i < t.data.toList.length := by rw [Array.length_toList]; exact h
  rw [List.take_succ_eq_append_getElem h', List.flatMap_append]
  simp only [List.flatMap_cons, List.flatMap_nil, List.append_nil]
  rfl
theorem figL : ∀ (j : Nat) (h : j < (⟨⟨[48, 49, 50, 51, 52, 53, 54, 55, 56, 57, 97, 98, 99, 100, 101, 102]⟩⟩ : ByteArray).size), (⟨⟨[48, 49, 50, 51, 52, 53, 54, 55, 56, 57, 97, 98, 99, 100, 101, 102]⟩⟩ : ByteArray)[j] = fig (j : Int) := by
  have key : ∀ j : Fin 16, (⟨⟨[48, 49, 50, 51, 52, 53, 54, 55, 56, 57, 97, 98, 99, 100, 101, 102]⟩⟩ : ByteArray)[j.val]'j.isLt = fig (j.val : Int) := by decide
  intro j h
  exact key ⟨j, h⟩
theorem and15b {x : Nat} (h : x < 256) : bitI .and .u8 (x : Int) 15 = ((x % 16 : Nat) : Int) := by
  show IntKind.u8.wrap ((BitVec.ofInt 8 (x : Int) &&& BitVec.ofInt 8 ((15 : Nat) : Int)).toNat : Int) = _
  rw [BitVec.toNat_and, bv_nat (by omega), bv_nat (by omega), u8_wrap, show (15 : Nat) = 2 ^ 4 - 1 from rfl, Nat.and_two_pow_sub_one_eq_mod]
  omega
theorem shr4 {x : Nat} : (x : Int).fdiv (2 ^ min 4 IntKind.u8.bits) = ((x / 16 : Nat) : Int) := by
  show (x : Int).fdiv 16 = _
  rw [Int.fdiv_eq_ediv_of_nonneg _ (by decide)]
  omega
theorem Flstrconv_Itoa {n : Int} {o : ByteArray} (hn : in64 n) (hr : rItoa n = o) : Fn Tryz.prog 61 [I n] [] ⟨S o, [], []⟩ := by
 refine ⟨entered_of Tryz.func61 rfl rfl, CallOk.ofCallsG fun E vs hS hG hA => ?_⟩
 obtain ⟨u, rfl, h1⟩ := args1 hA
 rw [relSc h1]
 have ht := globs_5 hG
 refine (Tryz.strconv_Itoa n hn.1 hn.2 E.w ht).mono ?_
 rintro e w' ⟨rfl, k, os, rfl⟩
 exact ⟨_, rfl, Lib.below_grow _ _ (Nat.le_refl _) k os, by rw [← hr]; exact .sc _ rfl⟩
theorem Fsl01Figure {x : Int} {o : Int}  (hx : 0 ≤ x ∧ x < 16) (hr : rl01Figure x = o)  : Fn Tryz.prog 57 [I x] [] ⟨.d (.sc (.int .u8 o)), [], []⟩ := by
 refine Fn.go su_ch01d Tryz.func57 fun P hP Q hQ => ?_
 conv => cbv
 refine .lss (fun h1 => ?_) fun h1 => ?_
 conv => cbv
 refine .add fun v2 hv2 => ?_
 conv => cbv
 refine .go fun v3 hv3 => ?_
 conv => cbv
 have e : v3 = rl01Figure x := (by rw [hv3, u8_wrap, hv2]; unfold rl01Figure; rw [if_pos (by omega)])
 rw [hr] at e
 subst e
 exact hQ _ _ (.i rfl rfl)
 conv => cbv
 refine .add fun v2 hv2 => ?_
 conv => cbv
 refine .sub fun v3 hv3 => ?_
 conv => cbv
 refine .go fun v4 hv4 => ?_
 conv => cbv
 have e : v4 = rl01Figure x := (by rw [hv4, u8_wrap, hv3, hv2]; unfold rl01Figure; rw [if_neg (by omega)])
 rw [hr] at e
 subst e
 exact hQ _ _ (.i rfl rfl)
theorem FiDecimal {n : Int} {o : ByteArray}  (hn : in64 n) (hr : rDecimal n = o)  : Fn Tryz.prog 44 [I n] [] ⟨S o, [], []⟩ := by
 refine Fn.go su_ch01d Tryz.func44 fun P hP Q hQ => ?_
 conv => cbv
 generalize hr1 : rItoa n = r1
 refine .dd hP (Flstrconv_Itoa hn hr1) ?_
 conv => cbv
 have e : r1 = rDecimal n := (by exact hr1.symm)
 rw [hr] at e
 subst e
 exact hQ _ _ (.s rfl rfl)
theorem FsDecimal {n : Int} {o : ByteArray}  (hn : in64 n) (hr : rDecimal n = o)  : Fn Tryz.prog 35 [I n] [] ⟨S o, [], []⟩ := by
 refine Fn.go su_ch01d Tryz.func35 fun P hP Q hQ => ?_
 conv => cbv
 refine .eql (fun h1 => ?_) fun h1 => ?_
 conv => cbv
 have e : (tx [48]) = rDecimal n := (by unfold rDecimal; rw [h1, show Lib.itoa 0 = [48] by unfold Lib.itoa; rw [if_neg (by decide), Lib.decDigits]; rfl])
 rw [hr] at e
 subst e
 exact hQ _ _ (.s rfl rfl)
 conv => cbv
 refine .lss (fun h2 => ?_) fun h2 => ?_
 conv => cbv
 refine LoopW.lp (κ := Int × ByteArray) su_ch01d hP [] [3] (fun (i0, s4) => [(0, I i0), (4, S s4)]) (fun (i0, s4) => [])
   (fun (i0, s4) => ∃ (q : Nat) (w : List UInt8), s4 = tx w ∧ decL n.natAbs = decL q ++ w ∧ q ≤ n.natAbs ∧ (n < 0 → i0 = -(q : Int)) ∧ (0 ≤ n → i0 = (q : Int)))
   (fun (i0, s4) => i0.natAbs) (n, tx []) ⟨n.natAbs, [], rfl, by simp, by omega, by omega, by omega⟩ ⟨rfl, rfl, trivial⟩ rfl ?_
 rintro ⟨i0, s4⟩ J ⟨q, w, hs4, hw, hq, hiN, hiP⟩ hJ
 have hwl := congrArg List.length hw
 rw [List.length_append] at hwl
 have hdl := decL_len (u := n.natAbs) (by unfold in64 at hn; omega)
 have zs4 : s4.size = w.length := by rw [hs4, tx_size]
 have et : (n < 0 → i0.tdiv 10 = -((q / 10 : Nat) : Int)) ∧ (0 ≤ n → i0.tdiv 10 = ((q / 10 : Nat) : Int)) := ⟨fun h => tdivN (hiN h), fun h => tdivP (hiP h)⟩
 have em : (n < 0 → i0.tmod 10 = -((q % 10 : Nat) : Int)) ∧ (0 ≤ n → i0.tmod 10 = ((q % 10 : Nat) : Int)) := ⟨fun h => tmodN (hiN h), fun h => tmodP (hiP h)⟩
 have hn_ := hn
 unfold in64 at hn_
 conv => cbv
 refine .neq (fun h3 => ?_) fun h3 => ?_
 conv => cbv
 refine .remT fun v4 hv4 => ?_
 conv => cbv
 refine .lss (fun h5 => ?_) fun h5 => ?_
 conv => cbv
 refine .go fun v6 hv6 => ?_
 conv => cbv
 generalize hr7 : rl01Figure v6 = r7
 refine .dd hP (Fsl01Figure (by omega) hr7) ?_
 conv => cbv
 refine .go (l := [fig ((q % 10 : Nat) : Int)]) (by show [cB (fig _)] = _; rw [show ((q % 10 : Nat) : Int) = v6 by omega, ← cB_fig hr7 (by omega)]) (hn := rfl) fun s8 hs8 => ?_
 conv => cbv
 have zs8 : s8.size = 1 := by rw [hs8]; rfl
 refine .go fun s9 hs9 zs9 => ?_
 conv => cbv
 refine .quoT fun v10 hv10 => ?_
 conv => cbv
 exact .go [] (v10, s9) (hJ _ ⟨q / 10, fig ((q % 10 : Nat) : Int) :: w, by first | (rw [hs9, hs8, hs4, tx_append]; rfl) | (rw [hs8, hs7, hs4, tx_append]; rfl), by rw [hw, decL_next (show q ≠ 0 by omega), List.append_assoc]; rfl, by omega, by omega, by omega⟩ (by first | (dsimp only; omega) | omega))
 conv => cbv
 generalize hr6 : rl01Figure v4 = r6
 refine .dd hP (Fsl01Figure (by omega) hr6) ?_
 conv => cbv
 refine .go (l := [fig ((q % 10 : Nat) : Int)]) (by show [cB (fig _)] = _; rw [show ((q % 10 : Nat) : Int) = v4 by omega, ← cB_fig hr6 (by omega)]) (hn := rfl) fun s7 hs7 => ?_
 conv => cbv
 have zs7 : s7.size = 1 := by rw [hs7]; rfl
 refine .go fun s8 hs8 zs8 => ?_
 conv => cbv
 refine .quoT fun v9 hv9 => ?_
 conv => cbv
 exact .go [] (v9, s8) (hJ _ ⟨q / 10, fig ((q % 10 : Nat) : Int) :: w, by first | (rw [hs9, hs8, hs4, tx_append]; rfl) | (rw [hs8, hs7, hs4, tx_append]; rfl), by rw [hw, decL_next (show q ≠ 0 by omega), List.append_assoc]; rfl, by omega, by omega, by omega⟩ (by first | (dsimp only; omega) | omega))
 conv => cbv
 refine .litL 1 fun s4 hs4 zs4 => ?_
 conv => cbv
 have e : s4 = rDecimal n := (by unfold rDecimal; rw [itoa_eq n h1, if_pos h2, hw, show q = 0 by omega, hs4]; rename_i hs4_ _ ; rw [hs4_]; show tx [45] ++ tx _ = _; rw [tx_append]; rfl)
 rw [hr] at e
 subst e
 exact hQ _ _ (.s rfl rfl)
 conv => cbv
 refine LoopW.lp (κ := Int × ByteArray) su_ch01d hP [] [3] (fun (i0, s4) => [(0, I i0), (4, S s4)]) (fun (i0, s4) => [])
   (fun (i0, s4) => ∃ (q : Nat) (w : List UInt8), s4 = tx w ∧ decL n.natAbs = decL q ++ w ∧ q ≤ n.natAbs ∧ (n < 0 → i0 = -(q : Int)) ∧ (0 ≤ n → i0 = (q : Int)))
   (fun (i0, s4) => i0.natAbs) (n, tx []) ⟨n.natAbs, [], rfl, by simp, by omega, by omega, by omega⟩ ⟨rfl, rfl, trivial⟩ rfl ?_
 rintro ⟨i0, s4⟩ J ⟨q, w, hs4, hw, hq, hiN, hiP⟩ hJ
 have hwl := congrArg List.length hw
 rw [List.length_append] at hwl
 have hdl := decL_len (u := n.natAbs) (by unfold in64 at hn; omega)
 have zs4 : s4.size = w.length := by rw [hs4, tx_size]
 have et : (n < 0 → i0.tdiv 10 = -((q / 10 : Nat) : Int)) ∧ (0 ≤ n → i0.tdiv 10 = ((q / 10 : Nat) : Int)) := ⟨fun h => tdivN (hiN h), fun h => tdivP (hiP h)⟩
 have em : (n < 0 → i0.tmod 10 = -((q % 10 : Nat) : Int)) ∧ (0 ≤ n → i0.tmod 10 = ((q % 10 : Nat) : Int)) := ⟨fun h => tmodN (hiN h), fun h => tmodP (hiP h)⟩
 have hn_ := hn
 unfold in64 at hn_
 conv => cbv
 refine .neq (fun h3 => ?_) fun h3 => ?_
 conv => cbv
 refine .remT fun v4 hv4 => ?_
 conv => cbv
 refine .lss (fun h5 => ?_) fun h5 => ?_
 conv => cbv
 refine .go fun v6 hv6 => ?_
 conv => cbv
 generalize hr7 : rl01Figure v6 = r7
 refine .dd hP (Fsl01Figure (by omega) hr7) ?_
 conv => cbv
 refine .go (l := [fig ((q % 10 : Nat) : Int)]) (by show [cB (fig _)] = _; rw [show ((q % 10 : Nat) : Int) = v6 by omega, ← cB_fig hr7 (by omega)]) (hn := rfl) fun s8 hs8 => ?_
 conv => cbv
 have zs8 : s8.size = 1 := by rw [hs8]; rfl
 refine .go fun s9 hs9 zs9 => ?_
 conv => cbv
 refine .quoT fun v10 hv10 => ?_
 conv => cbv
 exact .go [] (v10, s9) (hJ _ ⟨q / 10, fig ((q % 10 : Nat) : Int) :: w, by first | (rw [hs9, hs8, hs4, tx_append]; rfl) | (rw [hs8, hs7, hs4, tx_append]; rfl), by rw [hw, decL_next (show q ≠ 0 by omega), List.append_assoc]; rfl, by omega, by omega, by omega⟩ (by first | (dsimp only; omega) | omega))
 conv => cbv
 generalize hr6 : rl01Figure v4 = r6
 refine .dd hP (Fsl01Figure (by omega) hr6) ?_
 conv => cbv
 refine .go (l := [fig ((q % 10 : Nat) : Int)]) (by show [cB (fig _)] = _; rw [show ((q % 10 : Nat) : Int) = v4 by omega, ← cB_fig hr6 (by omega)]) (hn := rfl) fun s7 hs7 => ?_
 conv => cbv
 have zs7 : s7.size = 1 := by rw [hs7]; rfl
 refine .go fun s8 hs8 zs8 => ?_
 conv => cbv
 refine .quoT fun v9 hv9 => ?_
 conv => cbv
 exact .go [] (v9, s8) (hJ _ ⟨q / 10, fig ((q % 10 : Nat) : Int) :: w, by first | (rw [hs9, hs8, hs4, tx_append]; rfl) | (rw [hs8, hs7, hs4, tx_append]; rfl), by rw [hw, decL_next (show q ≠ 0 by omega), List.append_assoc]; rfl, by omega, by omega, by omega⟩ (by first | (dsimp only; omega) | omega))
 conv => cbv
 have e : s4 = rDecimal n := (by unfold rDecimal; rw [itoa_eq n h1, if_neg (by omega), hw, show q = 0 by omega, hs4]; rfl)
 rw [hr] at e
 subst e
 exact hQ _ _ (.s rfl rfl)
theorem Fifigures {l : List Int} {xl : List (List D)} {o : ByteArray} (hl : l.map cI = xl) (hl_ : (∀ n ∈ l, in64 n) ∧ l.length ≤ 100) (hr : rfigures l = o)  : Fn Tryz.prog 22 [.d (.row 1 xl)] [] ⟨S o, [], []⟩ := by
 refine Fn.go su_ch01d Tryz.func22 fun P hP Q hQ => ?_
 conv => cbv
 refine .go hl fun v1 hv1 => ?_
 conv => cbv
 refine LoopW.lp (κ := ByteArray × Int) su_ch01d hP [] [6, 7] (fun (s3, i8) => [(3, S s3), (8, I i8)]) (fun (s3, i8) => [])
   (fun (s3, i8) => 0 ≤ i8 ∧ i8 ≤ l.length ∧ s3 = tx ((l.take i8.toNat).flatMap fun n => 32 :: Lib.itoa n))
   (fun (s3, i8) => l.length - i8.toNat) (tx [], 0) ⟨by omega, by omega, rfl⟩ ⟨rfl, rfl, trivial⟩ rfl ?_
 rintro ⟨s3, i8⟩ J ⟨h0, hle, hs⟩ hJ
 have zl := figs_len (l := l.take i8.toNat) fun x hx => hl_.1 x (List.mem_of_mem_take hx)
 rw [List.length_take] at zl
 have zs3 : s3.size = (List.flatMap (fun n => 32 :: Lib.itoa n) (List.take i8.toNat l)).length := by rw [hs, tx_size]
 conv => cbv
 refine .lss (fun h2 => ?_) fun h2 => ?_
 conv => cbv
 refine .go i8.toNat hl fun hje3 e3 qe3 => ?_
 conv => cbv
 have hn := hl_.1 e3 (qe3 ▸ List.getElem_mem hje3)
 generalize hr4 : rDecimal e3 = r4
 refine .dd hP (FiDecimal hn hr4) ?_
 conv => cbv
 have hb4 := rDecimal_b hr4 hn
 refine .litL 1 fun s5 hs5 zs5 => ?_
 conv => cbv
 refine .go fun s6 hs6 zs6 => ?_
 conv => cbv
 refine .add fun v7 hv7 => ?_
 conv => cbv
 exact .go [] (s6, v7) (hJ _ ⟨by omega, by omega, by rw [hs6, hs5, hs, ← hr4, show v7.toNat = i8.toNat + 1 by omega, List.take_succ_eq_append_getElem hje3, List.flatMap_append, ← qe3]; unfold rDecimal; show tx _ ++ (tx [32] ++ tx _) = _; rw [tx_append, tx_append]; simp⟩ (by first | (dsimp only; omega) | omega))
 conv => cbv
 have e : s3 = rfigures l := (by rw [hs, List.take_of_length_le (by omega)]; rfl)
 rw [hr] at e
 subst e
 exact hQ _ _ (.s rfl rfl)
theorem FsHex {t : ByteArray} {oa : ByteArray} {ob : Bool}  (hr : rHex t = (oa, ob))  : Fn Tryz.prog 34 [S t] [] ⟨.tup [S oa, B ob], [], []⟩ := by
 refine Fn.go su_ch01d Tryz.func34 fun P hP Q hQ => ?_
 conv => cbv
 refine .go fun v1 hv1 => ?_
 conv => cbv
 refine .gtr (fun h2 => ?_) fun h2 => ?_
 conv => cbv
 have e : ((tx []), false) = rHex t := (by unfold rHex; rw [if_pos (by omega)])
 rw [hr] at e
 simp only [Prod.mk.injEq] at e
 obtain ⟨rfl, rfl⟩ := e
 refine hQ _ _ ?_
 exact .many (.inl rfl) rfl rfl (.d rfl rfl (.d rfl rfl (.nil)))
 conv => cbv
 refine LoopW.lp (κ := Int × (List (List D)) × Nat) su_ch01d hP [0] [0] (fun (i5, zw1, nw1) => [(4, .ref 1 0 nw1), (5, I i5)]) (fun (i5, zw1, nw1) => [(1, .row 1 false zw1)])
   (fun (i5, zw1, nw1) => ∃ (w1 : List UInt8), w1.map cB = zw1 ∧ nw1 = w1.length ∧ 0 ≤ i5 ∧ i5 ≤ t.size ∧ w1 = (t.data.toList.take i5.toNat).flatMap hex2 ∧ w1.length = 2 * i5.toNat)
   (fun (i5, zw1, nw1) => t.size - i5.toNat) (0, [], 0) ⟨[], rfl, rfl, by omega, by omega, rfl, rfl⟩ ⟨rfl, rfl, trivial⟩ rfl ?_
 rintro ⟨i5, zw1, nw1⟩ J ⟨w1, hw1, hnw1, h0, hle, hw, hwl⟩ hJ
 conv => cbv
 refine .go fun v3 hv3 => ?_
 conv => cbv
 refine .lss (fun h4 => ?_) fun h4 => ?_
 conv => cbv
 refine .go i5.toNat fun hjv5 v5 hv5 bv5 => ?_
 conv => cbv
 refine .id fun v6 hv6 => ?_
 conv => cbv
 refine .quo fun v7 hv7 => ?_
 conv => cbv
 generalize hr8 : rl01Figure v7 = r8
 refine .dd hP (Fsl01Figure (by omega) hr8) ?_
 conv => cbv
 refine .go i5.toNat fun hjv9 v9 hv9 bv9 => ?_
 conv => cbv
 refine .id fun v10 hv10 => ?_
 conv => cbv
 refine .rem fun v11 hv11 => ?_
 conv => cbv
 generalize hr12 : rl01Figure v11 = r12
 refine .dd hP (Fsl01Figure (by omega) hr12) ?_
 conv => cbv
 have e7 : v7 = ((t[i5.toNat].toNat / 16 : Nat) : Int) := by rw [hv7, hv6, hv5]; omega
 have e11 : v11 = ((t[i5.toNat].toNat % 16 : Nat) : Int) := by rw [hv11, hv10, hv9]; omega
 have hm : [fig ((t[i5.toNat].toNat / 16 : Nat) : Int), fig ((t[i5.toNat].toNat % 16 : Nat) : Int)].map cB = [[D.sc (.int .u8 r8)], [D.sc (.int .u8 r12)]] := by
   rw [cB_fig hr8 (by omega), cB_fig hr12 (by omega), e7, e11]; rfl
 refine .sub hw1 hm (hn := rfl) fun nz13 z13 hnz13 hz13 => ?_
 conv => cbv
 refine .add fun v14 hv14 => ?_
 conv => cbv
 exact .go [3] (v14, z13, nz13) (hJ _ ⟨_, hz13, (by first | omega | (simp; omega) | (simp only [List.length_append, List.length_cons, List.length_nil] at *; omega)), by omega, by omega, by rw [hw, show v14.toNat = i5.toNat + 1 by omega, hex2_take hjv5]; rfl, by rw [List.length_append, hwl]; simp; omega⟩ (by first | (dsimp only; omega) | omega))
 conv => cbv
 refine .go hw1 fun s5 hs5 => ?_
 conv => cbv
 have e : (s5, true) = rHex t := (by unfold rHex rhexText; rw [if_neg (by omega), hs5, hw, List.take_of_length_le (by rw [Array.length_toList]; show t.size ≤ _; omega)])
 rw [hr] at e
 simp only [Prod.mk.injEq] at e
 obtain ⟨rfl, rfl⟩ := e
 refine hQ _ _ ?_
 exact .many (.inl rfl) rfl rfl (.d rfl rfl (.d rfl rfl (.nil)))
theorem FihexText {t : ByteArray} {o : ByteArray}  (ht : t.size ≤ 20000) (hr : rhexText t = o)  : Fn Tryz.prog 60 [S t] [] ⟨S o, [], []⟩ := by
 refine Fn.go su_ch01d Tryz.func60 fun P hP Q hQ => ?_
 conv => cbv
 refine .go fun v1 hv1 => ?_
 conv => cbv
 refine .mul fun v2 hv2 => ?_
 conv => cbv
 refine .cap (c := cB) fun z3 nz3 hnz3 hz3 => ?_
 conv => cbv
 refine .go fun v4 hv4 => ?_
 conv => cbv
 refine LoopW.lp (κ := Int × (List (List D)) × Nat) su_ch01d hP [0] [0, 10] (fun (i11, zw1, nw1) => [(3, .ref 1 0 nw1), (11, I i11)]) (fun (i11, zw1, nw1) => [(1, .row 1 false zw1)])
   (fun (i11, zw1, nw1) => ∃ (w1 : List UInt8), w1.map cB = zw1 ∧ nw1 = w1.length ∧ 0 ≤ i11 ∧ i11 ≤ t.size ∧ w1 = (t.data.toList.take i11.toNat).flatMap hex2 ∧ w1.length = 2 * i11.toNat)
   (fun (i11, zw1, nw1) => t.size - i11.toNat) (0, z3, nz3) ⟨[], hz3, (by first | omega | (simp; omega)), by omega, by omega, rfl, rfl⟩ ⟨rfl, rfl, trivial⟩ rfl ?_
 rintro ⟨i11, zw1, nw1⟩ J ⟨w1, hw1, hnw1, h0, hle, hw, hwl⟩ hJ
 have hsz : (⟨⟨[48, 49, 50, 51, 52, 53, 54, 55, 56, 57, 97, 98, 99, 100, 101, 102]⟩⟩ : ByteArray).size = 16 := rfl
 conv => cbv
 refine .lss (fun h5 => ?_) fun h5 => ?_
 conv => cbv
 refine .go i11.toNat fun hjv6 v6 hv6 bv6 => ?_
 conv => cbv
 refine .shrW fun v7 hv7 => ?_
 conv => cbv
 have hb := t[i11.toNat].toNat_lt
 have e7 : v7 = ((t[i11.toNat].toNat / 16 : Nat) : Int) := by rw [hv7, hv6]; exact shr4
 refine .go v7.toNat fun hjv8 v8 hv8 bv8 => ?_
 conv => cbv
 refine .go i11.toNat fun hjv9 v9 hv9 bv9 => ?_
 conv => cbv
 refine .and fun v10 hv10 => ?_
 conv => cbv
 have e10 : v10 = ((t[i11.toNat].toNat % 16 : Nat) : Int) := by rw [hv10, hv9]; exact and15b hb
 refine .go v10.toNat fun hjv11 v11 hv11 bv11 => ?_
 conv => cbv
 have e8 : v8 = rl01Figure ((t[i11.toNat].toNat / 16 : Nat) : Int) := by rw [hv8, figL, fig_toNat (by omega), show (v7.toNat : Int) = v7 by omega, e7]
 have e11 : v11 = rl01Figure ((t[i11.toNat].toNat % 16 : Nat) : Int) := by rw [hv11, figL, fig_toNat (by omega), show (v10.toNat : Int) = v10 by omega, e10]
 have hm : [fig ((t[i11.toNat].toNat / 16 : Nat) : Int), fig ((t[i11.toNat].toNat % 16 : Nat) : Int)].map cB = [[D.sc (.int .u8 v8)], [D.sc (.int .u8 v11)]] := by
   rw [cB_fig e8.symm (by omega), cB_fig e11.symm (by omega)]; rfl
 refine .sub hw1 hm (hn := rfl) fun nz12 z12 hnz12 hz12 => ?_
 conv => cbv
 refine .add fun v13 hv13 => ?_
 conv => cbv
 exact .go [3] (v13, z12, nz12) (hJ _ ⟨_, hz12, (by first | omega | (simp; omega) | (simp only [List.length_append, List.length_cons, List.length_nil] at *; omega)), by omega, by omega, by rw [hw, show v13.toNat = i11.toNat + 1 by omega, hex2_take hjv6]; rfl, by rw [List.length_append, hwl]; simp; omega⟩ (by first | (dsimp only; omega) | omega))
 conv => cbv
 refine .go hw1 fun s6 hs6 => ?_
 conv => cbv
 have e : s6 = rhexText t := (by unfold rhexText; rw [hs6, hw, List.take_of_length_le (by rw [Array.length_toList]; show t.size ≤ _; omega)])
 rw [hr] at e
 subst e
 exact hQ _ _ (.s rfl rfl)
theorem FiHex {t : ByteArray} {oa : ByteArray} {ob : Bool}  (hr : rHex t = (oa, ob))  : Fn Tryz.prog 43 [S t] [] ⟨.tup [S oa, B ob], [], []⟩ := by
 refine Fn.go su_ch01d Tryz.func43 fun P hP Q hQ => ?_
 conv => cbv
 refine .go fun v1 hv1 => ?_
 conv => cbv
 refine .gtr (fun h2 => ?_) fun h2 => ?_
 conv => cbv
 have e : ((tx []), false) = rHex t := (by unfold rHex; rw [if_pos (by omega)])
 rw [hr] at e
 simp only [Prod.mk.injEq] at e
 obtain ⟨rfl, rfl⟩ := e
 refine hQ _ _ ?_
 exact .many (.inl rfl) rfl rfl (.d rfl rfl (.d rfl rfl (.nil)))
 conv => cbv
 generalize hr3 : rhexText t = r3
 refine .dd hP (FihexText (by omega) hr3) ?_
 conv => cbv
 have e : (r3, true) = rHex t := (by unfold rHex; rw [if_neg (by omega), ← hr3])
 rw [hr] at e
 simp only [Prod.mk.injEq] at e
 obtain ⟨rfl, rfl⟩ := e
 refine hQ _ _ ?_
 exact .many (.inl rfl) rfl rfl (.d rfl rfl (.d rfl rfl (.nil)))
theorem FihexOrDash {t : ByteArray} {o : ByteArray}  (hr : rhexOrDash t = o)  : Fn Tryz.prog 21 [S t] [] ⟨S o, [], []⟩ := by
 refine Fn.go su_ch01d Tryz.func21 fun P hP Q hQ => ?_
 conv => cbv
 rcases hr1 : rHex t with ⟨r1a, r1b⟩
 refine .dd hP (FiHex hr1) ?_
 conv => cbv
 refine .eql (fun h2 => ?_) fun h2 => ?_
 conv => cbv
 have e : (tx [45]) = rhexOrDash t := (by unfold rhexOrDash; rw [hr1]; exact (if_pos h2).symm)
 rw [hr] at e
 subst e
 exact hQ _ _ (.s rfl rfl)
 conv => cbv
 have e : r1a = rhexOrDash t := (by unfold rhexOrDash; rw [hr1]; exact (if_neg h2).symm)
 rw [hr] at e
 subst e
 exact hQ _ _ (.s rfl rfl)
end Go.Proofs.YtmkpihcfglinjaaGreatDoor.Ab
