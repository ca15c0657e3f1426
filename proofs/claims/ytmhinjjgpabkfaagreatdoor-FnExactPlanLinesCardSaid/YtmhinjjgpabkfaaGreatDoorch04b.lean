/- What functions of the program come to, for all arguments in the given bounds. -/
import Derived.Test.YtmhinjjgpabkfaaGreatDoorch04
import Derived.Test.YtmhinjjgpabkfaaGreatDoorSh
import Derived.Below
import Derived.ProofKit
import Derived.Test.YtmhinjjgpabkfaaGreatDoorZ11
set_option linter.unusedVariables false
set_option linter.unusedSimpArgs false
namespace Go.Proofs.YtmhinjjgpabkfaaGreatDoor.Ab
open Go Go.Proofs
set_option maxRecDepth 20000
set_option maxHeartbeats 4000000
set_option linter.unusedSimpArgs false
set_option linter.unusedVariables false
def tab_ch04b : List (Nat × TyRow) := [
  (3, ⟨.int .i64, some 1, some false, none, false, [.int .i64], [], some [(.int .i64 0, 0)], none, none, none⟩),
  (5, ⟨.int .u8, some 1, some false, none, false, [.int .u8], [], some [(.int .u8 0, 0)], none, none, none⟩),
  (9, ⟨.str, some 1, some false, none, false, [.str], [], some [(.string default, 0)], none, none, none⟩),
  (24, ⟨.sl 1, some 1, some false, some (1, 8), false, [.sl 1], [], some [(.slice none 0 0, 1)], some ([.sc (.int .i64 0)], 1, 8), none, none⟩)]
theorem tab_ch04b_ok : TabOk Tryz.prog tab_ch04b := TabOk.of (by kernel_rfl)
theorem su_ch04b : Setup Tryz.prog tab_ch04b := ⟨tab_ch04b_ok, mixed⟩
open Go.RowKit
theorem CallOk.callsV {P : Program} {f : FuncId} {as0 : List AV} {val : Value} (h : CallOk P f as0 [] ⟨.d (.sc val), [], []⟩) {w : World} (hG : Globs.ok w fun b => b < w.heap.size) {vs : Array Value}
    (hA : Args (callEnv w (fun b => b < w.heap.size) (fun _ => none) [] []) as0 vs) : Calls P f vs w fun e w' => e = .returned val ∧ Below w.heap.size w w' := by
  have hM : Mem (callCtx w (fun b => b < w.heap.size) (fun _ => none) []) (callEnv w (fun b => b < w.heap.size) (fun _ => none) [] []) := {
    os := rfl
    output := rfl
    tape := rfl
    size := Nat.le_refl _
    keep := fun _ _ _ => rfl
    shape := fun _ _ h => h
    s0 := fun _ h => h
    slt := fun _ h => h
    glob := hG
    snew := fun _ h => .inl h
    blt := fun r b h => absurd h (Nat.not_lt_zero r)
    bown := fun r R b h => absurd h (Nat.not_lt_zero r)
    bkeep := fun r R h => absurd h (Nat.not_lt_zero r)
    inj := fun r r' R R' b h => absurd h (Nat.not_lt_zero r)
    roots := fun r R h => absurd h (Nat.not_lt_zero r) }
  refine (h _ _ _ _ hM hA).mono ?_
  rintro e w' ⟨v, E', rfl, rfl, o⟩
  refine ⟨?_, ⟨o.mem.os, o.mem.tape, o.mem.output, o.mem.size, fun b hb => o.mem.keep b hb (fun hn => ?_)⟩⟩
  · have := o.rel
    have h2 := relSc this
    rw [h2]
  · obtain ⟨r, R, h1, -⟩ := hn
    simp at h1
theorem globs_below {w w' : World} (hG : Globs.ok w fun b => b < w.heap.size) (hb : Below w.heap.size w w') : Globs.ok w' fun b => b < w'.heap.size :=
  Globs.step (fun b h => Nat.lt_of_lt_of_le h hb.size) (fun b h => hb.block b h) hG
theorem seg_calls {w : World} (hG : Globs.ok w fun b => b < w.heap.size) (n : Int) : Calls Tryz.prog 126 #[.int .i64 n] w fun e w' => e = .returned (.string (rSegmentName n)) ∧ Below w.heap.size w w' := by
  refine (FiSegmentName (n := n) rfl).ok.callsV hG ⟨rfl, ?_⟩
  intro j y hy
  match j, hy with
  | 0, hy => cases hy; exact .d _ _ (.sc _ rfl)
def rTempName (n : Int) : ByteArray := if 0 ≤ n ∧ n ≤ 1000000000 then rSegmentName n ++ tx [46, 116, 109, 112] else tx []
theorem rTempName_b {n : Int} {o : ByteArray} (e : rTempName n = o) : o.size ≤ 17 := by
  rw [← e]
  unfold rTempName
  split
  · rw [ByteArray.size_append]
    have := rSegmentName_b (n := n) rfl
    have : (tx [46, 116, 109, 112]).size = 4 := rfl
    omega
  · simp [tx_size]
def hexVal (c : UInt8) : Nat := if 48 ≤ c.toNat ∧ c.toNat ≤ 57 then c.toNat - 48 else if 97 ≤ c.toNat ∧ c.toNat ≤ 102 then c.toNat - 87 else 16
def hexNum : Nat → List UInt8 → Option Nat
  | acc, [] => some acc
  | acc, c :: l => if hexVal c < 16 then hexNum (16 * acc + hexVal c) l else none
theorem hexNum_snoc : ∀ (l : List UInt8) (acc : Nat) (c : UInt8), hexNum acc (l ++ [c]) = (hexNum acc l).bind fun a => if hexVal c < 16 then some (16 * a + hexVal c) else none
  | [], acc, c => by
    show (if hexVal c < 16 then hexNum _ [] else none) = _
    rfl
  | b :: l, acc, c => by
    rw [List.cons_append, hexNum, hexNum]
    split
    · exact hexNum_snoc l _ c
    · rfl
theorem hexNum_none : ∀ (l m : List UInt8) (acc : Nat), hexNum acc l = none → hexNum acc (l ++ m) = none
  | [], m, acc, h => by cases h
  | b :: l, m, acc, h => by
    rw [hexNum] at h
    rw [List.cons_append, hexNum]
    split
    · rename_i hb; rw [if_pos hb] at h; exact hexNum_none l m _ h
    · rfl
theorem hexVal_dig (n : Nat) : hexVal (dig n) = n % 16 := by
  have key : ∀ i : Fin 16, hexVal (dig i.val) = i.val := by decide
  have := key ⟨n % 16, Nat.mod_lt _ (by omega)⟩
  rw [dig_mod] at this
  exact this
theorem hexNum_pad : ∀ (k n : Nat), n < 16 ^ k → hexNum 0 (padN k n) = some n
  | 0, n, h => by
    have : n = 0 := by simpa using h
    subst this; rfl
  | k + 1, n, h => by
    rw [padN, hexNum_snoc, hexNum_pad k (n / 16) (by rw [Nat.pow_succ] at h; omega), Option.bind_some, hexVal_dig, if_pos (Nat.mod_lt _ (by omega))]
    congr 1
    omega
def mid (name : ByteArray) : List UInt8 := (name.data.toList.drop 1).take 8
def rReadName (name : ByteArray) : Int × Int :=
  match hexNum 0 (mid name) with
  | some n => if name.size = 13 ∧ rSegmentName (n : Int) = name then (1, (n : Int)) else if name.size = 17 ∧ rTempName (n : Int) = name then (2, (n : Int)) else (0, 0)
  | none => (0, 0)
theorem seg_tx {n : Int} (h : 0 ≤ n ∧ n ≤ 1000000000) : rSegmentName n = tx (115 :: (padN 8 n.toNat ++ [46, 115, 101, 103])) := if_pos h
theorem seg13 {n : Int} (h : 0 ≤ n ∧ n ≤ 1000000000) : (rSegmentName n).size = 13 := by
  rw [seg_tx h, tx_size, List.length_cons, List.length_append, padN_len]; rfl
theorem temp17 {n : Int} (h : 0 ≤ n ∧ n ≤ 1000000000) : (rTempName n).size = 17 := by
  unfold rTempName
  rw [if_pos h, ByteArray.size_append, seg13 h]; rfl
theorem mid_of {n : Int} {l : List UInt8} : mid (tx (115 :: (padN 8 n.toNat ++ l))) = padN 8 n.toNat := by
  unfold mid tx
  show ((115 :: (padN 8 n.toNat ++ l)).drop 1).take 8 = _
  rw [List.drop_succ_cons, List.drop_zero, List.take_left' (padN_len 8 n.toNat)]
theorem hex_of {n : Int} {l : List UInt8} (h : 0 ≤ n ∧ n ≤ 1000000000) : hexNum 0 (mid (tx (115 :: (padN 8 n.toNat ++ l)))) = some n.toNat := by
  rw [mid_of, hexNum_pad 8 n.toNat (by omega)]
theorem read_seg {n : Int} (h : 0 ≤ n ∧ n ≤ 1000000000) : rReadName (rSegmentName n) = (1, n) := by
  have hh : hexNum 0 (mid (rSegmentName n)) = some n.toNat := by rw [seg_tx h]; exact hex_of h
  unfold rReadName
  rw [hh]
  dsimp only
  rw [Int.toNat_of_nonneg h.1, if_pos ⟨seg13 h, rfl⟩]
theorem read_temp {n : Int} (h : 0 ≤ n ∧ n ≤ 1000000000) : rReadName (rTempName n) = (2, n) := by
  have hh : hexNum 0 (mid (rTempName n)) = some n.toNat := by
    unfold rTempName
    rw [if_pos h, seg_tx h, tx_append, List.cons_append, List.append_assoc]; exact hex_of h
  unfold rReadName
  rw [hh]
  dsimp only
  rw [Int.toNat_of_nonneg h.1, if_neg (by rw [temp17 h]; simp), if_pos ⟨temp17 h, rfl⟩]
theorem seg_num {n : Int} {name : ByteArray} (e : rSegmentName n = name) (h : name.size ≠ 0) : 0 ≤ n ∧ n ≤ 1000000000 := by
  rcases Decidable.em (0 ≤ n ∧ n ≤ 1000000000) with h1 | h1
  · exact h1
  · exfalso; apply h; rw [← e]; unfold rSegmentName; rw [if_neg h1]; rfl
theorem temp_num {n : Int} {name : ByteArray} (e : rTempName n = name) (h : name.size ≠ 0) : 0 ≤ n ∧ n ≤ 1000000000 := by
  rcases Decidable.em (0 ≤ n ∧ n ≤ 1000000000) with h1 | h1
  · exact h1
  · exfalso; apply h; rw [← e]; unfold rTempName; rw [if_neg h1]; rfl
theorem read_other {name : ByteArray} (h : ∀ n, hexNum 0 (mid name) = some n → rSegmentName (n : Int) ≠ name ∧ rTempName (n : Int) ≠ name) : rReadName name = (0, 0) := by
  unfold rReadName
  split
  · rename_i n hn
    rw [if_neg (fun hh => (h n hn).1 hh.2), if_neg (fun hh => (h n hn).2 hh.2)]
  · rfl
theorem read_size {name : ByteArray} (h : ¬ (13 ≤ name.size ∧ name.size ≤ 17)) : rReadName name = (0, 0) := by
  unfold rReadName
  split
  · rw [if_neg (fun hh => h (by omega)), if_neg (fun hh => h (by omega))]
  · rfl
theorem read_none {name : ByteArray} (h : hexNum 0 (mid name) = none) : rReadName name = (0, 0) := by
  unfold rReadName
  rw [h]
theorem hexVal_U {c : UInt8} (h : hexVal c < 16) : hexValU c = hexVal c := by
  have key : ∀ i : Fin 256, hexVal (UInt8.ofNat i.val) < 16 → hexValU (UInt8.ofNat i.val) = hexVal (UInt8.ofNat i.val) := by decide +kernel
  have e : UInt8.ofNat c.toNat = c := by simp
  have := key ⟨c.toNat, c.toNat_lt⟩
  rw [e] at this
  exact this h
theorem hexNum_U : ∀ (l : List UInt8) (acc n : Nat), hexNum acc l = some n → hexNumU acc l = some n
  | [], acc, n, h => h
  | c :: l, acc, n, h => by
    rw [hexNum] at h
    split at h
    · rename_i hc
      rw [hexNumU, hexVal_U hc, if_pos hc]
      exact hexNum_U l _ n h
    · cases h
theorem hexNumU_lt : ∀ (l : List UInt8) (acc n : Nat), hexNumU acc l = some n → n < (acc + 1) * 16 ^ l.length
  | [], acc, n, h => by cases h; simp
  | c :: l, acc, n, h => by
    rw [hexNumU] at h
    split at h
    · have := hexNumU_lt l _ n h
      rw [List.length_cons, Nat.pow_succ]
      refine Nat.lt_of_lt_of_le this ?_
      have h2 : (16 * acc + hexValU c + 1) * 16 ^ l.length ≤ (16 * (acc + 1)) * 16 ^ l.length := Nat.mul_le_mul_right _ (by omega)
      refine Nat.le_trans h2 (Nat.le_of_eq ?_)
      rw [Nat.mul_comm 16 (acc + 1), Nat.mul_assoc, Nat.mul_comm 16]
    · cases h
theorem CallOk.ofCallsT {P : Program} {f : FuncId} {as0 : List AV} {v1 v2 : Value} (o1 : v1.oneCell' = true) (o2 : v2.oneCell' = true) (h : ∀ (E : Env) (vs : Array Value), (∀ b, E.S b → b < E.w.heap.size) → Globs.ok E.w E.S → Args E as0 vs → Calls P f vs E.w fun e w' => e = .returned (.tuple #[v1, v2]) ∧ Below E.w.heap.size E.w w') : CallOk P f as0 [] ⟨.tup [.d (.sc v1), .d (.sc v2)], [], []⟩ := by
  intro w S β vs hM hA
  refine (h (callEnv w S β [] []) vs hM.slt hM.glob hA).mono ?_
  rintro e w' ⟨he, hb⟩
  have hb : Below w.heap.size w w' := hb
  have st : Step (callEnv w S β [] []) { callEnv w S β [] [] with w := w' } := ⟨fun r R hR => ⟨R, hR, .inr rfl⟩, fun _ h => h, fun _ _ => rfl, fun _ h => h, fun b hS => hb.block b (hM.slt b hS), fun b s hs => below_shape hb hs⟩
  refine ⟨.tuple #[v1, v2], { callEnv w S β [] [] with w := w' }, he, rfl, ?_, st, ?_, ?_, hb.size, .tup _ _ rfl ?_⟩
  · exact {
      os := hb.os.trans hM.os
      output := hb.output.trans hM.output
      tape := hb.tape.trans hM.tape
      size := hb.size
      keep := fun b hlt hn => hb.block b hlt
      shape := fun b s hs => below_shape hb hs
      s0 := hM.s0
      slt := fun b hS => Nat.lt_of_lt_of_le (hM.slt b hS) hb.size
      glob := Globs.step st.S st.heap hM.glob
      snew := hM.snew
      blt := fun r b hp hβ => absurd hp (Nat.not_lt_zero r)
      bown := fun r R b hp => absurd hp (Nat.not_lt_zero r)
      bkeep := fun r R hlt hp => absurd hp (Nat.not_lt_zero r)
      inj := fun r r' R R' b hp => absurd hp (Nat.not_lt_zero r)
      roots := fun r R hp => absurd hp (Nat.not_lt_zero r) }
  · rfl
  · intro r
    constructor
    · exact fun h => .inl h
    · rintro (h | ⟨_, h⟩)
      · exact h
      · exact absurd h (by simp)
  · intro j y hy
    match j, hy with
    | 0, hy => cases hy; exact .d _ _ (.sc _ o1)
    | 1, hy => cases hy; exact .d _ _ (.sc _ o2)
theorem FiTempName {n : Int} {o : ByteArray}  (hr : rTempName n = o)  : Fn Tryz.prog 160 [I n] [] ⟨S o, [], []⟩ := by
 refine Fn.go su_ch04b Tryz.func160 fun P hP Q hQ => ?_
 conv => cbv
 generalize hr1 : risNumber n = r1
 refine .dd hP (FiisNumber hr1) ?_
 cases r1
 simp only [risNumber, decide_eq_true_eq, decide_eq_false_iff_not] at hr1
 conv => cbv
 have e : (tx []) = rTempName n := (by unfold rTempName; rw [if_neg (by omega)])
 rw [hr] at e
 subst e
 exact hQ _ _ (.s rfl rfl)
 simp only [risNumber, decide_eq_true_eq, decide_eq_false_iff_not] at hr1
 conv => cbv
 generalize hr2 : rSegmentName n = r2
 refine .dd hP (FiSegmentName hr2) ?_
 conv => cbv
 have hb1 := rSegmentName_b (n := n) (by assumption)
 refine .litR 4 fun s3 hs3 zs3 => ?_
 conv => cbv
 have e : s3 = rTempName n := (by unfold rTempName; rw [if_pos (by omega), hs3, ← hr2]; rfl)
 rw [hr] at e
 subst e
 exact hQ _ _ (.s rfl rfl)
theorem FsTempName {n : Int} {o : ByteArray}  (hr : rTempName n = o)  : Fn Tryz.prog 149 [I n] [] ⟨S o, [], []⟩ := by
 refine Fn.go su_ch04b Tryz.func149 fun P hP Q hQ => ?_
 conv => cbv
 generalize hr1 : rSegmentName n = r1
 refine .dd hP (FsSegmentName hr1) ?_
 conv => cbv
 refine .eql (fun h2 => ?_) fun h2 => ?_
 conv => cbv
 have e : (tx []) = rTempName n := (by unfold rTempName; rw [if_neg]; intro hh; have := seg13 hh; rw [hr1, h2] at this; cases this)
 rw [hr] at e
 subst e
 exact hQ _ _ (.s rfl rfl)
 conv => cbv
 have hb1 := rSegmentName_b hr1
 refine .litR 4 fun s3 hs3 zs3 => ?_
 conv => cbv
 have e : s3 = rTempName n := (by unfold rTempName; rw [if_pos, hs3, ← hr1]; rfl; exact seg_num hr1 (fun h0 => h2 (by apply ByteArray.ext; exact Array.eq_empty_of_size_eq_zero h0)))
 rw [hr] at e
 subst e
 exact hQ _ _ (.s rfl rfl)
theorem mid_get {name : ByteArray} {k : Nat} (h : k + 1 < name.size) (hk : k < 8) : (mid name)[k]? = some name[k + 1] := by
  have h' : k + 1 < name.data.toList.length := by rw [Array.length_toList]; exact h
  unfold mid
  rw [List.getElem?_take_of_lt hk, List.getElem?_drop, Nat.add_comm 1 k, List.getElem?_eq_getElem h']
  rfl
theorem mid_len {name : ByteArray} (h : 9 ≤ name.size) : (mid name).length = 8 := by
  have h' : name.data.toList.length = name.size := by rw [Array.length_toList]; rfl
  unfold mid
  rw [List.length_take, List.length_drop, h']
  omega
theorem hex_step {name : ByteArray} {k n : Nat} (h : k + 1 < name.size) (hk : k < 8) (e : hexNum 0 ((mid name).take k) = some n) :
    hexNum 0 ((mid name).take (k + 1)) = if hexVal name[k + 1] < 16 then some (16 * n + hexVal name[k + 1]) else none := by
  rw [List.take_add_one, mid_get h hk]
  show hexNum 0 ((mid name).take k ++ [name[k + 1]]) = _
  rw [hexNum_snoc, e]
  rfl
theorem hex_bad {name : ByteArray} {k : Nat} (e : hexNum 0 ((mid name).take k) = none) : hexNum 0 (mid name) = none := by
  rw [← List.take_append_drop k (mid name)]
  exact hexNum_none _ _ _ e
theorem hexVal_f {c : UInt8} (h : 48 ≤ c.toNat ∧ c.toNat ≤ 57) : hexVal c = c.toNat - 48 := if_pos h
theorem hexVal_l {c : UInt8} (h : ¬ (48 ≤ c.toNat ∧ c.toNat ≤ 57)) (h2 : 97 ≤ c.toNat ∧ c.toNat ≤ 102) : hexVal c = c.toNat - 87 := by unfold hexVal; rw [if_neg h, if_pos h2]
theorem hexVal_n {c : UInt8} (h : ¬ (48 ≤ c.toNat ∧ c.toNat ≤ 57)) (h2 : ¬ (97 ≤ c.toNat ∧ c.toNat ≤ 102)) : hexVal c = 16 := by unfold hexVal; rw [if_neg h, if_neg h2]
theorem pow16 {k : Nat} (h : k ≤ 7) : 16 ^ k * 16 ≤ 4294967296 := by
  have := Nat.pow_le_pow_right (n := 16) (by decide) (show k + 1 ≤ 8 by omega)
  rw [Nat.pow_succ] at this
  exact this
def rl14Has (l : List Int) (n : Int) : Bool := decide (n ∈ l)
theorem Fsl14Has {l : List Int} {xl : List (List D)} {n : Int} {o : Bool} (hl : l.map cI = xl) (hn : l.length < 2 ^ 40) (hr : rl14Has l n = o)  : Fn Tryz.prog 109 [.d (.row 1 xl), I n] [] ⟨B o, [], []⟩ := by
 refine Fn.go su_ch04b Tryz.func109 fun P hP Q hQ => ?_
 conv => cbv
 refine LoopW.lp (κ := Int) su_ch04b hP [] [0, 1] (fun i5 => [(5, I i5)]) (fun i5 => [])
   (fun i5 => 0 ≤ i5 ∧ i5 ≤ l.length ∧ ∀ (j : Nat) (hj : j < l.length), j < i5.toNat → l[j] ≠ n)
   (fun i5 => (l.length - i5).toNat) (0) ⟨by omega, by omega, fun j _ h => by simp at h⟩ ⟨rfl, trivial⟩ rfl ?_
 rintro i5 J ⟨h0, h1, hb⟩ hJ
 conv => cbv
 refine .go hl fun v1 hv1 => ?_
 conv => cbv
 refine .lss (fun h2 => ?_) fun h2 => ?_
 conv => cbv
 refine .go i5.toNat hl fun hje3 e3 qe3 => ?_
 conv => cbv
 refine .eql (fun h4 => ?_) fun h4 => ?_
 conv => cbv
 have e : true = rl14Has l n := (by unfold rl14Has; symm; rw [decide_eq_true_eq, ← h4, qe3]; exact List.getElem_mem hje3)
 rw [hr] at e
 subst e
 exact hQ _ _ (.b rfl rfl)
 conv => cbv
 refine .add fun v5 hv5 => ?_
 conv => cbv
 exact .go [] (v5) (hJ _ ⟨by omega, by omega, fun j hj h => if e : j = i5.toNat then by subst e; rw [← qe3]; exact h4 else hb j hj (by omega)⟩ (by first | (dsimp only; omega) | omega))
 conv => cbv
 have e : false = rl14Has l n := (by unfold rl14Has; symm; rw [decide_eq_false_iff_not]; intro hm; obtain ⟨j, hj, hj2⟩ := List.getElem_of_mem hm; exact hb j hj (by omega) hj2)
 rw [hr] at e
 subst e
 exact hQ _ _ (.b rfl rfl)
theorem FsReadName {name : ByteArray} {oa : Int} {ob : Int}  (hs : name.size ≤ 1048576) (hr : rReadName name = (oa, ob))  : Fn Tryz.prog 108 [S name] [] ⟨.tup [I oa, I ob], [], []⟩ := by
 refine Fn.go su_ch04b Tryz.func108 fun P hP Q hQ => ?_
 conv => cbv
 refine .go fun v1 hv1 => ?_
 conv => cbv
 generalize hr2 : rl01In v1 13 17 = r2
 refine .dd hP (Fsl01In hr2) ?_
 cases r2
 simp only [rl01In, decide_eq_true_eq, decide_eq_false_iff_not] at hr2
 conv => cbv
 have e : (0, 0) = rReadName name := (by exact (read_size (by omega)).symm)
 rw [hr] at e
 simp only [Prod.mk.injEq] at e
 obtain ⟨rfl, rfl⟩ := e
 refine hQ _ _ ?_
 exact .many (.inl rfl) rfl rfl (.d rfl rfl (.d rfl rfl (.nil)))
 simp only [rl01In, decide_eq_true_eq, decide_eq_false_iff_not] at hr2
 conv => cbv
 refine LoopW.lp (κ := Int × Int) su_ch04b hP [] [0] (fun (i4, i5) => [(4, I i4), (5, I i5)]) (fun (i4, i5) => [])
   (fun (i4, i5) => 1 ≤ i5 ∧ i5 ≤ 9 ∧ 0 ≤ i4 ∧ i4.toNat < 16 ^ (i5 - 1).toNat ∧ hexNum 0 ((mid name).take (i5 - 1).toNat) = some i4.toNat)
   (fun (i4, i5) => (9 - i5).toNat) (0, 1) ⟨by omega, by omega, by omega, by simp, rfl⟩ ⟨rfl, rfl, trivial⟩ rfl ?_
 rintro ⟨i4, i5⟩ J ⟨h0, h1, h2, h3_, he⟩ hJ
 conv => cbv
 refine .lss (fun h3 => ?_) fun h3 => ?_
 conv => cbv
 refine .go i5.toNat fun hjv4 v4 hv4 bv4 => ?_
 conv => cbv
 have hp := pow16 (k := (i5 - 1).toNat) (by omega)
 have hc : v4 = (name[(i5 - 1).toNat + 1].toNat : Int) := by rw [hv4]; congr 2; congr 1; omega
 have hstep := hex_step (name := name) (k := (i5 - 1).toNat) (by omega) (by omega) he
 have hc2 := name[(i5 - 1).toNat + 1].toNat_lt
 refine .id fun v5 hv5 => ?_
 conv => cbv
 generalize hr6 : rl01In v5 48 57 = r6
 refine .dd hP (Fsl01In hr6) ?_
 cases r6
 simp only [rl01In, decide_eq_true_eq, decide_eq_false_iff_not] at hr6
 conv => cbv
 generalize hr7 : rl01In v5 97 102 = r7
 refine .dd hP (Fsl01In hr7) ?_
 cases r7
 simp only [rl01In, decide_eq_true_eq, decide_eq_false_iff_not] at hr7
 conv => cbv
 have e : (0, 0) = rReadName name := (by exact (read_none (hex_bad (k := (i5 - 1).toNat + 1) (by rw [hstep, hexVal_n (by omega) (by omega)]; rfl))).symm)
 rw [hr] at e
 simp only [Prod.mk.injEq] at e
 obtain ⟨rfl, rfl⟩ := e
 refine hQ _ _ ?_
 exact .many (.inl rfl) rfl rfl (.d rfl rfl (.d rfl rfl (.nil)))
 simp only [rl01In, decide_eq_true_eq, decide_eq_false_iff_not] at hr7
 conv => cbv
 have hval := hexVal_l (c := name[(i5 - 1).toNat + 1]) (by omega) (by omega)
 refine .mul fun v8 hv8 => ?_
 conv => cbv
 refine .add fun v9 hv9 => ?_
 conv => cbv
 refine .sub fun v10 hv10 => ?_
 conv => cbv
 refine .add fun v11 hv11 => ?_
 conv => cbv
 exact .go [] (v10, v11) (hJ _ ⟨by omega, by omega, by omega, by first | (rw [show (v11 - 1).toNat = (i5 - 1).toNat + 1 by omega, Nat.pow_succ]; omega) | (rw [show (v10 - 1).toNat = (i5 - 1).toNat + 1 by omega, Nat.pow_succ]; omega), by first | (rw [show (v11 - 1).toNat = (i5 - 1).toNat + 1 by omega, hstep, hval, if_pos (by omega)]; congr 1; omega) | (rw [show (v10 - 1).toNat = (i5 - 1).toNat + 1 by omega, hstep, hval, if_pos (by omega)]; congr 1; omega)⟩ (by first | (dsimp only; omega) | omega))
 simp only [rl01In, decide_eq_true_eq, decide_eq_false_iff_not] at hr6
 conv => cbv
 have hval := hexVal_f (c := name[(i5 - 1).toNat + 1]) (by omega)
 refine .mul fun v7 hv7 => ?_
 conv => cbv
 refine .add fun v8 hv8 => ?_
 conv => cbv
 refine .sub fun v9 hv9 => ?_
 conv => cbv
 refine .add fun v10 hv10 => ?_
 conv => cbv
 exact .go [] (v9, v10) (hJ _ ⟨by omega, by omega, by omega, by first | (rw [show (v11 - 1).toNat = (i5 - 1).toNat + 1 by omega, Nat.pow_succ]; omega) | (rw [show (v10 - 1).toNat = (i5 - 1).toNat + 1 by omega, Nat.pow_succ]; omega), by first | (rw [show (v11 - 1).toNat = (i5 - 1).toNat + 1 by omega, hstep, hval, if_pos (by omega)]; congr 1; omega) | (rw [show (v10 - 1).toNat = (i5 - 1).toNat + 1 by omega, hstep, hval, if_pos (by omega)]; congr 1; omega)⟩ (by first | (dsimp only; omega) | omega))
 conv => cbv
 generalize hr4 : rSegmentName i4 = r4
 refine .dd hP (FsSegmentName hr4) ?_
 conv => cbv
 refine .eql (fun h5 => ?_) fun h5 => ?_
 conv => cbv
 have e : (1, i4) = rReadName name := (by have := read_seg (seg_num (hr4.trans h5) (by omega)); rw [hr4, h5] at this; exact this.symm)
 rw [hr] at e
 simp only [Prod.mk.injEq] at e
 obtain ⟨rfl, rfl⟩ := e
 refine hQ _ _ ?_
 exact .many (.inl rfl) rfl rfl (.d rfl rfl (.d rfl rfl (.nil)))
 conv => cbv
 generalize hr6 : rTempName i4 = r6
 refine .dd hP (FsTempName hr6) ?_
 conv => cbv
 refine .eql (fun h7 => ?_) fun h7 => ?_
 conv => cbv
 have e : (2, i4) = rReadName name := (by have := read_temp (temp_num (hr6.trans h7) (by omega)); rw [hr6, h7] at this; exact this.symm)
 rw [hr] at e
 simp only [Prod.mk.injEq] at e
 obtain ⟨rfl, rfl⟩ := e
 refine hQ _ _ ?_
 exact .many (.inl rfl) rfl rfl (.d rfl rfl (.d rfl rfl (.nil)))
 conv => cbv
 have e : (0, 0) = rReadName name := (by refine (read_other fun n hn => ?_).symm; rw [show (i5 - 1).toNat = 8 by omega, List.take_of_length_le (by rw [mid_len (by omega)]; omega), hn] at he; cases he; rw [Int.toNat_of_nonneg h2, hr4, hr6]; exact ⟨h5, h7⟩)
 rw [hr] at e
 simp only [Prod.mk.injEq] at e
 obtain ⟨rfl, rfl⟩ := e
 refine hQ _ _ ?_
 exact .many (.inl rfl) rfl rfl (.d rfl rfl (.d rfl rfl (.nil)))
end Go.Proofs.YtmhinjjgpabkfaaGreatDoor.Ab
