/- What functions of the program come to, for all arguments in the given bounds. -/
import Derived.Test.YtmhinjjgpabkfaaGreatDoorch02
set_option linter.unusedVariables false
set_option linter.unusedSimpArgs false
namespace Go.Proofs.YtmhinjjgpabkfaaGreatDoor.Ab
open Go Go.Proofs
set_option maxRecDepth 20000
set_option maxHeartbeats 4000000
set_option linter.unusedSimpArgs false
set_option linter.unusedVariables false
def tab_ch03 : List (Nat × TyRow) := [
  (3, ⟨.int .i64, some 1, some false, none, false, [.int .i64], [], some [(.int .i64 0, 0)], none, none, none⟩),
  (5, ⟨.int .u8, some 1, some false, none, false, [.int .u8], [], some [(.int .u8 0, 0)], none, none, none⟩),
  (9, ⟨.str, some 1, some false, none, false, [.str], [], some [(.string default, 0)], none, none, none⟩),
  (22, ⟨.sl 1, some 1, some false, some (1, 1), true, [.sl 1], [], some [(.slice none 0 0, 1)], some ([.sc (.int .u8 0)], 1, 1), none, none⟩),
  (169, ⟨.int .u64, some 1, some false, none, false, [.int .u64], [], some [(.int .u64 0, 0)], none, none, none⟩)]
theorem tab_ch03_ok : TabOk Tryz.prog tab_ch03 := TabOk.of (by kernel_rfl)
theorem su_ch03 : Setup Tryz.prog tab_ch03 := ⟨tab_ch03_ok, mixed⟩
def varL (n : Nat) : List UInt8 := if h : n < 128 then [UInt8.ofNat n] else UInt8.ofNat (n % 128 + 128) :: varL (n / 128)
termination_by n
decreasing_by omega
theorem varL_small {n : Nat} (h : n < 128) : varL n = [UInt8.ofNat n] := by rw [varL, dif_pos h]
theorem varL_next {n : Nat} (h : ¬ n < 128) : varL n = UInt8.ofNat (n % 128 + 128) :: varL (n / 128) := by rw [varL, dif_neg h]
theorem varL_len : ∀ (k n : Nat), n < 128 ^ (k + 1) → (varL n).length ≤ k + 1
  | 0, n, h => by rw [varL_small (by simpa using h)]; simp
  | k + 1, n, h => by
    by_cases h1 : n < 128
    · rw [varL_small h1]; simp
    · rw [varL_next h1, List.length_cons]
      have := varL_len k (n / 128) (by rw [Nat.div_lt_iff_lt_mul (by omega)]; rw [Nat.pow_succ] at h; exact h)
      omega
theorem varL_ne (n : Nat) : varL n ≠ [] := by
  by_cases h : n < 128
  · rw [varL_small h]; simp
  · rw [varL_next h]; simp
def rVarText (n : Int) : ByteArray := if 0 ≤ n ∧ n ≤ 1000000000 then tx (varL n.toNat) else tx []
theorem rVarText_le (n : Int) : (rVarText n).size ≤ 5 := by
  unfold rVarText
  split
  · rw [tx_size]
    exact varL_len 4 _ (by omega)
  · simp [tx_size]
theorem rVarText_b {n : Int} {o : ByteArray} (h : rVarText n = o) : o.size ≤ 5 := by rw [← h]; exact rVarText_le n
def vread : Nat → List UInt8 → Option (Nat × Nat)
  | 0, _ => none
  | _ + 1, [] => none
  | f + 1, x :: l => if x.toNat < 128 then some (x.toNat, 1) else match vread f l with
    | some (n, k) => if n = 0 then none else some (x.toNat % 128 + 128 * n, k + 1)
    | none => none
def rReadVar (b : ByteArray) (p : Int) : Int × Int × Bool :=
  if 0 ≤ p ∧ p ≤ b.size then
    match vread 5 (b.data.toList.drop p.toNat) with
    | some (n, k) => if n ≤ 1000000000 then ((n : Int), p + (k : Int), true) else (0, 0, false)
    | none => (0, 0, false)
  else (0, 0, false)
def vval : List UInt8 → Nat
  | [] => 0
  | x :: l => x.toNat % 128 + 128 * vval l
theorem vval_lt : ∀ l : List UInt8, vval l < 128 ^ l.length
  | [] => by simp [vval]
  | x :: l => by
    have := vval_lt l
    simp only [vval, List.length_cons, Nat.pow_succ]
    omega
theorem vval_snoc : ∀ (l : List UInt8) (x : UInt8), vval (l ++ [x]) = vval l + x.toNat % 128 * 128 ^ l.length
  | [], x => by simp [vval]
  | y :: l, x => by
    simp only [List.cons_append, vval, vval_snoc l x, List.length_cons, Nat.pow_succ, Nat.mul_add]
    rw [Nat.add_assoc, Nat.mul_left_comm, Nat.mul_comm 128, Nat.mul_comm 128 (128 ^ l.length)]
theorem vval_zero : ∀ {l : List UInt8} {x : UInt8}, x.toNat < 128 → vval (l ++ [x]) = 0 → (∀ y ∈ l, y.toNat % 128 = 0) ∧ x.toNat = 0
  | [], x, hx, h => by simp [vval] at h; exact ⟨by simp, by omega⟩
  | y :: l, x, hx, h => by
    simp only [List.cons_append, vval] at h
    have := vval_zero (l := l) hx (by omega)
    refine ⟨?_, this.2⟩
    intro z hz
    rcases List.mem_cons.1 hz with rfl | hz
    · omega
    · exact this.1 z hz
theorem vread_some : ∀ {f : Nat} {l : List UInt8} {x : UInt8} {r : List UInt8}, (∀ y ∈ l, 128 ≤ y.toNat) → x.toNat < 128 → l.length < f → (l ≠ [] → x.toNat ≠ 0) → vread f (l ++ x :: r) = some (vval (l ++ [x]), l.length + 1)
  | 0, l, x, r, _, _, h, _ => by omega
  | f + 1, [], x, r, _, hx, _, _ => by
    simp only [List.nil_append, vread]
    rw [if_pos hx]
    simp [vval, Nat.mod_eq_of_lt hx]
  | f + 1, y :: l, x, r, hl, hx, hf, h0 => by
    have hx0 := h0 (by simp)
    simp only [List.cons_append, vread]
    rw [if_neg (by have := hl y (by simp); omega), vread_some (fun z hz => hl z (by simp [hz])) hx (by simp at hf; omega) (fun _ => hx0)]
    have : vval (l ++ [x]) ≠ 0 := fun e => hx0 (vval_zero hx e).2
    simp only []
    rw [if_neg this]
    rfl
theorem vread_zero : ∀ {f : Nat} {l : List UInt8} {x : UInt8} {r : List UInt8}, (∀ y ∈ l, 128 ≤ y.toNat) → x.toNat = 0 → l ≠ [] → vread f (l ++ x :: r) = none
  | 0, l, x, r, _, _, _ => by cases l <;> rfl
  | f + 1, [], x, r, _, _, h => absurd rfl h
  | 1, [y], x, r, hl, hx, _ => by
    simp only [List.cons_append, List.nil_append, vread]
    rw [if_neg (by have := hl y (by simp); omega)]
  | f + 2, [y], x, r, hl, hx, _ => by
    simp only [List.cons_append, List.nil_append, vread]
    rw [if_neg (by have := hl y (by simp); omega), if_pos (by omega), hx]
    simp
  | f + 1, y :: z :: l, x, r, hl, hx, _ => by
    rw [List.cons_append]
    simp only [vread]
    rw [if_neg (by have := hl y (by simp); omega), vread_zero (l := z :: l) (fun w hw => hl w (by simp [hw])) hx (by simp)]
theorem vread_open : ∀ {f : Nat} {l r : List UInt8}, (∀ y ∈ l, 128 ≤ y.toNat) → (r = [] ∨ f ≤ l.length) → vread f (l ++ r) = none
  | 0, l, r, _, _ => by cases l <;> (try cases r) <;> rfl
  | f + 1, [], r, _, h => by
    rcases h with rfl | h
    · rfl
    · simp at h
  | f + 1, y :: l, r, hl, h => by
    rw [List.cons_append]
    simp only [vread]
    rw [if_neg (by have := hl y (by simp); omega), vread_open (fun z hz => hl z (by simp [hz])) (h.imp_right (by simp))]
theorem varL_vval : ∀ {l : List UInt8} {x : UInt8}, (∀ y ∈ l, 128 ≤ y.toNat) → x.toNat < 128 → (varL (vval (l ++ [x])) = l ++ [x] ↔ (l ≠ [] → x.toNat ≠ 0))
  | [], x, _, hx => by
    simp only [List.nil_append, vval, Nat.mod_eq_of_lt hx, Nat.mul_zero, Nat.add_zero, ne_eq, not_true_eq_false, false_implies, iff_true]
    rw [varL_small hx]
    simp
  | y :: l, x, hl, hx => by
    have hy := hl y (by simp)
    have ih := varL_vval (l := l) (fun z hz => hl z (by simp [hz])) hx
    have hyl := y.toNat_lt
    simp only [List.cons_append, vval, ne_eq, reduceCtorEq, not_false_eq_true, true_implies]
    by_cases h0 : vval (l ++ [x]) = 0
    · have h1 := vval_zero hx h0
      rw [h0, Nat.mul_zero, Nat.add_zero, varL_small (Nat.mod_lt _ (by omega))]
      constructor
      · intro h; cases l <;> simp at h
      · intro h; exact absurd h1.2 h
    · rw [varL_next (by omega), show (y.toNat % 128 + 128 * vval (l ++ [x])) % 128 + 128 = y.toNat by omega, show (y.toNat % 128 + 128 * vval (l ++ [x])) / 128 = vval (l ++ [x]) by omega]
      simp only [UInt8.ofNat_toNat, List.cons.injEq, true_and]
      rw [ih]
      constructor
      · intro h
        by_cases hl0 : l = []
        · subst hl0
          simp only [List.nil_append, vval, Nat.mul_zero, Nat.add_zero] at h0
          omega
        · exact h hl0
      · intro h _; exact h
theorem or128N {a : Nat} (h : a < 256) : a ||| 128 = a % 128 + 128 := by
  by_cases h8 : a < 128
  · have := or_parts (a := a) (b := 1) (k := 7) (by omega)
    rw [Nat.mod_eq_of_lt h8]
    simpa using this
  · obtain ⟨c, rfl⟩ : ∃ c, a = c + 128 := ⟨a - 128, by omega⟩
    have h7 := or_parts (a := c) (b := 1) (k := 7) (by omega)
    simp only [Nat.one_mul] at h7
    rw [show (2 : Nat) ^ 7 = 128 from rfl] at h7
    rw [← h7, Nat.or_assoc, Nat.or_self, h7]
    omega
theorem mask7 (a : Int) : bitI .and .i64 a 127 = a % 128 := bit_and_mask (k := 7) (by omega)
theorem or128I {m : Nat} (h : m < 256) : bitI .or .i64 (m : Int) 128 = ((m % 128 + 128 : Nat) : Int) := by
  have := bit_or64 (a := m) (b := 128) (by omega) (by omega)
  rw [or128N h] at this
  exact this
theorem or128B {m : Nat} (h : m < 256) : bitI .or .u8 (m : Int) 128 = ((m % 128 + 128 : Nat) : Int) := by
  have := bit_or8 (a := m) (b := 128) (by omega) (by omega)
  rw [or128N h] at this
  exact this
theorem FiVarText {n : Int} {o : ByteArray}  (hr : rVarText n = o)  : Fn Tryz.prog 220 [I n] [] ⟨S o, [], []⟩ := by
 refine Fn.go su_ch03 Tryz.func220 fun P hP Q hQ => ?_
 conv => cbv
 generalize hr1 : risNumber n = r1
 refine .dd hP (FiisNumber hr1) ?_
 cases r1
 simp only [risNumber, decide_eq_true_eq, decide_eq_false_iff_not] at hr1
 conv => cbv
 have e : (tx []) = rVarText n := (by exact (if_neg hr1).symm)
 rw [hr] at e
 subst e
 exact hQ _ _ (.s rfl rfl)
 simp only [risNumber, decide_eq_true_eq, decide_eq_false_iff_not] at hr1
 conv => cbv
 refine LoopW.lp (κ := Int × (List (List D)) × Nat) su_ch03 hP [0] [] (fun (i0, zw1, nw1) => [(0, I i0), (3, .ref 1 0 nw1)]) (fun (i0, zw1, nw1) => [(1, .row 1 false zw1)])
   (fun (i0, zw1, nw1) => ∃ (w1 : List UInt8), w1.map cB = zw1 ∧ nw1 = w1.length ∧ w1 ++ varL i0.toNat = varL n.toNat ∧ 0 ≤ i0 ∧ w1.length + i0.toNat ≤ n.toNat ∧ i0 ≤ 1000000000)
   (fun (i0, zw1, nw1) => i0.toNat) (n, [], 0) ⟨[], rfl, rfl, by simp, by omega, by simp, by omega⟩ ⟨rfl, rfl, trivial⟩ rfl ?_
 rintro ⟨i0, zw1, nw1⟩ J ⟨w1, hw1, hnw1, hv, h0, hl, hm⟩ hJ
 conv => cbv
 refine .geq (fun h2 => ?_) fun h2 => ?_
 conv => cbv
 refine .go fun v3 hv3 => ?_
 conv => cbv
 refine .or fun v4 hv4 => ?_
 conv => cbv
 have e3 : v3 = ((i0.toNat % 256 : Nat) : Int) := by rw [hv3, u8_wrap]; omega
 have e4 : v4 = ((i0.toNat % 128 + 128 : Nat) : Int) := by rw [hv4, e3, or128B (by omega)]; omega
 refine .one (UInt8.ofNat (i0.toNat % 128 + 128)) hw1 (cB_eq e4 (by omega)) fun nz5 z5 hnz5 hz5 => ?_
 conv => cbv
 refine .shr fun v6 hv6 => ?_
 conv => cbv
 have e6 : v6 = i0 / 128 := hv6
 exact .go [3] (v6, z5, nz5) (hJ _ ⟨_, hz5, (by first | omega | (simp; omega)), by rw [← hv, varL_next (n := i0.toNat) (by omega), show v6.toNat = i0.toNat / 128 by omega]; simp, by omega, by simp; omega, by omega⟩ (by first | (dsimp only; omega) | omega))
 conv => cbv
 refine .go fun v3 hv3 => ?_
 conv => cbv
 have e3 : v3 = ((i0.toNat % 256 : Nat) : Int) := by rw [hv3, u8_wrap]; omega
 refine .one (UInt8.ofNat i0.toNat) hw1 (cB_eq (by omega) (by omega)) fun nz4 z4 hnz4 hz4 => ?_
 conv => cbv
 refine .go hz4 fun s5 hs5 => ?_
 conv => cbv
 have e : s5 = rVarText n := (by rw [hs5, ← varL_small (n := i0.toNat) (by omega), hv]; exact (if_pos hr1).symm)
 rw [hr] at e
 subst e
 exact hQ _ _ (.s rfl rfl)
theorem FsVarText {n : Int} {o : ByteArray}  (hr : rVarText n = o)  : Fn Tryz.prog 209 [I n] [] ⟨S o, [], []⟩ := by
 refine Fn.go su_ch03 Tryz.func209 fun P hP Q hQ => ?_
 conv => cbv
 generalize hr1 : rl01In n 0 1000000000 = r1
 refine .dd hP (Fsl01In hr1) ?_
 cases r1
 simp only [rl01In, decide_eq_true_eq, decide_eq_false_iff_not] at hr1
 conv => cbv
 have e : (tx []) = rVarText n := (by exact (if_neg hr1).symm)
 rw [hr] at e
 subst e
 exact hQ _ _ (.s rfl rfl)
 simp only [rl01In, decide_eq_true_eq, decide_eq_false_iff_not] at hr1
 conv => cbv
 refine LoopW.lp (κ := Int × (List (List D)) × Nat) su_ch03 hP [0] [] (fun (i0, zw1, nw1) => [(0, I i0), (3, .ref 1 0 nw1)]) (fun (i0, zw1, nw1) => [(1, .row 1 false zw1)])
   (fun (i0, zw1, nw1) => ∃ (w1 : List UInt8), w1.map cB = zw1 ∧ nw1 = w1.length ∧ w1 ++ varL i0.toNat = varL n.toNat ∧ 0 ≤ i0 ∧ w1.length + i0.toNat ≤ n.toNat ∧ i0 ≤ 1000000000)
   (fun (i0, zw1, nw1) => i0.toNat) (n, [], 0) ⟨[], rfl, rfl, by simp, by omega, by simp, by omega⟩ ⟨rfl, rfl, trivial⟩ rfl ?_
 rintro ⟨i0, zw1, nw1⟩ J ⟨w1, hw1, hnw1, hv, h0, hl, hm⟩ hJ
 conv => cbv
 refine .gtr (fun h2 => ?_) fun h2 => ?_
 conv => cbv
 refine .and fun v3 hv3 => ?_
 conv => cbv
 refine .or fun v4 hv4 => ?_
 conv => cbv
 refine .go fun v5 hv5 => ?_
 conv => cbv
 have e3 : v3 = ((i0.toNat % 128 : Nat) : Int) := by rw [hv3, mask7]; omega
 have e4 : v4 = ((i0.toNat % 128 + 128 : Nat) : Int) := by rw [hv4, e3, or128I (by omega)]; omega
 refine .one (UInt8.ofNat (i0.toNat % 128 + 128)) hw1 (cB_eq (by rw [hv5, u8_wrap]; omega) (by omega)) fun nz6 z6 hnz6 hz6 => ?_
 conv => cbv
 refine .shr fun v7 hv7 => ?_
 conv => cbv
 have e6 : v7 = i0 / 128 := hv7
 exact .go [3] (v7, z6, nz6) (hJ _ ⟨_, hz6, (by first | omega | (simp; omega)), by rw [← hv, varL_next (n := i0.toNat) (by omega), show v7.toNat = i0.toNat / 128 by omega]; simp, by omega, by simp; omega, by omega⟩ (by first | (dsimp only; omega) | omega))
 conv => cbv
 refine .go fun v3 hv3 => ?_
 conv => cbv
 have e3 : v3 = ((i0.toNat % 256 : Nat) : Int) := by rw [hv3, u8_wrap]; omega
 refine .one (UInt8.ofNat i0.toNat) hw1 (cB_eq (by omega) (by omega)) fun nz4 z4 hnz4 hz4 => ?_
 conv => cbv
 refine .go hz4 fun s5 hs5 => ?_
 conv => cbv
 have e : s5 = rVarText n := (by rw [hs5, ← varL_small (n := i0.toNat) (by omega), hv]; exact (if_pos hr1).symm)
 rw [hr] at e
 subst e
 exact hQ _ _ (.s rfl rfl)
theorem rv_hit {b : ByteArray} {p : Int} {k : Nat} {l : List UInt8} (hl : l = b.data.toList.drop p.toNat) (hp : 0 ≤ p ∧ p ≤ b.size) (hk : k < 5) (hkl : k < l.length) (hb : ∀ y ∈ l.take k, 128 ≤ y.toNat) (hx : l[k].toNat < 128) :
    rReadVar b p = if (k ≠ 0 → l[k].toNat ≠ 0) ∧ vval (l.take (k + 1)) ≤ 1000000000 then (((vval (l.take (k + 1)) : Nat) : Int), p + (k : Int) + 1, true) else (0, 0, false) := by
  have e : l = l.take k ++ l[k] :: l.drop (k + 1) := by rw [← List.drop_eq_getElem_cons hkl, List.take_append_drop]
  have e1 : l.take (k + 1) = l.take k ++ [l[k]] := List.take_succ_eq_append_getElem hkl
  have hlen : (l.take k).length = k := by rw [List.length_take]; omega
  unfold rReadVar
  rw [if_pos hp, ← hl]
  generalize hx' : l[k] = x at *
  generalize hd : l.take k = t at *
  rw [e1]
  by_cases h : k ≠ 0 → x.toNat ≠ 0
  · rw [e, vread_some hb hx (by omega) (fun ht => h (by rintro rfl; simp at hlen; exact ht hlen))]
    simp only [hlen]
    by_cases h2 : vval (t ++ [x]) ≤ 1000000000
    · rw [if_pos h2, if_pos ⟨h, h2⟩]
      simp only [Prod.mk.injEq, and_true, true_and]
      omega
    · rw [if_neg h2, if_neg (fun hh => h2 hh.2)]
  · have h' : k ≠ 0 ∧ x.toNat = 0 := by
      by_cases h0 : k = 0
      · exact absurd (fun hh => absurd h0 hh) h
      · exact ⟨h0, by by_cases hz : x.toNat = 0; exact hz; exact absurd (fun _ => hz) h⟩
    rw [e, vread_zero hb h'.2 (by rintro rfl; simp at hlen; exact h'.1 hlen.symm), if_neg (fun hh => h hh.1)]
theorem rv_miss {b : ByteArray} {p : Int} {k : Nat} {l : List UInt8} (hl : l = b.data.toList.drop p.toNat) (hb : ∀ y ∈ l.take k, 128 ≤ y.toNat) (h : l.length ≤ k ∨ 5 ≤ k) (hkl : k ≤ l.length) : rReadVar b p = (0, 0, false) := by
  unfold rReadVar
  split
  · rw [← hl, ← List.take_append_drop k l, vread_open hb]
    rcases h with h | h
    · left; rw [List.drop_of_length_le h]
    · right; rw [List.length_take]; omega
  · rfl
theorem ext_tx (s : ByteArray) (i j : Nat) : s.extract i j = tx ((s.data.toList.drop i).take (j - i)) := by
  have := std_ssub (l := s.data.toList) (a := (i : Int)) (b := (j : Int))
  rw [tx_data] at this
  exact this
theorem rv_text {b : ByteArray} {p v : Int} {k : Nat} {l : List UInt8} {j : Nat} (hl : l = b.data.toList.drop p.toNat) (hkl : k < l.length) (hb : ∀ y ∈ l.take k, 128 ≤ y.toNat) (hx : l[k].toNat < 128) (hv : v = ((vval (l.take (k + 1)) : Nat) : Int)) (hj : j = p.toNat + k + 1) :
    rVarText v = b.extract p.toNat j ↔ ((k ≠ 0 → l[k].toNat ≠ 0) ∧ vval (l.take (k + 1)) ≤ 1000000000) := by
  have e1 : l.take (k + 1) = l.take k ++ [l[k]] := List.take_succ_eq_append_getElem hkl
  have hlen : (l.take k).length = k := by rw [List.length_take]; omega
  have key := varL_vval hb hx
  rw [ext_tx, ← hl, show j - p.toNat = k + 1 by omega]
  unfold rVarText
  have hk : l.take k ≠ [] ↔ k ≠ 0 := by rw [ne_eq, ← List.length_eq_zero_iff, hlen]
  rw [← e1, hk] at key
  by_cases h : vval (l.take (k + 1)) ≤ 1000000000
  · rw [if_pos (by omega), show v.toNat = vval (l.take (k + 1)) by omega, tx_eq, key]
    exact ⟨fun hh => ⟨hh, h⟩, fun hh => hh.1⟩
  · rw [if_neg (by omega), tx_eq]
    constructor
    · intro hh; have := congrArg List.length hh; simp at this; omega
    · intro hh; exact absurd hh.2 h
theorem vstep {l : List UInt8} {k : Nat} (h : k < l.length) (hk : k < 5) {i x : Int} (hi : i = ((vval (l.take k) : Nat) : Int)) (hx : x = (l[k].toNat : Int)) :
    bitI .or .i64 i (IntKind.i64.wrap (bitI .and .i64 x 127 * 2 ^ min (7 * k) 64)) = ((vval (l.take (k + 1)) : Nat) : Int) := by
  have hlt := vval_lt (l.take k)
  have hlen : (l.take k).length = k := by rw [List.length_take]; omega
  rw [hlen] at hlt
  have hp : (128 : Nat) ^ k ≤ 128 ^ 4 := Nat.pow_le_pow_right (by omega) (by omega)
  have e7 : (2 : Int) ^ min (7 * k) 64 = ((128 ^ k : Nat) : Int) := by
    rw [Nat.min_eq_left (by omega), Int.natCast_pow, show ((128 : Nat) : Int) = 2 ^ 7 from rfl, ← Int.pow_mul]
  have hb := l[k].toNat_lt
  rw [hx, mask7, e7, hi, show ((l[k].toNat : Nat) : Int) % 128 = ((l[k].toNat % 128 : Nat) : Int) by omega, ← Int.natCast_mul]
  have hm : l[k].toNat % 128 * 128 ^ k ≤ 127 * 128 ^ 4 := Nat.mul_le_mul (by omega) hp
  rw [i64_wrap (by omega) (by omega), bit_or64 (by omega) (by omega), List.take_succ_eq_append_getElem h, vval_snoc, hlen]
  congr 1
  have e8 : (128 : Nat) ^ k = 2 ^ (7 * k) := by rw [Nat.pow_mul]
  rw [e8] at hlt ⊢
  exact or_parts hlt
theorem FsReadVar {b : ByteArray} {p : Int} {oa : Int} {ob : Int} {oc : Bool}  (hs : b.size < 2 ^ 47) (hr : rReadVar b p = (oa, ob, oc))  : Fn Tryz.prog 181 [S b, I p] [] ⟨.tup [I oa, I ob, B oc], [], []⟩ := by
 refine Fn.go su_ch03 Tryz.func181 fun P hP Q hQ => ?_
 conv => cbv
 refine .go fun v1 hv1 => ?_
 conv => cbv
 generalize hr2 : rl01In p 0 v1 = r2
 refine .dd hP (Fsl01In hr2) ?_
 cases r2
 simp only [rl01In, decide_eq_true_eq, decide_eq_false_iff_not] at hr2
 conv => cbv
 have e : (0, 0, false) = rReadVar b p := (by unfold rReadVar; rw [if_neg (by omega)])
 rw [hr] at e
 simp only [Prod.mk.injEq] at e
 obtain ⟨rfl, rfl, rfl⟩ := e
 refine hQ _ _ ?_
 exact .many (.inl rfl) rfl rfl (.d rfl rfl (.d rfl rfl (.d rfl rfl (.nil))))
 simp only [rl01In, decide_eq_true_eq, decide_eq_false_iff_not] at hr2
 conv => cbv
 refine LoopW.lp (κ := Int × Int) su_ch03 hP [] [0, 1] (fun (i7, i8) => [(7, I i7), (8, I i8)]) (fun (i7, i8) => [])
   (fun (i7, i8) => ∃ k : Nat, i8 = (k : Int) ∧ k ≤ 5 ∧ k ≤ (b.data.toList.drop p.toNat).length ∧ (∀ y ∈ (b.data.toList.drop p.toNat).take k, 128 ≤ y.toNat) ∧ i7 = ((vval ((b.data.toList.drop p.toNat).take k) : Nat) : Int))
   (fun (i7, i8) => 5 - i8.toNat) (0, 0) ⟨0, rfl, by omega, by omega, by simp, rfl⟩ ⟨rfl, rfl, trivial⟩ rfl ?_
 rintro ⟨i7, i8⟩ J ⟨k, hi, hk, hkl, hb, hx⟩ hJ
 obtain ⟨l, hl⟩ : ∃ l, l = b.data.toList.drop p.toNat := ⟨_, rfl⟩
 rw [← hl] at hkl hb hx hJ
 have hll : (l.length : Int) = b.size - p := by rw [hl, List.length_drop, lst_size]; omega
 conv => cbv
 refine .lss (fun h3 => ?_) fun h3 => ?_
 conv => cbv
 refine .add fun v4 hv4 => ?_
 conv => cbv
 refine .go fun v5 hv5 => ?_
 conv => cbv
 refine .lss (fun h6 => ?_) fun h6 => ?_
 conv => cbv
 refine .add fun v7 hv7 => ?_
 conv => cbv
 refine .go v7.toNat fun hjv8 v8 hv8 bv8 => ?_
 conv => cbv
 have hb8 := (b[v7.toNat]).toNat_lt
 refine .id fun v9 hv9 => ?_
 conv => cbv
 refine .and fun v10 hv10 => ?_
 conv => cbv
 refine .mul fun v11 hv11 => ?_
 conv => cbv
 refine .go fun v12 hv12 => ?_
 conv => cbv
 have e12 : v12 = 7 * (k : Int) := by rw [hv12, u64_wrap]; omega
 refine .shlW fun v13 hv13 => ?_
 conv => cbv
 refine .or fun v14 hv14 => ?_
 conv => cbv
 have hkl1 : k < l.length := by omega
 have hk1 : k < 5 := by omega
 have hx1 : v9 = (l[k].toNat : Int) := by rw [hv9, hv8, lst_get]; simp only [hl, List.getElem_drop]; congr 3; omega
 have e14 : v14 = ((vval (l.take (k + 1)) : Nat) : Int) := by rw [hv14, hv13, hv10, ← vstep hkl1 hk1 hx hx1, e12]; congr 4
 refine .lss (fun h15 => ?_) fun h15 => ?_
 conv => cbv
 generalize hr16 : rVarText v14 = r16
 have zr16 := rVarText_b hr16
 refine .dd hP (FsVarText hr16) ?_
 conv => cbv
 refine .eql (fun h17 => ?_) fun h17 => ?_
 conv => cbv
 have e : (0, 0, false) = rReadVar b p := (by rw [rv_hit hl (by omega) hk1 hkl1 hb (by omega)]; refine (if_neg ?_).symm; rintro ⟨_, h⟩; rw [← hr16] at h17; unfold rVarText at h17; rw [if_pos (by omega)] at h17; have := tx_inj h17; exact varL_ne _ this)
 rw [hr] at e
 simp only [Prod.mk.injEq] at e
 obtain ⟨rfl, rfl, rfl⟩ := e
 refine hQ _ _ ?_
 exact .many (.inl rfl) rfl rfl (.d rfl rfl (.d rfl rfl (.d rfl rfl (.nil))))
 conv => cbv
 refine .add fun v18 hv18 => ?_
 conv => cbv
 refine .add fun v19 hv19 => ?_
 conv => cbv
 refine .lohi fun s20 hs20 => ?_
 conv => cbv
 refine .neq (fun h21 => ?_) fun h21 => ?_
 conv => cbv
 have e : (0, 0, false) = rReadVar b p := (by rw [rv_hit hl (by omega) hk1 hkl1 hb (by omega)]; refine (if_neg ?_).symm; rintro ⟨h, h0⟩; refine h21 ?_; rw [← hr16, hs20]; exact (rv_text hl hkl1 hb (by omega) e14 (by omega)).2 ⟨h, h0⟩)
 rw [hr] at e
 simp only [Prod.mk.injEq] at e
 obtain ⟨rfl, rfl, rfl⟩ := e
 refine hQ _ _ ?_
 exact .many (.inl rfl) rfl rfl (.d rfl rfl (.d rfl rfl (.d rfl rfl (.nil))))
 conv => cbv
 refine .add fun v22 hv22 => ?_
 conv => cbv
 refine .add fun v23 hv23 => ?_
 conv => cbv
 have e : (v14, v23, true) = rReadVar b p := (by rw [rv_hit hl (by omega) hk1 hkl1 hb (by omega), if_pos ((rv_text (j := v19.toNat) hl hkl1 hb (by omega) e14 (by omega)).1 (by rw [hr16, h21, hs20])), e14]; simp only [Prod.mk.injEq, true_and, and_true]; omega)
 rw [hr] at e
 simp only [Prod.mk.injEq] at e
 obtain ⟨rfl, rfl, rfl⟩ := e
 refine hQ _ _ ?_
 exact .many (.inl rfl) rfl rfl (.d rfl rfl (.d rfl rfl (.d rfl rfl (.nil))))
 conv => cbv
 refine .add fun v16 hv16 => ?_
 conv => cbv
 exact .go [] (v14, v16) (hJ _ ⟨k + 1, by omega, by omega, by omega, by intro y hy; rw [List.take_succ_eq_append_getElem (by omega)] at hy; rcases List.mem_append.1 hy with hy | hy; exact hb y hy; obtain rfl := List.mem_singleton.1 hy; omega, e14⟩ (by first | (dsimp only; omega) | omega))
 conv => cbv
 have e : (0, 0, false) = rReadVar b p := (by rw [rv_miss hl hb (by omega) hkl])
 rw [hr] at e
 simp only [Prod.mk.injEq] at e
 obtain ⟨rfl, rfl, rfl⟩ := e
 refine hQ _ _ ?_
 exact .many (.inl rfl) rfl rfl (.d rfl rfl (.d rfl rfl (.d rfl rfl (.nil))))
 conv => cbv
 have e : (0, 0, false) = rReadVar b p := (by rw [rv_miss hl hb (by omega) hkl])
 rw [hr] at e
 simp only [Prod.mk.injEq] at e
 obtain ⟨rfl, rfl, rfl⟩ := e
 refine hQ _ _ ?_
 exact .many (.inl rfl) rfl rfl (.d rfl rfl (.d rfl rfl (.d rfl rfl (.nil))))
theorem FiReadVar {b : ByteArray} {p : Int} {oa : Int} {ob : Int} {oc : Bool}  (hs : b.size < 2 ^ 47) (hr : rReadVar b p = (oa, ob, oc))  : Fn Tryz.prog 216 [S b, I p] [] ⟨.tup [I oa, I ob, B oc], [], []⟩ := by
 refine Fn.go su_ch03 Tryz.func216 fun P hP Q hQ => ?_
 conv => cbv
 refine LoopW.lp (κ := Int × Int) su_ch03 hP [] [0, 1] (fun (i7, i10) => [(7, I i7), (10, I i10)]) (fun (i7, i10) => [])
   (fun (i7, i10) => ∃ k : Nat, i10 = (k : Int) ∧ k ≤ 5 ∧ k ≤ (b.data.toList.drop p.toNat).length ∧ (∀ y ∈ (b.data.toList.drop p.toNat).take k, 128 ≤ y.toNat) ∧ i7 = ((vval ((b.data.toList.drop p.toNat).take k) : Nat) : Int))
   (fun (i7, i10) => 5 - i10.toNat) (0, 0) ⟨0, rfl, by omega, by omega, by simp, rfl⟩ ⟨rfl, rfl, trivial⟩ rfl ?_
 rintro ⟨i7, i10⟩ J ⟨k, hi, hk, hkl, hb, hx⟩ hJ
 obtain ⟨l, hl⟩ : ∃ l, l = b.data.toList.drop p.toNat := ⟨_, rfl⟩
 rw [← hl] at hkl hb hx hJ
 conv => cbv
 refine .lss (fun h1 => ?_) fun h1 => ?_
 conv => cbv
 refine .go fun v2 hv2 => ?_
 conv => cbv
 refine .sub fun v3 hv3 => ?_
 conv => cbv
 refine .sub fun v4 hv4 => ?_
 conv => cbv
 generalize hr5 : rwithin p 0 v4 = r5
 refine .dd hP (Fiwithin hr5) ?_
 cases r5
 simp only [rwithin, decide_eq_true_eq, decide_eq_false_iff_not] at hr5
 conv => cbv
 have e : (0, 0, false) = rReadVar b p := (by by_cases hp : 0 ≤ p ∧ p ≤ b.size; rw [rv_miss hl hb (by left; rw [hl, List.length_drop, lst_size]; omega) hkl]; unfold rReadVar; rw [if_neg hp])
 rw [hr] at e
 simp only [Prod.mk.injEq] at e
 obtain ⟨rfl, rfl, rfl⟩ := e
 refine hQ _ _ ?_
 exact .many (.inl rfl) rfl rfl (.d rfl rfl (.d rfl rfl (.d rfl rfl (.nil))))
 simp only [rwithin, decide_eq_true_eq, decide_eq_false_iff_not] at hr5
 conv => cbv
 have hll : (l.length : Int) = b.size - p := by rw [hl, List.length_drop, lst_size]; omega
 refine .add fun v6 hv6 => ?_
 conv => cbv
 refine .go v6.toNat fun hjv7 v7 hv7 bv7 => ?_
 conv => cbv
 have hb8 := (b[v6.toNat]).toNat_lt
 refine .id fun v8 hv8 => ?_
 conv => cbv
 refine .and fun v9 hv9 => ?_
 conv => cbv
 refine .mul fun v10 hv10 => ?_
 conv => cbv
 refine .shlW fun v11 hv11 => ?_
 conv => cbv
 refine .or fun v12 hv12 => ?_
 conv => cbv
 have hkl1 : k < l.length := by omega
 have hk1 : k < 5 := by omega
 have hx1 : v8 = (l[k].toNat : Int) := by rw [hv8, hv7, lst_get]; simp only [hl, List.getElem_drop]; congr 3; omega
 have e14 : v12 = ((vval (l.take (k + 1)) : Nat) : Int) := by rw [hv12, hv11, hv9, ← vstep hkl1 hk1 hx hx1, show v10 = 7 * (k : Int) by omega]; congr 4
 refine .geq (fun h13 => ?_) fun h13 => ?_
 conv => cbv
 refine .add fun v14 hv14 => ?_
 conv => cbv
 exact .go [] (v12, v14) (hJ _ ⟨k + 1, by omega, by omega, by omega, by intro y hy; rw [List.take_succ_eq_append_getElem (by omega)] at hy; rcases List.mem_append.1 hy with hy | hy; exact hb y hy; obtain rfl := List.mem_singleton.1 hy; omega, e14⟩ (by first | (dsimp only; omega) | omega))
 conv => cbv
 refine .gtr (fun h14 => ?_) fun h14 => ?_
 conv => cbv
 refine .eql (fun h15 => ?_) fun h15 => ?_
 conv => cbv
 have e : (0, 0, false) = rReadVar b p := (by rw [rv_hit hl (by omega) hk1 hkl1 hb (by omega), if_neg]; rintro ⟨h, _⟩; exact h (by omega) (by omega))
 rw [hr] at e
 simp only [Prod.mk.injEq] at e
 obtain ⟨rfl, rfl, rfl⟩ := e
 refine hQ _ _ ?_
 exact .many (.inl rfl) rfl rfl (.d rfl rfl (.d rfl rfl (.d rfl rfl (.nil))))
 conv => cbv
 generalize hr16 : risNumber v12 = r16
 refine .dd hP (FiisNumber hr16) ?_
 cases r16
 simp only [risNumber, decide_eq_true_eq, decide_eq_false_iff_not] at hr16
 conv => cbv
 have e : (0, 0, false) = rReadVar b p := (by rw [rv_hit hl (by omega) hk1 hkl1 hb (by omega), if_neg]; rintro ⟨_, h⟩; omega)
 rw [hr] at e
 simp only [Prod.mk.injEq] at e
 obtain ⟨rfl, rfl, rfl⟩ := e
 refine hQ _ _ ?_
 exact .many (.inl rfl) rfl rfl (.d rfl rfl (.d rfl rfl (.d rfl rfl (.nil))))
 simp only [risNumber, decide_eq_true_eq, decide_eq_false_iff_not] at hr16
 conv => cbv
 refine .add fun v17 hv17 => ?_
 conv => cbv
 refine .add fun v18 hv18 => ?_
 conv => cbv
 have e : (v12, v18, true) = rReadVar b p := (by rw [rv_hit hl (by omega) hk1 hkl1 hb (by omega), if_pos ⟨fun _ => by omega, by omega⟩, e14]; simp only [Prod.mk.injEq, true_and, and_true]; omega)
 rw [hr] at e
 simp only [Prod.mk.injEq] at e
 obtain ⟨rfl, rfl, rfl⟩ := e
 refine hQ _ _ ?_
 exact .many (.inl rfl) rfl rfl (.d rfl rfl (.d rfl rfl (.d rfl rfl (.nil))))
 conv => cbv
 generalize hr15 : risNumber v12 = r15
 refine .dd hP (FiisNumber hr15) ?_
 cases r15
 simp only [risNumber, decide_eq_true_eq, decide_eq_false_iff_not] at hr15
 conv => cbv
 have e : (0, 0, false) = rReadVar b p := (by rw [rv_hit hl (by omega) hk1 hkl1 hb (by omega), if_neg]; rintro ⟨_, h⟩; omega)
 rw [hr] at e
 simp only [Prod.mk.injEq] at e
 obtain ⟨rfl, rfl, rfl⟩ := e
 refine hQ _ _ ?_
 exact .many (.inl rfl) rfl rfl (.d rfl rfl (.d rfl rfl (.d rfl rfl (.nil))))
 simp only [risNumber, decide_eq_true_eq, decide_eq_false_iff_not] at hr15
 conv => cbv
 refine .add fun v16 hv16 => ?_
 conv => cbv
 refine .add fun v17 hv17 => ?_
 conv => cbv
 have e : (v12, v17, true) = rReadVar b p := (by rw [rv_hit hl (by omega) hk1 hkl1 hb (by omega), if_pos ⟨fun _ => by omega, by omega⟩, e14]; simp only [Prod.mk.injEq, true_and, and_true]; omega)
 rw [hr] at e
 simp only [Prod.mk.injEq] at e
 obtain ⟨rfl, rfl, rfl⟩ := e
 refine hQ _ _ ?_
 exact .many (.inl rfl) rfl rfl (.d rfl rfl (.d rfl rfl (.d rfl rfl (.nil))))
 conv => cbv
 have e : (0, 0, false) = rReadVar b p := (by rw [rv_miss hl hb (by omega) hkl])
 rw [hr] at e
 simp only [Prod.mk.injEq] at e
 obtain ⟨rfl, rfl, rfl⟩ := e
 refine hQ _ _ ?_
 exact .many (.inl rfl) rfl rfl (.d rfl rfl (.d rfl rfl (.d rfl rfl (.nil))))
end Go.Proofs.YtmhinjjgpabkfaaGreatDoor.Ab
