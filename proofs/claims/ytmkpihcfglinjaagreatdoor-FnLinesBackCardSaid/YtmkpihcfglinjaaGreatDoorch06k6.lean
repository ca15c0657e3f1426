/- What functions of the program come to, for all arguments in the given bounds. -/
import Derived.Test.YtmkpihcfglinjaaGreatDoorch29b
import Derived.Test.YtmkpihcfglinjaaGreatDoorZ10
import Derived.Lib.AtoiErrMem
import Derived.Lib.SlicesS
set_option linter.unusedVariables false
set_option linter.unusedSimpArgs false
namespace Go.Proofs.YtmkpihcfglinjaaGreatDoor.Ab
open Go Go.Proofs
set_option maxRecDepth 20000
set_option maxHeartbeats 4000000
set_option linter.unusedSimpArgs false
set_option linter.unusedVariables false
def idxI {α : Type} (p : α → Bool) (l : List α) : Int := if l.findIdx p < l.length then (l.findIdx p : Int) else -1
section
variable {α : Type} {p : α → Bool} {l : List α} {i : Int}
theorem idxI_at (h0 : 0 ≤ i) (hi : i.toNat < l.length) (h : p l[i.toNat] = true) (hb : ∀ (j : Nat) (hj : j < l.length), j < i.toNat → p l[j] = false) : i = idxI p l := by
  have e : l.findIdx p = i.toNat := (List.findIdx_eq hi).2 ⟨h, fun j hji => hb j (by omega) hji⟩
  unfold idxI
  rw [e, if_pos hi]
  omega
theorem idxI_none (hb : ∀ (j : Nat) (hj : j < l.length), p l[j] = false) : -1 = idxI p l := by
  unfold idxI
  rw [if_neg]
  intro hlt
  have := List.findIdx_getElem (w := hlt)
  rw [hb _ hlt] at this
  cases this
theorem idxI_get (e : idxI p l = i) (h : 0 ≤ i) : ∃ hi : i.toNat < l.length, p l[i.toNat] = true := by
  unfold idxI at e
  split at e
  · rename_i hlt
    have e2 : i.toNat = l.findIdx p := by omega
    refine ⟨by omega, ?_⟩
    have := List.findIdx_getElem (w := hlt)
    simpa only [e2] using this
  · omega
end
open Go.RowKit
theorem CallOk.callsV {P : Program} {f : FuncId} {as0 : List AV} {val : Value} (h : CallOk P f as0 [] ⟨.d (.sc val), [], []⟩) {w : World} (hG : Globs.ok w fun b => b < w.heap.size) {vs : Array Value}
    (hA : Args (callEnv w (fun b => b < w.heap.size) (fun _ => none) [] []) as0 vs) : Calls P f vs w fun e w' => e = .returned val ∧ Below w.heap.size w w' := by
  have hM : Mem (callCtx w (fun b => b < w.heap.size) (fun _ => none) []) (callEnv w (fun b => b < w.heap.size) (fun _ => none) [] []) := {
    os := rfl
    output := rfl
    tape := rfl
    size := Nat.le_refl _
    keep := fun _ _ _ => rfl
    shape := fun _ _ h => h
    s0 := fun _ h => h
    slt := fun _ h => h
    glob := hG
    snew := fun _ h => .inl h
    blt := fun r b h => absurd h (Nat.not_lt_zero r)
    bown := fun r R b h => absurd h (Nat.not_lt_zero r)
    bkeep := fun r R h => absurd h (Nat.not_lt_zero r)
    inj := fun r r' R R' b h => absurd h (Nat.not_lt_zero r)
    roots := fun r R h => absurd h (Nat.not_lt_zero r) }
  refine (h _ _ _ _ hM hA).mono ?_
  rintro e w' ⟨v, E', rfl, rfl, o⟩
  refine ⟨?_, ⟨o.mem.os, o.mem.tape, o.mem.output, o.mem.size, fun b hb => o.mem.keep b hb (fun hn => ?_)⟩⟩
  · have := o.rel
    have h2 := relSc this
    rw [h2]
  · obtain ⟨r, R, h1, -⟩ := hn
    simp at h1
theorem globs_below {w w' : World} (hG : Globs.ok w fun b => b < w.heap.size) (hb : Below w.heap.size w w') : Globs.ok w' fun b => b < w'.heap.size :=
  Globs.step (fun b h => Nat.lt_of_lt_of_le h hb.size) (fun b h => hb.block b h) hG
theorem CallOk.ofCallsT {P : Program} {f : FuncId} {as0 : List AV} {v1 v2 : Value} (o1 : v1.oneCell' = true) (o2 : v2.oneCell' = true) (h : ∀ (E : Env) (vs : Array Value), (∀ b, E.S b → b < E.w.heap.size) → Globs.ok E.w E.S → Args E as0 vs → Calls P f vs E.w fun e w' => e = .returned (.tuple #[v1, v2]) ∧ Below E.w.heap.size E.w w') : CallOk P f as0 [] ⟨.tup [.d (.sc v1), .d (.sc v2)], [], []⟩ := by
  intro w S β vs hM hA
  refine (h (callEnv w S β [] []) vs hM.slt hM.glob hA).mono ?_
  rintro e w' ⟨he, hb⟩
  have hb : Below w.heap.size w w' := hb
  have st : Step (callEnv w S β [] []) { callEnv w S β [] [] with w := w' } := ⟨fun r R hR => ⟨R, hR, .inr rfl⟩, fun _ h => h, fun _ _ => rfl, fun _ h => h, fun b hS => hb.block b (hM.slt b hS), fun b s hs => below_shape hb hs⟩
  refine ⟨.tuple #[v1, v2], { callEnv w S β [] [] with w := w' }, he, rfl, ?_, st, ?_, ?_, hb.size, .tup _ _ rfl ?_⟩
  · exact {
      os := hb.os.trans hM.os
      output := hb.output.trans hM.output
      tape := hb.tape.trans hM.tape
      size := hb.size
      keep := fun b hlt hn => hb.block b hlt
      shape := fun b s hs => below_shape hb hs
      s0 := hM.s0
      slt := fun b hS => Nat.lt_of_lt_of_le (hM.slt b hS) hb.size
      glob := Globs.step st.S st.heap hM.glob
      snew := hM.snew
      blt := fun r b hp hβ => absurd hp (Nat.not_lt_zero r)
      bown := fun r R b hp => absurd hp (Nat.not_lt_zero r)
      bkeep := fun r R hlt hp => absurd hp (Nat.not_lt_zero r)
      inj := fun r r' R R' b hp => absurd hp (Nat.not_lt_zero r)
      roots := fun r R hp => absurd hp (Nat.not_lt_zero r) }
  · rfl
  · intro r
    constructor
    · exact fun h => .inl h
    · rintro (h | ⟨_, h⟩)
      · exact h
      · exact absurd h (by simp)
  · intro j y hy
    match j, hy with
    | 0, hy => cases hy; exact .d _ _ (.sc _ o1)
    | 1, hy => cases hy; exact .d _ _ (.sc _ o2)
theorem txt_ne {a b : ByteArray} (h : ¬ a = b) : (a.toList == b.toList) = false := by
  rw [Bool.eq_false_iff]
  exact fun hh => h ((Lib.bytes_beq_iff _ _).1 hh)
theorem num_calls {w : World} (hG : Globs.ok w fun b => b < w.heap.size) {n : Int} {o : Bool} (hr : risNumber n = o) : Calls Tryz.prog 17 #[.int .i64 n] w fun e w' => e = .returned (.bool o) ∧ Below w.heap.size w w' := by
  refine (FiisNumber (n := n) hr).ok.callsV hG ⟨rfl, ?_⟩
  intro j y hy
  match j, hy with
  | 0, hy => cases hy; exact .d _ _ (.sc _ rfl)
theorem decFrom_app : ∀ (l m : List UInt8) (acc : Nat), Lib.decFrom acc (l ++ m) = (Lib.decFrom acc l).bind fun a => Lib.decFrom a m
  | [], _, _ => rfl
  | c :: l, m, acc => by
    simp only [List.cons_append, Lib.decFrom]
    cases Lib.digitVal c with
    | none => rfl
    | some d => exact decFrom_app l m _
theorem digitVal_of {n : Nat} (h : n < 10) : Lib.digitVal (UInt8.ofNat (48 + n)) = some n := by
  have e : (UInt8.ofNat (48 + n)).toNat = 48 + n := by rw [UInt8.toNat_ofNat', Nat.mod_eq_of_lt (by omega)]
  unfold Lib.digitVal
  rw [e, if_pos (by omega)]
  congr 1
  omega
theorem dec_digits (u : Nat) : Lib.decFrom 0 (Lib.decDigits u) = some u := by
  induction u using Nat.strongRecOn with
  | _ u ih =>
    by_cases h : u < 10
    · rw [Lib.decDigits, dif_pos h]
      simp only [Lib.decFrom, digitVal_of h]
      congr 1
      omega
    · rw [Lib.decDigits, dif_neg h, decFrom_app, ih (u / 10) (by omega)]
      simp only [Option.bind_some, Lib.decFrom, digitVal_of (show u % 10 < 10 by omega)]
      congr 1
      omega
def rReadDecimal (t : ByteArray) : Int × Bool := match Lib.decFrom 0 t.data.toList with
  | some n => if n ≤ 1000000000 ∧ rDecimal (n : Int) = t then ((n : Int), true) else (0, false)
  | none => (0, false)
theorem dec_end {t : ByteArray} {m : Nat} (h : Lib.decFrom 0 t.data.toList = some m) : rReadDecimal t = if m ≤ 1000000000 ∧ rDecimal (m : Int) = t then ((m : Int), true) else (0, false) := by
  unfold rReadDecimal
  rw [h]
theorem dec_size {n : Int} {t : ByteArray} (e : rDecimal n = t) (h0 : 0 ≤ n) (h : n ≤ 1000000000) : 1 ≤ t.size ∧ t.size ≤ 10 := by
  rw [← e]
  unfold rDecimal Lib.itoa
  rw [tx_size, if_neg (by omega)]
  exact decDigits_len 9 n.toNat (by omega)
theorem read_dec {n : Int} (h0 : 0 ≤ n) (h : n ≤ 1000000000) : rReadDecimal (rDecimal n) = (n, true) := by
  have e : Lib.decFrom 0 (rDecimal n).data.toList = some n.toNat := by
    unfold rDecimal Lib.itoa
    rw [data_tx, if_neg (by omega)]
    exact dec_digits _
  rw [dec_end e, if_pos ⟨by omega, by rw [Int.toNat_of_nonneg h0]⟩, Int.toNat_of_nonneg h0]
theorem decFrom_ge : ∀ (l : List UInt8) (acc n : Nat), Lib.decFrom acc l = some n → acc ≤ n
  | [], acc, n, h => by simp only [Lib.decFrom, Option.some.injEq] at h; omega
  | c :: l, acc, n, h => by
    simp only [Lib.decFrom] at h
    split at h
    · have := decFrom_ge l _ n h
      omega
    · cases h
theorem parse_dec : ∀ (l : List UInt8) (acc n : Nat), Lib.decFrom acc l = some n → n ≤ 1000000000 → Lib.parseUint10 acc l = .ok n
  | [], acc, n, h, _ => by simp only [Lib.decFrom, Option.some.injEq] at h; rw [h]; rfl
  | c :: l, acc, n, h, hn => by
    simp only [Lib.decFrom, Lib.digitVal] at h
    unfold Lib.parseUint10
    by_cases hc : 48 ≤ c.toNat ∧ c.toNat ≤ 57
    · rw [if_pos hc] at h ⊢
      have := decFrom_ge l _ n h
      rw [if_neg (by omega), if_neg (by omega)]
      exact parse_dec l _ n h hn
    · rw [if_neg hc] at h
      cases h
theorem atoi_dec {l : List UInt8} {n : Nat} (h : Lib.decFrom 0 l = some n) (hl : l ≠ []) (hn : n ≤ 1000000000) : Lib.atoiAll l = .ok n := by
  cases l with
  | nil => exact absurd rfl hl
  | cons c r =>
    obtain ⟨d, hd⟩ := Lib.digit_of_decFrom _ _ _ h 0 c rfl
    unfold Lib.digitVal at hd
    have hc : 48 ≤ c.toNat ∧ c.toNat ≤ 57 := by
      by_cases hc : 48 ≤ c.toNat ∧ c.toNat ≤ 57
      · exact hc
      · rw [if_neg hc] at hd; cases hd
    have h45 : ¬ c.toNat = 45 := by omega
    unfold Lib.atoiAll
    simp only [if_neg (show ¬ (c.toNat = 43 ∨ c.toNat = 45) by omega), Lib.parseMag, if_neg (show ¬ (c :: r = []) by simp), parse_dec _ _ _ h hn]
    rw [if_neg (by omega), if_neg (by omega), if_neg h45]
theorem read_atoi (t : ByteArray) : rReadDecimal t = match Lib.atoiAll t.data.toList with
    | .ok v => if risNumber v = true ∧ rDecimal v = t then (v, true) else (0, false)
    | _ => (0, false) := by
  cases hd : Lib.decFrom 0 t.data.toList with
  | some n =>
    rw [dec_end hd]
    by_cases hc : n ≤ 1000000000 ∧ rDecimal (n : Int) = t
    · have hne : t.data.toList ≠ [] := by
        intro e
        have := (dec_size hc.2 (by omega) (by omega)).1
        have hs : t.data.toList.length = t.size := Array.length_toList
        rw [e] at hs
        simp at hs
        omega
      rw [if_pos hc, atoi_dec hd hne hc.1]
      simp only []
      rw [if_pos ⟨by unfold risNumber; exact decide_eq_true (by omega), hc.2⟩]
    · rw [if_neg hc]
      split
      · rename_i v hv
        rw [if_neg]
        rintro ⟨h1, h2⟩
        unfold risNumber at h1
        rw [decide_eq_true_eq] at h1
        have e : Lib.decFrom 0 t.data.toList = some v.toNat := by
          rw [← h2]
          unfold rDecimal Lib.itoa
          rw [data_tx, if_neg (by omega)]
          exact dec_digits _
        rw [hd] at e
        have e2 := Option.some.inj e
        exact hc ⟨by omega, by rw [e2, Int.toNat_of_nonneg h1.1]; exact h2⟩
      · rfl
  | none =>
    have e0 : rReadDecimal t = (0, false) := by unfold rReadDecimal; rw [hd]
    rw [e0]
    split
    · rename_i v hv
      rw [if_neg]
      rintro ⟨h1, h2⟩
      unfold risNumber at h1
      rw [decide_eq_true_eq] at h1
      have e : Lib.decFrom 0 t.data.toList = some v.toNat := by
        rw [← h2]
        unfold rDecimal Lib.itoa
        rw [data_tx, if_neg (by omega)]
        exact dec_digits _
      rw [hd] at e
      cases e
    · rfl
theorem dec_calls {w : World} (hG : Globs.ok w fun b => b < w.heap.size) {n : Int} {o : ByteArray} (hn : in64 n) (hr : rDecimal n = o) : Calls Tryz.prog 44 #[.int .i64 n] w fun e w' => e = .returned (.string o) ∧ Below w.heap.size w w' := by
  refine (FiDecimal (n := n) hn hr).ok.callsV hG ⟨rfl, ?_⟩
  intro j y hy
  match j, hy with
  | 0, hy => cases hy; exact .d _ _ (.sc _ rfl)
theorem atoi_lt {l : List UInt8} {v : Int} (h : Lib.atoiAll l = .ok v) : in64 v := by
  cases l with
  | nil => cases h
  | cons c r =>
    unfold Lib.atoiAll at h
    simp only at h
    unfold in64
    split at h
    · cases h
    · cases h
    · split at h
      · cases h
      · split at h
        · cases h
        · simp only [Lib.NumEnd.ok.injEq] at h
          split at h <;> omega
set_option maxHeartbeats 1000000 in
set_option maxRecDepth 100000 in
theorem readDec_calls {text : ByteArray} (hs : text.size ≤ 1000000000) {w : World} (hG : Globs.ok w fun b => b < w.heap.size) : Calls Tryz.prog 49 #[.string text] w fun e w' =>
    e = .returned (.tuple #[.int .i64 (rReadDecimal text).1, .bool (rReadDecimal text).2]) ∧ Below w.heap.size w w' := by
  have hG2 : ∀ {w : World}, (Globs.ok w fun b => b < w.heap.size) → IfaceIs w 3 := fun h => globs_3 h
  have hG3 : ∀ {w : World}, (Globs.ok w fun b => b < w.heap.size) → IfaceIs w 4 := fun h => globs_4 h
  rw [read_atoi]
  cases ha : Lib.atoiAll text.data.toList
  · rename_i v
    dsimp only
    have hv := atoi_lt ha
    have hp := fun w => Tryz.strconv_Atoi_ok text (by omega) v ha w
    cases hn : risNumber v with
    | false =>
      simp only [Bool.false_eq_true, false_and, if_false]
      go_enter Tryz.func49, Tryz.ntmps49
      go_wp2_with (first
        | (go_at_call 66; refine (hp _).mono ?_; rintro e w1 ⟨rfl, hb⟩; have hb1 : Below w.heap.size w w1 := (by rcases hb with rfl | ⟨t, rfl⟩; exact Below.refl _ _; exact Lib.bytesWorld_below _ _ _); clear hb; have hG1 := globs_below hG hb1)
        | (go_at_call 17; refine (num_calls hG1 hn).mono ?_; rintro e w2 ⟨rfl, hb2⟩; have hG2_ := globs_below hG1 hb2))
      go_ret2
      exact ⟨rfl, hb1.trans (hb2.mono hb1.size)⟩
    | true =>
      obtain ⟨o, ho⟩ : ∃ o, rDecimal v = o := ⟨_, rfl⟩
      by_cases he : o = text
      · simp only [ho, he, true_and, if_true]
        subst he
        go_enter Tryz.func49, Tryz.ntmps49
        go_wp2_with (first
          | (go_at_call 66; refine (hp _).mono ?_; rintro e w1 ⟨rfl, hb⟩; have hb1 : Below w.heap.size w w1 := (by rcases hb with rfl | ⟨t, rfl⟩; exact Below.refl _ _; exact Lib.bytesWorld_below _ _ _); clear hb; have hG1 := globs_below hG hb1)
          | (go_at_call 17; refine (num_calls hG1 hn).mono ?_; rintro e w2 ⟨rfl, hb2⟩; have hG2_ := globs_below hG1 hb2)
          | (go_at_call 44; refine (dec_calls hG2_ hv ho).mono ?_; rintro e w3 ⟨rfl, hb3⟩))
        go_ret2
        exact ⟨rfl, (hb1.trans (hb2.mono hb1.size)).trans (hb3.mono (hb1.trans (hb2.mono hb1.size)).size)⟩
      · simp only [ho, he, and_false, if_false]
        have hs1 := txt_ne he
        go_enter Tryz.func49, Tryz.ntmps49
        go_wp2_with (first
          | (go_at_call 66; refine (hp _).mono ?_; rintro e w1 ⟨rfl, hb⟩; have hb1 : Below w.heap.size w w1 := (by rcases hb with rfl | ⟨t, rfl⟩; exact Below.refl _ _; exact Lib.bytesWorld_below _ _ _); clear hb; have hG1 := globs_below hG hb1)
          | (go_at_call 17; refine (num_calls hG1 hn).mono ?_; rintro e w2 ⟨rfl, hb2⟩; have hG2_ := globs_below hG1 hb2)
          | (go_at_call 44; refine (dec_calls hG2_ hv ho).mono ?_; rintro e w3 ⟨rfl, hb3⟩))
        go_ret2
        exact ⟨rfl, (hb1.trans (hb2.mono hb1.size)).trans (hb3.mono (hb1.trans (hb2.mono hb1.size)).size)⟩
  · dsimp only
    obtain ⟨ev, h1, h2⟩ := hG2 hG
    have hp := Tryz.strconv_Atoi_syntax text (by omega) ha ev w h1 h2
    go_enter Tryz.func49, Tryz.ntmps49
    go_wp2_with (go_at_call 66; refine hp.mono ?_; rintro e w1 ⟨N, rfl, -, -, hb1⟩)
    go_ret2
    exact ⟨rfl, hb1⟩
  · dsimp only
    obtain ⟨ev, h1, h2⟩ := hG3 hG
    have hp := Tryz.strconv_Atoi_range text (by omega) ha ev w h1 h2
    go_enter Tryz.func49, Tryz.ntmps49
    go_wp2_with (go_at_call 66; refine hp.mono ?_; rintro e w1 ⟨N, rfl, -, -, hb1⟩)
    go_ret2
    exact ⟨rfl, hb1⟩
theorem FiReadDecimal {text : ByteArray} {oa : Int} {ob : Bool} (hs : text.size ≤ 1000000000) (hr : rReadDecimal text = (oa, ob)) : Fn Tryz.prog 49 [S text] [] ⟨.tup [I oa, B ob], [], []⟩ := by
 refine ⟨entered_of Tryz.func49 rfl rfl, CallOk.ofCallsT rfl rfl fun E vs hS hG hA => ?_⟩
 obtain ⟨u, rfl, h1⟩ := args1 hA
 rw [relSc h1]
 have h2 := readDec_calls hs (Globs.step hS (fun _ _ => rfl) hG)
 rw [hr] at h2
 exact h2
end Go.Proofs.YtmkpihcfglinjaaGreatDoor.Ab
