/- What functions of the program come to, for all arguments in the given bounds. -/
import Derived.Test.YtmkpihcfglinjaaGreatDoorch29d
import Derived.Test.YtmkpihcfglinjaaGreatDoorZ10
import Derived.Below
set_option linter.unusedVariables false
set_option linter.unusedSimpArgs false
namespace Go.Proofs.YtmkpihcfglinjaaGreatDoor.Ab
open Go Go.Proofs
set_option maxRecDepth 20000
set_option maxHeartbeats 4000000
set_option linter.unusedSimpArgs false
set_option linter.unusedVariables false
def tab_ch29e : List (Nat × TyRow) := [
  (3, ⟨.int .i64, some 1, some false, none, false, [.int .i64], [], some [(.int .i64 0, 0)], none, none, none⟩),
  (5, ⟨.int .u8, some 1, some false, none, false, [.int .u8], [], some [(.int .u8 0, 0)], none, none, none⟩),
  (9, ⟨.str, some 1, some false, none, false, [.str], [], some [(.string default, 0)], none, none, none⟩),
  (22, ⟨.sl 1, some 1, some false, some (1, 1), true, [.sl 1], [], some [(.slice none 0 0, 1)], some ([.sc (.int .u8 0)], 1, 1), none, none⟩)]
theorem tab_ch29e_ok : TabOk Tryz.prog tab_ch29e := TabOk.of (by kernel_rfl)
theorem su_ch29e : Setup Tryz.prog tab_ch29e := ⟨tab_ch29e_ok, mixed⟩
def hexW (c : UInt8) : Nat := if 48 ≤ c.toNat ∧ c.toNat ≤ 57 then c.toNat - 48 else if 97 ≤ c.toNat ∧ c.toNat ≤ 102 then c.toNat - 87 else 16
def unh : List UInt8 → Option (List UInt8)
  | [] => some []
  | [_] => none
  | a :: b :: l => if hexW a = 16 ∨ hexW b = 16 then none else (unh l).map fun r => UInt8.ofNat (16 * hexW a + hexW b) :: r
def rreadHex (s : ByteArray) : ByteArray × Bool := match unh s.data.toList with | some l => (tx l, true) | none => (tx [], false)
def rUnhex (s : ByteArray) : ByteArray × Bool := if (rreadHex s).2 = true ∧ (rreadHex s).1.size ≤ 20000 then rreadHex s else (tx [], false)
def rhexDigit (c : Int) : Int := if 48 ≤ c ∧ c ≤ 57 then c - 48 else if 97 ≤ c ∧ c ≤ 102 then c - 87 else 16
theorem hexW_le (c : UInt8) : hexW c ≤ 16 := by unfold hexW; split <;> (try split) <;> omega
theorem digit_w {c : UInt8} : rhexDigit (c.toNat : Int) = hexW c := by
  unfold rhexDigit hexW
  split <;> split <;> (try split) <;> (try split) <;> omega
theorem unh_len : ∀ {l r : List UInt8}, unh l = some r → l.length = 2 * r.length
  | [], r, h => by cases h; rfl
  | [_], r, h => by cases h
  | a :: b :: l, r, h => by
    unfold unh at h
    split at h
    · cases h
    · obtain ⟨q, hq, rfl⟩ := Option.map_eq_some_iff.1 h
      have := unh_len hq
      simp only [List.length_cons]
      omega
theorem unh_at {l : List UInt8} {i : Nat} (h : i + 1 < l.length) : unh (l.drop i) = if hexW l[i] = 16 ∨ hexW l[i + 1] = 16 then none else (unh (l.drop (i + 2))).map fun r => UInt8.ofNat (16 * hexW l[i] + hexW l[i + 1]) :: r := by
  rw [List.drop_eq_getElem_cons (show i < l.length by omega), List.drop_eq_getElem_cons (show i + 1 < l.length by omega)]
  rfl
def UInv (l : List UInt8) (i : Nat) (w : List UInt8) : Prop := i % 2 = 0 ∧ 2 * w.length = i ∧ unh l = (unh (l.drop i)).map (w ++ ·)
theorem UInv.init {l : List UInt8} : UInv l 0 [] := ⟨rfl, rfl, by simp⟩
theorem UInv.bad {l w : List UInt8} {i : Nat} (h : UInv l i w) (hi : i + 1 < l.length) (hb : hexW l[i] = 16 ∨ hexW l[i + 1] = 16) : unh l = none := by
  rw [h.2.2, unh_at hi, if_pos hb]; rfl
theorem UInv.next {l w : List UInt8} {i : Nat} (h : UInv l i w) (hi : i + 1 < l.length) (hb : ¬ (hexW l[i] = 16 ∨ hexW l[i + 1] = 16)) : UInv l (i + 2) (w ++ [UInt8.ofNat (16 * hexW l[i] + hexW l[i + 1])]) := by
  refine ⟨by have := h.1; omega, by have := h.2.1; simp; omega, ?_⟩
  rw [h.2.2, unh_at hi, if_neg hb, Option.map_map]
  congr 1
  funext r
  simp
theorem UInv.fin {l w : List UInt8} {i : Nat} (h : UInv l i w) (hi : l.length ≤ i) : unh l = some w := by
  rw [h.2.2, List.drop_of_length_le hi]
  simp [unh]
theorem rh_no {s : ByteArray} (h : unh s.data.toList = none) : (tx [], false) = rreadHex s := by unfold rreadHex; rw [h]
theorem rh_yes {s : ByteArray} {w : List UInt8} (h : unh s.data.toList = some w) : (tx w, true) = rreadHex s := by unfold rreadHex; rw [h]
theorem rh_odd {s : ByteArray} (h : s.size % 2 = 1) : unh s.data.toList = none := by
  cases hu : unh s.data.toList with
  | none => rfl
  | some r =>
    have := unh_len hu
    have hl : s.data.toList.length = s.size := Array.length_toList
    omega
theorem uh_none {s : ByteArray} (h : unh s.data.toList = none) : (tx [], false) = rUnhex s := by unfold rUnhex; rw [← rh_no h, if_neg (by rintro ⟨h, _⟩; cases h)]
theorem uh_some {s : ByteArray} {w : List UInt8} (h : unh s.data.toList = some w) (hs : s.size ≤ 40000) : (tx w, true) = rUnhex s := by
  have := unh_len h
  have hl : s.data.toList.length = s.size := Array.length_toList
  unfold rUnhex
  rw [← rh_yes h, if_pos ⟨rfl, by dsimp only; rw [tx_size]; omega⟩]
theorem uh_b {s t : ByteArray} {b : Bool} (h : rUnhex s = (t, b)) : t.size ≤ 20000 := by
  unfold rUnhex at h
  split at h
  · rename_i h2
    rw [h] at h2
    exact h2.2
  · rw [← (Prod.mk.inj h).1]; decide
theorem byte_cell {v : Int} (h : 0 ≤ v ∧ v < 256) : [D.sc (.int .u8 v)] = cB (UInt8.ofNat v.toNat) := by
  show _ = [D.sc (.int .u8 ((UInt8.ofNat v.toNat).toNat : Int))]
  rw [UInt8.toNat_ofNat', Nat.mod_eq_of_lt (by omega), Int.toNat_of_nonneg h.1]
theorem or_hex {x y : Nat} (hx : x < 16) (hy : y < 16) : bitI .or .u8 (IntKind.u8.wrap ((x : Int) * 2 ^ min (4 : Int).toNat IntKind.u8.bits)) (y : Int) = ((16 * x + y : Nat) : Int) := by
  have : ∀ a b : Fin 16, bitI .or .u8 (IntKind.u8.wrap ((a.val : Int) * 2 ^ min (4 : Int).toNat IntKind.u8.bits)) (b.val : Int) = ((16 * a.val + b.val : Nat) : Int) := by decide
  exact this ⟨x, hx⟩ ⟨y, hy⟩
theorem hexW_fig {k : Nat} (h : k < 16) : hexW (fig (k : Int)) = k := by
  have : ∀ a : Fin 16, hexW (fig (a.val : Int)) = a.val := by decide
  exact this ⟨k, h⟩
theorem unh_hex2 : ∀ (l : List UInt8), unh (l.flatMap hex2) = some l
  | [] => rfl
  | b :: l => by
    have h := b.toNat_lt
    rw [List.flatMap_cons]
    show unh (fig _ :: fig _ :: l.flatMap hex2) = _
    unfold unh
    rw [hexW_fig (show b.toNat / 16 < 16 by omega), hexW_fig (show b.toNat % 16 < 16 by omega), if_neg (by omega), unh_hex2 l, Option.map_some]
    congr 2
    apply UInt8.toNat_inj.1
    rw [UInt8.toNat_ofNat', Nat.mod_eq_of_lt (by omega)]
    omega
theorem unhex_hexd {t : ByteArray} (h : t.size ≤ 200) : (rUnhex (rhexOrDash t)).1 = t := by
  have hl : t.data.toList.length = t.size := Array.length_toList
  have hx : rHex t = (rhexText t, true) := by unfold rHex; rw [if_neg (by omega)]
  unfold rhexOrDash
  rw [hx]
  dsimp only
  split
  · rename_i h0
    have h1 : t.data.toList = [] := by
      have := congrArg ByteArray.size h0
      unfold rhexText at this
      rw [tx_size, tx_size, hex2_len] at this
      simp only [List.length_nil] at this
      exact List.eq_nil_of_length_eq_zero (by omega)
    rw [← uh_none (s := tx [45]) (by rfl), bytes_tx t, h1]
  · have hs : (rhexText t).size = 2 * t.size := by unfold rhexText; rw [tx_size, hex2_len, hl]
    rw [← uh_some (s := rhexText t) (w := t.data.toList) (by unfold rhexText; rw [data_tx]; exact unh_hex2 _) (by omega), ← bytes_tx]
theorem FihexDigit {c : Int} {o : Int}  (hc : 0 ≤ c ∧ c < 256) (hr : rhexDigit c = o)  : Fn Tryz.prog 65 [.d (.sc (.int .u8 c))] [] ⟨.d (.sc (.int .u8 o)), [], []⟩ := by
 refine Fn.go su_ch29e Tryz.func65 fun P hP Q hQ => ?_
 conv => cbv
 refine .geq (fun h1 => ?_) fun h1 => ?_
 conv => cbv
 refine .leq (fun h2 => ?_) fun h2 => ?_
 conv => cbv
 refine .subW fun v3 hv3 => ?_
 conv => cbv
 have e : v3 = rhexDigit c := (by unfold rhexDigit; first | (rw [if_pos (by omega)]; simp only [*, u8_wrap]; omega) | (rw [if_neg (by omega), if_pos (by omega)]; simp only [*, u8_wrap]; omega) | (rw [if_neg (by omega), if_neg (by omega)]))
 rw [hr] at e
 subst e
 exact hQ _ _ (.i rfl rfl)
 conv => cbv
 refine .geq (fun h3 => ?_) fun h3 => ?_
 conv => cbv
 refine .leq (fun h4 => ?_) fun h4 => ?_
 conv => cbv
 refine .subW fun v5 hv5 => ?_
 conv => cbv
 refine .addW fun v6 hv6 => ?_
 conv => cbv
 have e : v6 = rhexDigit c := (by unfold rhexDigit; first | (rw [if_pos (by omega)]; simp only [*, u8_wrap]; omega) | (rw [if_neg (by omega), if_pos (by omega)]; simp only [*, u8_wrap]; omega) | (rw [if_neg (by omega), if_neg (by omega)]))
 rw [hr] at e
 subst e
 exact hQ _ _ (.i rfl rfl)
 conv => cbv
 have e : 16 = rhexDigit c := (by unfold rhexDigit; first | (rw [if_pos (by omega)]; simp only [*, u8_wrap]; omega) | (rw [if_neg (by omega), if_pos (by omega)]; simp only [*, u8_wrap]; omega) | (rw [if_neg (by omega), if_neg (by omega)]))
 rw [hr] at e
 subst e
 exact hQ _ _ (.i rfl rfl)
 conv => cbv
 have e : 16 = rhexDigit c := (by unfold rhexDigit; first | (rw [if_pos (by omega)]; simp only [*, u8_wrap]; omega) | (rw [if_neg (by omega), if_pos (by omega)]; simp only [*, u8_wrap]; omega) | (rw [if_neg (by omega), if_neg (by omega)]))
 rw [hr] at e
 subst e
 exact hQ _ _ (.i rfl rfl)
 conv => cbv
 refine .geq (fun h2 => ?_) fun h2 => ?_
 conv => cbv
 refine .leq (fun h3 => ?_) fun h3 => ?_
 conv => cbv
 refine .subW fun v4 hv4 => ?_
 conv => cbv
 refine .addW fun v5 hv5 => ?_
 conv => cbv
 have e : v5 = rhexDigit c := (by unfold rhexDigit; first | (rw [if_pos (by omega)]; simp only [*, u8_wrap]; omega) | (rw [if_neg (by omega), if_pos (by omega)]; simp only [*, u8_wrap]; omega) | (rw [if_neg (by omega), if_neg (by omega)]))
 rw [hr] at e
 subst e
 exact hQ _ _ (.i rfl rfl)
 conv => cbv
 have e : 16 = rhexDigit c := (by unfold rhexDigit; first | (rw [if_pos (by omega)]; simp only [*, u8_wrap]; omega) | (rw [if_neg (by omega), if_pos (by omega)]; simp only [*, u8_wrap]; omega) | (rw [if_neg (by omega), if_neg (by omega)]))
 rw [hr] at e
 subst e
 exact hQ _ _ (.i rfl rfl)
 conv => cbv
 have e : 16 = rhexDigit c := (by unfold rhexDigit; first | (rw [if_pos (by omega)]; simp only [*, u8_wrap]; omega) | (rw [if_neg (by omega), if_pos (by omega)]; simp only [*, u8_wrap]; omega) | (rw [if_neg (by omega), if_neg (by omega)]))
 rw [hr] at e
 subst e
 exact hQ _ _ (.i rfl rfl)
theorem FireadHex {s : ByteArray} {oa : ByteArray} {ob : Bool}  (hs : s.size ≤ 1000000000) (hr : rreadHex s = (oa, ob))  : Fn Tryz.prog 48 [S s] [] ⟨.tup [S oa, B ob], [], []⟩ := by
 refine Fn.go su_ch29e Tryz.func48 fun P hP Q hQ => ?_
 conv => cbv
 refine .go fun v1 hv1 => ?_
 conv => cbv
 refine .rem fun v2 hv2 => ?_
 conv => cbv
 refine .eql (fun h3 => ?_) fun h3 => ?_
 conv => cbv
 have e : ((tx []), false) = rreadHex s := (by exact rh_no (rh_odd (by omega)))
 rw [hr] at e
 simp only [Prod.mk.injEq] at e
 obtain ⟨rfl, rfl⟩ := e
 refine hQ _ _ ?_
 exact .many (.inl rfl) rfl rfl (.d rfl rfl (.d rfl rfl (.nil)))
 conv => cbv
 refine .go fun v4 hv4 => ?_
 conv => cbv
 refine .quo fun v5 hv5 => ?_
 conv => cbv
 refine .cap (c := cB) fun z6 nz6 hnz6 hz6 => ?_
 conv => cbv
 refine LoopW.lp (κ := Int × (List (List D)) × Nat) su_ch29e hP [0] [0] (fun (i5, zw1, nw1) => [(4, .ref 1 0 nw1), (5, I i5)]) (fun (i5, zw1, nw1) => [(1, .row 1 false zw1)])
   (fun (i5, zw1, nw1) => ∃ (w1 : List UInt8), w1.map cB = zw1 ∧ nw1 = w1.length ∧ 0 ≤ i5 ∧ i5 ≤ s.size ∧ UInv s.data.toList i5.toNat w1)
   (fun (i5, zw1, nw1) => (s.size - i5).toNat) (0, z6, nz6) ⟨[], hz6, (by first | omega | (simp; omega)), by omega, by omega, UInv.init⟩ ⟨rfl, rfl, trivial⟩ rfl ?_
 rintro ⟨i5, zw1, nw1⟩ J ⟨w1, hw1, hnw1, h0, h1, hu⟩ hJ
 have hue := hu.1
 have huw := hu.2.1
 conv => cbv
 refine .go fun v7 hv7 => ?_
 conv => cbv
 refine .lss (fun h8 => ?_) fun h8 => ?_
 conv => cbv
 refine .go i5.toNat fun hjv9 v9 hv9 bv9 => ?_
 conv => cbv
 have hb9 := s[i5.toNat].toNat_lt
 generalize hr10 : rhexDigit v9 = r10
 refine .dd hP (FihexDigit (by omega) hr10) ?_
 conv => cbv
 refine .add fun v11 hv11 => ?_
 conv => cbv
 refine .go v11.toNat fun hjv12 v12 hv12 bv12 => ?_
 conv => cbv
 have hb12 := s[v11.toNat].toNat_lt
 generalize hr13 : rhexDigit v12 = r13
 refine .dd hP (FihexDigit (by omega) hr13) ?_
 conv => cbv
 have hg0 : s.data.toList[i5.toNat]'(by rw [Array.length_toList]; show i5.toNat < s.size; omega) = s[i5.toNat] := byte_get6 _
 have hg1 : s.data.toList[i5.toNat + 1]'(by rw [Array.length_toList]; show i5.toNat + 1 < s.size; omega) = s[v11.toNat] := by rw [byte_get6 (by omega)]; congr 1; omega
 have hln : s.data.toList.length = s.size := Array.length_toList
 have hr10w : r10 = hexW (s[i5.toNat]) := by rw [← hr10, hv9]; exact digit_w
 have hr13w : r13 = hexW (s[v11.toNat]) := by rw [← hr13, hv12]; exact digit_w
 have hw0 := hexW_le (s[i5.toNat])
 have hw1_ := hexW_le (s[v11.toNat])
 refine .eql (fun h14 => ?_) fun h14 => ?_
 conv => cbv
 have e : ((tx []), false) = rreadHex s := (by exact rh_no (hu.bad (by omega) (by rw [hg0, hg1]; omega)))
 rw [hr] at e
 simp only [Prod.mk.injEq] at e
 obtain ⟨rfl, rfl⟩ := e
 refine hQ _ _ ?_
 exact .many (.inl rfl) rfl rfl (.d rfl rfl (.d rfl rfl (.nil)))
 conv => cbv
 refine .eql (fun h15 => ?_) fun h15 => ?_
 conv => cbv
 have e : ((tx []), false) = rreadHex s := (by exact rh_no (hu.bad (by omega) (by rw [hg0, hg1]; omega)))
 rw [hr] at e
 simp only [Prod.mk.injEq] at e
 obtain ⟨rfl, rfl⟩ := e
 refine hQ _ _ ?_
 exact .many (.inl rfl) rfl rfl (.d rfl rfl (.d rfl rfl (.nil)))
 conv => cbv
 refine .shlW fun v16 hv16 => ?_
 conv => cbv
 refine .or fun v17 hv17 => ?_
 conv => cbv
 have hv17e : v17 = ((16 * hexW (s[i5.toNat]) + hexW (s[v11.toNat]) : Nat) : Int) := by rw [hv17, hv16, hr10w, hr13w]; exact or_hex (by omega) (by omega)
 refine .one (UInt8.ofNat v17.toNat) hw1 (byte_cell (by omega)) fun nz18 z18 hnz18 hz18 => ?_
 conv => cbv
 refine .add fun v19 hv19 => ?_
 conv => cbv
 exact .go [3] (v19, z18, nz18) (hJ _ ⟨_, hz18, (by first | omega | (simp; omega) | (simp only [List.length_append, List.length_cons, List.length_nil] at *; omega)), by omega, by omega, by rw [show v19.toNat = i5.toNat + 2 by omega]; have := hu.next (by omega) (by rw [hg0, hg1]; omega); rw [hg0, hg1] at this; rw [show v17.toNat = 16 * hexW (s[i5.toNat]) + hexW (s[v11.toNat]) by omega]; exact this⟩ (by first | (dsimp only; omega) | omega))
 conv => cbv
 refine .go hw1 fun s9 hs9 => ?_
 conv => cbv
 have e : (s9, true) = rreadHex s := (by rw [hs9]; exact rh_yes (hu.fin (by rw [Array.length_toList]; show s.size ≤ _; omega)))
 rw [hr] at e
 simp only [Prod.mk.injEq] at e
 obtain ⟨rfl, rfl⟩ := e
 refine hQ _ _ ?_
 exact .many (.inl rfl) rfl rfl (.d rfl rfl (.d rfl rfl (.nil)))
theorem FiUnhex {text : ByteArray} {oa : ByteArray} {ob : Bool}  (hs : text.size ≤ 1000000000) (hr : rUnhex text = (oa, ob))  : Fn Tryz.prog 25 [S text] [] ⟨.tup [S oa, B ob], [], []⟩ := by
 refine Fn.go su_ch29e Tryz.func25 fun P hP Q hQ => ?_
 conv => cbv
 rcases hr1 : rreadHex text with ⟨r1a, r1b⟩
 refine .dd hP (FireadHex hs hr1) ?_
 conv => cbv
 cases r1b
 conv => cbv
 have e : ((tx []), false) = rUnhex text := (by unfold rUnhex; rw [hr1, if_neg (by rintro ⟨h, _⟩; cases h)])
 rw [hr] at e
 simp only [Prod.mk.injEq] at e
 obtain ⟨rfl, rfl⟩ := e
 refine hQ _ _ ?_
 exact .many (.inl rfl) rfl rfl (.d rfl rfl (.d rfl rfl (.nil)))
 conv => cbv
 refine .go fun v2 hv2 => ?_
 conv => cbv
 refine .gtr (fun h3 => ?_) fun h3 => ?_
 conv => cbv
 have e : ((tx []), false) = rUnhex text := (by unfold rUnhex; rw [hr1, if_neg (by rintro ⟨_, h⟩; dsimp only at h; omega)])
 rw [hr] at e
 simp only [Prod.mk.injEq] at e
 obtain ⟨rfl, rfl⟩ := e
 refine hQ _ _ ?_
 exact .many (.inl rfl) rfl rfl (.d rfl rfl (.d rfl rfl (.nil)))
 conv => cbv
 have e : (r1a, true) = rUnhex text := (by unfold rUnhex; rw [hr1, if_pos ⟨rfl, by dsimp only; omega⟩])
 rw [hr] at e
 simp only [Prod.mk.injEq] at e
 obtain ⟨rfl, rfl⟩ := e
 refine hQ _ _ ?_
 exact .many (.inl rfl) rfl rfl (.d rfl rfl (.d rfl rfl (.nil)))
end Go.Proofs.YtmkpihcfglinjaaGreatDoor.Ab
