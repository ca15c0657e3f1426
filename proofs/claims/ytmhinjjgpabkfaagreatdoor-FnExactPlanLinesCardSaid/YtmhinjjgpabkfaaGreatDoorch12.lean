/- What functions of the program come to, for all arguments in the given bounds. -/
import Derived.Test.YtmhinjjgpabkfaaGreatDoorch11c
set_option linter.unusedVariables false
set_option linter.unusedSimpArgs false
namespace Go.Proofs.YtmhinjjgpabkfaaGreatDoor.Ab
open Go Go.Proofs
set_option maxRecDepth 20000
set_option maxHeartbeats 4000000
set_option linter.unusedSimpArgs false
set_option linter.unusedVariables false
def tab_ch12 : List (Nat × TyRow) := [
  (3, ⟨.int .i64, some 1, some false, none, false, [.int .i64], [], some [(.int .i64 0, 0)], none, none, none⟩),
  (9, ⟨.str, some 1, some false, none, false, [.str], [], some [(.string default, 0)], none, none, none⟩),
  (22, ⟨.sl 1, some 1, some false, some (1, 1), true, [.sl 1], [], some [(.slice none 0 0, 1)], some ([.sc (.int .u8 0)], 1, 1), none, none⟩),
  (24, ⟨.sl 1, some 1, some false, some (1, 8), false, [.sl 1], [], some [(.slice none 0 0, 1)], some ([.sc (.int .i64 0)], 1, 8), none, none⟩),
  (41, ⟨.sl 1, some 1, some false, some (1, 16), false, [.sl 1], [], some [(.slice none 0 0, 1)], some ([.sc (.string default)], 1, 16), none, none⟩),
  (99, ⟨.other, some 4, some true, none, false, [.int .i64, .int .i64, .int .i64, .int .i64], [some (0, 1, false), some (1, 1, false), some (2, 1, false), some (3, 1, false)], some [(.int .i64 0, 0), (.int .i64 0, 0), (.int .i64 0, 0), (.int .i64 0, 0)], none, some [(0, 1), (1, 1), (2, 1), (3, 1)], some [.int, .int, .int, .int]⟩),
  (125, ⟨.other, some 2, some true, none, false, [.other, .sl 1], [some (0, 1, false), some (1, 1, false)], some [(.pointer none, 0), (.slice none 0 0, 1)], none, some [(0, 1), (1, 1)], none⟩)]
theorem tab_ch12_ok : TabOk Tryz.prog tab_ch12 := TabOk.of (by kernel_rfl)
theorem su_ch12 : Setup Tryz.prog tab_ch12 := ⟨tab_ch12_ok, mixed⟩
def seFrames (v : Int) : Int → List ByteArray → List UInt8
  | _, [] => []
  | p, r :: l => (rFrameText v p r).data.toList ++ seFrames v (p + 1) l
def seOffs (v : Int) : Int → Int → List ByteArray → List Int
  | _, _, [] => []
  | p, k, r :: l => k :: seOffs v (p + 1) (k + (rFrameText v p r).size) l
def sealL (h : THead) (l : List ByteArray) : List UInt8 := (rHeadText h).data.toList ++ seFrames h.version_ h.base_ l
def rSealText (h : THead) (l : List ByteArray) : ByteArray :=
  if rHeadOk h = true ∧ l.length ≤ 1000 ∧ h.base_ + l.length ≤ 1000000000 ∧ ∀ r ∈ l, r.size ≤ 60 then
    tx (sealL h l) ++ rFootText h (seOffs h.version_ h.base_ (rHeadText h).size l) (sealL h l).length
  else tx []
theorem seFrames_add {v : Int} : ∀ {l : List ByteArray} {p : Int} {r : ByteArray}, seFrames v p (l ++ [r]) = seFrames v p l ++ (rFrameText v (p + l.length) r).data.toList
  | [], p, r => by simp [seFrames]
  | x :: l, p, r => by
    rw [List.cons_append, seFrames, seFrames, seFrames_add, List.append_assoc, List.length_cons, show p + 1 + (l.length : Int) = p + ((l.length + 1 : Nat) : Int) by omega]
theorem seOffs_add {v : Int} : ∀ {l : List ByteArray} {p k : Int} {r : ByteArray}, seOffs v p k (l ++ [r]) = seOffs v p k l ++ [k + (seFrames v p l).length]
  | [], p, k, r => by simp [seFrames, seOffs]
  | x :: l, p, k, r => by
    have e : (rFrameText v p x).data.toList.length = (rFrameText v p x).size := Array.length_toList
    rw [List.cons_append, seOffs, seOffs, seOffs_add, seFrames, List.cons_append, List.length_append, e, show k + ((rFrameText v p x).size : Int) + ((seFrames v (p + 1) l).length : Int) = k + (((rFrameText v p x).size + (seFrames v (p + 1) l).length : Nat) : Int) by omega]
theorem seOffs_len {v : Int} : ∀ {l : List ByteArray} {p k : Int}, (seOffs v p k l).length = l.length
  | [], _, _ => rfl
  | x :: l, p, k => by rw [seOffs, List.length_cons, List.length_cons, seOffs_len]
theorem seFrames_len {v : Int} : ∀ {l : List ByteArray} {p : Int}, (seFrames v p l).length ≤ 84 * l.length
  | [], _ => by simp [seFrames]
  | x :: l, p => by
    have := @seFrames_len v l (p + 1)
    have h := rFrameText_b (rfl : rFrameText v p x = _)
    have e : (rFrameText v p x).data.size = (rFrameText v p x).size := rfl
    rw [seFrames, List.length_append, Array.length_toList, List.length_cons]
    omega
theorem seOffs_le {v : Int} : ∀ {l : List ByteArray} {p k : Int}, 0 ≤ k → ∀ x ∈ seOffs v p k l, 0 ≤ x ∧ x ≤ k + 84 * l.length
  | [], _, _, _, x, hx => by simp [seOffs] at hx
  | y :: l, p, k, hk, x, hx => by
    rw [seOffs, List.mem_cons] at hx
    have h := rFrameText_b (rfl : rFrameText v p y = _)
    rcases hx with rfl | hx
    · rw [List.length_cons]; omega
    · have := @seOffs_le v l (p + 1) (k + (rFrameText v p y).size) (by omega) x hx
      rw [List.length_cons]; omega
theorem rSealText_b {h : THead} {l : List ByteArray} {o : ByteArray} (e : rSealText h l = o) : o.size ≤ 200000 := by
  rw [← e]
  unfold rSealText
  split
  · rename_i hc
    have h1 := rFootText_le h (seOffs h.version_ h.base_ (rHeadText h).size l) (sealL h l).length
    have h2 := rHeadText_b (rfl : rHeadText h = _)
    have h3 := @seFrames_len h.version_ l h.base_
    rw [ByteArray.size_append, tx_size]
    rw [seOffs_len] at h1
    have e : (rHeadText h).data.size = (rHeadText h).size := rfl
    have h4 : (sealL h l).length = (rHeadText h).size + (seFrames h.version_ h.base_ l).length := by unfold sealL; rw [List.length_append, Array.length_toList]; rfl
    omega
  · simp [tx_size]
def rSealText_1 (s : ByteArray) : Bool := decide (60 < s.size)
def rIndexFunc_SealText_1 (l : List ByteArray) : Int := if l.findIdx rSealText_1 < l.length then (l.findIdx rSealText_1 : Int) else -1
def rContainsFunc_SealText_1 (l : List ByteArray) : Bool := l.any rSealText_1
theorem ixf_at {l : List ByteArray} {i : Int} (h0 : 0 ≤ i) (hi : i.toNat < l.length) (h : rSealText_1 l[i.toNat] = true) (hb : ∀ (j : Nat) (hj : j < l.length), j < i.toNat → rSealText_1 l[j] = false) : i = rIndexFunc_SealText_1 l := by
  have e : l.findIdx rSealText_1 = i.toNat := (List.findIdx_eq hi).2 ⟨h, fun j hji => hb j (by omega) hji⟩
  unfold rIndexFunc_SealText_1
  rw [e, if_pos hi]
  omega
theorem ixf_none {l : List ByteArray} (hb : ∀ (j : Nat) (hj : j < l.length), rSealText_1 l[j] = false) : -1 = rIndexFunc_SealText_1 l := by
  unfold rIndexFunc_SealText_1
  rw [if_neg]
  intro hlt
  have := List.findIdx_getElem (w := hlt)
  rw [hb _ hlt] at this
  cases this
theorem ixf_any {l : List ByteArray} : rContainsFunc_SealText_1 l = decide (0 ≤ rIndexFunc_SealText_1 l) := by
  unfold rContainsFunc_SealText_1 rIndexFunc_SealText_1
  by_cases h : l.findIdx rSealText_1 < l.length
  · rw [if_pos h]
    have := List.findIdx_getElem (w := h)
    rw [List.any_eq_true.2 ⟨_, List.getElem_mem h, this⟩]
    simp
  · rw [if_neg h]
    have : l.any rSealText_1 = false := by
      rw [List.any_eq_false]
      intro x hx hp
      exact h (List.findIdx_lt_length_of_exists ⟨x, hx, hp⟩)
    rw [this]
    rfl
theorem cont_none {l : List ByteArray} (h : rContainsFunc_SealText_1 l = false) : ∀ r ∈ l, r.size ≤ 60 := by
  intro r hr
  have := List.any_eq_false.1 h r hr
  simp [rSealText_1] at this
  exact this
theorem cont_some {l : List ByteArray} (h : rContainsFunc_SealText_1 l = true) : ¬ ∀ r ∈ l, r.size ≤ 60 := by
  intro hh
  obtain ⟨r, hr, h'⟩ := List.any_eq_true.1 h
  have := hh r hr
  simp [rSealText_1] at h'
  omega
theorem FiSealText_1 {s : ByteArray} {o : Bool}  (hr : rSealText_1 s = o)  : Fn Tryz.prog 188 [S s] [] ⟨B o, [], []⟩ := by
 refine Fn.go su_ch12 Tryz.func188 fun P hP Q hQ => ?_
 conv => cbv
 refine .go fun v1 hv1 => ?_
 conv => cbv
 refine .gtr (fun h2 => ?_) fun h2 => ?_
 conv => cbv
 have e : true = rSealText_1 s := (by unfold rSealText_1; rw [eq_comm, decide_eq_true_iff]; omega)
 rw [hr] at e
 subst e
 exact hQ _ _ (.b rfl rfl)
 conv => cbv
 have e : false = rSealText_1 s := (by unfold rSealText_1; rw [eq_comm, decide_eq_false_iff_not]; omega)
 rw [hr] at e
 subst e
 exact hQ _ _ (.b rfl rfl)
theorem FlIndexFunc_SealText_1 {l : List ByteArray} {xl : List (List D)} {o : Int} (hl : l.map cS = xl) (hn : l.length < 2 ^ 40) (hr : rIndexFunc_SealText_1 l = o)  : Fn Tryz.prog 158 [.d (.row 1 xl), .clo 188 []] [] ⟨I o, [], []⟩ := by
 refine Fn.go su_ch12 Tryz.func158 fun P hP Q hQ => ?_
 conv => cbv
 refine .go hl fun v1 hv1 => ?_
 conv => cbv
 refine LoopW.lp (κ := Int) su_ch12 hP [] [0, 1, 7] (fun i8 => [(8, I i8)]) (fun i8 => [])
   (fun i8 => 0 ≤ i8 ∧ i8 ≤ l.length ∧ ∀ (j : Nat) (hj : j < l.length), j < i8.toNat → rSealText_1 l[j] = false)
   (fun i8 => (l.length - i8).toNat) (0) ⟨by omega, by omega, fun j _ h => by simp at h⟩ ⟨rfl, trivial⟩ rfl ?_
 rintro i8 J ⟨h0, h1, hb⟩ hJ
 conv => cbv
 refine .lss (fun h2 => ?_) fun h2 => ?_
 conv => cbv
 refine .go i8.toNat hl fun hje3 e3 qe3 => ?_
 conv => cbv
 generalize hr4 : rSealText_1 e3 = r4
 refine .dd hP (FiSealText_1 hr4) ?_
 cases r4
 conv => cbv
 refine .add fun v5 hv5 => ?_
 conv => cbv
 exact .go [] (v5) (hJ _ ⟨by omega, by omega, fun j hj h => if e : j = i8.toNat then by subst e; rw [← qe3]; exact hr4 else hb j hj (by omega)⟩ (by first | (dsimp only; omega) | omega))
 conv => cbv
 have e : i8 = rIndexFunc_SealText_1 l := (by exact ixf_at h0 (by omega) (qe3 ▸ hr4) hb)
 rw [hr] at e
 subst e
 exact hQ _ _ (.i rfl rfl)
 conv => cbv
 have e : (-1) = rIndexFunc_SealText_1 l := (by exact ixf_none fun j hj => hb j hj (by omega))
 rw [hr] at e
 subst e
 exact hQ _ _ (.i rfl rfl)
theorem FlContainsFunc_SealText_1 {l : List ByteArray} {xl : List (List D)} {o : Bool} (hl : l.map cS = xl) (hn : l.length < 2 ^ 40) (hr : rContainsFunc_SealText_1 l = o)  : Fn Tryz.prog 187 [.d (.row 1 xl), .clo 188 []] [] ⟨B o, [], []⟩ := by
 refine Fn.go su_ch12 Tryz.func187 fun P hP Q hQ => ?_
 conv => cbv
 generalize hr1 : rIndexFunc_SealText_1 l = r1
 refine .dd hP (FlIndexFunc_SealText_1 hl hn hr1) ?_
 conv => cbv
 refine .geq (fun h2 => ?_) fun h2 => ?_
 conv => cbv
 have e : true = rContainsFunc_SealText_1 l := (by rw [ixf_any, hr1, eq_comm, decide_eq_true_iff]; omega)
 rw [hr] at e
 subst e
 exact hQ _ _ (.b rfl rfl)
 conv => cbv
 have e : false = rContainsFunc_SealText_1 l := (by rw [ixf_any, hr1, eq_comm, decide_eq_false_iff_not]; omega)
 rw [hr] at e
 subst e
 exact hQ _ _ (.b rfl rfl)
theorem rHeadText_pos {h : THead} (hk : rHeadOk h = true) : 0 < (rHeadText h).size := by
  unfold rHeadText
  rw [if_pos hk, ByteArray.size_append]
  have : 0 < (headL h).size := by
    unfold headL
    simp only [ByteArray.size_append, tx_size, List.length_cons]
    omega
  omega
theorem FiSealText {hver : Int} {hstr : Int} {hbas : Int} {hlin : Int} {l : List ByteArray} {xl : List (List D)} {o : ByteArray} (hl : l.map cS = xl) (hn : l.length < 2 ^ 40) (hr : rSealText (⟨hver, hstr, hbas, hlin⟩ : THead) l = o)  : Fn Tryz.prog 157 [.agg [I hver, I hstr, I hbas, I hlin], .d (.row 1 xl)] [] ⟨S o, [], []⟩ := by
 refine Fn.go su_ch12 Tryz.func157 fun P hP Q hQ => ?_
 conv => cbv
 generalize hr1 : rHeadOk (⟨hver, hstr, hbas, hlin⟩ : THead) = r1
 refine .dd hP (FiHeadOk hr1) ?_
 cases r1
 conv => cbv
 have e : (tx []) = rSealText (⟨hver, hstr, hbas, hlin⟩ : THead) l := (by unfold rSealText; rw [if_neg]; rintro ⟨q, _⟩; rw [hr1] at q; cases q)
 rw [hr] at e
 subst e
 exact hQ _ _ (.s rfl rfl)
 conv => cbv
 refine .go hl fun v2 hv2 => ?_
 conv => cbv
 refine .gtr (fun h3 => ?_) fun h3 => ?_
 conv => cbv
 have e : (tx []) = rSealText (⟨hver, hstr, hbas, hlin⟩ : THead) l := (by unfold rSealText; rw [if_neg]; rintro ⟨_, q, _⟩; omega)
 rw [hr] at e
 subst e
 exact hQ _ _ (.s rfl rfl)
 conv => cbv
 refine .go hl fun v4 hv4 => ?_
 conv => cbv
 have hh := rHeadOk_t hr1
 refine .add fun v5 hv5 => ?_
 conv => cbv
 generalize hr6 : risNumber v5 = r6
 refine .dd hP (FiisNumber hr6) ?_
 cases r6
 simp only [risNumber, decide_eq_true_eq, decide_eq_false_iff_not] at hr6
 conv => cbv
 have e : (tx []) = rSealText (⟨hver, hstr, hbas, hlin⟩ : THead) l := (by unfold rSealText; rw [if_neg]; rintro ⟨_, _, q, _⟩; simp only [] at q; omega)
 rw [hr] at e
 subst e
 exact hQ _ _ (.s rfl rfl)
 simp only [risNumber, decide_eq_true_eq, decide_eq_false_iff_not] at hr6
 conv => cbv
 generalize hr7 : rContainsFunc_SealText_1 l = r7
 refine .dd hP (FlContainsFunc_SealText_1 hl (by omega) hr7) ?_
 cases r7
 conv => cbv
 generalize hr8 : rHeadText (⟨hver, hstr, hbas, hlin⟩ : THead) = r8
 have zr8 := rHeadText_b hr8
 refine .dd hP (FiHeadText hr8) ?_
 conv => cbv
 have zp := rHeadText_pos hr1; rw [hr8] at zp
 obtain ⟨nb9, hnb9⟩ : ∃ m, ([] : List UInt8).length + r8.size = m := ⟨_, rfl⟩
 obtain ⟨b9, hb9⟩ : ∃ m, [] ++ r8.data.toList = m := ⟨_, rfl⟩
 obtain ⟨kb9, hkb9⟩ : ∃ m, (r8.size : Int) = m := ⟨_, rfl⟩
 have lb9 : nb9 = b9.length := by rw [← hb9, List.length_append, Array.length_toList]; exact hnb9.symm
 refine .bx [3, 1] [1] hP (FiWrite0 rfl (by first | omega | (simp; omega)) hnb9 hb9 hkb9) rfl rfl rfl rfl ?_
 conv => cbv
 refine .go hl fun v10 hv10 => ?_
 conv => cbv
 refine LoopW.lp (κ := Int × (List UInt8) × Nat × (List (List D)) × Nat) su_ch12 hP [4, 5] [2, 5, 35, 36] (fun (i37, zw6, nw6, zw7, nw7) => [(6, .ref 7 0 nw7), (37, I i37)]) (fun (i37, zw6, nw6, zw7, nw7) => [(3, .box 125 [.ptr 3 0 0, .ref 6 0 nw6]), (6, .buf 5 false zw6), (7, .row 1 false zw7)])
   (fun (i37, zw6, nw6, zw7, nw7) => ∃ (w7 : List Int), nw6 = zw6.length ∧ w7.map cI = zw7 ∧ nw7 = w7.length ∧ 0 ≤ i37 ∧ i37 ≤ l.length ∧ zw6 = r8.data.toList ++ seFrames hver hbas (l.take i37.toNat) ∧ w7 = seOffs hver hbas r8.size (l.take i37.toNat))
   (fun (i37, zw6, nw6, zw7, nw7) => (l.length - i37).toNat) (0, b9, nb9, [], 0) ⟨[], lb9, rfl, rfl, by omega, by omega, by rw [← hb9]; simp [seFrames], by simp [seOffs]⟩ ⟨rfl, rfl, trivial⟩ rfl ?_
 rintro ⟨i37, zw6, nw6, zw7, nw7⟩ J ⟨w7, hnw6, hw7, hnw7, h0, h1, hz, hw⟩ hJ
 have q1 := @seFrames_len hver (l.take i37.toNat) hbas
 have q2 : (l.take i37.toNat).length = i37.toNat := by rw [List.length_take]; omega
 have q4 : zw6.length = r8.size + (seFrames hver hbas (l.take i37.toNat)).length := by rw [hz, List.length_append, Array.length_toList]; rfl
 have q5 : w7.length = i37.toNat := by rw [hw, seOffs_len, q2]
 conv => cbv
 refine .lss (fun h11 => ?_) fun h11 => ?_
 conv => cbv
 refine .go i37.toNat hl fun hje12 e12 qe12 => ?_
 conv => cbv
 obtain ⟨kb13, hkb13⟩ : ∃ m, ((nw6 : Nat) : Int) = m := ⟨_, rfl⟩
 refine .bx [3, 6] [6] hP (FiLen (bs := zw6) hkb13) rfl rfl rfl rfl ?_
 conv => cbv
 refine .one kb13 hw7 rfl fun nz14 z14 hnz14 hz14 => ?_
 conv => cbv
 have ze := cont_none hr7 e12 (qe12 ▸ List.getElem_mem _)
 refine .add fun v15 hv15 => ?_
 conv => cbv
 generalize hr16 : rFrameText hver v15 e12 = r16
 have zr16 := rFrameText_b hr16
 refine .dd hP (FiFrameText (by omega) hr16) ?_
 conv => cbv
 obtain ⟨nb17, hnb17⟩ : ∃ m, (zw6 : List UInt8).length + r16.size = m := ⟨_, rfl⟩
 obtain ⟨b17, hb17⟩ : ∃ m, zw6 ++ r16.data.toList = m := ⟨_, rfl⟩
 obtain ⟨kb17, hkb17⟩ : ∃ m, (r16.size : Int) = m := ⟨_, rfl⟩
 have lb17 : nb17 = b17.length := by rw [← hb17, List.length_append, Array.length_toList]; exact hnb17.symm
 refine .bx [3, 6] [6] hP (FiWrite1 hnw6 (by first | omega | (simp; omega)) hnb17 hb17 hkb17) rfl rfl rfl rfl ?_
 conv => cbv
 refine .add fun v18 hv18 => ?_
 conv => cbv
 have t1 : v18.toNat = i37.toNat + 1 := by omega
 have t2 : l.take v18.toNat = l.take i37.toNat ++ [e12] := by rw [t1, qe12, List.take_append_getElem]
 have t4 : b17 = r8.data.toList ++ seFrames hver hbas (l.take v18.toNat) := by rw [← hb17, hz, t2, seFrames_add, q2, List.append_assoc, show hbas + ((i37.toNat : Nat) : Int) = v15 by omega, hr16]
 have t5 : w7 ++ [kb13] = seOffs hver hbas r8.size (l.take v18.toNat) := by rw [t2, seOffs_add, ← hw, show kb13 = (r8.size : Int) + ((seFrames hver hbas (l.take i37.toNat)).length : Int) by omega]
 exact .go [10, 9] (v18, b17, nb17, z14, nz14) (hJ _ ⟨_, (by first | omega | (simp; omega)), hz14, (by first | omega | (simp; omega)), by omega, by omega, t4, t5⟩ (by first | (dsimp only; omega) | omega))
 conv => cbv
 obtain ⟨b12, hb12⟩ : ∃ m, tx zw6 = m := ⟨_, rfl⟩
 have zb12 : b12.size = zw6.length := by rw [← hb12, tx_size]
 refine .bx [3, 6] [6] hP (FiString (x := .ptr 0 0 0) hnw6 (by intro e; rw [e] at q4; simp at q4; omega) (by first | omega | (simp; omega)) hb12) rfl rfl rfl rfl ?_
 conv => cbv
 obtain ⟨kb13, hkb13⟩ : ∃ m, ((nw6 : Nat) : Int) = m := ⟨_, rfl⟩
 refine .bx [3, 6] [6] hP (FiLen (bs := zw6) hkb13) rfl rfl rfl rfl ?_
 conv => cbv
 generalize hr14 : rFootText (⟨hver, hstr, hbas, hlin⟩ : THead) w7 kb13 = r14
 have zr14 := rFootText_b hr14
 refine .lnt hP (FiFootText hw7 (by omega) (fun x hx => by rw [hw] at hx; have := seOffs_le (k := (r8.size : Int)) (by omega) x hx; exact ⟨by omega, by omega⟩) (by omega) hr14) (.agg (.d rfl (.d rfl (.d rfl (.d rfl .nil)))) (.ref rfl (by rw [← hw7, List.length_map]; first | omega | (simp; omega)) (.d rfl .nil))) ?_
 conv => cbv
 refine .go fun s15 hs15 zs15 => ?_
 conv => cbv
 have t0 : l.take i37.toNat = l := List.take_of_length_le (by omega)
 have e1 : sealL ⟨hver, hstr, hbas, hlin⟩ l = zw6 := by unfold sealL; rw [hr8, hz, t0]
 have e2 : seOffs hver hbas r8.size l = w7 := by rw [hw, t0]
 have e : s15 = rSealText (⟨hver, hstr, hbas, hlin⟩ : THead) l := (by unfold rSealText; rw [if_pos ⟨hr1, by omega, by simp only []; omega, cont_none hr7⟩, e1, hr8, hs15, ← hb12, ← hr14, ← e2]; show _ = tx zw6 ++ rFootText _ (seOffs hver hbas r8.size l) zw6.length; congr 2; omega)
 rw [hr] at e
 subst e
 exact hQ _ _ (.s rfl rfl)
 conv => cbv
 have e : (tx []) = rSealText (⟨hver, hstr, hbas, hlin⟩ : THead) l := (by unfold rSealText; rw [if_neg]; rintro ⟨_, _, _, q⟩; exact cont_some hr7 q)
 rw [hr] at e
 subst e
 exact hQ _ _ (.s rfl rfl)
theorem FsSealText {hver : Int} {hstr : Int} {hbas : Int} {hlin : Int} {l : List ByteArray} {xl : List (List D)} {o : ByteArray} (hl : l.map cS = xl) (hn : l.length < 2 ^ 40) (hr : rSealText (⟨hver, hstr, hbas, hlin⟩ : THead) l = o)  : Fn Tryz.prog 146 [.agg [I hver, I hstr, I hbas, I hlin], .d (.row 1 xl)] [] ⟨S o, [], []⟩ := by
 refine Fn.go su_ch12 Tryz.func146 fun P hP Q hQ => ?_
 conv => cbv
 generalize hr1 : rHeadOk (⟨hver, hstr, hbas, hlin⟩ : THead) = r1
 refine .dd hP (FsHeadOk hr1) ?_
 cases r1
 conv => cbv
 have e : (tx []) = rSealText (⟨hver, hstr, hbas, hlin⟩ : THead) l := (by unfold rSealText; rw [if_neg]; rintro ⟨q, _⟩; rw [hr1] at q; cases q)
 rw [hr] at e
 subst e
 exact hQ _ _ (.s rfl rfl)
 conv => cbv
 refine .go hl fun v2 hv2 => ?_
 conv => cbv
 refine .gtr (fun h3 => ?_) fun h3 => ?_
 conv => cbv
 have e : (tx []) = rSealText (⟨hver, hstr, hbas, hlin⟩ : THead) l := (by unfold rSealText; rw [if_neg]; rintro ⟨_, q, _⟩; omega)
 rw [hr] at e
 subst e
 exact hQ _ _ (.s rfl rfl)
 conv => cbv
 refine .go hl fun v4 hv4 => ?_
 conv => cbv
 have hh := rHeadOk_t hr1
 refine .add fun v5 hv5 => ?_
 conv => cbv
 refine .gtr (fun h6 => ?_) fun h6 => ?_
 conv => cbv
 have e : (tx []) = rSealText (⟨hver, hstr, hbas, hlin⟩ : THead) l := (by unfold rSealText; rw [if_neg]; rintro ⟨_, _, q, _⟩; simp only [] at q; omega)
 rw [hr] at e
 subst e
 exact hQ _ _ (.s rfl rfl)
 conv => cbv
 generalize hr7 : rHeadText (⟨hver, hstr, hbas, hlin⟩ : THead) = r7
 have zr7 := rHeadText_b hr7
 refine .dd hP (FsHeadText hr7) ?_
 conv => cbv
 refine .go fun nz8 z8 hnz8 hz8 => ?_
 conv => cbv
 refine LoopW.lp (κ := Int × (List (List D)) × Nat × (List (List D)) × Nat) su_ch12 hP [1, 2] [1, 2] (fun (i7, zw3, nw3, zw4, nw4) => [(5, .ref 3 0 nw3), (6, .ref 4 0 nw4), (7, I i7)]) (fun (i7, zw3, nw3, zw4, nw4) => [(3, .row 1 false zw3), (4, .row 1 false zw4)])
   (fun (i7, zw3, nw3, zw4, nw4) => ∃ (w3 : List UInt8) (w4 : List Int), w3.map cB = zw3 ∧ nw3 = w3.length ∧ w4.map cI = zw4 ∧ nw4 = w4.length ∧ 0 ≤ i7 ∧ i7 ≤ l.length ∧ w3 = r7.data.toList ++ seFrames hver hbas (l.take i7.toNat) ∧ w4 = seOffs hver hbas r7.size (l.take i7.toNat) ∧ ∀ r ∈ l.take i7.toNat, r.size ≤ 60)
   (fun (i7, zw3, nw3, zw4, nw4) => (l.length - i7).toNat) (0, z8, nz8, [], 0) ⟨r7.data.toList, [], hz8, (by first | omega | (simp; omega)), rfl, rfl, by omega, by omega, by simp [seFrames], by simp [seOffs], by simp⟩ ⟨rfl, rfl, rfl, trivial⟩ rfl ?_
 rintro ⟨i7, zw3, nw3, zw4, nw4⟩ J ⟨w3, w4, hw3, hnw3, hw4, hnw4, h0, h1, hz, hw, hs6⟩ hJ
 have q1 := @seFrames_len hver (l.take i7.toNat) hbas
 have q2 : (l.take i7.toNat).length = i7.toNat := by rw [List.length_take]; omega
 have q4 : w3.length = r7.size + (seFrames hver hbas (l.take i7.toNat)).length := by rw [hz, List.length_append, Array.length_toList]; rfl
 have q5 : w4.length = i7.toNat := by rw [hw, seOffs_len, q2]
 conv => cbv
 refine .go hl fun v9 hv9 => ?_
 conv => cbv
 refine .lss (fun h10 => ?_) fun h10 => ?_
 conv => cbv
 refine .go i7.toNat hl fun hje11 e11 qe11 => ?_
 conv => cbv
 refine .go fun v12 hv12 => ?_
 conv => cbv
 refine .gtr (fun h13 => ?_) fun h13 => ?_
 conv => cbv
 have e : (tx []) = rSealText (⟨hver, hstr, hbas, hlin⟩ : THead) l := (by unfold rSealText; rw [if_neg]; rintro ⟨_, _, _, q⟩; have := q e11 (qe11 ▸ List.getElem_mem _); omega)
 rw [hr] at e
 subst e
 exact hQ _ _ (.s rfl rfl)
 conv => cbv
 refine .go fun v14 hv14 => ?_
 conv => cbv
 refine .one v14 hw4 rfl fun nz15 z15 hnz15 hz15 => ?_
 conv => cbv
 refine .add fun v16 hv16 => ?_
 conv => cbv
 refine .go i7.toNat hl fun hje17 e17 qe17 => ?_
 conv => cbv
 have z17 : e17.size ≤ 60 := by rw [qe17, ← qe11]; omega
 generalize hr18 : rFrameText hver v16 e17 = r18
 have zr18 := rFrameText_b hr18
 refine .dd hP (FsFrameText (by omega) hr18) ?_
 conv => cbv
 refine .str hw3 fun nz19 z19 hnz19 hz19 => ?_
 conv => cbv
 refine .add fun v20 hv20 => ?_
 conv => cbv
 have t1 : v20.toNat = i7.toNat + 1 := by omega
 have t2 : l.take v20.toNat = l.take i7.toNat ++ [e17] := by rw [t1, qe17, List.take_append_getElem]
 have t4 : w3 ++ r18.data.toList = r7.data.toList ++ seFrames hver hbas (l.take v20.toNat) := by rw [hz, t2, seFrames_add, q2, List.append_assoc, show hbas + ((i7.toNat : Nat) : Int) = v16 by omega, hr18]
 have t5 : w4 ++ [v14] = seOffs hver hbas r7.size (l.take v20.toNat) := by rw [t2, seOffs_add, ← hw, show v14 = (r7.size : Int) + ((seFrames hver hbas (l.take i7.toNat)).length : Int) by omega]
 have t6 : ∀ r ∈ l.take v20.toNat, r.size ≤ 60 := by rw [t2]; intro r hr'; rcases List.mem_append.1 hr' with h | h; exact hs6 r h; rw [List.mem_singleton.1 h, qe17, ← qe11]; omega
 exact .go [7, 6] (v20, z19, nz19, z15, nz15) (hJ _ ⟨_, _, hz19, (by first | omega | (simp; omega)), hz15, (by first | omega | (simp; omega)), by omega, by omega, t4, t5, t6⟩ (by first | (dsimp only; omega) | omega))
 conv => cbv
 refine .go fun v11 hv11 => ?_
 conv => cbv
 generalize hr12 : rFootText (⟨hver, hstr, hbas, hlin⟩ : THead) w4 v11 = r12
 have zr12 := rFootText_b hr12
 refine .lnt hP (FsFootText hw4 (by omega) (fun x hx => by rw [hw] at hx; have := seOffs_le (k := (r7.size : Int)) (by omega) x hx; exact ⟨by omega, by omega⟩) (by omega) hr12) (.agg (.d rfl (.d rfl (.d rfl (.d rfl .nil)))) (.ref rfl (by rw [← hw4, List.length_map]; first | omega | (simp; omega)) (.d rfl .nil))) ?_
 conv => cbv
 refine .str hw3 fun nz13 z13 hnz13 hz13 => ?_
 conv => cbv
 refine .go hz13 (hn := by rw [hnz13, List.length_append, Array.length_toList]; rfl) fun s14 hs14 => ?_
 conv => cbv
 have t0 : l.take i7.toNat = l := List.take_of_length_le (by omega)
 have e1 : sealL ⟨hver, hstr, hbas, hlin⟩ l = w3 := by unfold sealL; rw [hr7, hz, t0]
 have e2 : seOffs hver hbas r7.size l = w4 := by rw [hw, t0]
 rw [t0] at hs6
 have e : s14 = rSealText (⟨hver, hstr, hbas, hlin⟩ : THead) l := (by unfold rSealText; rw [if_pos ⟨hr1, by omega, by simp only []; omega, hs6⟩, e1, hr7, hs14, ← tx_append, tx_data, ← hr12, ← e2]; show _ = tx w3 ++ rFootText _ (seOffs hver hbas r7.size l) w3.length; congr 2; omega)
 rw [hr] at e
 subst e
 exact hQ _ _ (.s rfl rfl)
end Go.Proofs.YtmhinjjgpabkfaaGreatDoor.Ab
