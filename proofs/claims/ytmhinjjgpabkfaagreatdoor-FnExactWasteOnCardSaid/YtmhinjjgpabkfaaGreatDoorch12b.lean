/- What functions of the program come to, for all arguments in the given bounds. -/
import Derived.Test.YtmhinjjgpabkfaaGreatDoorch12
set_option linter.unusedVariables false
set_option linter.unusedSimpArgs false
namespace Go.Proofs.YtmhinjjgpabkfaaGreatDoor.Ab
open Go Go.Proofs
set_option maxRecDepth 20000
set_option maxHeartbeats 4000000
set_option linter.unusedSimpArgs false
set_option linter.unusedVariables false
def tab_ch12b : List (Nat × TyRow) := [
  (4, ⟨.bool, some 1, some false, none, false, [.bool], [], some [(.bool false, 0)], none, none, none⟩),
  (9, ⟨.str, some 1, some false, none, false, [.str], [], some [(.string default, 0)], none, none, none⟩),
  (41, ⟨.sl 1, some 1, some false, some (1, 16), false, [.sl 1], [], some [(.slice none 0 0, 1)], some ([.sc (.string default)], 1, 16), none, none⟩),
  (99, ⟨.other, some 4, some true, none, false, [.int .i64, .int .i64, .int .i64, .int .i64], [some (0, 1, false), some (1, 1, false), some (2, 1, false), some (3, 1, false)], some [(.int .i64 0, 0), (.int .i64 0, 0), (.int .i64 0, 0), (.int .i64 0, 0)], none, some [(0, 1), (1, 1), (2, 1), (3, 1)], some [.int, .int, .int, .int]⟩),
  (101, ⟨.other, some 9, some true, none, false, [.bool, .int .i64, .int .i64, .int .i64, .int .i64, .sl 1, .sl 1, .int .i64, .bool], [some (0, 1, false), some (1, 4, true), some (5, 1, false), some (6, 1, false), some (7, 1, false), some (8, 1, false)], some [(.bool false, 0), (.int .i64 0, 0), (.int .i64 0, 0), (.int .i64 0, 0), (.int .i64 0, 0), (.slice none 0 0, 1), (.slice none 0 0, 1), (.int .i64 0, 0), (.bool false, 0)], none, some [(0, 1), (1, 4), (5, 1), (6, 1), (7, 1), (8, 1)], none⟩)]
theorem tab_ch12b_ok : TabOk Tryz.prog tab_ch12b := TabOk.of (by kernel_rfl)
theorem su_ch12b : Setup Tryz.prog tab_ch12b := ⟨tab_ch12b_ok, mixed⟩
def rReadSealed (b : ByteArray) : THead × List ByteArray × Bool :=
  if (rScanText b).ok_ = true ∧ (rScanText b).marked_ = true ∧ rSealText (rScanText b).head_ (rScanText b).records_ = b then ((rScanText b).head_, (rScanText b).records_, true) else (⟨0, 0, 0, 0⟩, [], false)
def rSealedOk (b : ByteArray) : Bool := (rReadSealed b).2.2
theorem scanL_all : ∀ (k : Nat) {h : THead} {b : ByteArray} {n : Nat} {p : Int}, (b.size - p).toNat ≤ k → 0 ≤ p ∧ p ≤ b.size →
    (scanL h b n p).2.2.1 = p + (seFrames h.version_ (h.base_ + n) (scanL h b n p).1).length ∧ (scanL h b n p).2.2.2 = rMarkAt h.version_ (h.base_ + n + (scanL h b n p).1.length) b (scanL h b n p).2.2.1
  | k, h, b, n, p, hk, hp => by
    cases hm : rMarkAt h.version_ (h.base_ + n) b p
    · rcases hf : rReadFrame h.version_ (h.base_ + n) b p with ⟨r, q, ok⟩
      cases ok
      · rw [scanL_stop hm hf]
        exact ⟨by simp [seFrames], by simp [hm]⟩
      · have h2 := rReadFrame_ok hf
        rw [scanL_next hm hf]
        cases k with
        | zero => omega
        | succ k =>
          obtain ⟨i1, i2⟩ := scanL_all k (h := h) (b := b) (n := n + 1) (p := q) (by omega) (by omega)
          have e : (rFrameText h.version_ (h.base_ + n) r).data.toList.length = (rFrameText h.version_ (h.base_ + n) r).size := Array.length_toList
          have e2 : h.base_ + ((n + 1 : Nat) : Int) = h.base_ + n + 1 := by omega
          rw [e2] at i1 i2
          refine ⟨?_, ?_⟩
          · show (scanL h b (n + 1) q).2.2.1 = _
            rw [i1, seFrames, List.length_append, e]
            omega
          · show (scanL h b (n + 1) q).2.2.2 = _
            rw [i2, List.length_cons]
            congr 1
            omega
    · rw [scanL_mark hm]
      exact ⟨by simp [seFrames], by simp [hm]⟩
theorem scanL_recs : ∀ (k : Nat) {h : THead} {b : ByteArray} {n : Nat} {p : Int}, (b.size - p).toNat ≤ k → 0 ≤ p ∧ p ≤ b.size → p + (scanL h b n p).1.length ≤ b.size
  | k, h, b, n, p, hk, hp => by
    cases hm : rMarkAt h.version_ (h.base_ + n) b p
    · rcases hf : rReadFrame h.version_ (h.base_ + n) b p with ⟨r, q, ok⟩
      cases ok
      · rw [scanL_stop hm hf]
        simpa using hp.2
      · have h2 := rReadFrame_ok hf
        rw [scanL_next hm hf]
        cases k with
        | zero => omega
        | succ k =>
          have ih := scanL_recs k (h := h) (b := b) (n := n + 1) (p := q) (by omega) (by omega)
          rw [List.length_cons]
          omega
    · rw [scanL_mark hm]
      simpa using hp.2
theorem rScan_recs {b : ByteArray} : (rScanText b).records_.length ≤ b.size := by
  unfold rScanText
  split
  · rename_i h e
    have h2 := rReadHead_t e
    have := scanL_recs _ (h := h) (b := b) (n := 0) (p := 24) (Nat.le_refl _) (by omega)
    show (scanL h b 0 24).1.length ≤ _
    omega
  · simp
theorem seOffs_ge {v : Int} : ∀ {l : List ByteArray} {p k : Int}, ∀ x ∈ seOffs v p k l, k ≤ x
  | [], _, _, x, hx => by simp [seOffs] at hx
  | y :: l, p, k, x, hx => by
    rw [seOffs, List.mem_cons] at hx
    rcases hx with rfl | hx
    · omega
    · have := seOffs_ge x hx
      omega
theorem seOffs_pw {v : Int} : ∀ {l : List ByteArray} {p k : Int}, (seOffs v p k l).Pairwise (· ≤ ·)
  | [], _, _ => by rw [seOffs]; exact .nil
  | y :: l, p, k => by
    rw [seOffs, List.pairwise_cons]
    refine ⟨fun x hx => ?_, seOffs_pw⟩
    have := seOffs_ge x hx
    omega
theorem plOf_pw {s n : Nat} {offs : List Int} (h : offs.Pairwise (· ≤ ·)) (hn : n ≤ offs.length) : (plOf s offs n).Pairwise (fun a b => a.count_ ≤ b.count_ ∧ a.at_ ≤ b.at_) := by
  unfold plOf
  rw [List.pairwise_map]
  refine List.Pairwise.imp_of_mem ?_ (List.Pairwise.filter _ List.pairwise_lt_range)
  intro i j hi hj hij
  have hi2 := List.mem_range.1 (List.mem_filter.1 hi).1
  have hj2 := List.mem_range.1 (List.mem_filter.1 hj).1
  refine ⟨by show (i : Int) ≤ (j : Int); omega, ?_⟩
  show offs.getD i 0 ≤ offs.getD j 0
  rw [← getD_el (show i < offs.length by omega), ← getD_el (show j < offs.length by omega)]
  exact List.pairwise_iff_getElem.1 h i j _ _ hij
theorem rabove_ne {a b : Int} (h : b ≤ a) (h2 : a - b ≤ 1000000000) : rabove a b ≠ tx [] := by
  unfold rabove rVarText
  rw [if_pos ⟨h, h2⟩, if_pos (by omega)]
  intro e
  have := congrArg ByteArray.size e
  rw [tx_size, tx_size] at this
  exact varL_ne _ (List.eq_nil_of_length_eq_zero this)
theorem plText_up : ∀ {l : List TPlace} {q : Int × Int}, l.Pairwise (fun a b => a.count_ ≤ b.count_ ∧ a.at_ ≤ b.at_) → (∀ p ∈ l, (q.1 ≤ p.count_ ∧ p.count_ ≤ 1000000000) ∧ q.2 ≤ p.at_ ∧ p.at_ ≤ 1000000000) → 0 ≤ q.1 → 0 ≤ q.2 → ∃ t, plText q l = some t
  | [], q, _, _, _, _ => ⟨_, rfl⟩
  | p :: l, q, hp, hb, h1, h2 => by
    rw [List.pairwise_cons] at hp
    have hb0 := hb p List.mem_cons_self
    obtain ⟨t, ht⟩ := plText_up (q := (p.count_, p.at_)) hp.2 (fun x hx => by
      have a1 := hp.1 x hx
      have a2 := hb x (List.mem_cons_of_mem _ hx)
      exact ⟨⟨a1.1, a2.1.2⟩, a1.2, a2.2.2⟩) (by show 0 ≤ p.count_; omega) (by show 0 ≤ p.at_; omega)
    simp only [plText]
    rw [if_neg (by
      intro h
      rcases h with h | h
      · exact rabove_ne (by omega) (by omega) h
      · exact rabove_ne (by omega) (by omega) h), ht]
    exact ⟨_, rfl⟩
theorem places_ne {s : Int} {offs : List Int} (h : offs.Pairwise (· ≤ ·)) (hb : ∀ x ∈ offs, 0 ≤ x ∧ x ≤ 1000000000) (hl : offs.length ≤ 1000) : rPlacesText (rPlacesOf s offs) ≠ tx [] := by
  have hlen := @rPlacesOf_len s offs
  have key : ∃ t, plText (0, 0) (rPlacesOf s offs) = some t := by
    unfold rPlacesOf
    split
    · exact ⟨_, rfl⟩
    · refine plText_up (plOf_pw h (Nat.le_refl _)) ?_ (Int.le_refl _) (Int.le_refl _)
      intro p hp
      unfold plOf at hp
      obtain ⟨i, hi, rfl⟩ := List.mem_map.1 hp
      have hi2 := List.mem_range.1 (List.mem_filter.1 hi).1
      have := hb _ (List.getElem_mem hi2)
      rw [getD_el hi2] at this
      exact ⟨⟨by show (0 : Int) ≤ (i : Int); omega, by show (i : Int) ≤ _; omega⟩, this⟩
  obtain ⟨t, ht⟩ := key
  unfold rPlacesText
  rw [ht]
  show rVarText _ ++ t ≠ tx []
  intro e
  have e2 := congrArg ByteArray.size e
  unfold rVarText at e2
  rw [if_pos (by omega), ByteArray.size_append, tx_size, tx_size] at e2
  have := List.length_pos_iff.2 (varL_ne (rPlacesOf s offs).length)
  simp only [List.length_nil] at e2
  have e3 : ((rPlacesOf s offs).length : Int).toNat = (rPlacesOf s offs).length := by omega
  rw [e3] at e2
  omega
theorem fix4_ne {n : Int} (h : 0 ≤ n ∧ n < 4294967296) : rFixText n 4 ≠ tx [] := by
  intro e
  have := rFixText4 n h
  rw [e, tx_size] at this
  simp at this
theorem trailer_ne {a b c d : Int} (ha : 0 ≤ a ∧ a < 4294967296) (hb : 0 ≤ b ∧ b < 4294967296) (hc : 0 ≤ c ∧ c < 4294967296) (hd : 0 ≤ d ∧ d < 4294967296) : rTrailerText a b c d ≠ tx [] := by
  unfold rTrailerText
  simp only [fixAll, if_neg (fix4_ne ha), if_neg (fix4_ne hb), if_neg (fix4_ne hc), if_neg (fix4_ne hd)]
  intro e
  have := congrArg ByteArray.size e
  rw [ByteArray.size_append, tx_size, tx_size] at this
  simp at this
theorem mark_ne {v n : Int} (hv : v = 1 ∨ v = 2) (hn : 0 ≤ n ∧ n ≤ 1000000000) : rEndMark v n ≠ tx [] := by
  unfold rEndMark
  rw [if_pos ⟨hv, hn⟩]
  intro e
  have := congrArg ByteArray.size e
  split at this
  · simp [tx_size] at this
  · unfold rsized at this
    rw [ByteArray.size_append, rFixText4 _ (by omega), tx_size] at this
    simp at this
theorem foot_eq {h : THead} {l : List ByteArray} (hk : rHeadOk h = true) (hl : l.length ≤ 1000) (hb : h.base_ + l.length ≤ 1000000000) : ∃ y, rFootText h (seOffs h.version_ h.base_ (rHeadText h).size l) (sealL h l).length = rEndMark h.version_ (h.base_ + l.length) ++ y := by
  obtain ⟨v, s, bs, lk⟩ := h
  have hh := rHeadOk_t hk
  have h2 := rHeadText_b (rfl : rHeadText ⟨v, s, bs, lk⟩ = _)
  have h3 := @seFrames_len v l bs
  have e : (rHeadText ⟨v, s, bs, lk⟩).data.size = (rHeadText ⟨v, s, bs, lk⟩).size := rfl
  have h4 : (sealL ⟨v, s, bs, lk⟩ l).length = (rHeadText ⟨v, s, bs, lk⟩).size + (seFrames v bs l).length := by unfold sealL; rw [List.length_append, Array.length_toList]; rfl
  unfold rFootText
  simp only [] at *
  rw [seOffs_len, if_pos ⟨hk, mark_ne (by omega) (by omega), places_ne seOffs_pw (fun x hx => by have := seOffs_le (by omega) x hx; omega) (by rw [seOffs_len]; exact hl), trailer_ne (by omega) (by omega) (by omega) (by omega)⟩]
  exact ⟨_, by rw [ByteArray.append_assoc, ByteArray.append_assoc]⟩
theorem head_size {h : THead} {b : ByteArray} (e : rReadHead b = (h, true)) : (rHeadText h).size = 24 := by
  have := rReadHead_t e
  rw [this.2.1, ext_size (by omega) (by omega)]
theorem tx_app_ext {l : List UInt8} {m y : ByteArray} : (tx l ++ (m ++ y)).extract l.length (l.length + m.size) = m := by
  rw [ext_tx, ← tx_data m, ← tx_data y, tx_append, tx_append, data_tx, Nat.add_sub_cancel_left, List.drop_left, tx_size, List.take_left]
theorem scan_marked {b : ByteArray} (h1 : (rScanText b).ok_ = true) (h2 : rSealText (rScanText b).head_ (rScanText b).records_ = b) : (rScanText b).marked_ = true := by
  rcases e : rReadHead b with ⟨h, ok⟩
  cases ok
  · unfold rScanText at h1
    rw [e] at h1
    cases h1
  have hr := rReadHead_t e
  have hs := head_size e
  obtain ⟨a1, a2⟩ := scanL_all _ (h := h) (b := b) (n := 0) (p := 24) (Nat.le_refl _) (by omega)
  have hS : rScanText b = ⟨true, h, (scanL h b 0 24).1, (scanL h b 0 24).2.1, (scanL h b 0 24).2.2.1, (scanL h b 0 24).2.2.2⟩ := by unfold rScanText; rw [e]
  rw [hS] at h2 ⊢
  simp only [] at h2 ⊢
  generalize (scanL h b 0 24).1 = l at *
  generalize (scanL h b 0 24).2.2.1 = fin at *
  rw [a2]
  have hc : rHeadOk h = true ∧ l.length ≤ 1000 ∧ h.base_ + l.length ≤ 1000000000 ∧ ∀ r ∈ l, r.size ≤ 60 := by
    by_cases hc : rHeadOk h = true ∧ l.length ≤ 1000 ∧ h.base_ + l.length ≤ 1000000000 ∧ ∀ r ∈ l, r.size ≤ 60
    · exact hc
    · unfold rSealText at h2
      rw [if_neg hc] at h2
      rw [← h2, tx_size] at hr
      simp at hr
  obtain ⟨y, hy⟩ := foot_eq hc.1 hc.2.1 hc.2.2.1
  have h3 : b = tx (sealL h l) ++ (rEndMark h.version_ (h.base_ + l.length) ++ y) := by
    rw [← hy]
    unfold rSealText at h2
    rw [if_pos hc] at h2
    exact h2.symm
  have e0 : h.base_ + ((0 : Nat) : Int) = h.base_ := by omega
  rw [e0] at a1 ⊢
  have h4 : ((sealL h l).length : Int) = fin := by
    rw [a1]
    unfold sealL
    rw [List.length_append, Array.length_toList]
    have e : (rHeadText h).data.size = (rHeadText h).size := rfl
    omega
  have hv : (h.version_ = 1 ∨ h.version_ = 2) ∧ 0 ≤ h.base_ ∧ h.base_ ≤ 1000000000 := by
    obtain ⟨v, s, bs, lk⟩ := h
    have := rHeadOk_t hc.1
    simp only []
    omega
  unfold rMarkAt rhasAt
  have hb := congrArg ByteArray.size h3
  rw [ByteArray.size_append, ByteArray.size_append, tx_size] at hb
  simp only [Bool.and_eq_true, decide_eq_true_eq]
  refine ⟨mark_ne hv.1 (by omega), ⟨by omega, by omega⟩, ?_⟩
  rw [show fin.toNat = (sealL h l).length by omega]
  conv => lhs; rw [h3]
  exact tx_app_ext
theorem FsReadSealed {b : ByteArray} {oaver : Int} {oastr : Int} {oabas : Int} {oalin : Int} {ob : List ByteArray} {xob : List (List D)} {oc : Bool}  (hn : b.size < 2 ^ 40) (hr : rReadSealed b = (⟨oaver, oastr, oabas, oalin⟩, ob, oc)) (hob : ob.map cS = xob) : Fn Tryz.prog 106 [S b] [] ⟨.tup [.agg [I oaver, I oastr, I oabas, I oalin], .d (.row 1 xob), B oc], [], []⟩ := by
 refine Fn.go su_ch12b Tryz.func106 fun P hP Q hQ => ?_
 conv => cbv
 rcases hr1 : rScanText b with ⟨r1ok, ⟨r1heaver, r1heastr, r1heabas, r1healin⟩, r1rec, r1off, r1end, r1mar⟩
 generalize hr1rec : r1rec.map cS = xr1rec
 generalize hr1off : r1off.map cI = xr1off
 refine .dd hP (FsScanText (by omega) hr1 hr1rec hr1off) ?_
 conv => cbv
 cases r1ok
 conv => cbv
 have e : ((⟨0, 0, 0, 0⟩ : THead), [], false) = rReadSealed b := (by unfold rReadSealed; rw [hr1]; simp only []; rw [if_neg]; rintro ⟨q, _⟩; cases q)
 rw [hr] at e
 simp only [Prod.mk.injEq, THead.mk.injEq] at e
 obtain ⟨⟨rfl, rfl, rfl, rfl⟩, rfl, rfl⟩ := e
 refine hQ _ _ ?_
 exact .many (.inl rfl) rfl rfl (.agg (.d rfl rfl (.d rfl rfl (.d rfl rfl (.d rfl rfl (.nil))))) (.ref rfl rfl (by rw [← hob]; rfl) (.d rfl rfl (.nil))))
 conv => cbv
 cases r1mar
 conv => cbv
 have e : ((⟨0, 0, 0, 0⟩ : THead), [], false) = rReadSealed b := (by unfold rReadSealed; rw [hr1]; simp only []; rw [if_neg]; rintro ⟨_, q, _⟩; cases q)
 rw [hr] at e
 simp only [Prod.mk.injEq, THead.mk.injEq] at e
 obtain ⟨⟨rfl, rfl, rfl, rfl⟩, rfl, rfl⟩ := e
 refine hQ _ _ ?_
 exact .many (.inl rfl) rfl rfl (.agg (.d rfl rfl (.d rfl rfl (.d rfl rfl (.d rfl rfl (.nil))))) (.ref rfl rfl (by rw [← hob]; rfl) (.d rfl rfl (.nil))))
 conv => cbv
 have zl := rScan_recs (b := b)
 rw [hr1] at zl
 simp only [] at zl
 generalize hr2 : rSealText (⟨r1heaver, r1heastr, r1heabas, r1healin⟩ : THead) r1rec = r2
 have zr2 := rSealText_b hr2
 refine .dd hP (FsSealText hr1rec (by omega) hr2) ?_
 conv => cbv
 refine .neq (fun h3 => ?_) fun h3 => ?_
 conv => cbv
 have e : ((⟨0, 0, 0, 0⟩ : THead), [], false) = rReadSealed b := (by unfold rReadSealed; rw [hr1]; simp only []; rw [if_neg]; rintro ⟨_, _, q⟩; exact h3 (hr2.symm.trans q))
 rw [hr] at e
 simp only [Prod.mk.injEq, THead.mk.injEq] at e
 obtain ⟨⟨rfl, rfl, rfl, rfl⟩, rfl, rfl⟩ := e
 refine hQ _ _ ?_
 exact .many (.inl rfl) rfl rfl (.agg (.d rfl rfl (.d rfl rfl (.d rfl rfl (.d rfl rfl (.nil))))) (.ref rfl rfl (by rw [← hob]; rfl) (.d rfl rfl (.nil))))
 conv => cbv
 have e : ((⟨r1heaver, r1heastr, r1heabas, r1healin⟩ : THead), r1rec, true) = rReadSealed b := (by unfold rReadSealed; rw [hr1]; simp only []; rw [if_pos ⟨trivial, trivial, hr2.trans h3⟩])
 rw [hr] at e
 simp only [Prod.mk.injEq, THead.mk.injEq] at e
 obtain ⟨⟨rfl, rfl, rfl, rfl⟩, rfl, rfl⟩ := e
 refine hQ _ _ ?_
 exact .many (.inl rfl) rfl rfl (.agg (.d rfl rfl (.d rfl rfl (.d rfl rfl (.d rfl rfl (.nil))))) (.d rfl (rowEq hr1rec hob) (.d rfl rfl (.nil))))
theorem FiReadSealed {b : ByteArray} {oaver : Int} {oastr : Int} {oabas : Int} {oalin : Int} {ob : List ByteArray} {xob : List (List D)} {oc : Bool}  (hn : b.size < 2 ^ 40) (hr : rReadSealed b = (⟨oaver, oastr, oabas, oalin⟩, ob, oc)) (hob : ob.map cS = xob) : Fn Tryz.prog 114 [S b] [] ⟨.tup [.agg [I oaver, I oastr, I oabas, I oalin], .d (.row 1 xob), B oc], [], []⟩ := by
 refine Fn.go su_ch12b Tryz.func114 fun P hP Q hQ => ?_
 conv => cbv
 rcases hr1 : rScanText b with ⟨r1ok, ⟨r1heaver, r1heastr, r1heabas, r1healin⟩, r1rec, r1off, r1end, r1mar⟩
 generalize hr1rec : r1rec.map cS = xr1rec
 generalize hr1off : r1off.map cI = xr1off
 refine .dd hP (FiScanText (by omega) hr1 hr1rec hr1off) ?_
 conv => cbv
 cases r1ok
 conv => cbv
 have e : ((⟨0, 0, 0, 0⟩ : THead), [], false) = rReadSealed b := (by unfold rReadSealed; rw [hr1]; simp only []; rw [if_neg]; rintro ⟨q, _⟩; cases q)
 rw [hr] at e
 simp only [Prod.mk.injEq, THead.mk.injEq] at e
 obtain ⟨⟨rfl, rfl, rfl, rfl⟩, rfl, rfl⟩ := e
 refine hQ _ _ ?_
 exact .many (.inl rfl) rfl rfl (.agg (.d rfl rfl (.d rfl rfl (.d rfl rfl (.d rfl rfl (.nil))))) (.ref rfl rfl (by rw [← hob]; rfl) (.d rfl rfl (.nil))))
 conv => cbv
 have zl := rScan_recs (b := b)
 rw [hr1] at zl
 simp only [] at zl
 generalize hr2 : rSealText (⟨r1heaver, r1heastr, r1heabas, r1healin⟩ : THead) r1rec = r2
 have zr2 := rSealText_b hr2
 refine .dd hP (FiSealText hr1rec (by omega) hr2) ?_
 conv => cbv
 refine .neq (fun h3 => ?_) fun h3 => ?_
 conv => cbv
 have e : ((⟨0, 0, 0, 0⟩ : THead), [], false) = rReadSealed b := (by unfold rReadSealed; rw [hr1]; simp only []; rw [if_neg]; rintro ⟨_, _, q⟩; exact h3 (hr2.symm.trans q))
 rw [hr] at e
 simp only [Prod.mk.injEq, THead.mk.injEq] at e
 obtain ⟨⟨rfl, rfl, rfl, rfl⟩, rfl, rfl⟩ := e
 refine hQ _ _ ?_
 exact .many (.inl rfl) rfl rfl (.agg (.d rfl rfl (.d rfl rfl (.d rfl rfl (.d rfl rfl (.nil))))) (.ref rfl rfl (by rw [← hob]; rfl) (.d rfl rfl (.nil))))
 conv => cbv
 have hm : r1mar = true := by
   have := scan_marked (b := b) (by rw [hr1]) (by rw [hr1]; exact hr2.trans h3)
   rw [hr1] at this
   exact this
 have e : ((⟨r1heaver, r1heastr, r1heabas, r1healin⟩ : THead), r1rec, true) = rReadSealed b := (by unfold rReadSealed; rw [hr1]; simp only []; rw [if_pos ⟨trivial, hm, hr2.trans h3⟩])
 rw [hr] at e
 simp only [Prod.mk.injEq, THead.mk.injEq] at e
 obtain ⟨⟨rfl, rfl, rfl, rfl⟩, rfl, rfl⟩ := e
 refine hQ _ _ ?_
 exact .many (.inl rfl) rfl rfl (.agg (.d rfl rfl (.d rfl rfl (.d rfl rfl (.d rfl rfl (.nil))))) (.d rfl (rowEq hr1rec hob) (.d rfl rfl (.nil))))
theorem FiSealedOk {b : ByteArray} {o : Bool}  (hn : b.size < 2 ^ 40) (hr : rSealedOk b = o)  : Fn Tryz.prog 69 [S b] [] ⟨B o, [], []⟩ := by
 refine Fn.go su_ch12b Tryz.func69 fun P hP Q hQ => ?_
 conv => cbv
 rcases hr1 : rReadSealed b with ⟨⟨r1aver, r1astr, r1abas, r1alin⟩, r1b, r1c⟩
 generalize hr1b : r1b.map cS = xr1b
 refine .dd hP (FiReadSealed (by omega) hr1 hr1b) ?_
 conv => cbv
 have e : r1c = rSealedOk b := (by unfold rSealedOk; rw [hr1])
 rw [hr] at e
 subst e
 exact hQ _ _ (.b rfl rfl)
theorem FsSealedOk {b : ByteArray} {o : Bool}  (hn : b.size < 2 ^ 40) (hr : rSealedOk b = o)  : Fn Tryz.prog 60 [S b] [] ⟨B o, [], []⟩ := by
 refine Fn.go su_ch12b Tryz.func60 fun P hP Q hQ => ?_
 conv => cbv
 rcases hr1 : rReadSealed b with ⟨⟨r1aver, r1astr, r1abas, r1alin⟩, r1b, r1c⟩
 generalize hr1b : r1b.map cS = xr1b
 refine .dd hP (FsReadSealed (by omega) hr1 hr1b) ?_
 conv => cbv
 have e : r1c = rSealedOk b := (by unfold rSealedOk; rw [hr1])
 rw [hr] at e
 subst e
 exact hQ _ _ (.b rfl rfl)
end Go.Proofs.YtmhinjjgpabkfaaGreatDoor.Ab
