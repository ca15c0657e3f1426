/- What functions of the program come to, for all arguments in the given bounds. -/
import Derived.Test.YtmkpihcfglinjaaGreatDoorch29e
import Derived.Test.YtmkpihcfglinjaaGreatDoorZ10
import Derived.Below
set_option linter.unusedVariables false
set_option linter.unusedSimpArgs false
namespace Go.Proofs.YtmkpihcfglinjaaGreatDoor.Ab
open Go Go.Proofs
set_option maxRecDepth 20000
set_option maxHeartbeats 4000000
set_option linter.unusedSimpArgs false
set_option linter.unusedVariables false
def tab_ch29f : List (Nat × TyRow) := [
  (3, ⟨.int .i64, some 1, some false, none, false, [.int .i64], [], some [(.int .i64 0, 0)], none, none, none⟩),
  (9, ⟨.str, some 1, some false, none, false, [.str], [], some [(.string default, 0)], none, none, none⟩),
  (24, ⟨.sl 1, some 1, some false, some (1, 8), false, [.sl 1], [], some [(.slice none 0 0, 1)], some ([.sc (.int .i64 0)], 1, 8), none, none⟩),
  (26, ⟨.other, some 4, some true, none, false, [.int .i64, .str, .int .i64, .sl 1], [some (0, 1, false), some (1, 1, false), some (2, 1, false), some (3, 1, false)], some [(.int .i64 0, 0), (.string default, 0), (.int .i64 0, 0), (.slice none 0 0, 1)], none, some [(0, 1), (1, 1), (2, 1), (3, 1)], none⟩),
  (45, ⟨.sl 1, some 1, some false, some (1, 16), false, [.sl 1], [], some [(.slice none 0 0, 1)], some ([.sc (.string default)], 1, 16), none, none⟩)]
theorem tab_ch29f_ok : TabOk Tryz.prog tab_ch29f := TabOk.of (by kernel_rfl)
theorem su_ch29f : Setup Tryz.prog tab_ch29f := ⟨tab_ch29f_ok, mixed⟩
def rIndex (l : List ByteArray) (x : ByteArray) : Int := idxI (fun y => decide (x = y)) l
def wordsT (a : TAct) : List ByteArray := if a.kind_ = 1 then [rhexOrDash a.text_] else if counted a.kind_ then rDecimal a.n_ :: a.keeps_.map rDecimal else []
def wordsA (a : TAct) : List ByteArray := actWord a.kind_ :: wordsT a
theorem joinL_fm : ∀ (x : List UInt8) (l : List (List UInt8)), joinL (x :: l) = x ++ l.flatMap fun y => 32 :: y
  | x, [] => by simp [joinL]
  | x, y :: l => by
    have ih := joinL_fm y l
    show x ++ 32 :: joinL (y :: l) = _
    rw [ih, List.flatMap_cons]
    simp
theorem figs_fm (l : List Int) : rfigures l = tx ((l.map fun n => (rDecimal n).data.toList).flatMap fun y => 32 :: y) := by
  unfold rfigures rDecimal
  rw [List.flatMap_map]
  rfl
theorem actLine_words {a : TAct} (h : actFull a) : rActLine a = rJoin (wordsA a) := by
  unfold rActLine rJoin wordsA wordsT
  rw [if_pos h]
  have hc : counted a.kind_ ↔ (a.kind_ = 5 ∨ a.kind_ = 6 ∨ a.kind_ = 8) := Iff.rfl
  by_cases h1 : a.kind_ = 1
  · rw [if_pos h1, if_pos h1, List.map_cons, List.map_cons, List.map_nil, joinL_fm, bytes_tx (actWord a.kind_), bytes_tx (rhexOrDash a.text_), tx_append, tx_append]
    simp [data_tx]
  · rw [if_neg h1, if_neg h1]
    by_cases h2 : counted a.kind_
    · rw [if_pos (hc.1 h2), if_pos h2, List.map_cons, List.map_cons, joinL_fm, figs_fm, figs_fm, bytes_tx (actWord a.kind_), tx_append, tx_append, List.map_map]
      simp [data_tx, Function.comp_def]
    · rw [if_neg (fun h => h2 (hc.2 h)), if_neg h2, List.map_cons, List.map_nil]
      rfl
theorem aw_all : ∀ i : Fin 9, 1 ≤ i.val → rIndex ractWords (actWord (i.val : Int)) = i.val ∧ actWord (i.val : Int) ≠ tx [] ∧ ((actWord (i.val : Int)).data.toList.all fun b => b != 32) = true := by decide
theorem aw_t {k : Int} (h : 1 ≤ k ∧ k ≤ 8) : rIndex ractWords (actWord k) = k ∧ actWord k ≠ tx [] ∧ free (actWord k).data.toList := by
  have := aw_all ⟨k.toNat, by omega⟩ (show 1 ≤ k.toNat by omega)
  simp only [Int.toNat_of_nonneg (show 0 ≤ k by omega)] at this
  refine ⟨this.1, this.2.1, fun b hb => ?_⟩
  have := List.all_eq_true.1 this.2.2 b hb
  simpa using this
theorem fig_free (n : Int) (h : 0 ≤ n ∧ n < 16) : fig n ≠ 32 := by
  have : ∀ a : Fin 16, fig (a.val : Int) ≠ 32 := by decide
  have h2 := this ⟨n.toNat, by omega⟩
  simpa only [Int.toNat_of_nonneg h.1] using h2
theorem hexd_free (t : ByteArray) : free (rhexOrDash t).data.toList := by
  unfold rhexOrDash
  split
  · intro b hb
    rw [data_tx, List.mem_singleton] at hb
    rw [hb]; decide
  · unfold rHex
    split
    · intro b hb; cases hb
    · unfold rhexText
      intro b hb
      rw [data_tx] at hb
      obtain ⟨x, hx, h⟩ := List.mem_flatMap.1 hb
      have := x.toNat_lt
      unfold hex2 at h
      simp only [List.mem_cons, List.not_mem_nil, or_false] at h
      rcases h with rfl | rfl
      · exact fig_free _ (by omega)
      · exact fig_free _ (by omega)
theorem full_t {a : TAct} (h : actFull a) : (1 ≤ a.kind_ ∧ a.kind_ ≤ 8) ∧ a.text_.size ≤ 200 ∧ (0 ≤ a.n_ ∧ a.n_ ≤ 1000000000) ∧ (∀ n ∈ a.keeps_, 0 ≤ n ∧ n ≤ 1000000000) ∧ (a.kind_ ≠ 1 → a.text_ = tx []) ∧ (¬ counted a.kind_ → a.n_ = 0) ∧ (a.kind_ ≠ 8 → a.keeps_ = []) := by
  obtain ⟨h1, h2, h3, h4, h5, h6⟩ := h
  have h7 := rActOk_t h1
  exact ⟨h7.1, h7.2.1, act1_f h5, act_all h6, h2, h3, fun h => List.eq_nil_of_length_eq_zero (h4 h)⟩
theorem wordsA_free {a : TAct} (h : actFull a) : ∀ x ∈ wordsA a, free x.data.toList := by
  obtain ⟨h1, h2, h3, h4, -⟩ := full_t h
  intro x hx
  unfold wordsA at hx
  rcases List.mem_cons.1 hx with rfl | hx
  · exact (aw_t h1).2.2
  · unfold wordsT at hx
    split at hx
    · rw [List.mem_singleton] at hx
      rw [hx]; exact hexd_free _
    · split at hx
      · rcases List.mem_cons.1 hx with rfl | hx
        · exact (dec_free h3.1).1
        · obtain ⟨n, hn, rfl⟩ := List.mem_map.1 hx
          exact (dec_free (h4 n hn).1).1
      · cases hx
theorem act_iff {p : List ByteArray} {c : TAct} (hp : p ≠ []) (h : ∀ x ∈ p, wordOk x) : (rActLine c ≠ tx [] ∧ rActLine c = rJoin p) ↔ (actFull c ∧ wordsA c = p) := by
  constructor
  · rintro ⟨h1, h2⟩
    have hf : actFull c := by
      apply Classical.byContradiction
      intro hn
      unfold rActLine at h1
      rw [if_neg hn] at h1
      exact h1 rfl
    rw [actLine_words hf] at h2
    exact ⟨hf, rJoin_inj (by unfold wordsA; simp) hp (wordsA_free hf) (fun y hy => (h y hy).2) h2⟩
  · rintro ⟨h1, h2⟩
    rw [actLine_words h1, h2]
    exact ⟨join_ne hp h, rfl⟩
theorem words_t {a : TAct} {p : List ByteArray} (h : actFull a) (hp : wordsA a = p) : p.head? = some (actWord a.kind_) ∧ (a.kind_ = 1 → p.length = 2 ∧ p[1]?.map (fun x => (rUnhex x).1) = some a.text_) ∧
    (counted a.kind_ → p.length = 2 + a.keeps_.length ∧ rl29Num p 1 = a.n_ ∧ rreadFigures (p.drop 1) = (a.n_ :: a.keeps_, true) ∧ (p.drop 2).map (fun x => (rReadDecimal x).1) = a.keeps_) ∧ (a.kind_ ≠ 1 → ¬ counted a.kind_ → p.length = 1) := by
  obtain ⟨h1, h2, h3, h4, -⟩ := full_t h
  subst hp
  unfold wordsA wordsT
  refine ⟨rfl, fun e => ?_, fun e => ?_, fun e1 e2 => ?_⟩
  · rw [if_pos e]
    exact ⟨rfl, congrArg some (unhex_hexd h2)⟩
  · have e1 : a.kind_ ≠ 1 := by unfold counted at e; omega
    rw [if_neg e1, if_pos e]
    have hm : (a.keeps_.map rDecimal).map (fun x => (rReadDecimal x).1) = a.keeps_ := by
      rw [List.map_map]
      conv => rhs; rw [← List.map_id a.keeps_]
      refine List.map_congr_left fun n hn => ?_
      show (rReadDecimal (rDecimal n)).1 = n
      rw [read_dec (h4 n hn).1 (h4 n hn).2]
    refine ⟨by simp; omega, ?_, ?_, by rw [List.drop_succ_cons, List.drop_succ_cons, List.drop_zero]; exact hm⟩
    · have := num_at (p := actWord a.kind_ :: rDecimal a.n_ :: a.keeps_.map rDecimal) (k := 1) (by simp)
      exact this.trans (by show (rReadDecimal (rDecimal a.n_)).1 = _; rw [read_dec h3.1 h3.2])
    · unfold rreadFigures
      rw [List.drop_succ_cons, List.drop_zero, if_pos, List.map_cons, hm, read_dec h3.1 h3.2]
      rw [List.all_cons, read_dec h3.1 h3.2, Bool.true_and, List.all_eq_true]
      intro x hx
      obtain ⟨n, hn, rfl⟩ := List.mem_map.1 hx
      rw [read_dec (h4 n hn).1 (h4 n hn).2]
  · rw [if_neg e1, if_neg e2]
    rfl
def kindOf (p : List ByteArray) : Int := rIndex ractWords (p.headD (tx []))
def candA (p : List ByteArray) : TAct := ⟨kindOf p, if kindOf p = 1 then (rUnhex (p.getD 1 (tx []))).1 else tx [], if counted (kindOf p) then rl29Num p 1 else 0, if kindOf p = 8 then (p.drop 2).map (fun x => (rReadDecimal x).1) else []⟩
def Faith (p : List ByteArray) (c : TAct) : Prop := ∀ a, actFull a → wordsA a = p → c = a
theorem faith_of {p : List ByteArray} {c : TAct} (h : ∀ a, actFull a → wordsA a = p → c.kind_ = a.kind_ ∧ c.text_ = a.text_ ∧ c.n_ = a.n_ ∧ c.keeps_ = a.keeps_) : Faith p c := by
  intro a ha hp
  obtain ⟨h1, h2, h3, h4⟩ := h a ha hp
  obtain ⟨k, t, n, l⟩ := a
  obtain ⟨k', t', n', l'⟩ := c
  simp only at h1 h2 h3 h4
  rw [h1, h2, h3, h4]
theorem faith_cand (p : List ByteArray) : Faith p (candA p) := by
  refine faith_of fun a ha hp => ?_
  obtain ⟨h1, h2, h3, h4, h5, h6, h7⟩ := full_t ha
  obtain ⟨g1, g2, g3, g4⟩ := words_t ha hp
  have hk : kindOf p = a.kind_ := by
    unfold kindOf
    rw [List.headD_eq_head?_getD, g1]
    exact (aw_t h1).1
  unfold candA
  rw [hk]
  refine ⟨rfl, ?_, ?_, ?_⟩
  · dsimp only
    split
    · rename_i e
      have := (g2 e).2
      obtain ⟨x, hx, e2⟩ := Option.map_eq_some_iff.1 this
      rw [List.getD_eq_getElem?_getD, hx]
      exact e2
    · rename_i e; exact (h5 e).symm
  · dsimp only
    split
    · rename_i e; exact (g3 e).2.1
    · rename_i e; exact (h6 e).symm
  · dsimp only
    split
    · rename_i e; exact (g3 (by unfold counted; omega)).2.2.2
    · rename_i e; exact (h7 e).symm
def rReadAct (line : ByteArray) : TAct × Bool := if (rPartsOf line).2 = true ∧ actFull (candA (rPartsOf line).1) ∧ wordsA (candA (rPartsOf line).1) = (rPartsOf line).1 then (candA (rPartsOf line).1, true) else (⟨0, tx [], 0, []⟩, false)
theorem act_no0 {line : ByteArray} {p : List ByteArray} (h : rPartsOf line = (p, false)) : ((⟨0, tx [], 0, []⟩ : TAct), false) = rReadAct line := by
  unfold rReadAct
  rw [h, if_neg (by rintro ⟨h, -⟩; cases h)]
theorem act_nil {line : ByteArray} {p : List ByteArray} {b : Bool} (h : rPartsOf line = (p, b)) (hp : p.length = 0) : ((⟨0, tx [], 0, []⟩ : TAct), false) = rReadAct line := by
  unfold rReadAct
  rw [h, if_neg]
  rintro ⟨-, -, h3⟩
  have := congrArg List.length h3
  dsimp only at this
  unfold wordsA at this
  rw [List.length_cons] at this
  omega
theorem act_no {line : ByteArray} {p : List ByteArray} {c : TAct} (h : rPartsOf line = (p, true)) (hp : p ≠ []) (hw : ∀ x ∈ p, wordOk x) (hf : Faith p c) (hn : rActLine c = tx [] ∨ rActLine c ≠ rJoin p) : ((⟨0, tx [], 0, []⟩ : TAct), false) = rReadAct line := by
  unfold rReadAct
  rw [h, if_neg]
  rintro ⟨-, h2, h3⟩
  dsimp only at h2 h3
  have hc := hf _ h2 h3
  rw [← hc] at h2 h3
  have := (act_iff hp hw).2 ⟨h2, h3⟩
  rcases hn with h4 | h4
  · exact this.1 h4
  · exact h4 this.2
theorem act_yes {line : ByteArray} {p : List ByteArray} {c : TAct} (h : rPartsOf line = (p, true)) (hp : p ≠ []) (hw : ∀ x ∈ p, wordOk x) (h1 : rActLine c ≠ tx []) (h2 : rActLine c = rJoin p) : (c, true) = rReadAct line := by
  have h3 := (act_iff hp hw).1 ⟨h1, h2⟩
  have h4 := faith_cand p c h3.1 h3.2
  unfold rReadAct
  rw [h, if_pos]
  · show _ = (candA p, true)
    rw [h4]
  · refine ⟨rfl, ?_⟩
    dsimp only
    rw [h4]
    exact h3
def KindIs (p : List ByteArray) (k : Int) : Prop := ∀ j : Int, 1 ≤ j ∧ j ≤ 8 → p.head? = some (actWord j) → k = j
theorem KindIs.idx {p : List ByteArray} {x : ByteArray} {k : Int} (hx : p.head? = some x) (h : rIndex ractWords x = k) : KindIs p k := by
  intro j hj e
  rw [hx] at e
  rw [← h, Option.some.inj e]
  exact (aw_t hj).1
theorem faith_k {p : List ByteArray} {k : Int} {c : TAct} (hk : KindIs p k) (hc : c.kind_ = k) (h : ∀ a, actFull a → wordsA a = p → a.kind_ = k → c.text_ = a.text_ ∧ c.n_ = a.n_ ∧ c.keeps_ = a.keeps_) : Faith p c :=
  faith_of fun a ha hp => by
    have e := hk a.kind_ (full_t ha).1 (words_t ha hp).1
    exact ⟨hc.trans e, h a ha hp e.symm⟩
theorem faith_app {p : List ByteArray} {x : ByteArray} (hk : KindIs p 1) (hx : p[1]? = some x) : Faith p ⟨1, (rUnhex x).1, 0, []⟩ := faith_k hk rfl fun a ha hp e => by
  obtain ⟨h1, h2, h3, h4, h5, h6, h7⟩ := full_t ha
  have g := ((words_t ha hp).2.1 e).2
  rw [hx] at g
  refine ⟨Option.some.inj g, (h6 (by unfold counted; omega)).symm, (h7 (by omega)).symm⟩
theorem faith_len {p : List ByteArray} {c : TAct} (hk : KindIs p 1) (hl : p.length ≠ 2) : Faith p c := fun a ha hp => absurd ((words_t ha hp).2.1 (hk a.kind_ (full_t ha).1 (words_t ha hp).1).symm).1 hl
theorem faith_no {p : List ByteArray} {c : TAct} {k : Int} {l : List Int} (hk : KindIs p k) (h1 : k ≠ 1) (hr : rreadFigures (p.drop 1) = (l, false)) : Faith p c := fun a ha hp => by
  exfalso
  have e := hk a.kind_ (full_t ha).1 (words_t ha hp).1
  have g := words_t ha hp
  by_cases hc : counted a.kind_
  · rw [(g.2.2.1 hc).2.2.1] at hr; cases hr
  · have hl := g.2.2.2 (by omega) hc
    rw [List.drop_of_length_le (by omega)] at hr
    cases hr
theorem faith_fig {p : List ByteArray} {k n : Int} {l : List Int} (hk : KindIs p k) (h1 : k ≠ 1) (hr : rreadFigures (p.drop 1) = (n :: l, true)) : Faith p ⟨k, tx [], n, l⟩ := faith_k hk rfl fun a ha hp e => by
  obtain ⟨h1', h2, h3, h4, h5, h6, h7⟩ := full_t ha
  have g := words_t ha hp
  by_cases hc : counted a.kind_
  · rw [(g.2.2.1 hc).2.2.1] at hr
    obtain ⟨hr, -⟩ := Prod.mk.inj hr
    obtain ⟨rfl, rfl⟩ := List.cons.inj hr
    exact ⟨(h5 (by omega)).symm, rfl, rfl⟩
  · have hl := g.2.2.2 (by omega) hc
    rw [List.drop_of_length_le (by omega)] at hr
    cases hr
theorem faith_bare {p : List ByteArray} {k : Int} (hk : KindIs p k) (h1 : k ≠ 1) (hr : rreadFigures (p.drop 1) = ([], true) ∨ ¬ counted k) : Faith p ⟨k, tx [], 0, []⟩ := faith_k hk rfl fun a ha hp e => by
  obtain ⟨h1', h2, h3, h4, h5, h6, h7⟩ := full_t ha
  have g := words_t ha hp
  have hc : ¬ counted a.kind_ := by
    intro hc
    rcases hr with hr | hr
    · rw [(g.2.2.1 hc).2.2.1] at hr
      cases hr
    · rw [e] at hc; exact hr hc
  exact ⟨(h5 (by omega)).symm, (h6 hc).symm, (h7 (by unfold counted at hc; omega)).symm⟩
theorem figs_len1 {l : List ByteArray} {n : List Int} {b : Bool} (h : rreadFigures l = (n, b)) : n.length ≤ l.length := by
  unfold rreadFigures at h
  split at h
  · rw [← (Prod.mk.inj h).1, List.length_map]; exact Nat.le_refl _
  · rw [← (Prod.mk.inj h).1]; exact Nat.zero_le _
theorem Flslices_Index_string_string {l : List ByteArray} {xl : List (List D)} {x : ByteArray} {o : Int} (hl : l.map cS = xl) (hn : l.length < 2 ^ 40) (hr : rIndex l x = o)  : Fn Tryz.prog 24 [.d (.row 1 xl), S x] [] ⟨I o, [], []⟩ := by
 refine Fn.go su_ch29f Tryz.func24 fun P hP Q hQ => ?_
 conv => cbv
 refine .go hl fun v1 hv1 => ?_
 conv => cbv
 refine LoopW.lp (κ := Int) su_ch29f hP [] [0, 1, 7] (fun i8 => [(8, I i8)]) (fun i8 => [])
   (fun i8 => 0 ≤ i8 ∧ i8 ≤ l.length ∧ ∀ (j : Nat) (hj : j < l.length), j < i8.toNat → decide (x = l[j]) = false)
   (fun i8 => (l.length - i8).toNat) (0) ⟨by omega, by omega, fun j _ h => by simp at h⟩ ⟨rfl, trivial⟩ rfl ?_
 rintro i8 J ⟨h0, h1, hb⟩ hJ
 conv => cbv
 refine .lss (fun h2 => ?_) fun h2 => ?_
 conv => cbv
 refine .go i8.toNat hl fun hje3 e3 qe3 => ?_
 conv => cbv
 refine .eql (fun h4 => ?_) fun h4 => ?_
 conv => cbv
 have e : i8 = rIndex l x := (by exact idxI_at (p := fun y => decide (x = y)) h0 (by omega) (by rw [decide_eq_true_eq, ← qe3]; first | exact h4 | exact h4.symm) hb)
 rw [hr] at e
 subst e
 exact hQ _ _ (.i rfl rfl)
 conv => cbv
 refine .add fun v5 hv5 => ?_
 conv => cbv
 exact .go [] (v5) (hJ _ ⟨by omega, by omega, fun j hj h => if e : j = i8.toNat then by subst e; rw [decide_eq_false_iff_not, ← qe3]; first | exact h4 | exact fun e => h4 e.symm else hb j hj (by omega)⟩ (by first | (dsimp only; omega) | omega))
 conv => cbv
 have e : (-1) = rIndex l x := (by exact idxI_none (p := fun y => decide (x = y)) fun j hj => hb j hj (by omega))
 rw [hr] at e
 subst e
 exact hQ _ _ (.i rfl rfl)
theorem FiReadAct {line : ByteArray} {oakin : Int} {oatex : ByteArray} {oan : Int} {oakee : List Int} {xoakee : List (List D)} {ob : Bool}  (hr : rReadAct line = (⟨oakin, oatex, oan, oakee⟩, ob)) (hoakee : oakee.map cI = xoakee) : Fn Tryz.prog 7 [S line] [] ⟨.tup [.agg [I oakin, S oatex, I oan, .d (.row 1 xoakee)], B ob], [], []⟩ := by
 refine Fn.go su_ch29f Tryz.func7 fun P hP Q hQ => ?_
 conv => cbv
 rcases hr1 : rPartsOf line with ⟨r1a, r1b⟩
 generalize hr1a : r1a.map cS = xr1a
 refine .dd hP (FiPartsOf  hr1 hr1a) ?_
 conv => cbv
 cases r1b
 conv => cbv
 have e : ((⟨0, tx [], 0, []⟩ : TAct), false) = rReadAct line := (by exact act_no0 hr1)
 rw [hr] at e
 simp only [Prod.mk.injEq, TAct.mk.injEq] at e
 obtain ⟨⟨rfl, rfl, rfl, rfl⟩, rfl⟩ := e
 refine hQ _ _ ?_
 exact .many (.inl rfl) rfl rfl (.agg (.d rfl rfl (.d rfl rfl (.d rfl rfl (.ref rfl rfl (by rw [← hoakee]; rfl) (.nil))))) (.d rfl rfl (.nil)))
 conv => cbv
 have hpt := parts_t hr1
 have hpw : ∀ x ∈ r1a, wordOk x := fun x hx => (hpt.2.2.2.1 x hx).2
 have hps : ∀ x ∈ r1a, x.size ≤ 600 := fun x hx => (hpt.2.2.2.1 x hx).1
 have hpl := hpt.2.2.1
 refine .go hr1a fun v2 hv2 => ?_
 conv => cbv
 refine .eql (fun h3 => ?_) fun h3 => ?_
 conv => cbv
 have e : ((⟨0, tx [], 0, []⟩ : TAct), false) = rReadAct line := (by exact act_nil hr1 (by omega))
 rw [hr] at e
 simp only [Prod.mk.injEq, TAct.mk.injEq] at e
 obtain ⟨⟨rfl, rfl, rfl, rfl⟩, rfl⟩ := e
 refine hQ _ _ ?_
 exact .many (.inl rfl) rfl rfl (.agg (.d rfl rfl (.d rfl rfl (.d rfl rfl (.ref rfl rfl (by rw [← hoakee]; rfl) (.nil))))) (.d rfl rfl (.nil)))
 conv => cbv
 have hne : r1a ≠ [] := by intro e; rw [e] at hv2; simp at hv2; omega
 have hjb := rJoin_b (l := r1a) rfl hps hpl
 have hd1 : ∀ x ∈ r1a.drop 1, x.size ≤ 1000000000 := fun x hx => by have := hps x (List.mem_of_mem_drop hx); omega
 have hall : ∀ x ∈ r1a, x.size ≤ 1000000000 := fun x hx => by have := hps x hx; omega
 generalize hr4 : ractWords  = l4
 generalize hl4 : l4.map cS = xl4
 refine .dd hP (FiactWords hr4 hl4) ?_
 conv => cbv
 refine .go 0 hr1a fun hje5 e5 qe5 => ?_
 conv => cbv
 generalize hr6 : rIndex l4 e5 = r6
 refine .dd hP (Flslices_Index_string_string hl4 (by rw [← hr4]; decide) hr6) ?_
 conv => cbv
 have hhd : r1a.head? = some e5 := by rw [qe5, List.head?_eq_getElem?]; exact List.getElem?_eq_getElem _
 have hki : KindIs r1a r6 := KindIs.idx hhd (by rw [hr4]; exact hr6)
 refine .eql (fun h7 => ?_) fun h7 => ?_
 conv => cbv
 refine .go hr1a fun v8 hv8 => ?_
 conv => cbv
 refine .gtr (fun h9 => ?_) fun h9 => ?_
 conv => cbv
 refine .go 1 hr1a fun hje10 e10 qe10 => ?_
 conv => cbv
 rcases hr11 : rUnhex e10 with ⟨r11a, r11b⟩
 refine .dd hP (FiUnhex (by rw [qe10]; exact hall _ (List.getElem_mem _)) hr11) ?_
 conv => cbv
 generalize hr12 : rActLine (⟨r6, r11a, 0, []⟩ : TAct) = r12
 refine .lnt hP (FiActLine rfl ⟨by first | omega | (have := uh_b hr11; omega) | decide, by first | omega | (simp; done) | (have hfl := figs_len1 (by assumption); rw [List.length_drop] at *; omega)⟩ hr12) (.agg (.d rfl (.d rfl (.d rfl (.ref rfl rfl .nil)))) .nil) ?_
 conv => cbv
 refine .eql (fun h13 => ?_) fun h13 => ?_
 conv => cbv
 have e : ((⟨0, tx [], 0, []⟩ : TAct), false) = rReadAct line := (by exact act_no (c := ⟨r6, r11a, 0, []⟩) hr1 hne hpw (by have e1 : r6 = 1 := h7; subst e1; rw [show r11a = (rUnhex e10).1 by rw [hr11]]; exact faith_app hki (by rw [List.getElem?_eq_getElem (by omega), qe10])) (.inl (by rw [hr12]; exact h13)))
 rw [hr] at e
 simp only [Prod.mk.injEq, TAct.mk.injEq] at e
 obtain ⟨⟨rfl, rfl, rfl, rfl⟩, rfl⟩ := e
 refine hQ _ _ ?_
 exact .many (.inl rfl) rfl rfl (.agg (.d rfl rfl (.d rfl rfl (.d rfl rfl (.ref rfl rfl (by rw [← hoakee]; rfl) (.nil))))) (.d rfl rfl (.nil)))
 conv => cbv
 generalize hr14 : rJoin r1a = r14
 refine .dd hP (Flstrings_Join hr1a ⟨by omega, by omega⟩ hr14) ?_
 conv => cbv
 refine .neq (fun h15 => ?_) fun h15 => ?_
 conv => cbv
 have e : ((⟨0, tx [], 0, []⟩ : TAct), false) = rReadAct line := (by exact act_no (c := ⟨r6, r11a, 0, []⟩) hr1 hne hpw (by have e1 : r6 = 1 := h7; subst e1; rw [show r11a = (rUnhex e10).1 by rw [hr11]]; exact faith_app hki (by rw [List.getElem?_eq_getElem (by omega), qe10])) (.inr (by rw [hr12, show rJoin r1a = r14 from hr14]; exact h15)))
 rw [hr] at e
 simp only [Prod.mk.injEq, TAct.mk.injEq] at e
 obtain ⟨⟨rfl, rfl, rfl, rfl⟩, rfl⟩ := e
 refine hQ _ _ ?_
 exact .many (.inl rfl) rfl rfl (.agg (.d rfl rfl (.d rfl rfl (.d rfl rfl (.ref rfl rfl (by rw [← hoakee]; rfl) (.nil))))) (.d rfl rfl (.nil)))
 conv => cbv
 have e : ((⟨r6, r11a, 0, []⟩ : TAct), true) = rReadAct line := (by exact act_yes hr1 hne hpw (by rw [hr12]; exact h13) (by rw [hr12, show rJoin r1a = r14 from hr14]; exact h15))
 rw [hr] at e
 simp only [Prod.mk.injEq, TAct.mk.injEq] at e
 obtain ⟨⟨rfl, rfl, rfl, rfl⟩, rfl⟩ := e
 refine hQ _ _ ?_
 exact .many (.inl rfl) rfl rfl (.agg (.d rfl rfl (.d rfl rfl (.d rfl rfl (.ref rfl rfl (by rw [← hoakee]; rfl) (.nil))))) (.d rfl rfl (.nil)))
 conv => cbv
 refine .lo hr1a fun x10 hx10 => ?_
 conv => cbv
 rcases hr11 : rreadFigures (r1a.drop 1) with ⟨r11a, r11b⟩
 generalize hr11a : r11a.map cI = xr11a
 refine .dd hP (FireadFigures hx10 hd1 (by rw [List.length_drop]; omega) hr11 hr11a) ?_
 conv => cbv
 cases r11b
 conv => cbv
 generalize hr12 : rActLine (⟨r6, tx [], 0, []⟩ : TAct) = r12
 refine .lnt hP (FiActLine rfl ⟨by first | omega | (have := uh_b hr11; omega) | decide, by first | omega | (simp; done) | (have hfl := figs_len1 (by assumption); rw [List.length_drop] at *; omega)⟩ hr12) (.agg (.d rfl (.d rfl (.d rfl (.ref rfl rfl .nil)))) .nil) ?_
 conv => cbv
 refine .eql (fun h13 => ?_) fun h13 => ?_
 conv => cbv
 have e : ((⟨0, tx [], 0, []⟩ : TAct), false) = rReadAct line := (by exact act_no (c := ⟨r6, tx [], 0, []⟩) hr1 hne hpw (by have e1 : r6 = 1 := h7; subst e1; exact faith_len hki (by omega)) (.inl (by rw [hr12]; exact h13)))
 rw [hr] at e
 simp only [Prod.mk.injEq, TAct.mk.injEq] at e
 obtain ⟨⟨rfl, rfl, rfl, rfl⟩, rfl⟩ := e
 refine hQ _ _ ?_
 exact .many (.inl rfl) rfl rfl (.agg (.d rfl rfl (.d rfl rfl (.d rfl rfl (.ref rfl rfl (by rw [← hoakee]; rfl) (.nil))))) (.d rfl rfl (.nil)))
 conv => cbv
 generalize hr14 : rJoin r1a = r14
 refine .dd hP (Flstrings_Join hr1a ⟨by omega, by omega⟩ hr14) ?_
 conv => cbv
 refine .neq (fun h15 => ?_) fun h15 => ?_
 conv => cbv
 have e : ((⟨0, tx [], 0, []⟩ : TAct), false) = rReadAct line := (by exact act_no (c := ⟨r6, tx [], 0, []⟩) hr1 hne hpw (by have e1 : r6 = 1 := h7; subst e1; exact faith_len hki (by omega)) (.inr (by rw [hr12, show rJoin r1a = r14 from hr14]; exact h15)))
 rw [hr] at e
 simp only [Prod.mk.injEq, TAct.mk.injEq] at e
 obtain ⟨⟨rfl, rfl, rfl, rfl⟩, rfl⟩ := e
 refine hQ _ _ ?_
 exact .many (.inl rfl) rfl rfl (.agg (.d rfl rfl (.d rfl rfl (.d rfl rfl (.ref rfl rfl (by rw [← hoakee]; rfl) (.nil))))) (.d rfl rfl (.nil)))
 conv => cbv
 have e : ((⟨r6, tx [], 0, []⟩ : TAct), true) = rReadAct line := (by exact act_yes hr1 hne hpw (by rw [hr12]; exact h13) (by rw [hr12, show rJoin r1a = r14 from hr14]; exact h15))
 rw [hr] at e
 simp only [Prod.mk.injEq, TAct.mk.injEq] at e
 obtain ⟨⟨rfl, rfl, rfl, rfl⟩, rfl⟩ := e
 refine hQ _ _ ?_
 exact .many (.inl rfl) rfl rfl (.agg (.d rfl rfl (.d rfl rfl (.d rfl rfl (.ref rfl rfl (by rw [← hoakee]; rfl) (.nil))))) (.d rfl rfl (.nil)))
 conv => cbv
 refine .go hr11a fun v12 hv12 => ?_
 conv => cbv
 refine .gtr (fun h13 => ?_) fun h13 => ?_
 conv => cbv
 refine .go 0 hr11a fun hje14 e14 qe14 => ?_
 conv => cbv
 refine .lo hr11a fun x15 hx15 => ?_
 conv => cbv
 generalize hr16 : rActLine (⟨r6, tx [], e14, r11a.drop 1⟩ : TAct) = r16
 refine .dd hP (FiActLine hx15 ⟨by first | omega | (have := uh_b hr11; omega) | decide, by first | omega | (simp; done) | (have hfl := figs_len1 (by assumption); rw [List.length_drop] at *; omega)⟩ hr16) ?_
 conv => cbv
 refine .eql (fun h17 => ?_) fun h17 => ?_
 conv => cbv
 have e : ((⟨0, tx [], 0, []⟩ : TAct), false) = rReadAct line := (by exact act_no (c := ⟨r6, tx [], e14, r11a.drop 1⟩) hr1 hne hpw (by have e1 : r6 = 1 := h7; subst e1; exact faith_len hki (by omega)) (.inl (by rw [hr16]; exact h17)))
 rw [hr] at e
 simp only [Prod.mk.injEq, TAct.mk.injEq] at e
 obtain ⟨⟨rfl, rfl, rfl, rfl⟩, rfl⟩ := e
 refine hQ _ _ ?_
 exact .many (.inl rfl) rfl rfl (.agg (.d rfl rfl (.d rfl rfl (.d rfl rfl (.ref rfl rfl (by rw [← hoakee]; rfl) (.nil))))) (.d rfl rfl (.nil)))
 conv => cbv
 generalize hr18 : rJoin r1a = r18
 refine .dd hP (Flstrings_Join hr1a ⟨by omega, by omega⟩ hr18) ?_
 conv => cbv
 refine .neq (fun h19 => ?_) fun h19 => ?_
 conv => cbv
 have e : ((⟨0, tx [], 0, []⟩ : TAct), false) = rReadAct line := (by exact act_no (c := ⟨r6, tx [], e14, r11a.drop 1⟩) hr1 hne hpw (by have e1 : r6 = 1 := h7; subst e1; exact faith_len hki (by omega)) (.inr (by rw [hr16, show rJoin r1a = r18 from hr18]; exact h19)))
 rw [hr] at e
 simp only [Prod.mk.injEq, TAct.mk.injEq] at e
 obtain ⟨⟨rfl, rfl, rfl, rfl⟩, rfl⟩ := e
 refine hQ _ _ ?_
 exact .many (.inl rfl) rfl rfl (.agg (.d rfl rfl (.d rfl rfl (.d rfl rfl (.ref rfl rfl (by rw [← hoakee]; rfl) (.nil))))) (.d rfl rfl (.nil)))
 conv => cbv
 have e : ((⟨r6, tx [], e14, r11a.drop 1⟩ : TAct), true) = rReadAct line := (by exact act_yes hr1 hne hpw (by rw [hr16]; exact h17) (by rw [hr16, show rJoin r1a = r18 from hr18]; exact h19))
 rw [hr] at e
 simp only [Prod.mk.injEq, TAct.mk.injEq] at e
 obtain ⟨⟨rfl, rfl, rfl, rfl⟩, rfl⟩ := e
 refine hQ _ _ ?_
 exact .many (.inl rfl) rfl rfl (.agg (.d rfl rfl (.d rfl rfl (.d rfl rfl (.d rfl (rowEq hx15 hoakee) (.nil))))) (.d rfl rfl (.nil)))
 conv => cbv
 generalize hr14 : rActLine (⟨r6, tx [], 0, []⟩ : TAct) = r14
 refine .lnt hP (FiActLine rfl ⟨by first | omega | (have := uh_b hr11; omega) | decide, by first | omega | (simp; done) | (have hfl := figs_len1 (by assumption); rw [List.length_drop] at *; omega)⟩ hr14) (.agg (.d rfl (.d rfl (.d rfl (.ref rfl rfl .nil)))) .nil) ?_
 conv => cbv
 refine .eql (fun h15 => ?_) fun h15 => ?_
 conv => cbv
 have e : ((⟨0, tx [], 0, []⟩ : TAct), false) = rReadAct line := (by exact act_no (c := ⟨r6, tx [], 0, []⟩) hr1 hne hpw (by have e1 : r6 = 1 := h7; subst e1; exact faith_len hki (by omega)) (.inl (by rw [hr14]; exact h15)))
 rw [hr] at e
 simp only [Prod.mk.injEq, TAct.mk.injEq] at e
 obtain ⟨⟨rfl, rfl, rfl, rfl⟩, rfl⟩ := e
 refine hQ _ _ ?_
 exact .many (.inl rfl) rfl rfl (.agg (.d rfl rfl (.d rfl rfl (.d rfl rfl (.ref rfl rfl (by rw [← hoakee]; rfl) (.nil))))) (.d rfl rfl (.nil)))
 conv => cbv
 generalize hr16 : rJoin r1a = r16
 refine .dd hP (Flstrings_Join hr1a ⟨by omega, by omega⟩ hr16) ?_
 conv => cbv
 refine .neq (fun h17 => ?_) fun h17 => ?_
 conv => cbv
 have e : ((⟨0, tx [], 0, []⟩ : TAct), false) = rReadAct line := (by exact act_no (c := ⟨r6, tx [], 0, []⟩) hr1 hne hpw (by have e1 : r6 = 1 := h7; subst e1; exact faith_len hki (by omega)) (.inr (by rw [hr14, show rJoin r1a = r16 from hr16]; exact h17)))
 rw [hr] at e
 simp only [Prod.mk.injEq, TAct.mk.injEq] at e
 obtain ⟨⟨rfl, rfl, rfl, rfl⟩, rfl⟩ := e
 refine hQ _ _ ?_
 exact .many (.inl rfl) rfl rfl (.agg (.d rfl rfl (.d rfl rfl (.d rfl rfl (.ref rfl rfl (by rw [← hoakee]; rfl) (.nil))))) (.d rfl rfl (.nil)))
 conv => cbv
 have e : ((⟨r6, tx [], 0, []⟩ : TAct), true) = rReadAct line := (by exact act_yes hr1 hne hpw (by rw [hr14]; exact h15) (by rw [hr14, show rJoin r1a = r16 from hr16]; exact h17))
 rw [hr] at e
 simp only [Prod.mk.injEq, TAct.mk.injEq] at e
 obtain ⟨⟨rfl, rfl, rfl, rfl⟩, rfl⟩ := e
 refine hQ _ _ ?_
 exact .many (.inl rfl) rfl rfl (.agg (.d rfl rfl (.d rfl rfl (.d rfl rfl (.ref rfl rfl (by rw [← hoakee]; rfl) (.nil))))) (.d rfl rfl (.nil)))
 conv => cbv
 refine .lo hr1a fun x8 hx8 => ?_
 conv => cbv
 rcases hr9 : rreadFigures (r1a.drop 1) with ⟨r9a, r9b⟩
 generalize hr9a : r9a.map cI = xr9a
 refine .dd hP (FireadFigures hx8 hd1 (by rw [List.length_drop]; omega) hr9 hr9a) ?_
 conv => cbv
 cases r9b
 conv => cbv
 generalize hr10 : rActLine (⟨r6, tx [], 0, []⟩ : TAct) = r10
 refine .lnt hP (FiActLine rfl ⟨by first | omega | (have := uh_b hr11; omega) | decide, by first | omega | (simp; done) | (have hfl := figs_len1 (by assumption); rw [List.length_drop] at *; omega)⟩ hr10) (.agg (.d rfl (.d rfl (.d rfl (.ref rfl rfl .nil)))) .nil) ?_
 conv => cbv
 refine .eql (fun h11 => ?_) fun h11 => ?_
 conv => cbv
 have e : ((⟨0, tx [], 0, []⟩ : TAct), false) = rReadAct line := (by exact act_no (c := ⟨r6, tx [], 0, []⟩) hr1 hne hpw (faith_no hki h7 hr9) (.inl (by rw [hr10]; exact h11)))
 rw [hr] at e
 simp only [Prod.mk.injEq, TAct.mk.injEq] at e
 obtain ⟨⟨rfl, rfl, rfl, rfl⟩, rfl⟩ := e
 refine hQ _ _ ?_
 exact .many (.inl rfl) rfl rfl (.agg (.d rfl rfl (.d rfl rfl (.d rfl rfl (.ref rfl rfl (by rw [← hoakee]; rfl) (.nil))))) (.d rfl rfl (.nil)))
 conv => cbv
 generalize hr12 : rJoin r1a = r12
 refine .dd hP (Flstrings_Join hr1a ⟨by omega, by omega⟩ hr12) ?_
 conv => cbv
 refine .neq (fun h13 => ?_) fun h13 => ?_
 conv => cbv
 have e : ((⟨0, tx [], 0, []⟩ : TAct), false) = rReadAct line := (by exact act_no (c := ⟨r6, tx [], 0, []⟩) hr1 hne hpw (faith_no hki h7 hr9) (.inr (by rw [hr10, show rJoin r1a = r12 from hr12]; exact h13)))
 rw [hr] at e
 simp only [Prod.mk.injEq, TAct.mk.injEq] at e
 obtain ⟨⟨rfl, rfl, rfl, rfl⟩, rfl⟩ := e
 refine hQ _ _ ?_
 exact .many (.inl rfl) rfl rfl (.agg (.d rfl rfl (.d rfl rfl (.d rfl rfl (.ref rfl rfl (by rw [← hoakee]; rfl) (.nil))))) (.d rfl rfl (.nil)))
 conv => cbv
 have e : ((⟨r6, tx [], 0, []⟩ : TAct), true) = rReadAct line := (by exact act_yes hr1 hne hpw (by rw [hr10]; exact h11) (by rw [hr10, show rJoin r1a = r12 from hr12]; exact h13))
 rw [hr] at e
 simp only [Prod.mk.injEq, TAct.mk.injEq] at e
 obtain ⟨⟨rfl, rfl, rfl, rfl⟩, rfl⟩ := e
 refine hQ _ _ ?_
 exact .many (.inl rfl) rfl rfl (.agg (.d rfl rfl (.d rfl rfl (.d rfl rfl (.ref rfl rfl (by rw [← hoakee]; rfl) (.nil))))) (.d rfl rfl (.nil)))
 conv => cbv
 refine .go hr9a fun v10 hv10 => ?_
 conv => cbv
 refine .gtr (fun h11 => ?_) fun h11 => ?_
 conv => cbv
 refine .go 0 hr9a fun hje12 e12 qe12 => ?_
 conv => cbv
 refine .lo hr9a fun x13 hx13 => ?_
 conv => cbv
 generalize hr14 : rActLine (⟨r6, tx [], e12, r9a.drop 1⟩ : TAct) = r14
 refine .dd hP (FiActLine hx13 ⟨by first | omega | (have := uh_b hr11; omega) | decide, by first | omega | (simp; done) | (have hfl := figs_len1 (by assumption); rw [List.length_drop] at *; omega)⟩ hr14) ?_
 conv => cbv
 refine .eql (fun h15 => ?_) fun h15 => ?_
 conv => cbv
 have e : ((⟨0, tx [], 0, []⟩ : TAct), false) = rReadAct line := (by exact act_no (c := ⟨r6, tx [], e12, r9a.drop 1⟩) hr1 hne hpw (faith_fig hki h7 (hr9.trans (by rw [qe12]; exact congrArg (fun x => (x, true)) (List.drop_eq_getElem_cons (l := r9a) (i := 0) (by omega))))) (.inl (by rw [hr14]; exact h15)))
 rw [hr] at e
 simp only [Prod.mk.injEq, TAct.mk.injEq] at e
 obtain ⟨⟨rfl, rfl, rfl, rfl⟩, rfl⟩ := e
 refine hQ _ _ ?_
 exact .many (.inl rfl) rfl rfl (.agg (.d rfl rfl (.d rfl rfl (.d rfl rfl (.ref rfl rfl (by rw [← hoakee]; rfl) (.nil))))) (.d rfl rfl (.nil)))
 conv => cbv
 generalize hr16 : rJoin r1a = r16
 refine .dd hP (Flstrings_Join hr1a ⟨by omega, by omega⟩ hr16) ?_
 conv => cbv
 refine .neq (fun h17 => ?_) fun h17 => ?_
 conv => cbv
 have e : ((⟨0, tx [], 0, []⟩ : TAct), false) = rReadAct line := (by exact act_no (c := ⟨r6, tx [], e12, r9a.drop 1⟩) hr1 hne hpw (faith_fig hki h7 (hr9.trans (by rw [qe12]; exact congrArg (fun x => (x, true)) (List.drop_eq_getElem_cons (l := r9a) (i := 0) (by omega))))) (.inr (by rw [hr14, show rJoin r1a = r16 from hr16]; exact h17)))
 rw [hr] at e
 simp only [Prod.mk.injEq, TAct.mk.injEq] at e
 obtain ⟨⟨rfl, rfl, rfl, rfl⟩, rfl⟩ := e
 refine hQ _ _ ?_
 exact .many (.inl rfl) rfl rfl (.agg (.d rfl rfl (.d rfl rfl (.d rfl rfl (.ref rfl rfl (by rw [← hoakee]; rfl) (.nil))))) (.d rfl rfl (.nil)))
 conv => cbv
 have e : ((⟨r6, tx [], e12, r9a.drop 1⟩ : TAct), true) = rReadAct line := (by exact act_yes hr1 hne hpw (by rw [hr14]; exact h15) (by rw [hr14, show rJoin r1a = r16 from hr16]; exact h17))
 rw [hr] at e
 simp only [Prod.mk.injEq, TAct.mk.injEq] at e
 obtain ⟨⟨rfl, rfl, rfl, rfl⟩, rfl⟩ := e
 refine hQ _ _ ?_
 exact .many (.inl rfl) rfl rfl (.agg (.d rfl rfl (.d rfl rfl (.d rfl rfl (.d rfl (rowEq hx13 hoakee) (.nil))))) (.d rfl rfl (.nil)))
 conv => cbv
 generalize hr12 : rActLine (⟨r6, tx [], 0, []⟩ : TAct) = r12
 refine .lnt hP (FiActLine rfl ⟨by first | omega | (have := uh_b hr11; omega) | decide, by first | omega | (simp; done) | (have hfl := figs_len1 (by assumption); rw [List.length_drop] at *; omega)⟩ hr12) (.agg (.d rfl (.d rfl (.d rfl (.ref rfl rfl .nil)))) .nil) ?_
 conv => cbv
 refine .eql (fun h13 => ?_) fun h13 => ?_
 conv => cbv
 have e : ((⟨0, tx [], 0, []⟩ : TAct), false) = rReadAct line := (by exact act_no (c := ⟨r6, tx [], 0, []⟩) hr1 hne hpw (faith_bare hki h7 (.inl (by rw [hr9, List.eq_nil_of_length_eq_zero (l := r9a) (by omega)]))) (.inl (by rw [hr12]; exact h13)))
 rw [hr] at e
 simp only [Prod.mk.injEq, TAct.mk.injEq] at e
 obtain ⟨⟨rfl, rfl, rfl, rfl⟩, rfl⟩ := e
 refine hQ _ _ ?_
 exact .many (.inl rfl) rfl rfl (.agg (.d rfl rfl (.d rfl rfl (.d rfl rfl (.ref rfl rfl (by rw [← hoakee]; rfl) (.nil))))) (.d rfl rfl (.nil)))
 conv => cbv
 generalize hr14 : rJoin r1a = r14
 refine .dd hP (Flstrings_Join hr1a ⟨by omega, by omega⟩ hr14) ?_
 conv => cbv
 refine .neq (fun h15 => ?_) fun h15 => ?_
 conv => cbv
 have e : ((⟨0, tx [], 0, []⟩ : TAct), false) = rReadAct line := (by exact act_no (c := ⟨r6, tx [], 0, []⟩) hr1 hne hpw (faith_bare hki h7 (.inl (by rw [hr9, List.eq_nil_of_length_eq_zero (l := r9a) (by omega)]))) (.inr (by rw [hr12, show rJoin r1a = r14 from hr14]; exact h15)))
 rw [hr] at e
 simp only [Prod.mk.injEq, TAct.mk.injEq] at e
 obtain ⟨⟨rfl, rfl, rfl, rfl⟩, rfl⟩ := e
 refine hQ _ _ ?_
 exact .many (.inl rfl) rfl rfl (.agg (.d rfl rfl (.d rfl rfl (.d rfl rfl (.ref rfl rfl (by rw [← hoakee]; rfl) (.nil))))) (.d rfl rfl (.nil)))
 conv => cbv
 have e : ((⟨r6, tx [], 0, []⟩ : TAct), true) = rReadAct line := (by exact act_yes hr1 hne hpw (by rw [hr12]; exact h13) (by rw [hr12, show rJoin r1a = r14 from hr14]; exact h15))
 rw [hr] at e
 simp only [Prod.mk.injEq, TAct.mk.injEq] at e
 obtain ⟨⟨rfl, rfl, rfl, rfl⟩, rfl⟩ := e
 refine hQ _ _ ?_
 exact .many (.inl rfl) rfl rfl (.agg (.d rfl rfl (.d rfl rfl (.d rfl rfl (.ref rfl rfl (by rw [← hoakee]; rfl) (.nil))))) (.d rfl rfl (.nil)))
end Go.Proofs.YtmkpihcfglinjaaGreatDoor.Ab
