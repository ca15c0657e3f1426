/- What functions of the program come to, for all arguments in the given bounds. -/
import Derived.Test.YtmkpihcfglinjaaGreatDoorch29
import Derived.Test.YtmkpihcfglinjaaGreatDoorZ10
set_option linter.unusedVariables false
set_option linter.unusedSimpArgs false
namespace Go.Proofs.YtmkpihcfglinjaaGreatDoor.Ab
open Go Go.Proofs
set_option maxRecDepth 20000
set_option maxHeartbeats 4000000
set_option linter.unusedSimpArgs false
set_option linter.unusedVariables false
def tab_ch29b : List (Nat × TyRow) := [
  (3, ⟨.int .i64, some 1, some false, none, false, [.int .i64], [], some [(.int .i64 0, 0)], none, none, none⟩),
  (9, ⟨.str, some 1, some false, none, false, [.str], [], some [(.string default, 0)], none, none, none⟩),
  (24, ⟨.sl 1, some 1, some false, some (1, 8), false, [.sl 1], [], some [(.slice none 0 0, 1)], some ([.sc (.int .i64 0)], 1, 8), none, none⟩),
  (26, ⟨.other, some 4, some true, none, false, [.int .i64, .str, .int .i64, .sl 1], [some (0, 1, false), some (1, 1, false), some (2, 1, false), some (3, 1, false)], some [(.int .i64 0, 0), (.string default, 0), (.int .i64 0, 0), (.slice none 0 0, 1)], none, some [(0, 1), (1, 1), (2, 1), (3, 1)], none⟩),
  (45, ⟨.sl 1, some 1, some false, some (1, 16), false, [.sl 1], [], some [(.slice none 0 0, 1)], some ([.sc (.string default)], 1, 16), none, none⟩)]
theorem tab_ch29b_ok : TabOk Tryz.prog tab_ch29b := TabOk.of (by kernel_rfl)
theorem su_ch29b : Setup Tryz.prog tab_ch29b := ⟨tab_ch29b_ok, mixed⟩
def ractWords : List ByteArray := [(tx []), (tx [97, 112, 112, 101, 110, 100]), (tx [115, 121, 110, 99]), (tx [114, 111, 108, 108]), (tx [99, 108, 111, 115, 101]), (tx [109, 101, 110, 100]), (tx [99, 97, 114, 114, 121]), (tx [114, 101, 111, 112, 101, 110]), (tx [102, 97, 108, 108])]
def rl29Words : List ByteArray := ractWords
def actWord (k : Int) : ByteArray := ractWords.getD k.toNat (tx [])
theorem actWord_b (k : Int) : (actWord k).size ≤ 6 := by
  unfold actWord
  rcases Nat.lt_or_ge k.toNat 9 with h | h
  · have : ∀ i : Fin 9, (ractWords.getD i.val (tx [])).size ≤ 6 := by decide
    exact this ⟨_, h⟩
  · rw [List.getD_eq_getElem?_getD, List.getElem?_eq_none (by exact h)]; decide
theorem actW_len {l : List ByteArray} (h : ractWords = l) : l.length = 9 := by subst h; rfl
theorem actW_of {l : List ByteArray} {k : Int} {h : k.toNat < l.length} {x : ByteArray} (e : x = l[k.toNat]) (hl : ractWords = l) : x = actWord k ∧ x.size ≤ 6 := by
  subst hl
  have : x = actWord k := getD_of h e rfl
  exact ⟨this, this ▸ actWord_b k⟩
def rActOk (a : TAct) : Bool := decide ((1 ≤ a.kind_ ∧ a.kind_ ≤ 8) ∧ a.text_.size ≤ 200 ∧ 0 ≤ a.n_ ∧ a.keeps_.length ≤ 8)
theorem rActOk_t {a : TAct} (h : rActOk a = true) : (1 ≤ a.kind_ ∧ a.kind_ ≤ 8) ∧ a.text_.size ≤ 200 ∧ 0 ≤ a.n_ ∧ a.keeps_.length ≤ 8 := of_decide_eq_true h
def rActLine_1 (n : Int) : Bool := decide (¬ (0 ≤ n ∧ n ≤ 1000000000))
theorem act1_f {n : Int} (h : rActLine_1 n = false) : 0 ≤ n ∧ n ≤ 1000000000 := Decidable.not_not.1 (of_decide_eq_false h)
def rIndexFunc_ActLine_1 (l : List Int) : Int := if l.findIdx rActLine_1 < l.length then (l.findIdx rActLine_1 : Int) else -1
def rContainsFunc_ActLine_1 (l : List Int) : Bool := l.any rActLine_1
theorem acx_at {l : List Int} {i : Int} (h0 : 0 ≤ i) (hi : i.toNat < l.length) (h : rActLine_1 l[i.toNat] = true) (hb : ∀ (j : Nat) (hj : j < l.length), j < i.toNat → rActLine_1 l[j] = false) : i = rIndexFunc_ActLine_1 l := by
  have e : l.findIdx rActLine_1 = i.toNat := (List.findIdx_eq hi).2 ⟨h, fun j hji => hb j (by omega) hji⟩
  unfold rIndexFunc_ActLine_1
  rw [e, if_pos hi]
  omega
theorem acx_none {l : List Int} (hb : ∀ (j : Nat) (hj : j < l.length), rActLine_1 l[j] = false) : -1 = rIndexFunc_ActLine_1 l := by
  unfold rIndexFunc_ActLine_1
  rw [if_neg]
  intro hlt
  have := List.findIdx_getElem (w := hlt)
  rw [hb _ hlt] at this
  cases this
theorem acx_any {l : List Int} : rContainsFunc_ActLine_1 l = decide (0 ≤ rIndexFunc_ActLine_1 l) := by
  unfold rContainsFunc_ActLine_1 rIndexFunc_ActLine_1
  by_cases h : l.findIdx rActLine_1 < l.length
  · rw [if_pos h]
    have := List.findIdx_getElem (w := h)
    rw [List.any_eq_true.2 ⟨_, List.getElem_mem h, this⟩]
    simp
  · rw [if_neg h]
    have : l.any rActLine_1 = false := by
      rw [List.any_eq_false]
      intro x hx hp
      exact h (List.findIdx_lt_length_of_exists ⟨x, hx, hp⟩)
    rw [this]
    rfl
theorem act_all {l : List Int} (h : rContainsFunc_ActLine_1 l = false) : ∀ n ∈ l, 0 ≤ n ∧ n ≤ 1000000000 := by
  intro n hn
  have := List.any_eq_false.1 h n hn
  exact act1_f (by simpa using this)
theorem act_some {l : List Int} {i : Nat} (hi : i < l.length) (h : ¬ (0 ≤ l[i] ∧ l[i] ≤ 1000000000)) : rContainsFunc_ActLine_1 l = true :=
  List.any_eq_true.2 ⟨_, List.getElem_mem hi, decide_eq_true h⟩
theorem act_each {l : List Int} (h : ∀ (j : Nat) (hj : j < l.length), 0 ≤ l[j] ∧ l[j] ≤ 1000000000) : rContainsFunc_ActLine_1 l = false := by
  unfold rContainsFunc_ActLine_1
  rw [List.any_eq_false]
  intro x hx
  obtain ⟨j, hj, rfl⟩ := List.getElem_of_mem hx
  have h' := h j hj
  unfold rActLine_1
  rw [decide_eq_true_eq]
  exact fun hn => hn h'
def counted (k : Int) : Prop := k = 5 ∨ k = 6 ∨ k = 8
instance (k : Int) : Decidable (counted k) := by unfold counted; infer_instance
def actFull (a : TAct) : Prop := rActOk a = true ∧ (a.kind_ ≠ 1 → a.text_ = ⟨⟨[]⟩⟩) ∧ (¬ (a.kind_ = 5 ∨ a.kind_ = 6 ∨ a.kind_ = 8) → a.n_ = 0) ∧ (a.kind_ ≠ 8 → a.keeps_.length = 0) ∧ rActLine_1 a.n_ = false ∧ rContainsFunc_ActLine_1 a.keeps_ = false
instance (a : TAct) : Decidable (actFull a) := by unfold actFull; infer_instance
def rActLine (a : TAct) : ByteArray :=
  if actFull a then
    if a.kind_ = 1 then actWord a.kind_ ++ (tx [32] ++ rhexOrDash a.text_)
    else if a.kind_ = 5 ∨ a.kind_ = 6 ∨ a.kind_ = 8 then actWord a.kind_ ++ (rfigures [a.n_] ++ rfigures a.keeps_)
    else actWord a.kind_
  else tx []
def rl29Told (a : TAct) : TAct := ⟨a.kind_, if a.kind_ = 1 then a.text_ else tx [], if a.kind_ = 5 ∨ a.kind_ = 6 ∨ a.kind_ = 8 then a.n_ else 0, if a.kind_ = 8 then a.keeps_ else []⟩
def rl29Same (x y : TAct) : Bool := decide (x.kind_ = y.kind_ ∧ x.text_ = y.text_ ∧ x.n_ = y.n_ ∧ x.keeps_ = y.keeps_)
theorem told_iff {a t : TAct} {b : Bool} (h2 : rl29Told a = t) (h3 : rl29Same t a = b) : b = true ↔ ((a.kind_ ≠ 1 → a.text_ = ⟨⟨[]⟩⟩) ∧ (¬ (a.kind_ = 5 ∨ a.kind_ = 6 ∨ a.kind_ = 8) → a.n_ = 0) ∧ (a.kind_ ≠ 8 → a.keeps_.length = 0)) := by
  rw [← h3, ← h2]
  unfold rl29Same rl29Told
  rw [decide_eq_true_eq]
  dsimp only
  constructor
  · rintro ⟨-, h4, h5, h6⟩
    refine ⟨fun h => ?_, fun h => ?_, fun h => ?_⟩
    · rw [if_neg h] at h4; exact h4.symm
    · rw [if_neg h] at h5; exact h5.symm
    · rw [if_neg h] at h6; rw [← h6]; rfl
  · rintro ⟨h4, h5, h6⟩
    refine ⟨rfl, ?_, ?_, ?_⟩
    · split
      · rfl
      · exact (h4 (by assumption)).symm
    · split
      · rfl
      · exact (h5 (by assumption)).symm
    · split
      · rfl
      · exact (List.eq_nil_of_length_eq_zero (h6 (by assumption))).symm
theorem hexd_b {t o : ByteArray} (e : rhexOrDash t = o) (h : t.size ≤ 200) : o.size ≤ 401 := by
  have hx : rHex t = (rhexText t, true) := by unfold rHex; rw [if_neg (by omega)]
  rw [← e]
  unfold rhexOrDash
  rw [hx]
  dsimp only
  split
  · decide
  · unfold rhexText
    have : t.data.toList.length = t.size := Array.length_toList
    rw [tx_size, hex2_len, this]; omega
theorem rHex_b {t : ByteArray} {x : ByteArray} {b : Bool} (e : rHex t = (x, b)) (h : t.size ≤ 200) : x.size ≤ 400 := by
  have : x = (rHex t).1 := by rw [e]
  rw [this]
  unfold rHex
  rw [if_neg (by omega)]
  show (rhexText t).size ≤ 400
  unfold rhexText
  have : t.data.toList.length = t.size := Array.length_toList
  rw [tx_size, hex2_len, this]; omega
theorem rfig_snoc {l : List Int} {i : Nat} (h : i < l.length) : rfigures (l.take (i + 1)) = rfigures (l.take i) ++ tx (32 :: Lib.itoa l[i]) := by
  unfold rfigures
  rw [List.take_succ_eq_append_getElem h, List.flatMap_append, tx_append]
  simp
theorem fig1 (n : Int) : rfigures [n] = tx (32 :: Lib.itoa n) := by unfold rfigures; simp
theorem actFull_of {a : TAct} (h1 : rActOk a = true) (h2 : (a.kind_ ≠ 1 → a.text_ = ⟨⟨[]⟩⟩) ∧ (¬ (a.kind_ = 5 ∨ a.kind_ = 6 ∨ a.kind_ = 8) → a.n_ = 0) ∧ (a.kind_ ≠ 8 → a.keeps_.length = 0)) (h3 : a.n_ ≤ 1000000000) (h4 : rContainsFunc_ActLine_1 a.keeps_ = false) : actFull a :=
  ⟨h1, h2.1, h2.2.1, h2.2.2, decide_eq_false (fun hn => hn ⟨(rActOk_t h1).2.2.1, h3⟩), h4⟩
theorem cf_nil {l : List Int} (h : l.length = 0) : rContainsFunc_ActLine_1 l = false := by rw [List.eq_nil_of_length_eq_zero h]; rfl
theorem fig_nil {l : List Int} (h : l.length = 0) : rfigures l = tx [] := by rw [List.eq_nil_of_length_eq_zero h]; rfl
theorem FiactWords {o : List ByteArray} {xo : List (List D)}  (hr : ractWords  = o) (ho : o.map cS = xo) : Fn Tryz.prog 20 [] [] ⟨.d (.row 1 xo), [], []⟩ := by
 refine Fn.go su_ch29b Tryz.func20 fun P hP Q hQ => ?_
 conv => cbv
 have e : [(tx []), (tx [97, 112, 112, 101, 110, 100]), (tx [115, 121, 110, 99]), (tx [114, 111, 108, 108]), (tx [99, 108, 111, 115, 101]), (tx [109, 101, 110, 100]), (tx [99, 97, 114, 114, 121]), (tx [114, 101, 111, 112, 101, 110]), (tx [102, 97, 108, 108])] = ractWords  := (by rfl)
 rw [hr] at e
 subst e
 exact hQ _ _ (.r rfl rfl rfl (by rw [← ho]; rfl))
theorem Fsl29Words {o : List ByteArray} {xo : List (List D)}  (hr : rl29Words  = o) (ho : o.map cS = xo) : Fn Tryz.prog 33 [] [] ⟨.d (.row 1 xo), [], []⟩ := by
 refine Fn.go su_ch29b Tryz.func33 fun P hP Q hQ => ?_
 conv => cbv
 have e : [(tx []), (tx [97, 112, 112, 101, 110, 100]), (tx [115, 121, 110, 99]), (tx [114, 111, 108, 108]), (tx [99, 108, 111, 115, 101]), (tx [109, 101, 110, 100]), (tx [99, 97, 114, 114, 121]), (tx [114, 101, 111, 112, 101, 110]), (tx [102, 97, 108, 108])] = rl29Words  := (by rfl)
 rw [hr] at e
 subst e
 exact hQ _ _ (.r rfl rfl rfl (by rw [← ho]; rfl))
theorem FiActOk {akin : Int} {atex : ByteArray} {an : Int} {akee : List Int} {xakee : List (List D)} {o : Bool} (hakee : akee.map cI = xakee) (hr : rActOk (⟨akin, atex, an, akee⟩ : TAct) = o)  : Fn Tryz.prog 18 [.agg [I akin, S atex, I an, .d (.row 1 xakee)]] [] ⟨B o, [], []⟩ := by
 refine Fn.go su_ch29b Tryz.func18 fun P hP Q hQ => ?_
 conv => cbv
 generalize hr1 : rwithin akin 1 8 = r1
 refine .dd hP (Fiwithin hr1) ?_
 cases r1
 simp only [rwithin, decide_eq_true_eq, decide_eq_false_iff_not] at hr1
 conv => cbv
 have e : false = rActOk (⟨akin, atex, an, akee⟩ : TAct) := (by unfold rActOk; symm; first | (rw [decide_eq_true_eq]; dsimp only; omega) | (rw [decide_eq_false_iff_not]; dsimp only; omega))
 rw [hr] at e
 subst e
 exact hQ _ _ (.b rfl rfl)
 simp only [rwithin, decide_eq_true_eq, decide_eq_false_iff_not] at hr1
 conv => cbv
 refine .go fun v2 hv2 => ?_
 conv => cbv
 refine .leq (fun h3 => ?_) fun h3 => ?_
 conv => cbv
 refine .geq (fun h4 => ?_) fun h4 => ?_
 conv => cbv
 refine .go hakee fun v5 hv5 => ?_
 conv => cbv
 refine .leq (fun h6 => ?_) fun h6 => ?_
 conv => cbv
 have e : true = rActOk (⟨akin, atex, an, akee⟩ : TAct) := (by unfold rActOk; symm; first | (rw [decide_eq_true_eq]; dsimp only; omega) | (rw [decide_eq_false_iff_not]; dsimp only; omega))
 rw [hr] at e
 subst e
 exact hQ _ _ (.b rfl rfl)
 conv => cbv
 have e : false = rActOk (⟨akin, atex, an, akee⟩ : TAct) := (by unfold rActOk; symm; first | (rw [decide_eq_true_eq]; dsimp only; omega) | (rw [decide_eq_false_iff_not]; dsimp only; omega))
 rw [hr] at e
 subst e
 exact hQ _ _ (.b rfl rfl)
 conv => cbv
 have e : false = rActOk (⟨akin, atex, an, akee⟩ : TAct) := (by unfold rActOk; symm; first | (rw [decide_eq_true_eq]; dsimp only; omega) | (rw [decide_eq_false_iff_not]; dsimp only; omega))
 rw [hr] at e
 subst e
 exact hQ _ _ (.b rfl rfl)
 conv => cbv
 have e : false = rActOk (⟨akin, atex, an, akee⟩ : TAct) := (by unfold rActOk; symm; first | (rw [decide_eq_true_eq]; dsimp only; omega) | (rw [decide_eq_false_iff_not]; dsimp only; omega))
 rw [hr] at e
 subst e
 exact hQ _ _ (.b rfl rfl)
theorem FsActOk {akin : Int} {atex : ByteArray} {an : Int} {akee : List Int} {xakee : List (List D)} {o : Bool} (hakee : akee.map cI = xakee) (hr : rActOk (⟨akin, atex, an, akee⟩ : TAct) = o)  : Fn Tryz.prog 30 [.agg [I akin, S atex, I an, .d (.row 1 xakee)]] [] ⟨B o, [], []⟩ := by
 refine Fn.go su_ch29b Tryz.func30 fun P hP Q hQ => ?_
 conv => cbv
 generalize hr1 : rl01In akin 1 8 = r1
 refine .dd hP (Fsl01In hr1) ?_
 cases r1
 simp only [rl01In, decide_eq_true_eq, decide_eq_false_iff_not] at hr1
 conv => cbv
 have e : false = rActOk (⟨akin, atex, an, akee⟩ : TAct) := (by unfold rActOk; symm; first | (rw [decide_eq_true_eq]; dsimp only; omega) | (rw [decide_eq_false_iff_not]; dsimp only; omega))
 rw [hr] at e
 subst e
 exact hQ _ _ (.b rfl rfl)
 simp only [rl01In, decide_eq_true_eq, decide_eq_false_iff_not] at hr1
 conv => cbv
 refine .go fun v2 hv2 => ?_
 conv => cbv
 refine .leq (fun h3 => ?_) fun h3 => ?_
 conv => cbv
 refine .geq (fun h4 => ?_) fun h4 => ?_
 conv => cbv
 refine .go hakee fun v5 hv5 => ?_
 conv => cbv
 refine .leq (fun h6 => ?_) fun h6 => ?_
 conv => cbv
 have e : true = rActOk (⟨akin, atex, an, akee⟩ : TAct) := (by unfold rActOk; symm; first | (rw [decide_eq_true_eq]; dsimp only; omega) | (rw [decide_eq_false_iff_not]; dsimp only; omega))
 rw [hr] at e
 subst e
 exact hQ _ _ (.b rfl rfl)
 conv => cbv
 have e : false = rActOk (⟨akin, atex, an, akee⟩ : TAct) := (by unfold rActOk; symm; first | (rw [decide_eq_true_eq]; dsimp only; omega) | (rw [decide_eq_false_iff_not]; dsimp only; omega))
 rw [hr] at e
 subst e
 exact hQ _ _ (.b rfl rfl)
 conv => cbv
 have e : false = rActOk (⟨akin, atex, an, akee⟩ : TAct) := (by unfold rActOk; symm; first | (rw [decide_eq_true_eq]; dsimp only; omega) | (rw [decide_eq_false_iff_not]; dsimp only; omega))
 rw [hr] at e
 subst e
 exact hQ _ _ (.b rfl rfl)
 conv => cbv
 have e : false = rActOk (⟨akin, atex, an, akee⟩ : TAct) := (by unfold rActOk; symm; first | (rw [decide_eq_true_eq]; dsimp only; omega) | (rw [decide_eq_false_iff_not]; dsimp only; omega))
 rw [hr] at e
 subst e
 exact hQ _ _ (.b rfl rfl)
theorem FiActLine_1 {n : Int} {o : Bool}  (hr : rActLine_1 n = o)  : Fn Tryz.prog 16 [I n] [] ⟨B o, [], []⟩ := by
 refine Fn.go su_ch29b Tryz.func16 fun P hP Q hQ => ?_
 conv => cbv
 generalize hr1 : risNumber n = r1
 refine .dd hP (FiisNumber hr1) ?_
 cases r1
 simp only [risNumber, decide_eq_true_eq, decide_eq_false_iff_not] at hr1
 conv => cbv
 have e : true = rActLine_1 n := (by unfold rActLine_1; symm; first | (rw [decide_eq_true_eq]; exact hr1) | (rw [decide_eq_false_iff_not]; exact fun h => h hr1) | (have hr1 := of_decide_eq_true hr1; rw [decide_eq_false_iff_not]; exact fun h => h hr1) | (have hr1 := of_decide_eq_false hr1; rw [decide_eq_true_eq]; exact hr1))
 rw [hr] at e
 subst e
 exact hQ _ _ (.b rfl rfl)
 simp only [risNumber, decide_eq_true_eq, decide_eq_false_iff_not] at hr1
 conv => cbv
 have e : false = rActLine_1 n := (by unfold rActLine_1; symm; first | (rw [decide_eq_true_eq]; exact hr1) | (rw [decide_eq_false_iff_not]; exact fun h => h hr1) | (have hr1 := of_decide_eq_true hr1; rw [decide_eq_false_iff_not]; exact fun h => h hr1) | (have hr1 := of_decide_eq_false hr1; rw [decide_eq_true_eq]; exact hr1))
 rw [hr] at e
 subst e
 exact hQ _ _ (.b rfl rfl)
theorem FlIndexFunc_ActLine_1 {l : List Int} {xl : List (List D)} {o : Int} (hl : l.map cI = xl) (hn : l.length < 2 ^ 40) (hr : rIndexFunc_ActLine_1 l = o)  : Fn Tryz.prog 42 [.d (.row 1 xl), .clo 16 []] [] ⟨I o, [], []⟩ := by
 refine Fn.go su_ch29b Tryz.func42 fun P hP Q hQ => ?_
 conv => cbv
 refine .go hl fun v1 hv1 => ?_
 conv => cbv
 refine LoopW.lp (κ := Int) su_ch29b hP [] [0, 1, 7] (fun i8 => [(8, I i8)]) (fun i8 => [])
   (fun i8 => 0 ≤ i8 ∧ i8 ≤ l.length ∧ ∀ (j : Nat) (hj : j < l.length), j < i8.toNat → rActLine_1 l[j] = false)
   (fun i8 => (l.length - i8).toNat) (0) ⟨by omega, by omega, fun j _ h => by simp at h⟩ ⟨rfl, trivial⟩ rfl ?_
 rintro i8 J ⟨h0, h1, hb⟩ hJ
 conv => cbv
 refine .lss (fun h2 => ?_) fun h2 => ?_
 conv => cbv
 refine .go i8.toNat hl fun hje3 e3 qe3 => ?_
 conv => cbv
 generalize hr4 : rActLine_1 e3 = r4
 refine .dd hP (FiActLine_1 hr4) ?_
 cases r4
 conv => cbv
 refine .add fun v5 hv5 => ?_
 conv => cbv
 exact .go [] (v5) (hJ _ ⟨by omega, by omega, fun j hj h => if e : j = i8.toNat then by subst e; rw [← qe3]; exact hr4 else hb j hj (by omega)⟩ (by first | (dsimp only; omega) | omega))
 conv => cbv
 have e : i8 = rIndexFunc_ActLine_1 l := (by exact acx_at h0 (by omega) (qe3 ▸ hr4) hb)
 rw [hr] at e
 subst e
 exact hQ _ _ (.i rfl rfl)
 conv => cbv
 have e : (-1) = rIndexFunc_ActLine_1 l := (by exact acx_none fun j hj => hb j hj (by omega))
 rw [hr] at e
 subst e
 exact hQ _ _ (.i rfl rfl)
theorem FlContainsFunc_ActLine_1 {l : List Int} {xl : List (List D)} {o : Bool} (hl : l.map cI = xl) (hn : l.length < 2 ^ 40) (hr : rContainsFunc_ActLine_1 l = o)  : Fn Tryz.prog 19 [.d (.row 1 xl), .clo 16 []] [] ⟨B o, [], []⟩ := by
 refine Fn.go su_ch29b Tryz.func19 fun P hP Q hQ => ?_
 conv => cbv
 generalize hr1 : rIndexFunc_ActLine_1 l = r1
 refine .dd hP (FlIndexFunc_ActLine_1 hl hn hr1) ?_
 conv => cbv
 refine .geq (fun h2 => ?_) fun h2 => ?_
 conv => cbv
 have e : true = rContainsFunc_ActLine_1 l := (by rw [acx_any, hr1, eq_comm, decide_eq_true_iff]; omega)
 rw [hr] at e
 subst e
 exact hQ _ _ (.b rfl rfl)
 conv => cbv
 have e : false = rContainsFunc_ActLine_1 l := (by rw [acx_any, hr1, eq_comm, decide_eq_false_iff_not]; omega)
 rw [hr] at e
 subst e
 exact hQ _ _ (.b rfl rfl)
theorem Fsl29Told {akin : Int} {atex : ByteArray} {an : Int} {akee : List Int} {xakee : List (List D)} {okin : Int} {otex : ByteArray} {on : Int} {okee : List Int} {xokee : List (List D)} (hakee : akee.map cI = xakee) (hn : akee.length ≤ 1000000000) (hr : rl29Told (⟨akin, atex, an, akee⟩ : TAct) = ⟨okin, otex, on, okee⟩) (hokee : okee.map cI = xokee) : Fn Tryz.prog 32 [.agg [I akin, S atex, I an, .d (.row 1 xakee)]] [] ⟨.agg [I okin, S otex, I on, .d (.row 1 xokee)], [], []⟩ := by
 refine Fn.go su_ch29b Tryz.func32 fun P hP Q hQ => ?_
 conv => cbv
 refine .eql (fun h1 => ?_) fun h1 => ?_
 conv => cbv
 have e : (⟨akin, atex, 0, []⟩ : TAct) = rl29Told (⟨akin, atex, an, akee⟩ : TAct) := (by unfold rl29Told; dsimp only; first | (rw [if_pos h1, if_neg (by omega), if_neg (by omega)]; done) | (rw [if_neg h1, if_pos (by omega), if_neg (by omega)]; done) | (rw [if_neg h1, if_pos (by omega), if_pos (by omega)]; done) | (rw [if_neg h1, if_neg (by omega), if_neg (by omega)]; done))
 rw [hr] at e
 simp only [TAct.mk.injEq] at e
 obtain ⟨rfl, rfl, rfl, rfl⟩ := e
 exact hQ _ _ (.one (.inl rfl) rfl (.agg (.d rfl rfl (.d rfl rfl (.d rfl rfl (.ref rfl rfl (by rw [← hokee]; rfl) (.nil))))) .nil))
 conv => cbv
 refine .eql (fun h2 => ?_) fun h2 => ?_
 conv => cbv
 have e : (⟨akin, tx [], an, []⟩ : TAct) = rl29Told (⟨akin, atex, an, akee⟩ : TAct) := (by unfold rl29Told; dsimp only; first | (rw [if_pos h1, if_neg (by omega), if_neg (by omega)]; done) | (rw [if_neg h1, if_pos (by omega), if_neg (by omega)]; done) | (rw [if_neg h1, if_pos (by omega), if_pos (by omega)]; done) | (rw [if_neg h1, if_neg (by omega), if_neg (by omega)]; done))
 rw [hr] at e
 simp only [TAct.mk.injEq] at e
 obtain ⟨rfl, rfl, rfl, rfl⟩ := e
 exact hQ _ _ (.one (.inl rfl) rfl (.agg (.d rfl rfl (.d rfl rfl (.d rfl rfl (.ref rfl rfl (by rw [← hokee]; rfl) (.nil))))) .nil))
 conv => cbv
 refine .eql (fun h3 => ?_) fun h3 => ?_
 conv => cbv
 have e : (⟨akin, tx [], an, []⟩ : TAct) = rl29Told (⟨akin, atex, an, akee⟩ : TAct) := (by unfold rl29Told; dsimp only; first | (rw [if_pos h1, if_neg (by omega), if_neg (by omega)]; done) | (rw [if_neg h1, if_pos (by omega), if_neg (by omega)]; done) | (rw [if_neg h1, if_pos (by omega), if_pos (by omega)]; done) | (rw [if_neg h1, if_neg (by omega), if_neg (by omega)]; done))
 rw [hr] at e
 simp only [TAct.mk.injEq] at e
 obtain ⟨rfl, rfl, rfl, rfl⟩ := e
 exact hQ _ _ (.one (.inl rfl) rfl (.agg (.d rfl rfl (.d rfl rfl (.d rfl rfl (.ref rfl rfl (by rw [← hokee]; rfl) (.nil))))) .nil))
 conv => cbv
 refine .eql (fun h4 => ?_) fun h4 => ?_
 conv => cbv
 refine .row0 hakee fun nz5 z5 hnz5 hz5 => ?_
 conv => cbv
 have e : (⟨akin, tx [], an, akee⟩ : TAct) = rl29Told (⟨akin, atex, an, akee⟩ : TAct) := (by unfold rl29Told; dsimp only; first | (rw [if_pos h1, if_neg (by omega), if_neg (by omega)]; done) | (rw [if_neg h1, if_pos (by omega), if_neg (by omega)]; done) | (rw [if_neg h1, if_pos (by omega), if_pos (by omega)]; done) | (rw [if_neg h1, if_neg (by omega), if_neg (by omega)]; done))
 rw [hr] at e
 simp only [TAct.mk.injEq] at e
 obtain ⟨rfl, rfl, rfl, rfl⟩ := e
 exact hQ _ _ (.one (.inl rfl) rfl (.agg (.d rfl rfl (.d rfl rfl (.d rfl rfl (.ref rfl (by rw [← hz5, List.length_map]; first | omega | (simp; omega)) (by rw [← hz5, ← hokee]) (.nil))))) .nil))
 conv => cbv
 have e : (⟨akin, tx [], 0, []⟩ : TAct) = rl29Told (⟨akin, atex, an, akee⟩ : TAct) := (by unfold rl29Told; dsimp only; first | (rw [if_pos h1, if_neg (by omega), if_neg (by omega)]; done) | (rw [if_neg h1, if_pos (by omega), if_neg (by omega)]; done) | (rw [if_neg h1, if_pos (by omega), if_pos (by omega)]; done) | (rw [if_neg h1, if_neg (by omega), if_neg (by omega)]; done))
 rw [hr] at e
 simp only [TAct.mk.injEq] at e
 obtain ⟨rfl, rfl, rfl, rfl⟩ := e
 exact hQ _ _ (.one (.inl rfl) rfl (.agg (.d rfl rfl (.d rfl rfl (.d rfl rfl (.ref rfl rfl (by rw [← hokee]; rfl) (.nil))))) .nil))
theorem Fsl29Same {akin : Int} {atex : ByteArray} {an : Int} {akee : List Int} {xakee : List (List D)} {bkin : Int} {btex : ByteArray} {bn : Int} {bkee : List Int} {xbkee : List (List D)} {o : Bool} (hakee : akee.map cI = xakee) (hbkee : bkee.map cI = xbkee) (hn : bkee.length ≤ 1000000000) (hr : rl29Same (⟨akin, atex, an, akee⟩ : TAct) (⟨bkin, btex, bn, bkee⟩ : TAct) = o)  : Fn Tryz.prog 31 [.agg [I akin, S atex, I an, .d (.row 1 xakee)], .agg [I bkin, S btex, I bn, .d (.row 1 xbkee)]] [] ⟨B o, [], []⟩ := by
 refine Fn.go su_ch29b Tryz.func31 fun P hP Q hQ => ?_
 conv => cbv
 refine .neq (fun h1 => ?_) fun h1 => ?_
 conv => cbv
 have e : false = rl29Same (⟨akin, atex, an, akee⟩ : TAct) (⟨bkin, btex, bn, bkee⟩ : TAct) := (by unfold rl29Same; symm; rw [decide_eq_false_iff_not]; exact fun hh => h1 hh.1)
 rw [hr] at e
 subst e
 exact hQ _ _ (.b rfl rfl)
 conv => cbv
 refine .neq (fun h2 => ?_) fun h2 => ?_
 conv => cbv
 have e : false = rl29Same (⟨akin, atex, an, akee⟩ : TAct) (⟨bkin, btex, bn, bkee⟩ : TAct) := (by unfold rl29Same; symm; rw [decide_eq_false_iff_not]; exact fun hh => h2 hh.2.1)
 rw [hr] at e
 subst e
 exact hQ _ _ (.b rfl rfl)
 conv => cbv
 refine .neq (fun h3 => ?_) fun h3 => ?_
 conv => cbv
 have e : false = rl29Same (⟨akin, atex, an, akee⟩ : TAct) (⟨bkin, btex, bn, bkee⟩ : TAct) := (by unfold rl29Same; symm; rw [decide_eq_false_iff_not]; exact fun hh => h3 hh.2.2.1)
 rw [hr] at e
 subst e
 exact hQ _ _ (.b rfl rfl)
 conv => cbv
 refine .go hakee fun v4 hv4 => ?_
 conv => cbv
 refine .go hbkee fun v5 hv5 => ?_
 conv => cbv
 refine .neq (fun h6 => ?_) fun h6 => ?_
 conv => cbv
 have e : false = rl29Same (⟨akin, atex, an, akee⟩ : TAct) (⟨bkin, btex, bn, bkee⟩ : TAct) := (by unfold rl29Same; symm; rw [decide_eq_false_iff_not]; intro hh; have := congrArg List.length hh.2.2.2; dsimp only at this; omega)
 rw [hr] at e
 subst e
 exact hQ _ _ (.b rfl rfl)
 conv => cbv
 refine LoopW.lp (κ := Int) su_ch29b hP [] [2, 3] (fun i5 => [(5, I i5)]) (fun i5 => [])
   (fun i5 => 0 ≤ i5 ∧ i5 ≤ akee.length ∧ ∀ (j : Nat) (hj : j < akee.length) (hj2 : j < bkee.length), j < i5.toNat → akee[j] = bkee[j])
   (fun i5 => (akee.length - i5).toNat) (0) ⟨by omega, by omega, fun j _ _ h => by simp at h⟩ ⟨rfl, trivial⟩ rfl ?_
 rintro i5 J ⟨h0, hle, hb⟩ hJ
 conv => cbv
 refine .go hakee fun v7 hv7 => ?_
 conv => cbv
 refine .lss (fun h8 => ?_) fun h8 => ?_
 conv => cbv
 refine .go i5.toNat hakee fun hje9 e9 qe9 => ?_
 conv => cbv
 refine .go i5.toNat hbkee fun hje10 e10 qe10 => ?_
 conv => cbv
 refine .neq (fun h11 => ?_) fun h11 => ?_
 conv => cbv
 have e : false = rl29Same (⟨akin, atex, an, akee⟩ : TAct) (⟨bkin, btex, bn, bkee⟩ : TAct) := (by unfold rl29Same; symm; rw [decide_eq_false_iff_not]; intro hh; have hk := hh.2.2.2; dsimp only at hk; subst hk; exact h11 (by rw [qe9, qe10]))
 rw [hr] at e
 subst e
 exact hQ _ _ (.b rfl rfl)
 conv => cbv
 refine .add fun v12 hv12 => ?_
 conv => cbv
 exact .go [] (v12) (hJ _ ⟨by omega, by omega, fun j hj hj2 h => if e : j = i5.toNat then by subst e; rw [← qe9, ← qe10]; exact h11 else hb j hj hj2 (by omega)⟩ (by first | (dsimp only; omega) | omega))
 conv => cbv
 have e : true = rl29Same (⟨akin, atex, an, akee⟩ : TAct) (⟨bkin, btex, bn, bkee⟩ : TAct) := (by unfold rl29Same; symm; rw [decide_eq_true_eq]; exact ⟨h1, h2, h3, List.ext_getElem (by dsimp only; omega) fun j hj hj2 => hb j hj hj2 (by dsimp only at hj; omega)⟩)
 rw [hr] at e
 subst e
 exact hQ _ _ (.b rfl rfl)
theorem FiActLine {akin : Int} {atex : ByteArray} {an : Int} {akee : List Int} {xakee : List (List D)} {o : ByteArray} (hakee : akee.map cI = xakee) (hz : atex.size ≤ 1000000000 ∧ akee.length ≤ 1000000000) (hr : rActLine (⟨akin, atex, an, akee⟩ : TAct) = o)  : Fn Tryz.prog 6 [.agg [I akin, S atex, I an, .d (.row 1 xakee)]] [] ⟨S o, [], []⟩ := by
 refine Fn.go su_ch29b Tryz.func6 fun P hP Q hQ => ?_
 conv => cbv
 try (have hw_ := And.intro (actW_of (k := akin) (by assumption) (by assumption)) trivial; obtain ⟨⟨hwE, hwB⟩, -⟩ := hw_)
 refine .eql (fun h1 => ?_) fun h1 => ?_
 conv => cbv
 generalize hr2 : rActOk (⟨akin, atex, an, akee⟩ : TAct) = r2
 refine .dd hP (FiActOk hakee hr2) ?_
 cases r2
 conv => cbv
 have e : (tx []) = rActLine (⟨akin, atex, an, akee⟩ : TAct) := (by unfold rActLine; first | (exfalso; omega) | (rw [if_neg]; rintro ⟨a1, a2, a3, a4, a5, a6⟩; dsimp only at a1 a2 a3 a4 a5 a6; first | omega | exact Bool.noConfusion (show true = false from a1.symm.trans (by assumption)) | exact absurd (a2 (by omega)) (by assumption) | exact Bool.noConfusion (show false = true from a5.symm.trans (by assumption)) | exact Bool.noConfusion (show false = true from a6.symm.trans (by assumption))) | (rw [if_pos (show actFull _ from ⟨by assumption, fun h => by dsimp only at *; first | (exfalso; omega) | assumption, fun h => by dsimp only at *; omega, fun h => by dsimp only at *; omega, by assumption, by assumption⟩)]; dsimp only; first | (rw [if_pos (by omega)]; subst_vars; rw [hwE]; rfl) | (rw [if_neg (by omega), if_pos (by omega)]; subst_vars; rw [hwE]) | (rw [if_neg (by omega), if_neg (by omega)]; exact hwE)))
 rw [hr] at e
 subst e
 exact hQ _ _ (.s rfl rfl)
 conv => cbv
 refine .neq (fun h3 => ?_) fun h3 => ?_
 conv => cbv
 refine .neq (fun h4 => ?_) fun h4 => ?_
 conv => cbv
 have e : (tx []) = rActLine (⟨akin, atex, an, akee⟩ : TAct) := (by unfold rActLine; first | (exfalso; omega) | (rw [if_neg]; rintro ⟨a1, a2, a3, a4, a5, a6⟩; dsimp only at a1 a2 a3 a4 a5 a6; first | omega | exact Bool.noConfusion (show true = false from a1.symm.trans (by assumption)) | exact absurd (a2 (by omega)) (by assumption) | exact Bool.noConfusion (show false = true from a5.symm.trans (by assumption)) | exact Bool.noConfusion (show false = true from a6.symm.trans (by assumption))) | (rw [if_pos (show actFull _ from ⟨by assumption, fun h => by dsimp only at *; first | (exfalso; omega) | assumption, fun h => by dsimp only at *; omega, fun h => by dsimp only at *; omega, by assumption, by assumption⟩)]; dsimp only; first | (rw [if_pos (by omega)]; subst_vars; rw [hwE]; rfl) | (rw [if_neg (by omega), if_pos (by omega)]; subst_vars; rw [hwE]) | (rw [if_neg (by omega), if_neg (by omega)]; exact hwE)))
 rw [hr] at e
 subst e
 exact hQ _ _ (.s rfl rfl)
 conv => cbv
 refine .neq (fun h5 => ?_) fun h5 => ?_
 conv => cbv
 refine .go hakee fun v6 hv6 => ?_
 conv => cbv
 refine .gtr (fun h7 => ?_) fun h7 => ?_
 conv => cbv
 have e : (tx []) = rActLine (⟨akin, atex, an, akee⟩ : TAct) := (by unfold rActLine; first | (exfalso; omega) | (rw [if_neg]; rintro ⟨a1, a2, a3, a4, a5, a6⟩; dsimp only at a1 a2 a3 a4 a5 a6; first | omega | exact Bool.noConfusion (show true = false from a1.symm.trans (by assumption)) | exact absurd (a2 (by omega)) (by assumption) | exact Bool.noConfusion (show false = true from a5.symm.trans (by assumption)) | exact Bool.noConfusion (show false = true from a6.symm.trans (by assumption))) | (rw [if_pos (show actFull _ from ⟨by assumption, fun h => by dsimp only at *; first | (exfalso; omega) | assumption, fun h => by dsimp only at *; omega, fun h => by dsimp only at *; omega, by assumption, by assumption⟩)]; dsimp only; first | (rw [if_pos (by omega)]; subst_vars; rw [hwE]; rfl) | (rw [if_neg (by omega), if_pos (by omega)]; subst_vars; rw [hwE]) | (rw [if_neg (by omega), if_neg (by omega)]; exact hwE)))
 rw [hr] at e
 subst e
 exact hQ _ _ (.s rfl rfl)
 conv => cbv
 generalize hr8 : rActLine_1 an = r8
 refine .dd hP (FiActLine_1 hr8) ?_
 cases r8
 conv => cbv
 generalize hr9 : rContainsFunc_ActLine_1 akee = r9
 refine .dd hP (FlContainsFunc_ActLine_1 hakee (by omega) hr9) ?_
 cases r9
 conv => cbv
 generalize hr10 : ractWords  = l10
 generalize hl10 : l10.map cS = xl10
 refine .dd hP (FiactWords hr10 hl10) ?_
 conv => cbv
 have hwl := actW_len (by assumption)
 have hok := rActOk_t (a := ⟨akin, atex, an, akee⟩) (by assumption)
 dsimp only at hok
 have hf1 : (∀ n ∈ [an], in64 n) ∧ [an].length ≤ 100 := ⟨by intro n hn; simp only [List.mem_cons, List.not_mem_nil, or_false] at hn; have := act1_f (n := an) (by assumption); unfold in64; omega, by simp⟩
 have hf2 : (∀ n ∈ akee, in64 n) ∧ akee.length ≤ 100 := ⟨fun n hn => by have := act_all (l := akee) (by assumption) n hn; unfold in64; omega, by omega⟩
 refine .go akin.toNat hl10 fun hje11 e11 qe11 => ?_
 conv => cbv
 try (have hw_ := And.intro (actW_of (k := akin) (by assumption) (by assumption)) trivial; obtain ⟨⟨hwE, hwB⟩, -⟩ := hw_)
 refine .eql (fun h12 => ?_) fun h12 => ?_
 conv => cbv
 generalize hr13 : rhexOrDash atex = r13
 refine .dd hP (FihexOrDash hr13) ?_
 conv => cbv
 have hb_ := hexd_b (t := atex) (by assumption) (by omega)
 refine .litL 1 fun s14 hs14 zs14 => ?_
 conv => cbv
 try (have hw_ := And.intro (actW_of (k := akin) (by assumption) (by assumption)) trivial; obtain ⟨⟨hwE, hwB⟩, -⟩ := hw_)
 try (have hb1 := rfigures_b (l := [an]) (by assumption) hf1.1; simp only [List.length_cons, List.length_nil] at hb1)
 try (have hb2 := rfigures_b (l := akee) (by assumption) hf2.1)
 refine .go fun s15 hs15 zs15 => ?_
 conv => cbv
 have e : s15 = rActLine (⟨akin, atex, an, akee⟩ : TAct) := (by unfold rActLine; first | (exfalso; omega) | (rw [if_neg]; rintro ⟨a1, a2, a3, a4, a5, a6⟩; dsimp only at a1 a2 a3 a4 a5 a6; first | omega | exact Bool.noConfusion (show true = false from a1.symm.trans (by assumption)) | exact absurd (a2 (by omega)) (by assumption) | exact Bool.noConfusion (show false = true from a5.symm.trans (by assumption)) | exact Bool.noConfusion (show false = true from a6.symm.trans (by assumption))) | (rw [if_pos (show actFull _ from ⟨by assumption, fun h => by dsimp only at *; first | (exfalso; omega) | assumption, fun h => by dsimp only at *; omega, fun h => by dsimp only at *; omega, by assumption, by assumption⟩)]; dsimp only; first | (rw [if_pos (by omega)]; subst_vars; rw [hwE]; rfl) | (rw [if_neg (by omega), if_pos (by omega)]; subst_vars; rw [hwE]) | (rw [if_neg (by omega), if_neg (by omega)]; exact hwE)))
 rw [hr] at e
 subst e
 exact hQ _ _ (.s rfl rfl)
 conv => cbv
 generalize hr13 : rfigures [an] = r13
 refine .lnt hP (Fifigures rfl hf1 hr13) (.ref rfl rfl .nil) ?_
 conv => cbv
 generalize hr14 : rfigures akee = r14
 refine .dd hP (Fifigures hakee hf2 hr14) ?_
 conv => cbv
 try (have hw_ := And.intro (actW_of (k := akin) (by assumption) (by assumption)) trivial; obtain ⟨⟨hwE, hwB⟩, -⟩ := hw_)
 try (have hb1 := rfigures_b (l := [an]) (by assumption) hf1.1; simp only [List.length_cons, List.length_nil] at hb1)
 try (have hb2 := rfigures_b (l := akee) (by assumption) hf2.1)
 refine .go fun s15 hs15 zs15 => ?_
 conv => cbv
 try (have hw_ := And.intro (actW_of (k := akin) (by assumption) (by assumption)) trivial; obtain ⟨⟨hwE, hwB⟩, -⟩ := hw_)
 try (have hb1 := rfigures_b (l := [an]) (by assumption) hf1.1; simp only [List.length_cons, List.length_nil] at hb1)
 try (have hb2 := rfigures_b (l := akee) (by assumption) hf2.1)
 refine .go fun s16 hs16 zs16 => ?_
 conv => cbv
 have e : s16 = rActLine (⟨akin, atex, an, akee⟩ : TAct) := (by unfold rActLine; first | (exfalso; omega) | (rw [if_neg]; rintro ⟨a1, a2, a3, a4, a5, a6⟩; dsimp only at a1 a2 a3 a4 a5 a6; first | omega | exact Bool.noConfusion (show true = false from a1.symm.trans (by assumption)) | exact absurd (a2 (by omega)) (by assumption) | exact Bool.noConfusion (show false = true from a5.symm.trans (by assumption)) | exact Bool.noConfusion (show false = true from a6.symm.trans (by assumption))) | (rw [if_pos (show actFull _ from ⟨by assumption, fun h => by dsimp only at *; first | (exfalso; omega) | assumption, fun h => by dsimp only at *; omega, fun h => by dsimp only at *; omega, by assumption, by assumption⟩)]; dsimp only; first | (rw [if_pos (by omega)]; subst_vars; rw [hwE]; rfl) | (rw [if_neg (by omega), if_pos (by omega)]; subst_vars; rw [hwE]) | (rw [if_neg (by omega), if_neg (by omega)]; exact hwE)))
 rw [hr] at e
 subst e
 exact hQ _ _ (.s rfl rfl)
 conv => cbv
 have e : (tx []) = rActLine (⟨akin, atex, an, akee⟩ : TAct) := (by unfold rActLine; first | (exfalso; omega) | (rw [if_neg]; rintro ⟨a1, a2, a3, a4, a5, a6⟩; dsimp only at a1 a2 a3 a4 a5 a6; first | omega | exact Bool.noConfusion (show true = false from a1.symm.trans (by assumption)) | exact absurd (a2 (by omega)) (by assumption) | exact Bool.noConfusion (show false = true from a5.symm.trans (by assumption)) | exact Bool.noConfusion (show false = true from a6.symm.trans (by assumption))) | (rw [if_pos (show actFull _ from ⟨by assumption, fun h => by dsimp only at *; first | (exfalso; omega) | assumption, fun h => by dsimp only at *; omega, fun h => by dsimp only at *; omega, by assumption, by assumption⟩)]; dsimp only; first | (rw [if_pos (by omega)]; subst_vars; rw [hwE]; rfl) | (rw [if_neg (by omega), if_pos (by omega)]; subst_vars; rw [hwE]) | (rw [if_neg (by omega), if_neg (by omega)]; exact hwE)))
 rw [hr] at e
 subst e
 exact hQ _ _ (.s rfl rfl)
 conv => cbv
 have e : (tx []) = rActLine (⟨akin, atex, an, akee⟩ : TAct) := (by unfold rActLine; first | (exfalso; omega) | (rw [if_neg]; rintro ⟨a1, a2, a3, a4, a5, a6⟩; dsimp only at a1 a2 a3 a4 a5 a6; first | omega | exact Bool.noConfusion (show true = false from a1.symm.trans (by assumption)) | exact absurd (a2 (by omega)) (by assumption) | exact Bool.noConfusion (show false = true from a5.symm.trans (by assumption)) | exact Bool.noConfusion (show false = true from a6.symm.trans (by assumption))) | (rw [if_pos (show actFull _ from ⟨by assumption, fun h => by dsimp only at *; first | (exfalso; omega) | assumption, fun h => by dsimp only at *; omega, fun h => by dsimp only at *; omega, by assumption, by assumption⟩)]; dsimp only; first | (rw [if_pos (by omega)]; subst_vars; rw [hwE]; rfl) | (rw [if_neg (by omega), if_pos (by omega)]; subst_vars; rw [hwE]) | (rw [if_neg (by omega), if_neg (by omega)]; exact hwE)))
 rw [hr] at e
 subst e
 exact hQ _ _ (.s rfl rfl)
 conv => cbv
 generalize hr6 : rActLine_1 an = r6
 refine .dd hP (FiActLine_1 hr6) ?_
 cases r6
 conv => cbv
 generalize hr7 : rContainsFunc_ActLine_1 akee = r7
 refine .dd hP (FlContainsFunc_ActLine_1 hakee (by omega) hr7) ?_
 cases r7
 conv => cbv
 generalize hr8 : ractWords  = l8
 generalize hl8 : l8.map cS = xl8
 refine .dd hP (FiactWords hr8 hl8) ?_
 conv => cbv
 have hwl := actW_len (by assumption)
 have hok := rActOk_t (a := ⟨akin, atex, an, akee⟩) (by assumption)
 dsimp only at hok
 have hf1 : (∀ n ∈ [an], in64 n) ∧ [an].length ≤ 100 := ⟨by intro n hn; simp only [List.mem_cons, List.not_mem_nil, or_false] at hn; have := act1_f (n := an) (by assumption); unfold in64; omega, by simp⟩
 have hf2 : (∀ n ∈ akee, in64 n) ∧ akee.length ≤ 100 := ⟨fun n hn => by have := act_all (l := akee) (by assumption) n hn; unfold in64; omega, by omega⟩
 refine .go akin.toNat hl8 fun hje9 e9 qe9 => ?_
 conv => cbv
 try (have hw_ := And.intro (actW_of (k := akin) (by assumption) (by assumption)) trivial; obtain ⟨⟨hwE, hwB⟩, -⟩ := hw_)
 refine .eql (fun h10 => ?_) fun h10 => ?_
 conv => cbv
 generalize hr11 : rhexOrDash atex = r11
 refine .dd hP (FihexOrDash hr11) ?_
 conv => cbv
 have hb_ := hexd_b (t := atex) (by assumption) (by omega)
 refine .litL 1 fun s12 hs12 zs12 => ?_
 conv => cbv
 try (have hw_ := And.intro (actW_of (k := akin) (by assumption) (by assumption)) trivial; obtain ⟨⟨hwE, hwB⟩, -⟩ := hw_)
 try (have hb1 := rfigures_b (l := [an]) (by assumption) hf1.1; simp only [List.length_cons, List.length_nil] at hb1)
 try (have hb2 := rfigures_b (l := akee) (by assumption) hf2.1)
 refine .go fun s13 hs13 zs13 => ?_
 conv => cbv
 have e : s13 = rActLine (⟨akin, atex, an, akee⟩ : TAct) := (by unfold rActLine; first | (exfalso; omega) | (rw [if_neg]; rintro ⟨a1, a2, a3, a4, a5, a6⟩; dsimp only at a1 a2 a3 a4 a5 a6; first | omega | exact Bool.noConfusion (show true = false from a1.symm.trans (by assumption)) | exact absurd (a2 (by omega)) (by assumption) | exact Bool.noConfusion (show false = true from a5.symm.trans (by assumption)) | exact Bool.noConfusion (show false = true from a6.symm.trans (by assumption))) | (rw [if_pos (show actFull _ from ⟨by assumption, fun h => by dsimp only at *; first | (exfalso; omega) | assumption, fun h => by dsimp only at *; omega, fun h => by dsimp only at *; omega, by assumption, by assumption⟩)]; dsimp only; first | (rw [if_pos (by omega)]; subst_vars; rw [hwE]; rfl) | (rw [if_neg (by omega), if_pos (by omega)]; subst_vars; rw [hwE]) | (rw [if_neg (by omega), if_neg (by omega)]; exact hwE)))
 rw [hr] at e
 subst e
 exact hQ _ _ (.s rfl rfl)
 conv => cbv
 generalize hr11 : rfigures [an] = r11
 refine .lnt hP (Fifigures rfl hf1 hr11) (.ref rfl rfl .nil) ?_
 conv => cbv
 generalize hr12 : rfigures akee = r12
 refine .dd hP (Fifigures hakee hf2 hr12) ?_
 conv => cbv
 try (have hw_ := And.intro (actW_of (k := akin) (by assumption) (by assumption)) trivial; obtain ⟨⟨hwE, hwB⟩, -⟩ := hw_)
 try (have hb1 := rfigures_b (l := [an]) (by assumption) hf1.1; simp only [List.length_cons, List.length_nil] at hb1)
 try (have hb2 := rfigures_b (l := akee) (by assumption) hf2.1)
 refine .go fun s13 hs13 zs13 => ?_
 conv => cbv
 try (have hw_ := And.intro (actW_of (k := akin) (by assumption) (by assumption)) trivial; obtain ⟨⟨hwE, hwB⟩, -⟩ := hw_)
 try (have hb1 := rfigures_b (l := [an]) (by assumption) hf1.1; simp only [List.length_cons, List.length_nil] at hb1)
 try (have hb2 := rfigures_b (l := akee) (by assumption) hf2.1)
 refine .go fun s14 hs14 zs14 => ?_
 conv => cbv
 have e : s14 = rActLine (⟨akin, atex, an, akee⟩ : TAct) := (by unfold rActLine; first | (exfalso; omega) | (rw [if_neg]; rintro ⟨a1, a2, a3, a4, a5, a6⟩; dsimp only at a1 a2 a3 a4 a5 a6; first | omega | exact Bool.noConfusion (show true = false from a1.symm.trans (by assumption)) | exact absurd (a2 (by omega)) (by assumption) | exact Bool.noConfusion (show false = true from a5.symm.trans (by assumption)) | exact Bool.noConfusion (show false = true from a6.symm.trans (by assumption))) | (rw [if_pos (show actFull _ from ⟨by assumption, fun h => by dsimp only at *; first | (exfalso; omega) | assumption, fun h => by dsimp only at *; omega, fun h => by dsimp only at *; omega, by assumption, by assumption⟩)]; dsimp only; first | (rw [if_pos (by omega)]; subst_vars; rw [hwE]; rfl) | (rw [if_neg (by omega), if_pos (by omega)]; subst_vars; rw [hwE]) | (rw [if_neg (by omega), if_neg (by omega)]; exact hwE)))
 rw [hr] at e
 subst e
 exact hQ _ _ (.s rfl rfl)
 conv => cbv
 have e : (tx []) = rActLine (⟨akin, atex, an, akee⟩ : TAct) := (by unfold rActLine; first | (exfalso; omega) | (rw [if_neg]; rintro ⟨a1, a2, a3, a4, a5, a6⟩; dsimp only at a1 a2 a3 a4 a5 a6; first | omega | exact Bool.noConfusion (show true = false from a1.symm.trans (by assumption)) | exact absurd (a2 (by omega)) (by assumption) | exact Bool.noConfusion (show false = true from a5.symm.trans (by assumption)) | exact Bool.noConfusion (show false = true from a6.symm.trans (by assumption))) | (rw [if_pos (show actFull _ from ⟨by assumption, fun h => by dsimp only at *; first | (exfalso; omega) | assumption, fun h => by dsimp only at *; omega, fun h => by dsimp only at *; omega, by assumption, by assumption⟩)]; dsimp only; first | (rw [if_pos (by omega)]; subst_vars; rw [hwE]; rfl) | (rw [if_neg (by omega), if_pos (by omega)]; subst_vars; rw [hwE]) | (rw [if_neg (by omega), if_neg (by omega)]; exact hwE)))
 rw [hr] at e
 subst e
 exact hQ _ _ (.s rfl rfl)
 conv => cbv
 have e : (tx []) = rActLine (⟨akin, atex, an, akee⟩ : TAct) := (by unfold rActLine; first | (exfalso; omega) | (rw [if_neg]; rintro ⟨a1, a2, a3, a4, a5, a6⟩; dsimp only at a1 a2 a3 a4 a5 a6; first | omega | exact Bool.noConfusion (show true = false from a1.symm.trans (by assumption)) | exact absurd (a2 (by omega)) (by assumption) | exact Bool.noConfusion (show false = true from a5.symm.trans (by assumption)) | exact Bool.noConfusion (show false = true from a6.symm.trans (by assumption))) | (rw [if_pos (show actFull _ from ⟨by assumption, fun h => by dsimp only at *; first | (exfalso; omega) | assumption, fun h => by dsimp only at *; omega, fun h => by dsimp only at *; omega, by assumption, by assumption⟩)]; dsimp only; first | (rw [if_pos (by omega)]; subst_vars; rw [hwE]; rfl) | (rw [if_neg (by omega), if_pos (by omega)]; subst_vars; rw [hwE]) | (rw [if_neg (by omega), if_neg (by omega)]; exact hwE)))
 rw [hr] at e
 subst e
 exact hQ _ _ (.s rfl rfl)
 conv => cbv
 refine .neq (fun h4 => ?_) fun h4 => ?_
 conv => cbv
 refine .go hakee fun v5 hv5 => ?_
 conv => cbv
 refine .gtr (fun h6 => ?_) fun h6 => ?_
 conv => cbv
 have e : (tx []) = rActLine (⟨akin, atex, an, akee⟩ : TAct) := (by unfold rActLine; first | (exfalso; omega) | (rw [if_neg]; rintro ⟨a1, a2, a3, a4, a5, a6⟩; dsimp only at a1 a2 a3 a4 a5 a6; first | omega | exact Bool.noConfusion (show true = false from a1.symm.trans (by assumption)) | exact absurd (a2 (by omega)) (by assumption) | exact Bool.noConfusion (show false = true from a5.symm.trans (by assumption)) | exact Bool.noConfusion (show false = true from a6.symm.trans (by assumption))) | (rw [if_pos (show actFull _ from ⟨by assumption, fun h => by dsimp only at *; first | (exfalso; omega) | assumption, fun h => by dsimp only at *; omega, fun h => by dsimp only at *; omega, by assumption, by assumption⟩)]; dsimp only; first | (rw [if_pos (by omega)]; subst_vars; rw [hwE]; rfl) | (rw [if_neg (by omega), if_pos (by omega)]; subst_vars; rw [hwE]) | (rw [if_neg (by omega), if_neg (by omega)]; exact hwE)))
 rw [hr] at e
 subst e
 exact hQ _ _ (.s rfl rfl)
 conv => cbv
 generalize hr7 : rActLine_1 an = r7
 refine .dd hP (FiActLine_1 hr7) ?_
 cases r7
 conv => cbv
 generalize hr8 : rContainsFunc_ActLine_1 akee = r8
 refine .dd hP (FlContainsFunc_ActLine_1 hakee (by omega) hr8) ?_
 cases r8
 conv => cbv
 generalize hr9 : ractWords  = l9
 generalize hl9 : l9.map cS = xl9
 refine .dd hP (FiactWords hr9 hl9) ?_
 conv => cbv
 have hwl := actW_len (by assumption)
 have hok := rActOk_t (a := ⟨akin, atex, an, akee⟩) (by assumption)
 dsimp only at hok
 have hf1 : (∀ n ∈ [an], in64 n) ∧ [an].length ≤ 100 := ⟨by intro n hn; simp only [List.mem_cons, List.not_mem_nil, or_false] at hn; have := act1_f (n := an) (by assumption); unfold in64; omega, by simp⟩
 have hf2 : (∀ n ∈ akee, in64 n) ∧ akee.length ≤ 100 := ⟨fun n hn => by have := act_all (l := akee) (by assumption) n hn; unfold in64; omega, by omega⟩
 refine .go akin.toNat hl9 fun hje10 e10 qe10 => ?_
 conv => cbv
 try (have hw_ := And.intro (actW_of (k := akin) (by assumption) (by assumption)) trivial; obtain ⟨⟨hwE, hwB⟩, -⟩ := hw_)
 refine .eql (fun h11 => ?_) fun h11 => ?_
 conv => cbv
 generalize hr12 : rhexOrDash atex = r12
 refine .dd hP (FihexOrDash hr12) ?_
 conv => cbv
 have hb_ := hexd_b (t := atex) (by assumption) (by omega)
 refine .litL 1 fun s13 hs13 zs13 => ?_
 conv => cbv
 try (have hw_ := And.intro (actW_of (k := akin) (by assumption) (by assumption)) trivial; obtain ⟨⟨hwE, hwB⟩, -⟩ := hw_)
 try (have hb1 := rfigures_b (l := [an]) (by assumption) hf1.1; simp only [List.length_cons, List.length_nil] at hb1)
 try (have hb2 := rfigures_b (l := akee) (by assumption) hf2.1)
 refine .go fun s14 hs14 zs14 => ?_
 conv => cbv
 have e : s14 = rActLine (⟨akin, atex, an, akee⟩ : TAct) := (by unfold rActLine; first | (exfalso; omega) | (rw [if_neg]; rintro ⟨a1, a2, a3, a4, a5, a6⟩; dsimp only at a1 a2 a3 a4 a5 a6; first | omega | exact Bool.noConfusion (show true = false from a1.symm.trans (by assumption)) | exact absurd (a2 (by omega)) (by assumption) | exact Bool.noConfusion (show false = true from a5.symm.trans (by assumption)) | exact Bool.noConfusion (show false = true from a6.symm.trans (by assumption))) | (rw [if_pos (show actFull _ from ⟨by assumption, fun h => by dsimp only at *; first | (exfalso; omega) | assumption, fun h => by dsimp only at *; omega, fun h => by dsimp only at *; omega, by assumption, by assumption⟩)]; dsimp only; first | (rw [if_pos (by omega)]; subst_vars; rw [hwE]; rfl) | (rw [if_neg (by omega), if_pos (by omega)]; subst_vars; rw [hwE]) | (rw [if_neg (by omega), if_neg (by omega)]; exact hwE)))
 rw [hr] at e
 subst e
 exact hQ _ _ (.s rfl rfl)
 conv => cbv
 generalize hr12 : rfigures [an] = r12
 refine .lnt hP (Fifigures rfl hf1 hr12) (.ref rfl rfl .nil) ?_
 conv => cbv
 generalize hr13 : rfigures akee = r13
 refine .dd hP (Fifigures hakee hf2 hr13) ?_
 conv => cbv
 try (have hw_ := And.intro (actW_of (k := akin) (by assumption) (by assumption)) trivial; obtain ⟨⟨hwE, hwB⟩, -⟩ := hw_)
 try (have hb1 := rfigures_b (l := [an]) (by assumption) hf1.1; simp only [List.length_cons, List.length_nil] at hb1)
 try (have hb2 := rfigures_b (l := akee) (by assumption) hf2.1)
 refine .go fun s14 hs14 zs14 => ?_
 conv => cbv
 try (have hw_ := And.intro (actW_of (k := akin) (by assumption) (by assumption)) trivial; obtain ⟨⟨hwE, hwB⟩, -⟩ := hw_)
 try (have hb1 := rfigures_b (l := [an]) (by assumption) hf1.1; simp only [List.length_cons, List.length_nil] at hb1)
 try (have hb2 := rfigures_b (l := akee) (by assumption) hf2.1)
 refine .go fun s15 hs15 zs15 => ?_
 conv => cbv
 have e : s15 = rActLine (⟨akin, atex, an, akee⟩ : TAct) := (by unfold rActLine; first | (exfalso; omega) | (rw [if_neg]; rintro ⟨a1, a2, a3, a4, a5, a6⟩; dsimp only at a1 a2 a3 a4 a5 a6; first | omega | exact Bool.noConfusion (show true = false from a1.symm.trans (by assumption)) | exact absurd (a2 (by omega)) (by assumption) | exact Bool.noConfusion (show false = true from a5.symm.trans (by assumption)) | exact Bool.noConfusion (show false = true from a6.symm.trans (by assumption))) | (rw [if_pos (show actFull _ from ⟨by assumption, fun h => by dsimp only at *; first | (exfalso; omega) | assumption, fun h => by dsimp only at *; omega, fun h => by dsimp only at *; omega, by assumption, by assumption⟩)]; dsimp only; first | (rw [if_pos (by omega)]; subst_vars; rw [hwE]; rfl) | (rw [if_neg (by omega), if_pos (by omega)]; subst_vars; rw [hwE]) | (rw [if_neg (by omega), if_neg (by omega)]; exact hwE)))
 rw [hr] at e
 subst e
 exact hQ _ _ (.s rfl rfl)
 conv => cbv
 have e : (tx []) = rActLine (⟨akin, atex, an, akee⟩ : TAct) := (by unfold rActLine; first | (exfalso; omega) | (rw [if_neg]; rintro ⟨a1, a2, a3, a4, a5, a6⟩; dsimp only at a1 a2 a3 a4 a5 a6; first | omega | exact Bool.noConfusion (show true = false from a1.symm.trans (by assumption)) | exact absurd (a2 (by omega)) (by assumption) | exact Bool.noConfusion (show false = true from a5.symm.trans (by assumption)) | exact Bool.noConfusion (show false = true from a6.symm.trans (by assumption))) | (rw [if_pos (show actFull _ from ⟨by assumption, fun h => by dsimp only at *; first | (exfalso; omega) | assumption, fun h => by dsimp only at *; omega, fun h => by dsimp only at *; omega, by assumption, by assumption⟩)]; dsimp only; first | (rw [if_pos (by omega)]; subst_vars; rw [hwE]; rfl) | (rw [if_neg (by omega), if_pos (by omega)]; subst_vars; rw [hwE]) | (rw [if_neg (by omega), if_neg (by omega)]; exact hwE)))
 rw [hr] at e
 subst e
 exact hQ _ _ (.s rfl rfl)
 conv => cbv
 have e : (tx []) = rActLine (⟨akin, atex, an, akee⟩ : TAct) := (by unfold rActLine; first | (exfalso; omega) | (rw [if_neg]; rintro ⟨a1, a2, a3, a4, a5, a6⟩; dsimp only at a1 a2 a3 a4 a5 a6; first | omega | exact Bool.noConfusion (show true = false from a1.symm.trans (by assumption)) | exact absurd (a2 (by omega)) (by assumption) | exact Bool.noConfusion (show false = true from a5.symm.trans (by assumption)) | exact Bool.noConfusion (show false = true from a6.symm.trans (by assumption))) | (rw [if_pos (show actFull _ from ⟨by assumption, fun h => by dsimp only at *; first | (exfalso; omega) | assumption, fun h => by dsimp only at *; omega, fun h => by dsimp only at *; omega, by assumption, by assumption⟩)]; dsimp only; first | (rw [if_pos (by omega)]; subst_vars; rw [hwE]; rfl) | (rw [if_neg (by omega), if_pos (by omega)]; subst_vars; rw [hwE]) | (rw [if_neg (by omega), if_neg (by omega)]; exact hwE)))
 rw [hr] at e
 subst e
 exact hQ _ _ (.s rfl rfl)
 conv => cbv
 generalize hr5 : rActLine_1 an = r5
 refine .dd hP (FiActLine_1 hr5) ?_
 cases r5
 conv => cbv
 generalize hr6 : rContainsFunc_ActLine_1 akee = r6
 refine .dd hP (FlContainsFunc_ActLine_1 hakee (by omega) hr6) ?_
 cases r6
 conv => cbv
 generalize hr7 : ractWords  = l7
 generalize hl7 : l7.map cS = xl7
 refine .dd hP (FiactWords hr7 hl7) ?_
 conv => cbv
 have hwl := actW_len (by assumption)
 have hok := rActOk_t (a := ⟨akin, atex, an, akee⟩) (by assumption)
 dsimp only at hok
 have hf1 : (∀ n ∈ [an], in64 n) ∧ [an].length ≤ 100 := ⟨by intro n hn; simp only [List.mem_cons, List.not_mem_nil, or_false] at hn; have := act1_f (n := an) (by assumption); unfold in64; omega, by simp⟩
 have hf2 : (∀ n ∈ akee, in64 n) ∧ akee.length ≤ 100 := ⟨fun n hn => by have := act_all (l := akee) (by assumption) n hn; unfold in64; omega, by omega⟩
 refine .go akin.toNat hl7 fun hje8 e8 qe8 => ?_
 conv => cbv
 try (have hw_ := And.intro (actW_of (k := akin) (by assumption) (by assumption)) trivial; obtain ⟨⟨hwE, hwB⟩, -⟩ := hw_)
 refine .eql (fun h9 => ?_) fun h9 => ?_
 conv => cbv
 generalize hr10 : rhexOrDash atex = r10
 refine .dd hP (FihexOrDash hr10) ?_
 conv => cbv
 have hb_ := hexd_b (t := atex) (by assumption) (by omega)
 refine .litL 1 fun s11 hs11 zs11 => ?_
 conv => cbv
 try (have hw_ := And.intro (actW_of (k := akin) (by assumption) (by assumption)) trivial; obtain ⟨⟨hwE, hwB⟩, -⟩ := hw_)
 try (have hb1 := rfigures_b (l := [an]) (by assumption) hf1.1; simp only [List.length_cons, List.length_nil] at hb1)
 try (have hb2 := rfigures_b (l := akee) (by assumption) hf2.1)
 refine .go fun s12 hs12 zs12 => ?_
 conv => cbv
 have e : s12 = rActLine (⟨akin, atex, an, akee⟩ : TAct) := (by unfold rActLine; first | (exfalso; omega) | (rw [if_neg]; rintro ⟨a1, a2, a3, a4, a5, a6⟩; dsimp only at a1 a2 a3 a4 a5 a6; first | omega | exact Bool.noConfusion (show true = false from a1.symm.trans (by assumption)) | exact absurd (a2 (by omega)) (by assumption) | exact Bool.noConfusion (show false = true from a5.symm.trans (by assumption)) | exact Bool.noConfusion (show false = true from a6.symm.trans (by assumption))) | (rw [if_pos (show actFull _ from ⟨by assumption, fun h => by dsimp only at *; first | (exfalso; omega) | assumption, fun h => by dsimp only at *; omega, fun h => by dsimp only at *; omega, by assumption, by assumption⟩)]; dsimp only; first | (rw [if_pos (by omega)]; subst_vars; rw [hwE]; rfl) | (rw [if_neg (by omega), if_pos (by omega)]; subst_vars; rw [hwE]) | (rw [if_neg (by omega), if_neg (by omega)]; exact hwE)))
 rw [hr] at e
 subst e
 exact hQ _ _ (.s rfl rfl)
 conv => cbv
 generalize hr10 : rfigures [an] = r10
 refine .lnt hP (Fifigures rfl hf1 hr10) (.ref rfl rfl .nil) ?_
 conv => cbv
 generalize hr11 : rfigures akee = r11
 refine .dd hP (Fifigures hakee hf2 hr11) ?_
 conv => cbv
 try (have hw_ := And.intro (actW_of (k := akin) (by assumption) (by assumption)) trivial; obtain ⟨⟨hwE, hwB⟩, -⟩ := hw_)
 try (have hb1 := rfigures_b (l := [an]) (by assumption) hf1.1; simp only [List.length_cons, List.length_nil] at hb1)
 try (have hb2 := rfigures_b (l := akee) (by assumption) hf2.1)
 refine .go fun s12 hs12 zs12 => ?_
 conv => cbv
 try (have hw_ := And.intro (actW_of (k := akin) (by assumption) (by assumption)) trivial; obtain ⟨⟨hwE, hwB⟩, -⟩ := hw_)
 try (have hb1 := rfigures_b (l := [an]) (by assumption) hf1.1; simp only [List.length_cons, List.length_nil] at hb1)
 try (have hb2 := rfigures_b (l := akee) (by assumption) hf2.1)
 refine .go fun s13 hs13 zs13 => ?_
 conv => cbv
 have e : s13 = rActLine (⟨akin, atex, an, akee⟩ : TAct) := (by unfold rActLine; first | (exfalso; omega) | (rw [if_neg]; rintro ⟨a1, a2, a3, a4, a5, a6⟩; dsimp only at a1 a2 a3 a4 a5 a6; first | omega | exact Bool.noConfusion (show true = false from a1.symm.trans (by assumption)) | exact absurd (a2 (by omega)) (by assumption) | exact Bool.noConfusion (show false = true from a5.symm.trans (by assumption)) | exact Bool.noConfusion (show false = true from a6.symm.trans (by assumption))) | (rw [if_pos (show actFull _ from ⟨by assumption, fun h => by dsimp only at *; first | (exfalso; omega) | assumption, fun h => by dsimp only at *; omega, fun h => by dsimp only at *; omega, by assumption, by assumption⟩)]; dsimp only; first | (rw [if_pos (by omega)]; subst_vars; rw [hwE]; rfl) | (rw [if_neg (by omega), if_pos (by omega)]; subst_vars; rw [hwE]) | (rw [if_neg (by omega), if_neg (by omega)]; exact hwE)))
 rw [hr] at e
 subst e
 exact hQ _ _ (.s rfl rfl)
 conv => cbv
 have e : (tx []) = rActLine (⟨akin, atex, an, akee⟩ : TAct) := (by unfold rActLine; first | (exfalso; omega) | (rw [if_neg]; rintro ⟨a1, a2, a3, a4, a5, a6⟩; dsimp only at a1 a2 a3 a4 a5 a6; first | omega | exact Bool.noConfusion (show true = false from a1.symm.trans (by assumption)) | exact absurd (a2 (by omega)) (by assumption) | exact Bool.noConfusion (show false = true from a5.symm.trans (by assumption)) | exact Bool.noConfusion (show false = true from a6.symm.trans (by assumption))) | (rw [if_pos (show actFull _ from ⟨by assumption, fun h => by dsimp only at *; first | (exfalso; omega) | assumption, fun h => by dsimp only at *; omega, fun h => by dsimp only at *; omega, by assumption, by assumption⟩)]; dsimp only; first | (rw [if_pos (by omega)]; subst_vars; rw [hwE]; rfl) | (rw [if_neg (by omega), if_pos (by omega)]; subst_vars; rw [hwE]) | (rw [if_neg (by omega), if_neg (by omega)]; exact hwE)))
 rw [hr] at e
 subst e
 exact hQ _ _ (.s rfl rfl)
 conv => cbv
 have e : (tx []) = rActLine (⟨akin, atex, an, akee⟩ : TAct) := (by unfold rActLine; first | (exfalso; omega) | (rw [if_neg]; rintro ⟨a1, a2, a3, a4, a5, a6⟩; dsimp only at a1 a2 a3 a4 a5 a6; first | omega | exact Bool.noConfusion (show true = false from a1.symm.trans (by assumption)) | exact absurd (a2 (by omega)) (by assumption) | exact Bool.noConfusion (show false = true from a5.symm.trans (by assumption)) | exact Bool.noConfusion (show false = true from a6.symm.trans (by assumption))) | (rw [if_pos (show actFull _ from ⟨by assumption, fun h => by dsimp only at *; first | (exfalso; omega) | assumption, fun h => by dsimp only at *; omega, fun h => by dsimp only at *; omega, by assumption, by assumption⟩)]; dsimp only; first | (rw [if_pos (by omega)]; subst_vars; rw [hwE]; rfl) | (rw [if_neg (by omega), if_pos (by omega)]; subst_vars; rw [hwE]) | (rw [if_neg (by omega), if_neg (by omega)]; exact hwE)))
 rw [hr] at e
 subst e
 exact hQ _ _ (.s rfl rfl)
 conv => cbv
 try (have hw_ := And.intro (actW_of (k := akin) (by assumption) (by assumption)) trivial; obtain ⟨⟨hwE, hwB⟩, -⟩ := hw_)
 refine .eql (fun h2 => ?_) fun h2 => ?_
 conv => cbv
 generalize hr3 : rActOk (⟨akin, atex, an, akee⟩ : TAct) = r3
 refine .dd hP (FiActOk hakee hr3) ?_
 cases r3
 conv => cbv
 have e : (tx []) = rActLine (⟨akin, atex, an, akee⟩ : TAct) := (by unfold rActLine; first | (exfalso; omega) | (rw [if_neg]; rintro ⟨a1, a2, a3, a4, a5, a6⟩; dsimp only at a1 a2 a3 a4 a5 a6; first | omega | exact Bool.noConfusion (show true = false from a1.symm.trans (by assumption)) | exact absurd (a2 (by omega)) (by assumption) | exact Bool.noConfusion (show false = true from a5.symm.trans (by assumption)) | exact Bool.noConfusion (show false = true from a6.symm.trans (by assumption))) | (rw [if_pos (show actFull _ from ⟨by assumption, fun h => by dsimp only at *; first | (exfalso; omega) | assumption, fun h => by dsimp only at *; omega, fun h => by dsimp only at *; omega, by assumption, by assumption⟩)]; dsimp only; first | (rw [if_pos (by omega)]; subst_vars; rw [hwE]; rfl) | (rw [if_neg (by omega), if_pos (by omega)]; subst_vars; rw [hwE]) | (rw [if_neg (by omega), if_neg (by omega)]; exact hwE)))
 rw [hr] at e
 subst e
 exact hQ _ _ (.s rfl rfl)
 conv => cbv
 refine .neq (fun h4 => ?_) fun h4 => ?_
 conv => cbv
 refine .neq (fun h5 => ?_) fun h5 => ?_
 conv => cbv
 have e : (tx []) = rActLine (⟨akin, atex, an, akee⟩ : TAct) := (by unfold rActLine; first | (exfalso; omega) | (rw [if_neg]; rintro ⟨a1, a2, a3, a4, a5, a6⟩; dsimp only at a1 a2 a3 a4 a5 a6; first | omega | exact Bool.noConfusion (show true = false from a1.symm.trans (by assumption)) | exact absurd (a2 (by omega)) (by assumption) | exact Bool.noConfusion (show false = true from a5.symm.trans (by assumption)) | exact Bool.noConfusion (show false = true from a6.symm.trans (by assumption))) | (rw [if_pos (show actFull _ from ⟨by assumption, fun h => by dsimp only at *; first | (exfalso; omega) | assumption, fun h => by dsimp only at *; omega, fun h => by dsimp only at *; omega, by assumption, by assumption⟩)]; dsimp only; first | (rw [if_pos (by omega)]; subst_vars; rw [hwE]; rfl) | (rw [if_neg (by omega), if_pos (by omega)]; subst_vars; rw [hwE]) | (rw [if_neg (by omega), if_neg (by omega)]; exact hwE)))
 rw [hr] at e
 subst e
 exact hQ _ _ (.s rfl rfl)
 conv => cbv
 refine .neq (fun h6 => ?_) fun h6 => ?_
 conv => cbv
 refine .go hakee fun v7 hv7 => ?_
 conv => cbv
 refine .gtr (fun h8 => ?_) fun h8 => ?_
 conv => cbv
 have e : (tx []) = rActLine (⟨akin, atex, an, akee⟩ : TAct) := (by unfold rActLine; first | (exfalso; omega) | (rw [if_neg]; rintro ⟨a1, a2, a3, a4, a5, a6⟩; dsimp only at a1 a2 a3 a4 a5 a6; first | omega | exact Bool.noConfusion (show true = false from a1.symm.trans (by assumption)) | exact absurd (a2 (by omega)) (by assumption) | exact Bool.noConfusion (show false = true from a5.symm.trans (by assumption)) | exact Bool.noConfusion (show false = true from a6.symm.trans (by assumption))) | (rw [if_pos (show actFull _ from ⟨by assumption, fun h => by dsimp only at *; first | (exfalso; omega) | assumption, fun h => by dsimp only at *; omega, fun h => by dsimp only at *; omega, by assumption, by assumption⟩)]; dsimp only; first | (rw [if_pos (by omega)]; subst_vars; rw [hwE]; rfl) | (rw [if_neg (by omega), if_pos (by omega)]; subst_vars; rw [hwE]) | (rw [if_neg (by omega), if_neg (by omega)]; exact hwE)))
 rw [hr] at e
 subst e
 exact hQ _ _ (.s rfl rfl)
 conv => cbv
 generalize hr9 : rActLine_1 an = r9
 refine .dd hP (FiActLine_1 hr9) ?_
 cases r9
 conv => cbv
 generalize hr10 : rContainsFunc_ActLine_1 akee = r10
 refine .dd hP (FlContainsFunc_ActLine_1 hakee (by omega) hr10) ?_
 cases r10
 conv => cbv
 generalize hr11 : ractWords  = l11
 generalize hl11 : l11.map cS = xl11
 refine .dd hP (FiactWords hr11 hl11) ?_
 conv => cbv
 have hwl := actW_len (by assumption)
 have hok := rActOk_t (a := ⟨akin, atex, an, akee⟩) (by assumption)
 dsimp only at hok
 have hf1 : (∀ n ∈ [an], in64 n) ∧ [an].length ≤ 100 := ⟨by intro n hn; simp only [List.mem_cons, List.not_mem_nil, or_false] at hn; have := act1_f (n := an) (by assumption); unfold in64; omega, by simp⟩
 have hf2 : (∀ n ∈ akee, in64 n) ∧ akee.length ≤ 100 := ⟨fun n hn => by have := act_all (l := akee) (by assumption) n hn; unfold in64; omega, by omega⟩
 refine .go akin.toNat hl11 fun hje12 e12 qe12 => ?_
 conv => cbv
 try (have hw_ := And.intro (actW_of (k := akin) (by assumption) (by assumption)) trivial; obtain ⟨⟨hwE, hwB⟩, -⟩ := hw_)
 refine .eql (fun h13 => ?_) fun h13 => ?_
 conv => cbv
 generalize hr14 : rhexOrDash atex = r14
 refine .dd hP (FihexOrDash hr14) ?_
 conv => cbv
 have hb_ := hexd_b (t := atex) (by assumption) (by omega)
 refine .litL 1 fun s15 hs15 zs15 => ?_
 conv => cbv
 try (have hw_ := And.intro (actW_of (k := akin) (by assumption) (by assumption)) trivial; obtain ⟨⟨hwE, hwB⟩, -⟩ := hw_)
 try (have hb1 := rfigures_b (l := [an]) (by assumption) hf1.1; simp only [List.length_cons, List.length_nil] at hb1)
 try (have hb2 := rfigures_b (l := akee) (by assumption) hf2.1)
 refine .go fun s16 hs16 zs16 => ?_
 conv => cbv
 have e : s16 = rActLine (⟨akin, atex, an, akee⟩ : TAct) := (by unfold rActLine; first | (exfalso; omega) | (rw [if_neg]; rintro ⟨a1, a2, a3, a4, a5, a6⟩; dsimp only at a1 a2 a3 a4 a5 a6; first | omega | exact Bool.noConfusion (show true = false from a1.symm.trans (by assumption)) | exact absurd (a2 (by omega)) (by assumption) | exact Bool.noConfusion (show false = true from a5.symm.trans (by assumption)) | exact Bool.noConfusion (show false = true from a6.symm.trans (by assumption))) | (rw [if_pos (show actFull _ from ⟨by assumption, fun h => by dsimp only at *; first | (exfalso; omega) | assumption, fun h => by dsimp only at *; omega, fun h => by dsimp only at *; omega, by assumption, by assumption⟩)]; dsimp only; first | (rw [if_pos (by omega)]; subst_vars; rw [hwE]; rfl) | (rw [if_neg (by omega), if_pos (by omega)]; subst_vars; rw [hwE]) | (rw [if_neg (by omega), if_neg (by omega)]; exact hwE)))
 rw [hr] at e
 subst e
 exact hQ _ _ (.s rfl rfl)
 conv => cbv
 generalize hr14 : rfigures [an] = r14
 refine .lnt hP (Fifigures rfl hf1 hr14) (.ref rfl rfl .nil) ?_
 conv => cbv
 generalize hr15 : rfigures akee = r15
 refine .dd hP (Fifigures hakee hf2 hr15) ?_
 conv => cbv
 try (have hw_ := And.intro (actW_of (k := akin) (by assumption) (by assumption)) trivial; obtain ⟨⟨hwE, hwB⟩, -⟩ := hw_)
 try (have hb1 := rfigures_b (l := [an]) (by assumption) hf1.1; simp only [List.length_cons, List.length_nil] at hb1)
 try (have hb2 := rfigures_b (l := akee) (by assumption) hf2.1)
 refine .go fun s16 hs16 zs16 => ?_
 conv => cbv
 try (have hw_ := And.intro (actW_of (k := akin) (by assumption) (by assumption)) trivial; obtain ⟨⟨hwE, hwB⟩, -⟩ := hw_)
 try (have hb1 := rfigures_b (l := [an]) (by assumption) hf1.1; simp only [List.length_cons, List.length_nil] at hb1)
 try (have hb2 := rfigures_b (l := akee) (by assumption) hf2.1)
 refine .go fun s17 hs17 zs17 => ?_
 conv => cbv
 have e : s17 = rActLine (⟨akin, atex, an, akee⟩ : TAct) := (by unfold rActLine; first | (exfalso; omega) | (rw [if_neg]; rintro ⟨a1, a2, a3, a4, a5, a6⟩; dsimp only at a1 a2 a3 a4 a5 a6; first | omega | exact Bool.noConfusion (show true = false from a1.symm.trans (by assumption)) | exact absurd (a2 (by omega)) (by assumption) | exact Bool.noConfusion (show false = true from a5.symm.trans (by assumption)) | exact Bool.noConfusion (show false = true from a6.symm.trans (by assumption))) | (rw [if_pos (show actFull _ from ⟨by assumption, fun h => by dsimp only at *; first | (exfalso; omega) | assumption, fun h => by dsimp only at *; omega, fun h => by dsimp only at *; omega, by assumption, by assumption⟩)]; dsimp only; first | (rw [if_pos (by omega)]; subst_vars; rw [hwE]; rfl) | (rw [if_neg (by omega), if_pos (by omega)]; subst_vars; rw [hwE]) | (rw [if_neg (by omega), if_neg (by omega)]; exact hwE)))
 rw [hr] at e
 subst e
 exact hQ _ _ (.s rfl rfl)
 conv => cbv
 have e : (tx []) = rActLine (⟨akin, atex, an, akee⟩ : TAct) := (by unfold rActLine; first | (exfalso; omega) | (rw [if_neg]; rintro ⟨a1, a2, a3, a4, a5, a6⟩; dsimp only at a1 a2 a3 a4 a5 a6; first | omega | exact Bool.noConfusion (show true = false from a1.symm.trans (by assumption)) | exact absurd (a2 (by omega)) (by assumption) | exact Bool.noConfusion (show false = true from a5.symm.trans (by assumption)) | exact Bool.noConfusion (show false = true from a6.symm.trans (by assumption))) | (rw [if_pos (show actFull _ from ⟨by assumption, fun h => by dsimp only at *; first | (exfalso; omega) | assumption, fun h => by dsimp only at *; omega, fun h => by dsimp only at *; omega, by assumption, by assumption⟩)]; dsimp only; first | (rw [if_pos (by omega)]; subst_vars; rw [hwE]; rfl) | (rw [if_neg (by omega), if_pos (by omega)]; subst_vars; rw [hwE]) | (rw [if_neg (by omega), if_neg (by omega)]; exact hwE)))
 rw [hr] at e
 subst e
 exact hQ _ _ (.s rfl rfl)
 conv => cbv
 have e : (tx []) = rActLine (⟨akin, atex, an, akee⟩ : TAct) := (by unfold rActLine; first | (exfalso; omega) | (rw [if_neg]; rintro ⟨a1, a2, a3, a4, a5, a6⟩; dsimp only at a1 a2 a3 a4 a5 a6; first | omega | exact Bool.noConfusion (show true = false from a1.symm.trans (by assumption)) | exact absurd (a2 (by omega)) (by assumption) | exact Bool.noConfusion (show false = true from a5.symm.trans (by assumption)) | exact Bool.noConfusion (show false = true from a6.symm.trans (by assumption))) | (rw [if_pos (show actFull _ from ⟨by assumption, fun h => by dsimp only at *; first | (exfalso; omega) | assumption, fun h => by dsimp only at *; omega, fun h => by dsimp only at *; omega, by assumption, by assumption⟩)]; dsimp only; first | (rw [if_pos (by omega)]; subst_vars; rw [hwE]; rfl) | (rw [if_neg (by omega), if_pos (by omega)]; subst_vars; rw [hwE]) | (rw [if_neg (by omega), if_neg (by omega)]; exact hwE)))
 rw [hr] at e
 subst e
 exact hQ _ _ (.s rfl rfl)
 conv => cbv
 generalize hr7 : rActLine_1 an = r7
 refine .dd hP (FiActLine_1 hr7) ?_
 cases r7
 conv => cbv
 generalize hr8 : rContainsFunc_ActLine_1 akee = r8
 refine .dd hP (FlContainsFunc_ActLine_1 hakee (by omega) hr8) ?_
 cases r8
 conv => cbv
 generalize hr9 : ractWords  = l9
 generalize hl9 : l9.map cS = xl9
 refine .dd hP (FiactWords hr9 hl9) ?_
 conv => cbv
 have hwl := actW_len (by assumption)
 have hok := rActOk_t (a := ⟨akin, atex, an, akee⟩) (by assumption)
 dsimp only at hok
 have hf1 : (∀ n ∈ [an], in64 n) ∧ [an].length ≤ 100 := ⟨by intro n hn; simp only [List.mem_cons, List.not_mem_nil, or_false] at hn; have := act1_f (n := an) (by assumption); unfold in64; omega, by simp⟩
 have hf2 : (∀ n ∈ akee, in64 n) ∧ akee.length ≤ 100 := ⟨fun n hn => by have := act_all (l := akee) (by assumption) n hn; unfold in64; omega, by omega⟩
 refine .go akin.toNat hl9 fun hje10 e10 qe10 => ?_
 conv => cbv
 try (have hw_ := And.intro (actW_of (k := akin) (by assumption) (by assumption)) trivial; obtain ⟨⟨hwE, hwB⟩, -⟩ := hw_)
 refine .eql (fun h11 => ?_) fun h11 => ?_
 conv => cbv
 generalize hr12 : rhexOrDash atex = r12
 refine .dd hP (FihexOrDash hr12) ?_
 conv => cbv
 have hb_ := hexd_b (t := atex) (by assumption) (by omega)
 refine .litL 1 fun s13 hs13 zs13 => ?_
 conv => cbv
 try (have hw_ := And.intro (actW_of (k := akin) (by assumption) (by assumption)) trivial; obtain ⟨⟨hwE, hwB⟩, -⟩ := hw_)
 try (have hb1 := rfigures_b (l := [an]) (by assumption) hf1.1; simp only [List.length_cons, List.length_nil] at hb1)
 try (have hb2 := rfigures_b (l := akee) (by assumption) hf2.1)
 refine .go fun s14 hs14 zs14 => ?_
 conv => cbv
 have e : s14 = rActLine (⟨akin, atex, an, akee⟩ : TAct) := (by unfold rActLine; first | (exfalso; omega) | (rw [if_neg]; rintro ⟨a1, a2, a3, a4, a5, a6⟩; dsimp only at a1 a2 a3 a4 a5 a6; first | omega | exact Bool.noConfusion (show true = false from a1.symm.trans (by assumption)) | exact absurd (a2 (by omega)) (by assumption) | exact Bool.noConfusion (show false = true from a5.symm.trans (by assumption)) | exact Bool.noConfusion (show false = true from a6.symm.trans (by assumption))) | (rw [if_pos (show actFull _ from ⟨by assumption, fun h => by dsimp only at *; first | (exfalso; omega) | assumption, fun h => by dsimp only at *; omega, fun h => by dsimp only at *; omega, by assumption, by assumption⟩)]; dsimp only; first | (rw [if_pos (by omega)]; subst_vars; rw [hwE]; rfl) | (rw [if_neg (by omega), if_pos (by omega)]; subst_vars; rw [hwE]) | (rw [if_neg (by omega), if_neg (by omega)]; exact hwE)))
 rw [hr] at e
 subst e
 exact hQ _ _ (.s rfl rfl)
 conv => cbv
 generalize hr12 : rfigures [an] = r12
 refine .lnt hP (Fifigures rfl hf1 hr12) (.ref rfl rfl .nil) ?_
 conv => cbv
 generalize hr13 : rfigures akee = r13
 refine .dd hP (Fifigures hakee hf2 hr13) ?_
 conv => cbv
 try (have hw_ := And.intro (actW_of (k := akin) (by assumption) (by assumption)) trivial; obtain ⟨⟨hwE, hwB⟩, -⟩ := hw_)
 try (have hb1 := rfigures_b (l := [an]) (by assumption) hf1.1; simp only [List.length_cons, List.length_nil] at hb1)
 try (have hb2 := rfigures_b (l := akee) (by assumption) hf2.1)
 refine .go fun s14 hs14 zs14 => ?_
 conv => cbv
 try (have hw_ := And.intro (actW_of (k := akin) (by assumption) (by assumption)) trivial; obtain ⟨⟨hwE, hwB⟩, -⟩ := hw_)
 try (have hb1 := rfigures_b (l := [an]) (by assumption) hf1.1; simp only [List.length_cons, List.length_nil] at hb1)
 try (have hb2 := rfigures_b (l := akee) (by assumption) hf2.1)
 refine .go fun s15 hs15 zs15 => ?_
 conv => cbv
 have e : s15 = rActLine (⟨akin, atex, an, akee⟩ : TAct) := (by unfold rActLine; first | (exfalso; omega) | (rw [if_neg]; rintro ⟨a1, a2, a3, a4, a5, a6⟩; dsimp only at a1 a2 a3 a4 a5 a6; first | omega | exact Bool.noConfusion (show true = false from a1.symm.trans (by assumption)) | exact absurd (a2 (by omega)) (by assumption) | exact Bool.noConfusion (show false = true from a5.symm.trans (by assumption)) | exact Bool.noConfusion (show false = true from a6.symm.trans (by assumption))) | (rw [if_pos (show actFull _ from ⟨by assumption, fun h => by dsimp only at *; first | (exfalso; omega) | assumption, fun h => by dsimp only at *; omega, fun h => by dsimp only at *; omega, by assumption, by assumption⟩)]; dsimp only; first | (rw [if_pos (by omega)]; subst_vars; rw [hwE]; rfl) | (rw [if_neg (by omega), if_pos (by omega)]; subst_vars; rw [hwE]) | (rw [if_neg (by omega), if_neg (by omega)]; exact hwE)))
 rw [hr] at e
 subst e
 exact hQ _ _ (.s rfl rfl)
 conv => cbv
 have e : (tx []) = rActLine (⟨akin, atex, an, akee⟩ : TAct) := (by unfold rActLine; first | (exfalso; omega) | (rw [if_neg]; rintro ⟨a1, a2, a3, a4, a5, a6⟩; dsimp only at a1 a2 a3 a4 a5 a6; first | omega | exact Bool.noConfusion (show true = false from a1.symm.trans (by assumption)) | exact absurd (a2 (by omega)) (by assumption) | exact Bool.noConfusion (show false = true from a5.symm.trans (by assumption)) | exact Bool.noConfusion (show false = true from a6.symm.trans (by assumption))) | (rw [if_pos (show actFull _ from ⟨by assumption, fun h => by dsimp only at *; first | (exfalso; omega) | assumption, fun h => by dsimp only at *; omega, fun h => by dsimp only at *; omega, by assumption, by assumption⟩)]; dsimp only; first | (rw [if_pos (by omega)]; subst_vars; rw [hwE]; rfl) | (rw [if_neg (by omega), if_pos (by omega)]; subst_vars; rw [hwE]) | (rw [if_neg (by omega), if_neg (by omega)]; exact hwE)))
 rw [hr] at e
 subst e
 exact hQ _ _ (.s rfl rfl)
 conv => cbv
 have e : (tx []) = rActLine (⟨akin, atex, an, akee⟩ : TAct) := (by unfold rActLine; first | (exfalso; omega) | (rw [if_neg]; rintro ⟨a1, a2, a3, a4, a5, a6⟩; dsimp only at a1 a2 a3 a4 a5 a6; first | omega | exact Bool.noConfusion (show true = false from a1.symm.trans (by assumption)) | exact absurd (a2 (by omega)) (by assumption) | exact Bool.noConfusion (show false = true from a5.symm.trans (by assumption)) | exact Bool.noConfusion (show false = true from a6.symm.trans (by assumption))) | (rw [if_pos (show actFull _ from ⟨by assumption, fun h => by dsimp only at *; first | (exfalso; omega) | assumption, fun h => by dsimp only at *; omega, fun h => by dsimp only at *; omega, by assumption, by assumption⟩)]; dsimp only; first | (rw [if_pos (by omega)]; subst_vars; rw [hwE]; rfl) | (rw [if_neg (by omega), if_pos (by omega)]; subst_vars; rw [hwE]) | (rw [if_neg (by omega), if_neg (by omega)]; exact hwE)))
 rw [hr] at e
 subst e
 exact hQ _ _ (.s rfl rfl)
 conv => cbv
 refine .neq (fun h5 => ?_) fun h5 => ?_
 conv => cbv
 refine .go hakee fun v6 hv6 => ?_
 conv => cbv
 refine .gtr (fun h7 => ?_) fun h7 => ?_
 conv => cbv
 have e : (tx []) = rActLine (⟨akin, atex, an, akee⟩ : TAct) := (by unfold rActLine; first | (exfalso; omega) | (rw [if_neg]; rintro ⟨a1, a2, a3, a4, a5, a6⟩; dsimp only at a1 a2 a3 a4 a5 a6; first | omega | exact Bool.noConfusion (show true = false from a1.symm.trans (by assumption)) | exact absurd (a2 (by omega)) (by assumption) | exact Bool.noConfusion (show false = true from a5.symm.trans (by assumption)) | exact Bool.noConfusion (show false = true from a6.symm.trans (by assumption))) | (rw [if_pos (show actFull _ from ⟨by assumption, fun h => by dsimp only at *; first | (exfalso; omega) | assumption, fun h => by dsimp only at *; omega, fun h => by dsimp only at *; omega, by assumption, by assumption⟩)]; dsimp only; first | (rw [if_pos (by omega)]; subst_vars; rw [hwE]; rfl) | (rw [if_neg (by omega), if_pos (by omega)]; subst_vars; rw [hwE]) | (rw [if_neg (by omega), if_neg (by omega)]; exact hwE)))
 rw [hr] at e
 subst e
 exact hQ _ _ (.s rfl rfl)
 conv => cbv
 generalize hr8 : rActLine_1 an = r8
 refine .dd hP (FiActLine_1 hr8) ?_
 cases r8
 conv => cbv
 generalize hr9 : rContainsFunc_ActLine_1 akee = r9
 refine .dd hP (FlContainsFunc_ActLine_1 hakee (by omega) hr9) ?_
 cases r9
 conv => cbv
 generalize hr10 : ractWords  = l10
 generalize hl10 : l10.map cS = xl10
 refine .dd hP (FiactWords hr10 hl10) ?_
 conv => cbv
 have hwl := actW_len (by assumption)
 have hok := rActOk_t (a := ⟨akin, atex, an, akee⟩) (by assumption)
 dsimp only at hok
 have hf1 : (∀ n ∈ [an], in64 n) ∧ [an].length ≤ 100 := ⟨by intro n hn; simp only [List.mem_cons, List.not_mem_nil, or_false] at hn; have := act1_f (n := an) (by assumption); unfold in64; omega, by simp⟩
 have hf2 : (∀ n ∈ akee, in64 n) ∧ akee.length ≤ 100 := ⟨fun n hn => by have := act_all (l := akee) (by assumption) n hn; unfold in64; omega, by omega⟩
 refine .go akin.toNat hl10 fun hje11 e11 qe11 => ?_
 conv => cbv
 try (have hw_ := And.intro (actW_of (k := akin) (by assumption) (by assumption)) trivial; obtain ⟨⟨hwE, hwB⟩, -⟩ := hw_)
 refine .eql (fun h12 => ?_) fun h12 => ?_
 conv => cbv
 generalize hr13 : rhexOrDash atex = r13
 refine .dd hP (FihexOrDash hr13) ?_
 conv => cbv
 have hb_ := hexd_b (t := atex) (by assumption) (by omega)
 refine .litL 1 fun s14 hs14 zs14 => ?_
 conv => cbv
 try (have hw_ := And.intro (actW_of (k := akin) (by assumption) (by assumption)) trivial; obtain ⟨⟨hwE, hwB⟩, -⟩ := hw_)
 try (have hb1 := rfigures_b (l := [an]) (by assumption) hf1.1; simp only [List.length_cons, List.length_nil] at hb1)
 try (have hb2 := rfigures_b (l := akee) (by assumption) hf2.1)
 refine .go fun s15 hs15 zs15 => ?_
 conv => cbv
 have e : s15 = rActLine (⟨akin, atex, an, akee⟩ : TAct) := (by unfold rActLine; first | (exfalso; omega) | (rw [if_neg]; rintro ⟨a1, a2, a3, a4, a5, a6⟩; dsimp only at a1 a2 a3 a4 a5 a6; first | omega | exact Bool.noConfusion (show true = false from a1.symm.trans (by assumption)) | exact absurd (a2 (by omega)) (by assumption) | exact Bool.noConfusion (show false = true from a5.symm.trans (by assumption)) | exact Bool.noConfusion (show false = true from a6.symm.trans (by assumption))) | (rw [if_pos (show actFull _ from ⟨by assumption, fun h => by dsimp only at *; first | (exfalso; omega) | assumption, fun h => by dsimp only at *; omega, fun h => by dsimp only at *; omega, by assumption, by assumption⟩)]; dsimp only; first | (rw [if_pos (by omega)]; subst_vars; rw [hwE]; rfl) | (rw [if_neg (by omega), if_pos (by omega)]; subst_vars; rw [hwE]) | (rw [if_neg (by omega), if_neg (by omega)]; exact hwE)))
 rw [hr] at e
 subst e
 exact hQ _ _ (.s rfl rfl)
 conv => cbv
 generalize hr13 : rfigures [an] = r13
 refine .lnt hP (Fifigures rfl hf1 hr13) (.ref rfl rfl .nil) ?_
 conv => cbv
 generalize hr14 : rfigures akee = r14
 refine .dd hP (Fifigures hakee hf2 hr14) ?_
 conv => cbv
 try (have hw_ := And.intro (actW_of (k := akin) (by assumption) (by assumption)) trivial; obtain ⟨⟨hwE, hwB⟩, -⟩ := hw_)
 try (have hb1 := rfigures_b (l := [an]) (by assumption) hf1.1; simp only [List.length_cons, List.length_nil] at hb1)
 try (have hb2 := rfigures_b (l := akee) (by assumption) hf2.1)
 refine .go fun s15 hs15 zs15 => ?_
 conv => cbv
 try (have hw_ := And.intro (actW_of (k := akin) (by assumption) (by assumption)) trivial; obtain ⟨⟨hwE, hwB⟩, -⟩ := hw_)
 try (have hb1 := rfigures_b (l := [an]) (by assumption) hf1.1; simp only [List.length_cons, List.length_nil] at hb1)
 try (have hb2 := rfigures_b (l := akee) (by assumption) hf2.1)
 refine .go fun s16 hs16 zs16 => ?_
 conv => cbv
 have e : s16 = rActLine (⟨akin, atex, an, akee⟩ : TAct) := (by unfold rActLine; first | (exfalso; omega) | (rw [if_neg]; rintro ⟨a1, a2, a3, a4, a5, a6⟩; dsimp only at a1 a2 a3 a4 a5 a6; first | omega | exact Bool.noConfusion (show true = false from a1.symm.trans (by assumption)) | exact absurd (a2 (by omega)) (by assumption) | exact Bool.noConfusion (show false = true from a5.symm.trans (by assumption)) | exact Bool.noConfusion (show false = true from a6.symm.trans (by assumption))) | (rw [if_pos (show actFull _ from ⟨by assumption, fun h => by dsimp only at *; first | (exfalso; omega) | assumption, fun h => by dsimp only at *; omega, fun h => by dsimp only at *; omega, by assumption, by assumption⟩)]; dsimp only; first | (rw [if_pos (by omega)]; subst_vars; rw [hwE]; rfl) | (rw [if_neg (by omega), if_pos (by omega)]; subst_vars; rw [hwE]) | (rw [if_neg (by omega), if_neg (by omega)]; exact hwE)))
 rw [hr] at e
 subst e
 exact hQ _ _ (.s rfl rfl)
 conv => cbv
 have e : (tx []) = rActLine (⟨akin, atex, an, akee⟩ : TAct) := (by unfold rActLine; first | (exfalso; omega) | (rw [if_neg]; rintro ⟨a1, a2, a3, a4, a5, a6⟩; dsimp only at a1 a2 a3 a4 a5 a6; first | omega | exact Bool.noConfusion (show true = false from a1.symm.trans (by assumption)) | exact absurd (a2 (by omega)) (by assumption) | exact Bool.noConfusion (show false = true from a5.symm.trans (by assumption)) | exact Bool.noConfusion (show false = true from a6.symm.trans (by assumption))) | (rw [if_pos (show actFull _ from ⟨by assumption, fun h => by dsimp only at *; first | (exfalso; omega) | assumption, fun h => by dsimp only at *; omega, fun h => by dsimp only at *; omega, by assumption, by assumption⟩)]; dsimp only; first | (rw [if_pos (by omega)]; subst_vars; rw [hwE]; rfl) | (rw [if_neg (by omega), if_pos (by omega)]; subst_vars; rw [hwE]) | (rw [if_neg (by omega), if_neg (by omega)]; exact hwE)))
 rw [hr] at e
 subst e
 exact hQ _ _ (.s rfl rfl)
 conv => cbv
 have e : (tx []) = rActLine (⟨akin, atex, an, akee⟩ : TAct) := (by unfold rActLine; first | (exfalso; omega) | (rw [if_neg]; rintro ⟨a1, a2, a3, a4, a5, a6⟩; dsimp only at a1 a2 a3 a4 a5 a6; first | omega | exact Bool.noConfusion (show true = false from a1.symm.trans (by assumption)) | exact absurd (a2 (by omega)) (by assumption) | exact Bool.noConfusion (show false = true from a5.symm.trans (by assumption)) | exact Bool.noConfusion (show false = true from a6.symm.trans (by assumption))) | (rw [if_pos (show actFull _ from ⟨by assumption, fun h => by dsimp only at *; first | (exfalso; omega) | assumption, fun h => by dsimp only at *; omega, fun h => by dsimp only at *; omega, by assumption, by assumption⟩)]; dsimp only; first | (rw [if_pos (by omega)]; subst_vars; rw [hwE]; rfl) | (rw [if_neg (by omega), if_pos (by omega)]; subst_vars; rw [hwE]) | (rw [if_neg (by omega), if_neg (by omega)]; exact hwE)))
 rw [hr] at e
 subst e
 exact hQ _ _ (.s rfl rfl)
 conv => cbv
 generalize hr6 : rActLine_1 an = r6
 refine .dd hP (FiActLine_1 hr6) ?_
 cases r6
 conv => cbv
 generalize hr7 : rContainsFunc_ActLine_1 akee = r7
 refine .dd hP (FlContainsFunc_ActLine_1 hakee (by omega) hr7) ?_
 cases r7
 conv => cbv
 generalize hr8 : ractWords  = l8
 generalize hl8 : l8.map cS = xl8
 refine .dd hP (FiactWords hr8 hl8) ?_
 conv => cbv
 have hwl := actW_len (by assumption)
 have hok := rActOk_t (a := ⟨akin, atex, an, akee⟩) (by assumption)
 dsimp only at hok
 have hf1 : (∀ n ∈ [an], in64 n) ∧ [an].length ≤ 100 := ⟨by intro n hn; simp only [List.mem_cons, List.not_mem_nil, or_false] at hn; have := act1_f (n := an) (by assumption); unfold in64; omega, by simp⟩
 have hf2 : (∀ n ∈ akee, in64 n) ∧ akee.length ≤ 100 := ⟨fun n hn => by have := act_all (l := akee) (by assumption) n hn; unfold in64; omega, by omega⟩
 refine .go akin.toNat hl8 fun hje9 e9 qe9 => ?_
 conv => cbv
 try (have hw_ := And.intro (actW_of (k := akin) (by assumption) (by assumption)) trivial; obtain ⟨⟨hwE, hwB⟩, -⟩ := hw_)
 refine .eql (fun h10 => ?_) fun h10 => ?_
 conv => cbv
 generalize hr11 : rhexOrDash atex = r11
 refine .dd hP (FihexOrDash hr11) ?_
 conv => cbv
 have hb_ := hexd_b (t := atex) (by assumption) (by omega)
 refine .litL 1 fun s12 hs12 zs12 => ?_
 conv => cbv
 try (have hw_ := And.intro (actW_of (k := akin) (by assumption) (by assumption)) trivial; obtain ⟨⟨hwE, hwB⟩, -⟩ := hw_)
 try (have hb1 := rfigures_b (l := [an]) (by assumption) hf1.1; simp only [List.length_cons, List.length_nil] at hb1)
 try (have hb2 := rfigures_b (l := akee) (by assumption) hf2.1)
 refine .go fun s13 hs13 zs13 => ?_
 conv => cbv
 have e : s13 = rActLine (⟨akin, atex, an, akee⟩ : TAct) := (by unfold rActLine; first | (exfalso; omega) | (rw [if_neg]; rintro ⟨a1, a2, a3, a4, a5, a6⟩; dsimp only at a1 a2 a3 a4 a5 a6; first | omega | exact Bool.noConfusion (show true = false from a1.symm.trans (by assumption)) | exact absurd (a2 (by omega)) (by assumption) | exact Bool.noConfusion (show false = true from a5.symm.trans (by assumption)) | exact Bool.noConfusion (show false = true from a6.symm.trans (by assumption))) | (rw [if_pos (show actFull _ from ⟨by assumption, fun h => by dsimp only at *; first | (exfalso; omega) | assumption, fun h => by dsimp only at *; omega, fun h => by dsimp only at *; omega, by assumption, by assumption⟩)]; dsimp only; first | (rw [if_pos (by omega)]; subst_vars; rw [hwE]; rfl) | (rw [if_neg (by omega), if_pos (by omega)]; subst_vars; rw [hwE]) | (rw [if_neg (by omega), if_neg (by omega)]; exact hwE)))
 rw [hr] at e
 subst e
 exact hQ _ _ (.s rfl rfl)
 conv => cbv
 generalize hr11 : rfigures [an] = r11
 refine .lnt hP (Fifigures rfl hf1 hr11) (.ref rfl rfl .nil) ?_
 conv => cbv
 generalize hr12 : rfigures akee = r12
 refine .dd hP (Fifigures hakee hf2 hr12) ?_
 conv => cbv
 try (have hw_ := And.intro (actW_of (k := akin) (by assumption) (by assumption)) trivial; obtain ⟨⟨hwE, hwB⟩, -⟩ := hw_)
 try (have hb1 := rfigures_b (l := [an]) (by assumption) hf1.1; simp only [List.length_cons, List.length_nil] at hb1)
 try (have hb2 := rfigures_b (l := akee) (by assumption) hf2.1)
 refine .go fun s13 hs13 zs13 => ?_
 conv => cbv
 try (have hw_ := And.intro (actW_of (k := akin) (by assumption) (by assumption)) trivial; obtain ⟨⟨hwE, hwB⟩, -⟩ := hw_)
 try (have hb1 := rfigures_b (l := [an]) (by assumption) hf1.1; simp only [List.length_cons, List.length_nil] at hb1)
 try (have hb2 := rfigures_b (l := akee) (by assumption) hf2.1)
 refine .go fun s14 hs14 zs14 => ?_
 conv => cbv
 have e : s14 = rActLine (⟨akin, atex, an, akee⟩ : TAct) := (by unfold rActLine; first | (exfalso; omega) | (rw [if_neg]; rintro ⟨a1, a2, a3, a4, a5, a6⟩; dsimp only at a1 a2 a3 a4 a5 a6; first | omega | exact Bool.noConfusion (show true = false from a1.symm.trans (by assumption)) | exact absurd (a2 (by omega)) (by assumption) | exact Bool.noConfusion (show false = true from a5.symm.trans (by assumption)) | exact Bool.noConfusion (show false = true from a6.symm.trans (by assumption))) | (rw [if_pos (show actFull _ from ⟨by assumption, fun h => by dsimp only at *; first | (exfalso; omega) | assumption, fun h => by dsimp only at *; omega, fun h => by dsimp only at *; omega, by assumption, by assumption⟩)]; dsimp only; first | (rw [if_pos (by omega)]; subst_vars; rw [hwE]; rfl) | (rw [if_neg (by omega), if_pos (by omega)]; subst_vars; rw [hwE]) | (rw [if_neg (by omega), if_neg (by omega)]; exact hwE)))
 rw [hr] at e
 subst e
 exact hQ _ _ (.s rfl rfl)
 conv => cbv
 have e : (tx []) = rActLine (⟨akin, atex, an, akee⟩ : TAct) := (by unfold rActLine; first | (exfalso; omega) | (rw [if_neg]; rintro ⟨a1, a2, a3, a4, a5, a6⟩; dsimp only at a1 a2 a3 a4 a5 a6; first | omega | exact Bool.noConfusion (show true = false from a1.symm.trans (by assumption)) | exact absurd (a2 (by omega)) (by assumption) | exact Bool.noConfusion (show false = true from a5.symm.trans (by assumption)) | exact Bool.noConfusion (show false = true from a6.symm.trans (by assumption))) | (rw [if_pos (show actFull _ from ⟨by assumption, fun h => by dsimp only at *; first | (exfalso; omega) | assumption, fun h => by dsimp only at *; omega, fun h => by dsimp only at *; omega, by assumption, by assumption⟩)]; dsimp only; first | (rw [if_pos (by omega)]; subst_vars; rw [hwE]; rfl) | (rw [if_neg (by omega), if_pos (by omega)]; subst_vars; rw [hwE]) | (rw [if_neg (by omega), if_neg (by omega)]; exact hwE)))
 rw [hr] at e
 subst e
 exact hQ _ _ (.s rfl rfl)
 conv => cbv
 have e : (tx []) = rActLine (⟨akin, atex, an, akee⟩ : TAct) := (by unfold rActLine; first | (exfalso; omega) | (rw [if_neg]; rintro ⟨a1, a2, a3, a4, a5, a6⟩; dsimp only at a1 a2 a3 a4 a5 a6; first | omega | exact Bool.noConfusion (show true = false from a1.symm.trans (by assumption)) | exact absurd (a2 (by omega)) (by assumption) | exact Bool.noConfusion (show false = true from a5.symm.trans (by assumption)) | exact Bool.noConfusion (show false = true from a6.symm.trans (by assumption))) | (rw [if_pos (show actFull _ from ⟨by assumption, fun h => by dsimp only at *; first | (exfalso; omega) | assumption, fun h => by dsimp only at *; omega, fun h => by dsimp only at *; omega, by assumption, by assumption⟩)]; dsimp only; first | (rw [if_pos (by omega)]; subst_vars; rw [hwE]; rfl) | (rw [if_neg (by omega), if_pos (by omega)]; subst_vars; rw [hwE]) | (rw [if_neg (by omega), if_neg (by omega)]; exact hwE)))
 rw [hr] at e
 subst e
 exact hQ _ _ (.s rfl rfl)
 conv => cbv
 try (have hw_ := And.intro (actW_of (k := akin) (by assumption) (by assumption)) trivial; obtain ⟨⟨hwE, hwB⟩, -⟩ := hw_)
 refine .eql (fun h3 => ?_) fun h3 => ?_
 conv => cbv
 generalize hr4 : rActOk (⟨akin, atex, an, akee⟩ : TAct) = r4
 refine .dd hP (FiActOk hakee hr4) ?_
 cases r4
 conv => cbv
 have e : (tx []) = rActLine (⟨akin, atex, an, akee⟩ : TAct) := (by unfold rActLine; first | (exfalso; omega) | (rw [if_neg]; rintro ⟨a1, a2, a3, a4, a5, a6⟩; dsimp only at a1 a2 a3 a4 a5 a6; first | omega | exact Bool.noConfusion (show true = false from a1.symm.trans (by assumption)) | exact absurd (a2 (by omega)) (by assumption) | exact Bool.noConfusion (show false = true from a5.symm.trans (by assumption)) | exact Bool.noConfusion (show false = true from a6.symm.trans (by assumption))) | (rw [if_pos (show actFull _ from ⟨by assumption, fun h => by dsimp only at *; first | (exfalso; omega) | assumption, fun h => by dsimp only at *; omega, fun h => by dsimp only at *; omega, by assumption, by assumption⟩)]; dsimp only; first | (rw [if_pos (by omega)]; subst_vars; rw [hwE]; rfl) | (rw [if_neg (by omega), if_pos (by omega)]; subst_vars; rw [hwE]) | (rw [if_neg (by omega), if_neg (by omega)]; exact hwE)))
 rw [hr] at e
 subst e
 exact hQ _ _ (.s rfl rfl)
 conv => cbv
 refine .neq (fun h5 => ?_) fun h5 => ?_
 conv => cbv
 refine .neq (fun h6 => ?_) fun h6 => ?_
 conv => cbv
 have e : (tx []) = rActLine (⟨akin, atex, an, akee⟩ : TAct) := (by unfold rActLine; first | (exfalso; omega) | (rw [if_neg]; rintro ⟨a1, a2, a3, a4, a5, a6⟩; dsimp only at a1 a2 a3 a4 a5 a6; first | omega | exact Bool.noConfusion (show true = false from a1.symm.trans (by assumption)) | exact absurd (a2 (by omega)) (by assumption) | exact Bool.noConfusion (show false = true from a5.symm.trans (by assumption)) | exact Bool.noConfusion (show false = true from a6.symm.trans (by assumption))) | (rw [if_pos (show actFull _ from ⟨by assumption, fun h => by dsimp only at *; first | (exfalso; omega) | assumption, fun h => by dsimp only at *; omega, fun h => by dsimp only at *; omega, by assumption, by assumption⟩)]; dsimp only; first | (rw [if_pos (by omega)]; subst_vars; rw [hwE]; rfl) | (rw [if_neg (by omega), if_pos (by omega)]; subst_vars; rw [hwE]) | (rw [if_neg (by omega), if_neg (by omega)]; exact hwE)))
 rw [hr] at e
 subst e
 exact hQ _ _ (.s rfl rfl)
 conv => cbv
 refine .neq (fun h7 => ?_) fun h7 => ?_
 conv => cbv
 refine .go hakee fun v8 hv8 => ?_
 conv => cbv
 refine .gtr (fun h9 => ?_) fun h9 => ?_
 conv => cbv
 have e : (tx []) = rActLine (⟨akin, atex, an, akee⟩ : TAct) := (by unfold rActLine; first | (exfalso; omega) | (rw [if_neg]; rintro ⟨a1, a2, a3, a4, a5, a6⟩; dsimp only at a1 a2 a3 a4 a5 a6; first | omega | exact Bool.noConfusion (show true = false from a1.symm.trans (by assumption)) | exact absurd (a2 (by omega)) (by assumption) | exact Bool.noConfusion (show false = true from a5.symm.trans (by assumption)) | exact Bool.noConfusion (show false = true from a6.symm.trans (by assumption))) | (rw [if_pos (show actFull _ from ⟨by assumption, fun h => by dsimp only at *; first | (exfalso; omega) | assumption, fun h => by dsimp only at *; omega, fun h => by dsimp only at *; omega, by assumption, by assumption⟩)]; dsimp only; first | (rw [if_pos (by omega)]; subst_vars; rw [hwE]; rfl) | (rw [if_neg (by omega), if_pos (by omega)]; subst_vars; rw [hwE]) | (rw [if_neg (by omega), if_neg (by omega)]; exact hwE)))
 rw [hr] at e
 subst e
 exact hQ _ _ (.s rfl rfl)
 conv => cbv
 generalize hr10 : rActLine_1 an = r10
 refine .dd hP (FiActLine_1 hr10) ?_
 cases r10
 conv => cbv
 generalize hr11 : rContainsFunc_ActLine_1 akee = r11
 refine .dd hP (FlContainsFunc_ActLine_1 hakee (by omega) hr11) ?_
 cases r11
 conv => cbv
 generalize hr12 : ractWords  = l12
 generalize hl12 : l12.map cS = xl12
 refine .dd hP (FiactWords hr12 hl12) ?_
 conv => cbv
 have hwl := actW_len (by assumption)
 have hok := rActOk_t (a := ⟨akin, atex, an, akee⟩) (by assumption)
 dsimp only at hok
 have hf1 : (∀ n ∈ [an], in64 n) ∧ [an].length ≤ 100 := ⟨by intro n hn; simp only [List.mem_cons, List.not_mem_nil, or_false] at hn; have := act1_f (n := an) (by assumption); unfold in64; omega, by simp⟩
 have hf2 : (∀ n ∈ akee, in64 n) ∧ akee.length ≤ 100 := ⟨fun n hn => by have := act_all (l := akee) (by assumption) n hn; unfold in64; omega, by omega⟩
 refine .go akin.toNat hl12 fun hje13 e13 qe13 => ?_
 conv => cbv
 try (have hw_ := And.intro (actW_of (k := akin) (by assumption) (by assumption)) trivial; obtain ⟨⟨hwE, hwB⟩, -⟩ := hw_)
 refine .eql (fun h14 => ?_) fun h14 => ?_
 conv => cbv
 generalize hr15 : rhexOrDash atex = r15
 refine .dd hP (FihexOrDash hr15) ?_
 conv => cbv
 have hb_ := hexd_b (t := atex) (by assumption) (by omega)
 refine .litL 1 fun s16 hs16 zs16 => ?_
 conv => cbv
 try (have hw_ := And.intro (actW_of (k := akin) (by assumption) (by assumption)) trivial; obtain ⟨⟨hwE, hwB⟩, -⟩ := hw_)
 try (have hb1 := rfigures_b (l := [an]) (by assumption) hf1.1; simp only [List.length_cons, List.length_nil] at hb1)
 try (have hb2 := rfigures_b (l := akee) (by assumption) hf2.1)
 refine .go fun s17 hs17 zs17 => ?_
 conv => cbv
 have e : s17 = rActLine (⟨akin, atex, an, akee⟩ : TAct) := (by unfold rActLine; first | (exfalso; omega) | (rw [if_neg]; rintro ⟨a1, a2, a3, a4, a5, a6⟩; dsimp only at a1 a2 a3 a4 a5 a6; first | omega | exact Bool.noConfusion (show true = false from a1.symm.trans (by assumption)) | exact absurd (a2 (by omega)) (by assumption) | exact Bool.noConfusion (show false = true from a5.symm.trans (by assumption)) | exact Bool.noConfusion (show false = true from a6.symm.trans (by assumption))) | (rw [if_pos (show actFull _ from ⟨by assumption, fun h => by dsimp only at *; first | (exfalso; omega) | assumption, fun h => by dsimp only at *; omega, fun h => by dsimp only at *; omega, by assumption, by assumption⟩)]; dsimp only; first | (rw [if_pos (by omega)]; subst_vars; rw [hwE]; rfl) | (rw [if_neg (by omega), if_pos (by omega)]; subst_vars; rw [hwE]) | (rw [if_neg (by omega), if_neg (by omega)]; exact hwE)))
 rw [hr] at e
 subst e
 exact hQ _ _ (.s rfl rfl)
 conv => cbv
 generalize hr15 : rfigures [an] = r15
 refine .lnt hP (Fifigures rfl hf1 hr15) (.ref rfl rfl .nil) ?_
 conv => cbv
 generalize hr16 : rfigures akee = r16
 refine .dd hP (Fifigures hakee hf2 hr16) ?_
 conv => cbv
 try (have hw_ := And.intro (actW_of (k := akin) (by assumption) (by assumption)) trivial; obtain ⟨⟨hwE, hwB⟩, -⟩ := hw_)
 try (have hb1 := rfigures_b (l := [an]) (by assumption) hf1.1; simp only [List.length_cons, List.length_nil] at hb1)
 try (have hb2 := rfigures_b (l := akee) (by assumption) hf2.1)
 refine .go fun s17 hs17 zs17 => ?_
 conv => cbv
 try (have hw_ := And.intro (actW_of (k := akin) (by assumption) (by assumption)) trivial; obtain ⟨⟨hwE, hwB⟩, -⟩ := hw_)
 try (have hb1 := rfigures_b (l := [an]) (by assumption) hf1.1; simp only [List.length_cons, List.length_nil] at hb1)
 try (have hb2 := rfigures_b (l := akee) (by assumption) hf2.1)
 refine .go fun s18 hs18 zs18 => ?_
 conv => cbv
 have e : s18 = rActLine (⟨akin, atex, an, akee⟩ : TAct) := (by unfold rActLine; first | (exfalso; omega) | (rw [if_neg]; rintro ⟨a1, a2, a3, a4, a5, a6⟩; dsimp only at a1 a2 a3 a4 a5 a6; first | omega | exact Bool.noConfusion (show true = false from a1.symm.trans (by assumption)) | exact absurd (a2 (by omega)) (by assumption) | exact Bool.noConfusion (show false = true from a5.symm.trans (by assumption)) | exact Bool.noConfusion (show false = true from a6.symm.trans (by assumption))) | (rw [if_pos (show actFull _ from ⟨by assumption, fun h => by dsimp only at *; first | (exfalso; omega) | assumption, fun h => by dsimp only at *; omega, fun h => by dsimp only at *; omega, by assumption, by assumption⟩)]; dsimp only; first | (rw [if_pos (by omega)]; subst_vars; rw [hwE]; rfl) | (rw [if_neg (by omega), if_pos (by omega)]; subst_vars; rw [hwE]) | (rw [if_neg (by omega), if_neg (by omega)]; exact hwE)))
 rw [hr] at e
 subst e
 exact hQ _ _ (.s rfl rfl)
 conv => cbv
 have e : (tx []) = rActLine (⟨akin, atex, an, akee⟩ : TAct) := (by unfold rActLine; first | (exfalso; omega) | (rw [if_neg]; rintro ⟨a1, a2, a3, a4, a5, a6⟩; dsimp only at a1 a2 a3 a4 a5 a6; first | omega | exact Bool.noConfusion (show true = false from a1.symm.trans (by assumption)) | exact absurd (a2 (by omega)) (by assumption) | exact Bool.noConfusion (show false = true from a5.symm.trans (by assumption)) | exact Bool.noConfusion (show false = true from a6.symm.trans (by assumption))) | (rw [if_pos (show actFull _ from ⟨by assumption, fun h => by dsimp only at *; first | (exfalso; omega) | assumption, fun h => by dsimp only at *; omega, fun h => by dsimp only at *; omega, by assumption, by assumption⟩)]; dsimp only; first | (rw [if_pos (by omega)]; subst_vars; rw [hwE]; rfl) | (rw [if_neg (by omega), if_pos (by omega)]; subst_vars; rw [hwE]) | (rw [if_neg (by omega), if_neg (by omega)]; exact hwE)))
 rw [hr] at e
 subst e
 exact hQ _ _ (.s rfl rfl)
 conv => cbv
 have e : (tx []) = rActLine (⟨akin, atex, an, akee⟩ : TAct) := (by unfold rActLine; first | (exfalso; omega) | (rw [if_neg]; rintro ⟨a1, a2, a3, a4, a5, a6⟩; dsimp only at a1 a2 a3 a4 a5 a6; first | omega | exact Bool.noConfusion (show true = false from a1.symm.trans (by assumption)) | exact absurd (a2 (by omega)) (by assumption) | exact Bool.noConfusion (show false = true from a5.symm.trans (by assumption)) | exact Bool.noConfusion (show false = true from a6.symm.trans (by assumption))) | (rw [if_pos (show actFull _ from ⟨by assumption, fun h => by dsimp only at *; first | (exfalso; omega) | assumption, fun h => by dsimp only at *; omega, fun h => by dsimp only at *; omega, by assumption, by assumption⟩)]; dsimp only; first | (rw [if_pos (by omega)]; subst_vars; rw [hwE]; rfl) | (rw [if_neg (by omega), if_pos (by omega)]; subst_vars; rw [hwE]) | (rw [if_neg (by omega), if_neg (by omega)]; exact hwE)))
 rw [hr] at e
 subst e
 exact hQ _ _ (.s rfl rfl)
 conv => cbv
 generalize hr8 : rActLine_1 an = r8
 refine .dd hP (FiActLine_1 hr8) ?_
 cases r8
 conv => cbv
 generalize hr9 : rContainsFunc_ActLine_1 akee = r9
 refine .dd hP (FlContainsFunc_ActLine_1 hakee (by omega) hr9) ?_
 cases r9
 conv => cbv
 generalize hr10 : ractWords  = l10
 generalize hl10 : l10.map cS = xl10
 refine .dd hP (FiactWords hr10 hl10) ?_
 conv => cbv
 have hwl := actW_len (by assumption)
 have hok := rActOk_t (a := ⟨akin, atex, an, akee⟩) (by assumption)
 dsimp only at hok
 have hf1 : (∀ n ∈ [an], in64 n) ∧ [an].length ≤ 100 := ⟨by intro n hn; simp only [List.mem_cons, List.not_mem_nil, or_false] at hn; have := act1_f (n := an) (by assumption); unfold in64; omega, by simp⟩
 have hf2 : (∀ n ∈ akee, in64 n) ∧ akee.length ≤ 100 := ⟨fun n hn => by have := act_all (l := akee) (by assumption) n hn; unfold in64; omega, by omega⟩
 refine .go akin.toNat hl10 fun hje11 e11 qe11 => ?_
 conv => cbv
 try (have hw_ := And.intro (actW_of (k := akin) (by assumption) (by assumption)) trivial; obtain ⟨⟨hwE, hwB⟩, -⟩ := hw_)
 refine .eql (fun h12 => ?_) fun h12 => ?_
 conv => cbv
 generalize hr13 : rhexOrDash atex = r13
 refine .dd hP (FihexOrDash hr13) ?_
 conv => cbv
 have hb_ := hexd_b (t := atex) (by assumption) (by omega)
 refine .litL 1 fun s14 hs14 zs14 => ?_
 conv => cbv
 try (have hw_ := And.intro (actW_of (k := akin) (by assumption) (by assumption)) trivial; obtain ⟨⟨hwE, hwB⟩, -⟩ := hw_)
 try (have hb1 := rfigures_b (l := [an]) (by assumption) hf1.1; simp only [List.length_cons, List.length_nil] at hb1)
 try (have hb2 := rfigures_b (l := akee) (by assumption) hf2.1)
 refine .go fun s15 hs15 zs15 => ?_
 conv => cbv
 have e : s15 = rActLine (⟨akin, atex, an, akee⟩ : TAct) := (by unfold rActLine; first | (exfalso; omega) | (rw [if_neg]; rintro ⟨a1, a2, a3, a4, a5, a6⟩; dsimp only at a1 a2 a3 a4 a5 a6; first | omega | exact Bool.noConfusion (show true = false from a1.symm.trans (by assumption)) | exact absurd (a2 (by omega)) (by assumption) | exact Bool.noConfusion (show false = true from a5.symm.trans (by assumption)) | exact Bool.noConfusion (show false = true from a6.symm.trans (by assumption))) | (rw [if_pos (show actFull _ from ⟨by assumption, fun h => by dsimp only at *; first | (exfalso; omega) | assumption, fun h => by dsimp only at *; omega, fun h => by dsimp only at *; omega, by assumption, by assumption⟩)]; dsimp only; first | (rw [if_pos (by omega)]; subst_vars; rw [hwE]; rfl) | (rw [if_neg (by omega), if_pos (by omega)]; subst_vars; rw [hwE]) | (rw [if_neg (by omega), if_neg (by omega)]; exact hwE)))
 rw [hr] at e
 subst e
 exact hQ _ _ (.s rfl rfl)
 conv => cbv
 generalize hr13 : rfigures [an] = r13
 refine .lnt hP (Fifigures rfl hf1 hr13) (.ref rfl rfl .nil) ?_
 conv => cbv
 generalize hr14 : rfigures akee = r14
 refine .dd hP (Fifigures hakee hf2 hr14) ?_
 conv => cbv
 try (have hw_ := And.intro (actW_of (k := akin) (by assumption) (by assumption)) trivial; obtain ⟨⟨hwE, hwB⟩, -⟩ := hw_)
 try (have hb1 := rfigures_b (l := [an]) (by assumption) hf1.1; simp only [List.length_cons, List.length_nil] at hb1)
 try (have hb2 := rfigures_b (l := akee) (by assumption) hf2.1)
 refine .go fun s15 hs15 zs15 => ?_
 conv => cbv
 try (have hw_ := And.intro (actW_of (k := akin) (by assumption) (by assumption)) trivial; obtain ⟨⟨hwE, hwB⟩, -⟩ := hw_)
 try (have hb1 := rfigures_b (l := [an]) (by assumption) hf1.1; simp only [List.length_cons, List.length_nil] at hb1)
 try (have hb2 := rfigures_b (l := akee) (by assumption) hf2.1)
 refine .go fun s16 hs16 zs16 => ?_
 conv => cbv
 have e : s16 = rActLine (⟨akin, atex, an, akee⟩ : TAct) := (by unfold rActLine; first | (exfalso; omega) | (rw [if_neg]; rintro ⟨a1, a2, a3, a4, a5, a6⟩; dsimp only at a1 a2 a3 a4 a5 a6; first | omega | exact Bool.noConfusion (show true = false from a1.symm.trans (by assumption)) | exact absurd (a2 (by omega)) (by assumption) | exact Bool.noConfusion (show false = true from a5.symm.trans (by assumption)) | exact Bool.noConfusion (show false = true from a6.symm.trans (by assumption))) | (rw [if_pos (show actFull _ from ⟨by assumption, fun h => by dsimp only at *; first | (exfalso; omega) | assumption, fun h => by dsimp only at *; omega, fun h => by dsimp only at *; omega, by assumption, by assumption⟩)]; dsimp only; first | (rw [if_pos (by omega)]; subst_vars; rw [hwE]; rfl) | (rw [if_neg (by omega), if_pos (by omega)]; subst_vars; rw [hwE]) | (rw [if_neg (by omega), if_neg (by omega)]; exact hwE)))
 rw [hr] at e
 subst e
 exact hQ _ _ (.s rfl rfl)
 conv => cbv
 have e : (tx []) = rActLine (⟨akin, atex, an, akee⟩ : TAct) := (by unfold rActLine; first | (exfalso; omega) | (rw [if_neg]; rintro ⟨a1, a2, a3, a4, a5, a6⟩; dsimp only at a1 a2 a3 a4 a5 a6; first | omega | exact Bool.noConfusion (show true = false from a1.symm.trans (by assumption)) | exact absurd (a2 (by omega)) (by assumption) | exact Bool.noConfusion (show false = true from a5.symm.trans (by assumption)) | exact Bool.noConfusion (show false = true from a6.symm.trans (by assumption))) | (rw [if_pos (show actFull _ from ⟨by assumption, fun h => by dsimp only at *; first | (exfalso; omega) | assumption, fun h => by dsimp only at *; omega, fun h => by dsimp only at *; omega, by assumption, by assumption⟩)]; dsimp only; first | (rw [if_pos (by omega)]; subst_vars; rw [hwE]; rfl) | (rw [if_neg (by omega), if_pos (by omega)]; subst_vars; rw [hwE]) | (rw [if_neg (by omega), if_neg (by omega)]; exact hwE)))
 rw [hr] at e
 subst e
 exact hQ _ _ (.s rfl rfl)
 conv => cbv
 have e : (tx []) = rActLine (⟨akin, atex, an, akee⟩ : TAct) := (by unfold rActLine; first | (exfalso; omega) | (rw [if_neg]; rintro ⟨a1, a2, a3, a4, a5, a6⟩; dsimp only at a1 a2 a3 a4 a5 a6; first | omega | exact Bool.noConfusion (show true = false from a1.symm.trans (by assumption)) | exact absurd (a2 (by omega)) (by assumption) | exact Bool.noConfusion (show false = true from a5.symm.trans (by assumption)) | exact Bool.noConfusion (show false = true from a6.symm.trans (by assumption))) | (rw [if_pos (show actFull _ from ⟨by assumption, fun h => by dsimp only at *; first | (exfalso; omega) | assumption, fun h => by dsimp only at *; omega, fun h => by dsimp only at *; omega, by assumption, by assumption⟩)]; dsimp only; first | (rw [if_pos (by omega)]; subst_vars; rw [hwE]; rfl) | (rw [if_neg (by omega), if_pos (by omega)]; subst_vars; rw [hwE]) | (rw [if_neg (by omega), if_neg (by omega)]; exact hwE)))
 rw [hr] at e
 subst e
 exact hQ _ _ (.s rfl rfl)
 conv => cbv
 refine .neq (fun h6 => ?_) fun h6 => ?_
 conv => cbv
 refine .go hakee fun v7 hv7 => ?_
 conv => cbv
 refine .gtr (fun h8 => ?_) fun h8 => ?_
 conv => cbv
 have e : (tx []) = rActLine (⟨akin, atex, an, akee⟩ : TAct) := (by unfold rActLine; first | (exfalso; omega) | (rw [if_neg]; rintro ⟨a1, a2, a3, a4, a5, a6⟩; dsimp only at a1 a2 a3 a4 a5 a6; first | omega | exact Bool.noConfusion (show true = false from a1.symm.trans (by assumption)) | exact absurd (a2 (by omega)) (by assumption) | exact Bool.noConfusion (show false = true from a5.symm.trans (by assumption)) | exact Bool.noConfusion (show false = true from a6.symm.trans (by assumption))) | (rw [if_pos (show actFull _ from ⟨by assumption, fun h => by dsimp only at *; first | (exfalso; omega) | assumption, fun h => by dsimp only at *; omega, fun h => by dsimp only at *; omega, by assumption, by assumption⟩)]; dsimp only; first | (rw [if_pos (by omega)]; subst_vars; rw [hwE]; rfl) | (rw [if_neg (by omega), if_pos (by omega)]; subst_vars; rw [hwE]) | (rw [if_neg (by omega), if_neg (by omega)]; exact hwE)))
 rw [hr] at e
 subst e
 exact hQ _ _ (.s rfl rfl)
 conv => cbv
 generalize hr9 : rActLine_1 an = r9
 refine .dd hP (FiActLine_1 hr9) ?_
 cases r9
 conv => cbv
 generalize hr10 : rContainsFunc_ActLine_1 akee = r10
 refine .dd hP (FlContainsFunc_ActLine_1 hakee (by omega) hr10) ?_
 cases r10
 conv => cbv
 generalize hr11 : ractWords  = l11
 generalize hl11 : l11.map cS = xl11
 refine .dd hP (FiactWords hr11 hl11) ?_
 conv => cbv
 have hwl := actW_len (by assumption)
 have hok := rActOk_t (a := ⟨akin, atex, an, akee⟩) (by assumption)
 dsimp only at hok
 have hf1 : (∀ n ∈ [an], in64 n) ∧ [an].length ≤ 100 := ⟨by intro n hn; simp only [List.mem_cons, List.not_mem_nil, or_false] at hn; have := act1_f (n := an) (by assumption); unfold in64; omega, by simp⟩
 have hf2 : (∀ n ∈ akee, in64 n) ∧ akee.length ≤ 100 := ⟨fun n hn => by have := act_all (l := akee) (by assumption) n hn; unfold in64; omega, by omega⟩
 refine .go akin.toNat hl11 fun hje12 e12 qe12 => ?_
 conv => cbv
 try (have hw_ := And.intro (actW_of (k := akin) (by assumption) (by assumption)) trivial; obtain ⟨⟨hwE, hwB⟩, -⟩ := hw_)
 refine .eql (fun h13 => ?_) fun h13 => ?_
 conv => cbv
 generalize hr14 : rhexOrDash atex = r14
 refine .dd hP (FihexOrDash hr14) ?_
 conv => cbv
 have hb_ := hexd_b (t := atex) (by assumption) (by omega)
 refine .litL 1 fun s15 hs15 zs15 => ?_
 conv => cbv
 try (have hw_ := And.intro (actW_of (k := akin) (by assumption) (by assumption)) trivial; obtain ⟨⟨hwE, hwB⟩, -⟩ := hw_)
 try (have hb1 := rfigures_b (l := [an]) (by assumption) hf1.1; simp only [List.length_cons, List.length_nil] at hb1)
 try (have hb2 := rfigures_b (l := akee) (by assumption) hf2.1)
 refine .go fun s16 hs16 zs16 => ?_
 conv => cbv
 have e : s16 = rActLine (⟨akin, atex, an, akee⟩ : TAct) := (by unfold rActLine; first | (exfalso; omega) | (rw [if_neg]; rintro ⟨a1, a2, a3, a4, a5, a6⟩; dsimp only at a1 a2 a3 a4 a5 a6; first | omega | exact Bool.noConfusion (show true = false from a1.symm.trans (by assumption)) | exact absurd (a2 (by omega)) (by assumption) | exact Bool.noConfusion (show false = true from a5.symm.trans (by assumption)) | exact Bool.noConfusion (show false = true from a6.symm.trans (by assumption))) | (rw [if_pos (show actFull _ from ⟨by assumption, fun h => by dsimp only at *; first | (exfalso; omega) | assumption, fun h => by dsimp only at *; omega, fun h => by dsimp only at *; omega, by assumption, by assumption⟩)]; dsimp only; first | (rw [if_pos (by omega)]; subst_vars; rw [hwE]; rfl) | (rw [if_neg (by omega), if_pos (by omega)]; subst_vars; rw [hwE]) | (rw [if_neg (by omega), if_neg (by omega)]; exact hwE)))
 rw [hr] at e
 subst e
 exact hQ _ _ (.s rfl rfl)
 conv => cbv
 generalize hr14 : rfigures [an] = r14
 refine .lnt hP (Fifigures rfl hf1 hr14) (.ref rfl rfl .nil) ?_
 conv => cbv
 generalize hr15 : rfigures akee = r15
 refine .dd hP (Fifigures hakee hf2 hr15) ?_
 conv => cbv
 try (have hw_ := And.intro (actW_of (k := akin) (by assumption) (by assumption)) trivial; obtain ⟨⟨hwE, hwB⟩, -⟩ := hw_)
 try (have hb1 := rfigures_b (l := [an]) (by assumption) hf1.1; simp only [List.length_cons, List.length_nil] at hb1)
 try (have hb2 := rfigures_b (l := akee) (by assumption) hf2.1)
 refine .go fun s16 hs16 zs16 => ?_
 conv => cbv
 try (have hw_ := And.intro (actW_of (k := akin) (by assumption) (by assumption)) trivial; obtain ⟨⟨hwE, hwB⟩, -⟩ := hw_)
 try (have hb1 := rfigures_b (l := [an]) (by assumption) hf1.1; simp only [List.length_cons, List.length_nil] at hb1)
 try (have hb2 := rfigures_b (l := akee) (by assumption) hf2.1)
 refine .go fun s17 hs17 zs17 => ?_
 conv => cbv
 have e : s17 = rActLine (⟨akin, atex, an, akee⟩ : TAct) := (by unfold rActLine; first | (exfalso; omega) | (rw [if_neg]; rintro ⟨a1, a2, a3, a4, a5, a6⟩; dsimp only at a1 a2 a3 a4 a5 a6; first | omega | exact Bool.noConfusion (show true = false from a1.symm.trans (by assumption)) | exact absurd (a2 (by omega)) (by assumption) | exact Bool.noConfusion (show false = true from a5.symm.trans (by assumption)) | exact Bool.noConfusion (show false = true from a6.symm.trans (by assumption))) | (rw [if_pos (show actFull _ from ⟨by assumption, fun h => by dsimp only at *; first | (exfalso; omega) | assumption, fun h => by dsimp only at *; omega, fun h => by dsimp only at *; omega, by assumption, by assumption⟩)]; dsimp only; first | (rw [if_pos (by omega)]; subst_vars; rw [hwE]; rfl) | (rw [if_neg (by omega), if_pos (by omega)]; subst_vars; rw [hwE]) | (rw [if_neg (by omega), if_neg (by omega)]; exact hwE)))
 rw [hr] at e
 subst e
 exact hQ _ _ (.s rfl rfl)
 conv => cbv
 have e : (tx []) = rActLine (⟨akin, atex, an, akee⟩ : TAct) := (by unfold rActLine; first | (exfalso; omega) | (rw [if_neg]; rintro ⟨a1, a2, a3, a4, a5, a6⟩; dsimp only at a1 a2 a3 a4 a5 a6; first | omega | exact Bool.noConfusion (show true = false from a1.symm.trans (by assumption)) | exact absurd (a2 (by omega)) (by assumption) | exact Bool.noConfusion (show false = true from a5.symm.trans (by assumption)) | exact Bool.noConfusion (show false = true from a6.symm.trans (by assumption))) | (rw [if_pos (show actFull _ from ⟨by assumption, fun h => by dsimp only at *; first | (exfalso; omega) | assumption, fun h => by dsimp only at *; omega, fun h => by dsimp only at *; omega, by assumption, by assumption⟩)]; dsimp only; first | (rw [if_pos (by omega)]; subst_vars; rw [hwE]; rfl) | (rw [if_neg (by omega), if_pos (by omega)]; subst_vars; rw [hwE]) | (rw [if_neg (by omega), if_neg (by omega)]; exact hwE)))
 rw [hr] at e
 subst e
 exact hQ _ _ (.s rfl rfl)
 conv => cbv
 have e : (tx []) = rActLine (⟨akin, atex, an, akee⟩ : TAct) := (by unfold rActLine; first | (exfalso; omega) | (rw [if_neg]; rintro ⟨a1, a2, a3, a4, a5, a6⟩; dsimp only at a1 a2 a3 a4 a5 a6; first | omega | exact Bool.noConfusion (show true = false from a1.symm.trans (by assumption)) | exact absurd (a2 (by omega)) (by assumption) | exact Bool.noConfusion (show false = true from a5.symm.trans (by assumption)) | exact Bool.noConfusion (show false = true from a6.symm.trans (by assumption))) | (rw [if_pos (show actFull _ from ⟨by assumption, fun h => by dsimp only at *; first | (exfalso; omega) | assumption, fun h => by dsimp only at *; omega, fun h => by dsimp only at *; omega, by assumption, by assumption⟩)]; dsimp only; first | (rw [if_pos (by omega)]; subst_vars; rw [hwE]; rfl) | (rw [if_neg (by omega), if_pos (by omega)]; subst_vars; rw [hwE]) | (rw [if_neg (by omega), if_neg (by omega)]; exact hwE)))
 rw [hr] at e
 subst e
 exact hQ _ _ (.s rfl rfl)
 conv => cbv
 generalize hr7 : rActLine_1 an = r7
 refine .dd hP (FiActLine_1 hr7) ?_
 cases r7
 conv => cbv
 generalize hr8 : rContainsFunc_ActLine_1 akee = r8
 refine .dd hP (FlContainsFunc_ActLine_1 hakee (by omega) hr8) ?_
 cases r8
 conv => cbv
 generalize hr9 : ractWords  = l9
 generalize hl9 : l9.map cS = xl9
 refine .dd hP (FiactWords hr9 hl9) ?_
 conv => cbv
 have hwl := actW_len (by assumption)
 have hok := rActOk_t (a := ⟨akin, atex, an, akee⟩) (by assumption)
 dsimp only at hok
 have hf1 : (∀ n ∈ [an], in64 n) ∧ [an].length ≤ 100 := ⟨by intro n hn; simp only [List.mem_cons, List.not_mem_nil, or_false] at hn; have := act1_f (n := an) (by assumption); unfold in64; omega, by simp⟩
 have hf2 : (∀ n ∈ akee, in64 n) ∧ akee.length ≤ 100 := ⟨fun n hn => by have := act_all (l := akee) (by assumption) n hn; unfold in64; omega, by omega⟩
 refine .go akin.toNat hl9 fun hje10 e10 qe10 => ?_
 conv => cbv
 try (have hw_ := And.intro (actW_of (k := akin) (by assumption) (by assumption)) trivial; obtain ⟨⟨hwE, hwB⟩, -⟩ := hw_)
 refine .eql (fun h11 => ?_) fun h11 => ?_
 conv => cbv
 generalize hr12 : rhexOrDash atex = r12
 refine .dd hP (FihexOrDash hr12) ?_
 conv => cbv
 have hb_ := hexd_b (t := atex) (by assumption) (by omega)
 refine .litL 1 fun s13 hs13 zs13 => ?_
 conv => cbv
 try (have hw_ := And.intro (actW_of (k := akin) (by assumption) (by assumption)) trivial; obtain ⟨⟨hwE, hwB⟩, -⟩ := hw_)
 try (have hb1 := rfigures_b (l := [an]) (by assumption) hf1.1; simp only [List.length_cons, List.length_nil] at hb1)
 try (have hb2 := rfigures_b (l := akee) (by assumption) hf2.1)
 refine .go fun s14 hs14 zs14 => ?_
 conv => cbv
 have e : s14 = rActLine (⟨akin, atex, an, akee⟩ : TAct) := (by unfold rActLine; first | (exfalso; omega) | (rw [if_neg]; rintro ⟨a1, a2, a3, a4, a5, a6⟩; dsimp only at a1 a2 a3 a4 a5 a6; first | omega | exact Bool.noConfusion (show true = false from a1.symm.trans (by assumption)) | exact absurd (a2 (by omega)) (by assumption) | exact Bool.noConfusion (show false = true from a5.symm.trans (by assumption)) | exact Bool.noConfusion (show false = true from a6.symm.trans (by assumption))) | (rw [if_pos (show actFull _ from ⟨by assumption, fun h => by dsimp only at *; first | (exfalso; omega) | assumption, fun h => by dsimp only at *; omega, fun h => by dsimp only at *; omega, by assumption, by assumption⟩)]; dsimp only; first | (rw [if_pos (by omega)]; subst_vars; rw [hwE]; rfl) | (rw [if_neg (by omega), if_pos (by omega)]; subst_vars; rw [hwE]) | (rw [if_neg (by omega), if_neg (by omega)]; exact hwE)))
 rw [hr] at e
 subst e
 exact hQ _ _ (.s rfl rfl)
 conv => cbv
 generalize hr12 : rfigures [an] = r12
 refine .lnt hP (Fifigures rfl hf1 hr12) (.ref rfl rfl .nil) ?_
 conv => cbv
 generalize hr13 : rfigures akee = r13
 refine .dd hP (Fifigures hakee hf2 hr13) ?_
 conv => cbv
 try (have hw_ := And.intro (actW_of (k := akin) (by assumption) (by assumption)) trivial; obtain ⟨⟨hwE, hwB⟩, -⟩ := hw_)
 try (have hb1 := rfigures_b (l := [an]) (by assumption) hf1.1; simp only [List.length_cons, List.length_nil] at hb1)
 try (have hb2 := rfigures_b (l := akee) (by assumption) hf2.1)
 refine .go fun s14 hs14 zs14 => ?_
 conv => cbv
 try (have hw_ := And.intro (actW_of (k := akin) (by assumption) (by assumption)) trivial; obtain ⟨⟨hwE, hwB⟩, -⟩ := hw_)
 try (have hb1 := rfigures_b (l := [an]) (by assumption) hf1.1; simp only [List.length_cons, List.length_nil] at hb1)
 try (have hb2 := rfigures_b (l := akee) (by assumption) hf2.1)
 refine .go fun s15 hs15 zs15 => ?_
 conv => cbv
 have e : s15 = rActLine (⟨akin, atex, an, akee⟩ : TAct) := (by unfold rActLine; first | (exfalso; omega) | (rw [if_neg]; rintro ⟨a1, a2, a3, a4, a5, a6⟩; dsimp only at a1 a2 a3 a4 a5 a6; first | omega | exact Bool.noConfusion (show true = false from a1.symm.trans (by assumption)) | exact absurd (a2 (by omega)) (by assumption) | exact Bool.noConfusion (show false = true from a5.symm.trans (by assumption)) | exact Bool.noConfusion (show false = true from a6.symm.trans (by assumption))) | (rw [if_pos (show actFull _ from ⟨by assumption, fun h => by dsimp only at *; first | (exfalso; omega) | assumption, fun h => by dsimp only at *; omega, fun h => by dsimp only at *; omega, by assumption, by assumption⟩)]; dsimp only; first | (rw [if_pos (by omega)]; subst_vars; rw [hwE]; rfl) | (rw [if_neg (by omega), if_pos (by omega)]; subst_vars; rw [hwE]) | (rw [if_neg (by omega), if_neg (by omega)]; exact hwE)))
 rw [hr] at e
 subst e
 exact hQ _ _ (.s rfl rfl)
 conv => cbv
 have e : (tx []) = rActLine (⟨akin, atex, an, akee⟩ : TAct) := (by unfold rActLine; first | (exfalso; omega) | (rw [if_neg]; rintro ⟨a1, a2, a3, a4, a5, a6⟩; dsimp only at a1 a2 a3 a4 a5 a6; first | omega | exact Bool.noConfusion (show true = false from a1.symm.trans (by assumption)) | exact absurd (a2 (by omega)) (by assumption) | exact Bool.noConfusion (show false = true from a5.symm.trans (by assumption)) | exact Bool.noConfusion (show false = true from a6.symm.trans (by assumption))) | (rw [if_pos (show actFull _ from ⟨by assumption, fun h => by dsimp only at *; first | (exfalso; omega) | assumption, fun h => by dsimp only at *; omega, fun h => by dsimp only at *; omega, by assumption, by assumption⟩)]; dsimp only; first | (rw [if_pos (by omega)]; subst_vars; rw [hwE]; rfl) | (rw [if_neg (by omega), if_pos (by omega)]; subst_vars; rw [hwE]) | (rw [if_neg (by omega), if_neg (by omega)]; exact hwE)))
 rw [hr] at e
 subst e
 exact hQ _ _ (.s rfl rfl)
 conv => cbv
 have e : (tx []) = rActLine (⟨akin, atex, an, akee⟩ : TAct) := (by unfold rActLine; first | (exfalso; omega) | (rw [if_neg]; rintro ⟨a1, a2, a3, a4, a5, a6⟩; dsimp only at a1 a2 a3 a4 a5 a6; first | omega | exact Bool.noConfusion (show true = false from a1.symm.trans (by assumption)) | exact absurd (a2 (by omega)) (by assumption) | exact Bool.noConfusion (show false = true from a5.symm.trans (by assumption)) | exact Bool.noConfusion (show false = true from a6.symm.trans (by assumption))) | (rw [if_pos (show actFull _ from ⟨by assumption, fun h => by dsimp only at *; first | (exfalso; omega) | assumption, fun h => by dsimp only at *; omega, fun h => by dsimp only at *; omega, by assumption, by assumption⟩)]; dsimp only; first | (rw [if_pos (by omega)]; subst_vars; rw [hwE]; rfl) | (rw [if_neg (by omega), if_pos (by omega)]; subst_vars; rw [hwE]) | (rw [if_neg (by omega), if_neg (by omega)]; exact hwE)))
 rw [hr] at e
 subst e
 exact hQ _ _ (.s rfl rfl)
 conv => cbv
 generalize hr4 : rActOk (⟨akin, atex, an, akee⟩ : TAct) = r4
 refine .dd hP (FiActOk hakee hr4) ?_
 cases r4
 conv => cbv
 have e : (tx []) = rActLine (⟨akin, atex, an, akee⟩ : TAct) := (by unfold rActLine; first | (exfalso; omega) | (rw [if_neg]; rintro ⟨a1, a2, a3, a4, a5, a6⟩; dsimp only at a1 a2 a3 a4 a5 a6; first | omega | exact Bool.noConfusion (show true = false from a1.symm.trans (by assumption)) | exact absurd (a2 (by omega)) (by assumption) | exact Bool.noConfusion (show false = true from a5.symm.trans (by assumption)) | exact Bool.noConfusion (show false = true from a6.symm.trans (by assumption))) | (rw [if_pos (show actFull _ from ⟨by assumption, fun h => by dsimp only at *; first | (exfalso; omega) | assumption, fun h => by dsimp only at *; omega, fun h => by dsimp only at *; omega, by assumption, by assumption⟩)]; dsimp only; first | (rw [if_pos (by omega)]; subst_vars; rw [hwE]; rfl) | (rw [if_neg (by omega), if_pos (by omega)]; subst_vars; rw [hwE]) | (rw [if_neg (by omega), if_neg (by omega)]; exact hwE)))
 rw [hr] at e
 subst e
 exact hQ _ _ (.s rfl rfl)
 conv => cbv
 refine .neq (fun h5 => ?_) fun h5 => ?_
 conv => cbv
 refine .neq (fun h6 => ?_) fun h6 => ?_
 conv => cbv
 have e : (tx []) = rActLine (⟨akin, atex, an, akee⟩ : TAct) := (by unfold rActLine; first | (exfalso; omega) | (rw [if_neg]; rintro ⟨a1, a2, a3, a4, a5, a6⟩; dsimp only at a1 a2 a3 a4 a5 a6; first | omega | exact Bool.noConfusion (show true = false from a1.symm.trans (by assumption)) | exact absurd (a2 (by omega)) (by assumption) | exact Bool.noConfusion (show false = true from a5.symm.trans (by assumption)) | exact Bool.noConfusion (show false = true from a6.symm.trans (by assumption))) | (rw [if_pos (show actFull _ from ⟨by assumption, fun h => by dsimp only at *; first | (exfalso; omega) | assumption, fun h => by dsimp only at *; omega, fun h => by dsimp only at *; omega, by assumption, by assumption⟩)]; dsimp only; first | (rw [if_pos (by omega)]; subst_vars; rw [hwE]; rfl) | (rw [if_neg (by omega), if_pos (by omega)]; subst_vars; rw [hwE]) | (rw [if_neg (by omega), if_neg (by omega)]; exact hwE)))
 rw [hr] at e
 subst e
 exact hQ _ _ (.s rfl rfl)
 conv => cbv
 refine .neq (fun h7 => ?_) fun h7 => ?_
 conv => cbv
 have e : (tx []) = rActLine (⟨akin, atex, an, akee⟩ : TAct) := (by unfold rActLine; first | (exfalso; omega) | (rw [if_neg]; rintro ⟨a1, a2, a3, a4, a5, a6⟩; dsimp only at a1 a2 a3 a4 a5 a6; first | omega | exact Bool.noConfusion (show true = false from a1.symm.trans (by assumption)) | exact absurd (a2 (by omega)) (by assumption) | exact Bool.noConfusion (show false = true from a5.symm.trans (by assumption)) | exact Bool.noConfusion (show false = true from a6.symm.trans (by assumption))) | (rw [if_pos (show actFull _ from ⟨by assumption, fun h => by dsimp only at *; first | (exfalso; omega) | assumption, fun h => by dsimp only at *; omega, fun h => by dsimp only at *; omega, by assumption, by assumption⟩)]; dsimp only; first | (rw [if_pos (by omega)]; subst_vars; rw [hwE]; rfl) | (rw [if_neg (by omega), if_pos (by omega)]; subst_vars; rw [hwE]) | (rw [if_neg (by omega), if_neg (by omega)]; exact hwE)))
 rw [hr] at e
 subst e
 exact hQ _ _ (.s rfl rfl)
 conv => cbv
 refine .neq (fun h8 => ?_) fun h8 => ?_
 conv => cbv
 refine .go hakee fun v9 hv9 => ?_
 conv => cbv
 refine .gtr (fun h10 => ?_) fun h10 => ?_
 conv => cbv
 have e : (tx []) = rActLine (⟨akin, atex, an, akee⟩ : TAct) := (by unfold rActLine; first | (exfalso; omega) | (rw [if_neg]; rintro ⟨a1, a2, a3, a4, a5, a6⟩; dsimp only at a1 a2 a3 a4 a5 a6; first | omega | exact Bool.noConfusion (show true = false from a1.symm.trans (by assumption)) | exact absurd (a2 (by omega)) (by assumption) | exact Bool.noConfusion (show false = true from a5.symm.trans (by assumption)) | exact Bool.noConfusion (show false = true from a6.symm.trans (by assumption))) | (rw [if_pos (show actFull _ from ⟨by assumption, fun h => by dsimp only at *; first | (exfalso; omega) | assumption, fun h => by dsimp only at *; omega, fun h => by dsimp only at *; omega, by assumption, by assumption⟩)]; dsimp only; first | (rw [if_pos (by omega)]; subst_vars; rw [hwE]; rfl) | (rw [if_neg (by omega), if_pos (by omega)]; subst_vars; rw [hwE]) | (rw [if_neg (by omega), if_neg (by omega)]; exact hwE)))
 rw [hr] at e
 subst e
 exact hQ _ _ (.s rfl rfl)
 conv => cbv
 generalize hr11 : rActLine_1 an = r11
 refine .dd hP (FiActLine_1 hr11) ?_
 cases r11
 conv => cbv
 generalize hr12 : rContainsFunc_ActLine_1 akee = r12
 refine .dd hP (FlContainsFunc_ActLine_1 hakee (by omega) hr12) ?_
 cases r12
 conv => cbv
 generalize hr13 : ractWords  = l13
 generalize hl13 : l13.map cS = xl13
 refine .dd hP (FiactWords hr13 hl13) ?_
 conv => cbv
 have hwl := actW_len (by assumption)
 have hok := rActOk_t (a := ⟨akin, atex, an, akee⟩) (by assumption)
 dsimp only at hok
 have hf1 : (∀ n ∈ [an], in64 n) ∧ [an].length ≤ 100 := ⟨by intro n hn; simp only [List.mem_cons, List.not_mem_nil, or_false] at hn; have := act1_f (n := an) (by assumption); unfold in64; omega, by simp⟩
 have hf2 : (∀ n ∈ akee, in64 n) ∧ akee.length ≤ 100 := ⟨fun n hn => by have := act_all (l := akee) (by assumption) n hn; unfold in64; omega, by omega⟩
 refine .go akin.toNat hl13 fun hje14 e14 qe14 => ?_
 conv => cbv
 try (have hw_ := And.intro (actW_of (k := akin) (by assumption) (by assumption)) trivial; obtain ⟨⟨hwE, hwB⟩, -⟩ := hw_)
 refine .eql (fun h15 => ?_) fun h15 => ?_
 conv => cbv
 generalize hr16 : rhexOrDash atex = r16
 refine .dd hP (FihexOrDash hr16) ?_
 conv => cbv
 have hb_ := hexd_b (t := atex) (by assumption) (by omega)
 refine .litL 1 fun s17 hs17 zs17 => ?_
 conv => cbv
 try (have hw_ := And.intro (actW_of (k := akin) (by assumption) (by assumption)) trivial; obtain ⟨⟨hwE, hwB⟩, -⟩ := hw_)
 try (have hb1 := rfigures_b (l := [an]) (by assumption) hf1.1; simp only [List.length_cons, List.length_nil] at hb1)
 try (have hb2 := rfigures_b (l := akee) (by assumption) hf2.1)
 refine .go fun s18 hs18 zs18 => ?_
 conv => cbv
 have e : s18 = rActLine (⟨akin, atex, an, akee⟩ : TAct) := (by unfold rActLine; first | (exfalso; omega) | (rw [if_neg]; rintro ⟨a1, a2, a3, a4, a5, a6⟩; dsimp only at a1 a2 a3 a4 a5 a6; first | omega | exact Bool.noConfusion (show true = false from a1.symm.trans (by assumption)) | exact absurd (a2 (by omega)) (by assumption) | exact Bool.noConfusion (show false = true from a5.symm.trans (by assumption)) | exact Bool.noConfusion (show false = true from a6.symm.trans (by assumption))) | (rw [if_pos (show actFull _ from ⟨by assumption, fun h => by dsimp only at *; first | (exfalso; omega) | assumption, fun h => by dsimp only at *; omega, fun h => by dsimp only at *; omega, by assumption, by assumption⟩)]; dsimp only; first | (rw [if_pos (by omega)]; subst_vars; rw [hwE]; rfl) | (rw [if_neg (by omega), if_pos (by omega)]; subst_vars; rw [hwE]) | (rw [if_neg (by omega), if_neg (by omega)]; exact hwE)))
 rw [hr] at e
 subst e
 exact hQ _ _ (.s rfl rfl)
 conv => cbv
 have e : e14 = rActLine (⟨akin, atex, an, akee⟩ : TAct) := (by unfold rActLine; first | (exfalso; omega) | (rw [if_neg]; rintro ⟨a1, a2, a3, a4, a5, a6⟩; dsimp only at a1 a2 a3 a4 a5 a6; first | omega | exact Bool.noConfusion (show true = false from a1.symm.trans (by assumption)) | exact absurd (a2 (by omega)) (by assumption) | exact Bool.noConfusion (show false = true from a5.symm.trans (by assumption)) | exact Bool.noConfusion (show false = true from a6.symm.trans (by assumption))) | (rw [if_pos (show actFull _ from ⟨by assumption, fun h => by dsimp only at *; first | (exfalso; omega) | assumption, fun h => by dsimp only at *; omega, fun h => by dsimp only at *; omega, by assumption, by assumption⟩)]; dsimp only; first | (rw [if_pos (by omega)]; subst_vars; rw [hwE]; rfl) | (rw [if_neg (by omega), if_pos (by omega)]; subst_vars; rw [hwE]) | (rw [if_neg (by omega), if_neg (by omega)]; exact hwE)))
 rw [hr] at e
 subst e
 exact hQ _ _ (.s rfl rfl)
 conv => cbv
 have e : (tx []) = rActLine (⟨akin, atex, an, akee⟩ : TAct) := (by unfold rActLine; first | (exfalso; omega) | (rw [if_neg]; rintro ⟨a1, a2, a3, a4, a5, a6⟩; dsimp only at a1 a2 a3 a4 a5 a6; first | omega | exact Bool.noConfusion (show true = false from a1.symm.trans (by assumption)) | exact absurd (a2 (by omega)) (by assumption) | exact Bool.noConfusion (show false = true from a5.symm.trans (by assumption)) | exact Bool.noConfusion (show false = true from a6.symm.trans (by assumption))) | (rw [if_pos (show actFull _ from ⟨by assumption, fun h => by dsimp only at *; first | (exfalso; omega) | assumption, fun h => by dsimp only at *; omega, fun h => by dsimp only at *; omega, by assumption, by assumption⟩)]; dsimp only; first | (rw [if_pos (by omega)]; subst_vars; rw [hwE]; rfl) | (rw [if_neg (by omega), if_pos (by omega)]; subst_vars; rw [hwE]) | (rw [if_neg (by omega), if_neg (by omega)]; exact hwE)))
 rw [hr] at e
 subst e
 exact hQ _ _ (.s rfl rfl)
 conv => cbv
 have e : (tx []) = rActLine (⟨akin, atex, an, akee⟩ : TAct) := (by unfold rActLine; first | (exfalso; omega) | (rw [if_neg]; rintro ⟨a1, a2, a3, a4, a5, a6⟩; dsimp only at a1 a2 a3 a4 a5 a6; first | omega | exact Bool.noConfusion (show true = false from a1.symm.trans (by assumption)) | exact absurd (a2 (by omega)) (by assumption) | exact Bool.noConfusion (show false = true from a5.symm.trans (by assumption)) | exact Bool.noConfusion (show false = true from a6.symm.trans (by assumption))) | (rw [if_pos (show actFull _ from ⟨by assumption, fun h => by dsimp only at *; first | (exfalso; omega) | assumption, fun h => by dsimp only at *; omega, fun h => by dsimp only at *; omega, by assumption, by assumption⟩)]; dsimp only; first | (rw [if_pos (by omega)]; subst_vars; rw [hwE]; rfl) | (rw [if_neg (by omega), if_pos (by omega)]; subst_vars; rw [hwE]) | (rw [if_neg (by omega), if_neg (by omega)]; exact hwE)))
 rw [hr] at e
 subst e
 exact hQ _ _ (.s rfl rfl)
 conv => cbv
 generalize hr9 : rActLine_1 an = r9
 refine .dd hP (FiActLine_1 hr9) ?_
 cases r9
 conv => cbv
 generalize hr10 : rContainsFunc_ActLine_1 akee = r10
 refine .dd hP (FlContainsFunc_ActLine_1 hakee (by omega) hr10) ?_
 cases r10
 conv => cbv
 generalize hr11 : ractWords  = l11
 generalize hl11 : l11.map cS = xl11
 refine .dd hP (FiactWords hr11 hl11) ?_
 conv => cbv
 have hwl := actW_len (by assumption)
 have hok := rActOk_t (a := ⟨akin, atex, an, akee⟩) (by assumption)
 dsimp only at hok
 have hf1 : (∀ n ∈ [an], in64 n) ∧ [an].length ≤ 100 := ⟨by intro n hn; simp only [List.mem_cons, List.not_mem_nil, or_false] at hn; have := act1_f (n := an) (by assumption); unfold in64; omega, by simp⟩
 have hf2 : (∀ n ∈ akee, in64 n) ∧ akee.length ≤ 100 := ⟨fun n hn => by have := act_all (l := akee) (by assumption) n hn; unfold in64; omega, by omega⟩
 refine .go akin.toNat hl11 fun hje12 e12 qe12 => ?_
 conv => cbv
 try (have hw_ := And.intro (actW_of (k := akin) (by assumption) (by assumption)) trivial; obtain ⟨⟨hwE, hwB⟩, -⟩ := hw_)
 refine .eql (fun h13 => ?_) fun h13 => ?_
 conv => cbv
 generalize hr14 : rhexOrDash atex = r14
 refine .dd hP (FihexOrDash hr14) ?_
 conv => cbv
 have hb_ := hexd_b (t := atex) (by assumption) (by omega)
 refine .litL 1 fun s15 hs15 zs15 => ?_
 conv => cbv
 try (have hw_ := And.intro (actW_of (k := akin) (by assumption) (by assumption)) trivial; obtain ⟨⟨hwE, hwB⟩, -⟩ := hw_)
 try (have hb1 := rfigures_b (l := [an]) (by assumption) hf1.1; simp only [List.length_cons, List.length_nil] at hb1)
 try (have hb2 := rfigures_b (l := akee) (by assumption) hf2.1)
 refine .go fun s16 hs16 zs16 => ?_
 conv => cbv
 have e : s16 = rActLine (⟨akin, atex, an, akee⟩ : TAct) := (by unfold rActLine; first | (exfalso; omega) | (rw [if_neg]; rintro ⟨a1, a2, a3, a4, a5, a6⟩; dsimp only at a1 a2 a3 a4 a5 a6; first | omega | exact Bool.noConfusion (show true = false from a1.symm.trans (by assumption)) | exact absurd (a2 (by omega)) (by assumption) | exact Bool.noConfusion (show false = true from a5.symm.trans (by assumption)) | exact Bool.noConfusion (show false = true from a6.symm.trans (by assumption))) | (rw [if_pos (show actFull _ from ⟨by assumption, fun h => by dsimp only at *; first | (exfalso; omega) | assumption, fun h => by dsimp only at *; omega, fun h => by dsimp only at *; omega, by assumption, by assumption⟩)]; dsimp only; first | (rw [if_pos (by omega)]; subst_vars; rw [hwE]; rfl) | (rw [if_neg (by omega), if_pos (by omega)]; subst_vars; rw [hwE]) | (rw [if_neg (by omega), if_neg (by omega)]; exact hwE)))
 rw [hr] at e
 subst e
 exact hQ _ _ (.s rfl rfl)
 conv => cbv
 have e : e12 = rActLine (⟨akin, atex, an, akee⟩ : TAct) := (by unfold rActLine; first | (exfalso; omega) | (rw [if_neg]; rintro ⟨a1, a2, a3, a4, a5, a6⟩; dsimp only at a1 a2 a3 a4 a5 a6; first | omega | exact Bool.noConfusion (show true = false from a1.symm.trans (by assumption)) | exact absurd (a2 (by omega)) (by assumption) | exact Bool.noConfusion (show false = true from a5.symm.trans (by assumption)) | exact Bool.noConfusion (show false = true from a6.symm.trans (by assumption))) | (rw [if_pos (show actFull _ from ⟨by assumption, fun h => by dsimp only at *; first | (exfalso; omega) | assumption, fun h => by dsimp only at *; omega, fun h => by dsimp only at *; omega, by assumption, by assumption⟩)]; dsimp only; first | (rw [if_pos (by omega)]; subst_vars; rw [hwE]; rfl) | (rw [if_neg (by omega), if_pos (by omega)]; subst_vars; rw [hwE]) | (rw [if_neg (by omega), if_neg (by omega)]; exact hwE)))
 rw [hr] at e
 subst e
 exact hQ _ _ (.s rfl rfl)
 conv => cbv
 have e : (tx []) = rActLine (⟨akin, atex, an, akee⟩ : TAct) := (by unfold rActLine; first | (exfalso; omega) | (rw [if_neg]; rintro ⟨a1, a2, a3, a4, a5, a6⟩; dsimp only at a1 a2 a3 a4 a5 a6; first | omega | exact Bool.noConfusion (show true = false from a1.symm.trans (by assumption)) | exact absurd (a2 (by omega)) (by assumption) | exact Bool.noConfusion (show false = true from a5.symm.trans (by assumption)) | exact Bool.noConfusion (show false = true from a6.symm.trans (by assumption))) | (rw [if_pos (show actFull _ from ⟨by assumption, fun h => by dsimp only at *; first | (exfalso; omega) | assumption, fun h => by dsimp only at *; omega, fun h => by dsimp only at *; omega, by assumption, by assumption⟩)]; dsimp only; first | (rw [if_pos (by omega)]; subst_vars; rw [hwE]; rfl) | (rw [if_neg (by omega), if_pos (by omega)]; subst_vars; rw [hwE]) | (rw [if_neg (by omega), if_neg (by omega)]; exact hwE)))
 rw [hr] at e
 subst e
 exact hQ _ _ (.s rfl rfl)
 conv => cbv
 have e : (tx []) = rActLine (⟨akin, atex, an, akee⟩ : TAct) := (by unfold rActLine; first | (exfalso; omega) | (rw [if_neg]; rintro ⟨a1, a2, a3, a4, a5, a6⟩; dsimp only at a1 a2 a3 a4 a5 a6; first | omega | exact Bool.noConfusion (show true = false from a1.symm.trans (by assumption)) | exact absurd (a2 (by omega)) (by assumption) | exact Bool.noConfusion (show false = true from a5.symm.trans (by assumption)) | exact Bool.noConfusion (show false = true from a6.symm.trans (by assumption))) | (rw [if_pos (show actFull _ from ⟨by assumption, fun h => by dsimp only at *; first | (exfalso; omega) | assumption, fun h => by dsimp only at *; omega, fun h => by dsimp only at *; omega, by assumption, by assumption⟩)]; dsimp only; first | (rw [if_pos (by omega)]; subst_vars; rw [hwE]; rfl) | (rw [if_neg (by omega), if_pos (by omega)]; subst_vars; rw [hwE]) | (rw [if_neg (by omega), if_neg (by omega)]; exact hwE)))
 rw [hr] at e
 subst e
 exact hQ _ _ (.s rfl rfl)
 conv => cbv
 refine .neq (fun h6 => ?_) fun h6 => ?_
 conv => cbv
 have e : (tx []) = rActLine (⟨akin, atex, an, akee⟩ : TAct) := (by unfold rActLine; first | (exfalso; omega) | (rw [if_neg]; rintro ⟨a1, a2, a3, a4, a5, a6⟩; dsimp only at a1 a2 a3 a4 a5 a6; first | omega | exact Bool.noConfusion (show true = false from a1.symm.trans (by assumption)) | exact absurd (a2 (by omega)) (by assumption) | exact Bool.noConfusion (show false = true from a5.symm.trans (by assumption)) | exact Bool.noConfusion (show false = true from a6.symm.trans (by assumption))) | (rw [if_pos (show actFull _ from ⟨by assumption, fun h => by dsimp only at *; first | (exfalso; omega) | assumption, fun h => by dsimp only at *; omega, fun h => by dsimp only at *; omega, by assumption, by assumption⟩)]; dsimp only; first | (rw [if_pos (by omega)]; subst_vars; rw [hwE]; rfl) | (rw [if_neg (by omega), if_pos (by omega)]; subst_vars; rw [hwE]) | (rw [if_neg (by omega), if_neg (by omega)]; exact hwE)))
 rw [hr] at e
 subst e
 exact hQ _ _ (.s rfl rfl)
 conv => cbv
 refine .neq (fun h7 => ?_) fun h7 => ?_
 conv => cbv
 refine .go hakee fun v8 hv8 => ?_
 conv => cbv
 refine .gtr (fun h9 => ?_) fun h9 => ?_
 conv => cbv
 have e : (tx []) = rActLine (⟨akin, atex, an, akee⟩ : TAct) := (by unfold rActLine; first | (exfalso; omega) | (rw [if_neg]; rintro ⟨a1, a2, a3, a4, a5, a6⟩; dsimp only at a1 a2 a3 a4 a5 a6; first | omega | exact Bool.noConfusion (show true = false from a1.symm.trans (by assumption)) | exact absurd (a2 (by omega)) (by assumption) | exact Bool.noConfusion (show false = true from a5.symm.trans (by assumption)) | exact Bool.noConfusion (show false = true from a6.symm.trans (by assumption))) | (rw [if_pos (show actFull _ from ⟨by assumption, fun h => by dsimp only at *; first | (exfalso; omega) | assumption, fun h => by dsimp only at *; omega, fun h => by dsimp only at *; omega, by assumption, by assumption⟩)]; dsimp only; first | (rw [if_pos (by omega)]; subst_vars; rw [hwE]; rfl) | (rw [if_neg (by omega), if_pos (by omega)]; subst_vars; rw [hwE]) | (rw [if_neg (by omega), if_neg (by omega)]; exact hwE)))
 rw [hr] at e
 subst e
 exact hQ _ _ (.s rfl rfl)
 conv => cbv
 generalize hr10 : rActLine_1 an = r10
 refine .dd hP (FiActLine_1 hr10) ?_
 cases r10
 conv => cbv
 generalize hr11 : rContainsFunc_ActLine_1 akee = r11
 refine .dd hP (FlContainsFunc_ActLine_1 hakee (by omega) hr11) ?_
 cases r11
 conv => cbv
 generalize hr12 : ractWords  = l12
 generalize hl12 : l12.map cS = xl12
 refine .dd hP (FiactWords hr12 hl12) ?_
 conv => cbv
 have hwl := actW_len (by assumption)
 have hok := rActOk_t (a := ⟨akin, atex, an, akee⟩) (by assumption)
 dsimp only at hok
 have hf1 : (∀ n ∈ [an], in64 n) ∧ [an].length ≤ 100 := ⟨by intro n hn; simp only [List.mem_cons, List.not_mem_nil, or_false] at hn; have := act1_f (n := an) (by assumption); unfold in64; omega, by simp⟩
 have hf2 : (∀ n ∈ akee, in64 n) ∧ akee.length ≤ 100 := ⟨fun n hn => by have := act_all (l := akee) (by assumption) n hn; unfold in64; omega, by omega⟩
 refine .go akin.toNat hl12 fun hje13 e13 qe13 => ?_
 conv => cbv
 try (have hw_ := And.intro (actW_of (k := akin) (by assumption) (by assumption)) trivial; obtain ⟨⟨hwE, hwB⟩, -⟩ := hw_)
 refine .eql (fun h14 => ?_) fun h14 => ?_
 conv => cbv
 generalize hr15 : rhexOrDash atex = r15
 refine .dd hP (FihexOrDash hr15) ?_
 conv => cbv
 have hb_ := hexd_b (t := atex) (by assumption) (by omega)
 refine .litL 1 fun s16 hs16 zs16 => ?_
 conv => cbv
 try (have hw_ := And.intro (actW_of (k := akin) (by assumption) (by assumption)) trivial; obtain ⟨⟨hwE, hwB⟩, -⟩ := hw_)
 try (have hb1 := rfigures_b (l := [an]) (by assumption) hf1.1; simp only [List.length_cons, List.length_nil] at hb1)
 try (have hb2 := rfigures_b (l := akee) (by assumption) hf2.1)
 refine .go fun s17 hs17 zs17 => ?_
 conv => cbv
 have e : s17 = rActLine (⟨akin, atex, an, akee⟩ : TAct) := (by unfold rActLine; first | (exfalso; omega) | (rw [if_neg]; rintro ⟨a1, a2, a3, a4, a5, a6⟩; dsimp only at a1 a2 a3 a4 a5 a6; first | omega | exact Bool.noConfusion (show true = false from a1.symm.trans (by assumption)) | exact absurd (a2 (by omega)) (by assumption) | exact Bool.noConfusion (show false = true from a5.symm.trans (by assumption)) | exact Bool.noConfusion (show false = true from a6.symm.trans (by assumption))) | (rw [if_pos (show actFull _ from ⟨by assumption, fun h => by dsimp only at *; first | (exfalso; omega) | assumption, fun h => by dsimp only at *; omega, fun h => by dsimp only at *; omega, by assumption, by assumption⟩)]; dsimp only; first | (rw [if_pos (by omega)]; subst_vars; rw [hwE]; rfl) | (rw [if_neg (by omega), if_pos (by omega)]; subst_vars; rw [hwE]) | (rw [if_neg (by omega), if_neg (by omega)]; exact hwE)))
 rw [hr] at e
 subst e
 exact hQ _ _ (.s rfl rfl)
 conv => cbv
 have e : e13 = rActLine (⟨akin, atex, an, akee⟩ : TAct) := (by unfold rActLine; first | (exfalso; omega) | (rw [if_neg]; rintro ⟨a1, a2, a3, a4, a5, a6⟩; dsimp only at a1 a2 a3 a4 a5 a6; first | omega | exact Bool.noConfusion (show true = false from a1.symm.trans (by assumption)) | exact absurd (a2 (by omega)) (by assumption) | exact Bool.noConfusion (show false = true from a5.symm.trans (by assumption)) | exact Bool.noConfusion (show false = true from a6.symm.trans (by assumption))) | (rw [if_pos (show actFull _ from ⟨by assumption, fun h => by dsimp only at *; first | (exfalso; omega) | assumption, fun h => by dsimp only at *; omega, fun h => by dsimp only at *; omega, by assumption, by assumption⟩)]; dsimp only; first | (rw [if_pos (by omega)]; subst_vars; rw [hwE]; rfl) | (rw [if_neg (by omega), if_pos (by omega)]; subst_vars; rw [hwE]) | (rw [if_neg (by omega), if_neg (by omega)]; exact hwE)))
 rw [hr] at e
 subst e
 exact hQ _ _ (.s rfl rfl)
 conv => cbv
 have e : (tx []) = rActLine (⟨akin, atex, an, akee⟩ : TAct) := (by unfold rActLine; first | (exfalso; omega) | (rw [if_neg]; rintro ⟨a1, a2, a3, a4, a5, a6⟩; dsimp only at a1 a2 a3 a4 a5 a6; first | omega | exact Bool.noConfusion (show true = false from a1.symm.trans (by assumption)) | exact absurd (a2 (by omega)) (by assumption) | exact Bool.noConfusion (show false = true from a5.symm.trans (by assumption)) | exact Bool.noConfusion (show false = true from a6.symm.trans (by assumption))) | (rw [if_pos (show actFull _ from ⟨by assumption, fun h => by dsimp only at *; first | (exfalso; omega) | assumption, fun h => by dsimp only at *; omega, fun h => by dsimp only at *; omega, by assumption, by assumption⟩)]; dsimp only; first | (rw [if_pos (by omega)]; subst_vars; rw [hwE]; rfl) | (rw [if_neg (by omega), if_pos (by omega)]; subst_vars; rw [hwE]) | (rw [if_neg (by omega), if_neg (by omega)]; exact hwE)))
 rw [hr] at e
 subst e
 exact hQ _ _ (.s rfl rfl)
 conv => cbv
 have e : (tx []) = rActLine (⟨akin, atex, an, akee⟩ : TAct) := (by unfold rActLine; first | (exfalso; omega) | (rw [if_neg]; rintro ⟨a1, a2, a3, a4, a5, a6⟩; dsimp only at a1 a2 a3 a4 a5 a6; first | omega | exact Bool.noConfusion (show true = false from a1.symm.trans (by assumption)) | exact absurd (a2 (by omega)) (by assumption) | exact Bool.noConfusion (show false = true from a5.symm.trans (by assumption)) | exact Bool.noConfusion (show false = true from a6.symm.trans (by assumption))) | (rw [if_pos (show actFull _ from ⟨by assumption, fun h => by dsimp only at *; first | (exfalso; omega) | assumption, fun h => by dsimp only at *; omega, fun h => by dsimp only at *; omega, by assumption, by assumption⟩)]; dsimp only; first | (rw [if_pos (by omega)]; subst_vars; rw [hwE]; rfl) | (rw [if_neg (by omega), if_pos (by omega)]; subst_vars; rw [hwE]) | (rw [if_neg (by omega), if_neg (by omega)]; exact hwE)))
 rw [hr] at e
 subst e
 exact hQ _ _ (.s rfl rfl)
 conv => cbv
 generalize hr8 : rActLine_1 an = r8
 refine .dd hP (FiActLine_1 hr8) ?_
 cases r8
 conv => cbv
 generalize hr9 : rContainsFunc_ActLine_1 akee = r9
 refine .dd hP (FlContainsFunc_ActLine_1 hakee (by omega) hr9) ?_
 cases r9
 conv => cbv
 generalize hr10 : ractWords  = l10
 generalize hl10 : l10.map cS = xl10
 refine .dd hP (FiactWords hr10 hl10) ?_
 conv => cbv
 have hwl := actW_len (by assumption)
 have hok := rActOk_t (a := ⟨akin, atex, an, akee⟩) (by assumption)
 dsimp only at hok
 have hf1 : (∀ n ∈ [an], in64 n) ∧ [an].length ≤ 100 := ⟨by intro n hn; simp only [List.mem_cons, List.not_mem_nil, or_false] at hn; have := act1_f (n := an) (by assumption); unfold in64; omega, by simp⟩
 have hf2 : (∀ n ∈ akee, in64 n) ∧ akee.length ≤ 100 := ⟨fun n hn => by have := act_all (l := akee) (by assumption) n hn; unfold in64; omega, by omega⟩
 refine .go akin.toNat hl10 fun hje11 e11 qe11 => ?_
 conv => cbv
 try (have hw_ := And.intro (actW_of (k := akin) (by assumption) (by assumption)) trivial; obtain ⟨⟨hwE, hwB⟩, -⟩ := hw_)
 refine .eql (fun h12 => ?_) fun h12 => ?_
 conv => cbv
 generalize hr13 : rhexOrDash atex = r13
 refine .dd hP (FihexOrDash hr13) ?_
 conv => cbv
 have hb_ := hexd_b (t := atex) (by assumption) (by omega)
 refine .litL 1 fun s14 hs14 zs14 => ?_
 conv => cbv
 try (have hw_ := And.intro (actW_of (k := akin) (by assumption) (by assumption)) trivial; obtain ⟨⟨hwE, hwB⟩, -⟩ := hw_)
 try (have hb1 := rfigures_b (l := [an]) (by assumption) hf1.1; simp only [List.length_cons, List.length_nil] at hb1)
 try (have hb2 := rfigures_b (l := akee) (by assumption) hf2.1)
 refine .go fun s15 hs15 zs15 => ?_
 conv => cbv
 have e : s15 = rActLine (⟨akin, atex, an, akee⟩ : TAct) := (by unfold rActLine; first | (exfalso; omega) | (rw [if_neg]; rintro ⟨a1, a2, a3, a4, a5, a6⟩; dsimp only at a1 a2 a3 a4 a5 a6; first | omega | exact Bool.noConfusion (show true = false from a1.symm.trans (by assumption)) | exact absurd (a2 (by omega)) (by assumption) | exact Bool.noConfusion (show false = true from a5.symm.trans (by assumption)) | exact Bool.noConfusion (show false = true from a6.symm.trans (by assumption))) | (rw [if_pos (show actFull _ from ⟨by assumption, fun h => by dsimp only at *; first | (exfalso; omega) | assumption, fun h => by dsimp only at *; omega, fun h => by dsimp only at *; omega, by assumption, by assumption⟩)]; dsimp only; first | (rw [if_pos (by omega)]; subst_vars; rw [hwE]; rfl) | (rw [if_neg (by omega), if_pos (by omega)]; subst_vars; rw [hwE]) | (rw [if_neg (by omega), if_neg (by omega)]; exact hwE)))
 rw [hr] at e
 subst e
 exact hQ _ _ (.s rfl rfl)
 conv => cbv
 have e : e11 = rActLine (⟨akin, atex, an, akee⟩ : TAct) := (by unfold rActLine; first | (exfalso; omega) | (rw [if_neg]; rintro ⟨a1, a2, a3, a4, a5, a6⟩; dsimp only at a1 a2 a3 a4 a5 a6; first | omega | exact Bool.noConfusion (show true = false from a1.symm.trans (by assumption)) | exact absurd (a2 (by omega)) (by assumption) | exact Bool.noConfusion (show false = true from a5.symm.trans (by assumption)) | exact Bool.noConfusion (show false = true from a6.symm.trans (by assumption))) | (rw [if_pos (show actFull _ from ⟨by assumption, fun h => by dsimp only at *; first | (exfalso; omega) | assumption, fun h => by dsimp only at *; omega, fun h => by dsimp only at *; omega, by assumption, by assumption⟩)]; dsimp only; first | (rw [if_pos (by omega)]; subst_vars; rw [hwE]; rfl) | (rw [if_neg (by omega), if_pos (by omega)]; subst_vars; rw [hwE]) | (rw [if_neg (by omega), if_neg (by omega)]; exact hwE)))
 rw [hr] at e
 subst e
 exact hQ _ _ (.s rfl rfl)
 conv => cbv
 have e : (tx []) = rActLine (⟨akin, atex, an, akee⟩ : TAct) := (by unfold rActLine; first | (exfalso; omega) | (rw [if_neg]; rintro ⟨a1, a2, a3, a4, a5, a6⟩; dsimp only at a1 a2 a3 a4 a5 a6; first | omega | exact Bool.noConfusion (show true = false from a1.symm.trans (by assumption)) | exact absurd (a2 (by omega)) (by assumption) | exact Bool.noConfusion (show false = true from a5.symm.trans (by assumption)) | exact Bool.noConfusion (show false = true from a6.symm.trans (by assumption))) | (rw [if_pos (show actFull _ from ⟨by assumption, fun h => by dsimp only at *; first | (exfalso; omega) | assumption, fun h => by dsimp only at *; omega, fun h => by dsimp only at *; omega, by assumption, by assumption⟩)]; dsimp only; first | (rw [if_pos (by omega)]; subst_vars; rw [hwE]; rfl) | (rw [if_neg (by omega), if_pos (by omega)]; subst_vars; rw [hwE]) | (rw [if_neg (by omega), if_neg (by omega)]; exact hwE)))
 rw [hr] at e
 subst e
 exact hQ _ _ (.s rfl rfl)
 conv => cbv
 have e : (tx []) = rActLine (⟨akin, atex, an, akee⟩ : TAct) := (by unfold rActLine; first | (exfalso; omega) | (rw [if_neg]; rintro ⟨a1, a2, a3, a4, a5, a6⟩; dsimp only at a1 a2 a3 a4 a5 a6; first | omega | exact Bool.noConfusion (show true = false from a1.symm.trans (by assumption)) | exact absurd (a2 (by omega)) (by assumption) | exact Bool.noConfusion (show false = true from a5.symm.trans (by assumption)) | exact Bool.noConfusion (show false = true from a6.symm.trans (by assumption))) | (rw [if_pos (show actFull _ from ⟨by assumption, fun h => by dsimp only at *; first | (exfalso; omega) | assumption, fun h => by dsimp only at *; omega, fun h => by dsimp only at *; omega, by assumption, by assumption⟩)]; dsimp only; first | (rw [if_pos (by omega)]; subst_vars; rw [hwE]; rfl) | (rw [if_neg (by omega), if_pos (by omega)]; subst_vars; rw [hwE]) | (rw [if_neg (by omega), if_neg (by omega)]; exact hwE)))
 rw [hr] at e
 subst e
 exact hQ _ _ (.s rfl rfl)
theorem FsActLine {akin : Int} {atex : ByteArray} {an : Int} {akee : List Int} {xakee : List (List D)} {o : ByteArray} (hakee : akee.map cI = xakee) (hz : atex.size ≤ 1000000000 ∧ akee.length ≤ 1000000000) (hr : rActLine (⟨akin, atex, an, akee⟩ : TAct) = o)  : Fn Tryz.prog 11 [.agg [I akin, S atex, I an, .d (.row 1 xakee)]] [] ⟨S o, [], []⟩ := by
 refine Fn.go su_ch29b Tryz.func11 fun P hP Q hQ => ?_
 conv => cbv
 generalize hr1 : rActOk (⟨akin, atex, an, akee⟩ : TAct) = r1
 refine .dd hP (FsActOk hakee hr1) ?_
 cases r1
 conv => cbv
 have e : (tx []) = rActLine (⟨akin, atex, an, akee⟩ : TAct) := (by unfold rActLine; rw [if_neg]; intro hh; exact absurd (hh.1.symm.trans hr1) (by decide))
 rw [hr] at e
 subst e
 exact hQ _ _ (.s rfl rfl)
 conv => cbv
 rcases hr2 : rl29Told (⟨akin, atex, an, akee⟩ : TAct) with ⟨r2kin, r2tex, r2n, r2kee⟩
 generalize hr2kee : r2kee.map cI = xr2kee
 refine .dd hP (Fsl29Told hakee (by omega) hr2 hr2kee) ?_
 conv => cbv
 generalize hr3 : rl29Same (⟨r2kin, r2tex, r2n, r2kee⟩ : TAct) (⟨akin, atex, an, akee⟩ : TAct) = r3
 refine .dd hP (Fsl29Same hr2kee hakee (by omega) hr3) ?_
 cases r3
 conv => cbv
 have e : (tx []) = rActLine (⟨akin, atex, an, akee⟩ : TAct) := (by unfold rActLine; rw [if_neg]; intro hh; have := (told_iff hr2 hr3).2 ⟨hh.2.1, hh.2.2.1, hh.2.2.2.1⟩; cases this)
 rw [hr] at e
 subst e
 exact hQ _ _ (.s rfl rfl)
 conv => cbv
 refine .gtr (fun h4 => ?_) fun h4 => ?_
 conv => cbv
 have e : (tx []) = rActLine (⟨akin, atex, an, akee⟩ : TAct) := (by unfold rActLine; rw [if_neg]; intro hh; have := act1_f hh.2.2.2.2.1; dsimp only at this; omega)
 rw [hr] at e
 subst e
 exact hQ _ _ (.s rfl rfl)
 conv => cbv
 generalize hr5 : rl29Words  = l5
 generalize hl5 : l5.map cS = xl5
 refine .dd hP (Fsl29Words hr5 hl5) ?_
 conv => cbv
 have hwl := actW_len hr5
 have hok := rActOk_t hr1
 dsimp only at hok
 refine .go akin.toNat hl5 fun hje6 e6 qe6 => ?_
 conv => cbv
 obtain ⟨hwE, hwB⟩ := actW_of (k := akin) qe6 hr5
 have hok := rActOk_t hr1
 dsimp only at hok
 have ht := (told_iff hr2 hr3).1 rfl
 dsimp only at ht
 have hn : in64 an := by unfold in64; omega
 have hk := actFull_of (a := ⟨akin, atex, an, akee⟩) hr1 ht (by dsimp only; omega)
 refine .eql (fun h7 => ?_) fun h7 => ?_
 conv => cbv
 rcases hr8 : rHex atex with ⟨r8a, r8b⟩
 refine .dd hP (FsHex hr8) ?_
 conv => cbv
 refine .eql (fun h9 => ?_) fun h9 => ?_
 conv => cbv
 refine .litR 1 fun s10 hs10 zs10 => ?_
 conv => cbv
 try (have hb8 := rHex_b hr8 (by omega))
 refine .litR 1 fun s11 hs11 zs11 => ?_
 conv => cbv
 have e : s11 = rActLine (⟨akin, atex, an, akee⟩ : TAct) := (by unfold rActLine; rw [if_pos (hk (cf_nil (ht.2.2 (by omega))))]; dsimp only; have hx : rhexOrDash atex = tx [45] := (by unfold rhexOrDash; rw [hr8]; exact if_pos h9); rw [if_pos h7, hs11, hs10, hwE, hx, bytes_tx (actWord akin)]; simp only [lit_tx, tx_append]; simp)
 rw [hr] at e
 subst e
 exact hQ _ _ (.s rfl rfl)
 conv => cbv
 refine .litR 1 fun s10 hs10 zs10 => ?_
 conv => cbv
 try (have hb8 := rHex_b hr8 (by omega))
 try (have hb10 := rDecimal_b hr10 hn)
 refine .go fun s11 hs11 zs11 => ?_
 conv => cbv
 have e : s11 = rActLine (⟨akin, atex, an, akee⟩ : TAct) := (by unfold rActLine; rw [if_pos (hk (cf_nil (ht.2.2 (by omega))))]; dsimp only; have hx : rhexOrDash atex = r8a := (by unfold rhexOrDash; rw [hr8]; exact if_neg h9); rw [if_pos h7, hs11, hs10, hwE, hx, bytes_tx (actWord akin), bytes_tx r8a]; simp only [lit_tx, tx_append]; simp)
 rw [hr] at e
 subst e
 exact hQ _ _ (.s rfl rfl)
 conv => cbv
 refine .eql (fun h8 => ?_) fun h8 => ?_
 conv => cbv
 refine .litR 1 fun s9 hs9 zs9 => ?_
 conv => cbv
 generalize hr10 : rDecimal an = r10
 refine .dd hP (FsDecimal hn hr10) ?_
 conv => cbv
 try (have hb8 := rHex_b hr8 (by omega))
 try (have hb10 := rDecimal_b hr10 hn)
 refine .go fun s11 hs11 zs11 => ?_
 conv => cbv
 have e : s11 = rActLine (⟨akin, atex, an, akee⟩ : TAct) := (by unfold rActLine; rw [if_pos (hk (cf_nil (ht.2.2 (by omega))))]; dsimp only; rw [if_neg (by omega), if_pos (by omega)]; rw [hs11, hs9, ← hr10, hwE, bytes_tx (actWord akin), fig_nil (ht.2.2 (by omega)), fig1]; unfold rDecimal; simp only [lit_tx, tx_append]; simp)
 rw [hr] at e
 subst e
 exact hQ _ _ (.s rfl rfl)
 conv => cbv
 refine .eql (fun h9 => ?_) fun h9 => ?_
 conv => cbv
 refine .litR 1 fun s10 hs10 zs10 => ?_
 conv => cbv
 generalize hr11 : rDecimal an = r11
 refine .dd hP (FsDecimal hn hr11) ?_
 conv => cbv
 have hb11 := rDecimal_b hr11 hn
 refine .go fun s12 hs12 zs12 => ?_
 conv => cbv
 have e : s12 = rActLine (⟨akin, atex, an, akee⟩ : TAct) := (by unfold rActLine; rw [if_pos (hk (cf_nil (ht.2.2 (by omega))))]; dsimp only; rw [if_neg (by omega), if_pos (by omega)]; rw [hs12, hs10, ← hr11, hwE, bytes_tx (actWord akin), fig_nil (ht.2.2 (by omega)), fig1]; unfold rDecimal; simp only [lit_tx, tx_append]; simp)
 rw [hr] at e
 subst e
 exact hQ _ _ (.s rfl rfl)
 conv => cbv
 refine .eql (fun h10 => ?_) fun h10 => ?_
 conv => cbv
 try (have hb8 := rHex_b hr8 (by omega))
 refine .litR 1 fun s11 hs11 zs11 => ?_
 conv => cbv
 generalize hr12 : rDecimal an = r12
 refine .dd hP (FsDecimal hn hr12) ?_
 conv => cbv
 have hb12 := rDecimal_b hr12 hn
 refine .go fun s13 hs13 zs13 => ?_
 conv => cbv
 refine LoopW.lp (κ := ByteArray × Int) su_ch29b hP [] [1] (fun (s3, i6) => [(3, S s3), (6, I i6)]) (fun (s3, i6) => [])
   (fun (s3, i6) => 0 ≤ i6 ∧ i6 ≤ akee.length ∧ s3 = actWord akin ++ (rfigures [an] ++ rfigures (akee.take i6.toNat)) ∧ s3.size ≤ 100 + 21 * i6.toNat ∧ ∀ (j : Nat) (hj : j < akee.length), j < i6.toNat → 0 ≤ akee[j] ∧ akee[j] ≤ 1000000000)
   (fun (s3, i6) => (akee.length - i6).toNat) (s13, 0) ⟨by omega, by omega, by rw [hs13, hs11, hwE, ← hr12, fig1, bytes_tx (actWord akin)]; unfold rDecimal rfigures; simp only [lit_tx, tx_append]; simp, by omega, fun j _ h => by simp at h⟩ ⟨rfl, rfl, trivial⟩ rfl ?_
 rintro ⟨s3, i6⟩ J ⟨h0, hle, hs, hsz, hall⟩ hJ
 conv => cbv
 refine .go hakee fun v14 hv14 => ?_
 conv => cbv
 refine .lss (fun h15 => ?_) fun h15 => ?_
 conv => cbv
 refine .go i6.toNat hakee fun hje16 e16 qe16 => ?_
 conv => cbv
 generalize hr17 : rl01In e16 0 1000000000 = r17
 refine .dd hP (Fsl01In hr17) ?_
 cases r17
 simp only [rl01In, decide_eq_true_eq, decide_eq_false_iff_not] at hr17
 conv => cbv
 have e : (tx []) = rActLine (⟨akin, atex, an, akee⟩ : TAct) := (by unfold rActLine; rw [if_neg]; intro hh; exact absurd (hh.2.2.2.2.2.symm.trans (act_some (l := akee) hje16 (by rw [← qe16]; exact hr17))) (by decide))
 rw [hr] at e
 subst e
 exact hQ _ _ (.s rfl rfl)
 simp only [rl01In, decide_eq_true_eq, decide_eq_false_iff_not] at hr17
 conv => cbv
 refine .litR 1 fun s18 hs18 zs18 => ?_
 conv => cbv
 refine .go i6.toNat hakee fun hje19 e19 qe19 => ?_
 conv => cbv
 have hn20 : in64 e19 := by unfold in64; rw [show e19 = e16 by rw [qe16, qe19]]; omega
 generalize hr20 : rDecimal e19 = r20
 refine .dd hP (FsDecimal hn20 hr20) ?_
 conv => cbv
 have hb20 := rDecimal_b hr20 hn20
 refine .go fun s21 hs21 zs21 => ?_
 conv => cbv
 refine .add fun v22 hv22 => ?_
 conv => cbv
 exact .go [] (s21, v22) (hJ _ ⟨by omega, by omega, by rw [hs21, hs18, hs, ← hr20, show v22.toNat = i6.toNat + 1 by omega, rfig_snoc hje19, ← qe19, bytes_tx (actWord akin)]; unfold rDecimal rfigures; simp only [lit_tx, tx_append]; simp, by omega, fun j hj h => if e : j = i6.toNat then by subst e; rw [← qe16]; exact hr17 else hall j hj (by omega)⟩ (by first | (dsimp only; omega) | omega))
 conv => cbv
 have e : s3 = rActLine (⟨akin, atex, an, akee⟩ : TAct) := (by unfold rActLine; rw [if_pos (hk (act_each (l := akee) fun j hj => hall j hj (by omega)))]; dsimp only; rw [if_neg (by omega), if_pos (by omega), hs, List.take_of_length_le (by omega)])
 rw [hr] at e
 subst e
 exact hQ _ _ (.s rfl rfl)
 conv => cbv
 have e : e6 = rActLine (⟨akin, atex, an, akee⟩ : TAct) := (by unfold rActLine; rw [if_pos (hk (cf_nil (ht.2.2 (by omega))))]; dsimp only; rw [if_neg (by omega), if_neg (by omega)]; exact hwE)
 rw [hr] at e
 subst e
 exact hQ _ _ (.s rfl rfl)
end Go.Proofs.YtmkpihcfglinjaaGreatDoor.Ab
