/- What functions of the program come to, for all arguments in the given bounds. -/
import Derived.Test.YtmkpihcfglinjaaGreatDoorchD2
set_option linter.unusedVariables false
set_option linter.unusedSimpArgs false
namespace Go.Proofs.YtmkpihcfglinjaaGreatDoor.Ab
open Go Go.Proofs
set_option maxRecDepth 20000
set_option maxHeartbeats 4000000
set_option linter.unusedSimpArgs false
set_option linter.unusedVariables false
def tab_lLinesBack : List (Nat × TyRow) := [
  (3, ⟨.int .i64, some 1, some false, none, false, [.int .i64], [], some [(.int .i64 0, 0)], none, none, none⟩),
  (4, ⟨.bool, some 1, some false, none, false, [.bool], [], some [(.bool false, 0)], none, none, none⟩),
  (9, ⟨.str, some 1, some false, none, false, [.str], [], some [(.string default, 0)], none, none, none⟩),
  (22, ⟨.sl 1, some 1, some false, some (1, 1), true, [.sl 1], [], some [(.slice none 0 0, 1)], some ([.sc (.int .u8 0)], 1, 1), none, none⟩),
  (24, ⟨.sl 1, some 1, some false, some (1, 8), false, [.sl 1], [], some [(.slice none 0 0, 1)], some ([.sc (.int .i64 0)], 1, 8), none, none⟩),
  (26, ⟨.other, some 4, some true, none, false, [.int .i64, .str, .int .i64, .sl 1], [some (0, 1, false), some (1, 1, false), some (2, 1, false), some (3, 1, false)], some [(.int .i64 0, 0), (.string default, 0), (.int .i64 0, 0), (.slice none 0 0, 1)], none, some [(0, 1), (1, 1), (2, 1), (3, 1)], none⟩),
  (32, ⟨.other, some 4, some true, none, false, [.int .i64, .int .i64, .int .i64, .int .i64], [some (0, 1, false), some (1, 1, false), some (2, 1, false), some (3, 1, false)], some [(.int .i64 0, 0), (.int .i64 0, 0), (.int .i64 0, 0), (.int .i64 0, 0)], none, some [(0, 1), (1, 1), (2, 1), (3, 1)], some [.int, .int, .int, .int]⟩)]
theorem tab_lLinesBack_ok : TabOk Tryz.prog tab_lLinesBack := TabOk.of (by kernel_rfl)
theorem su_lLinesBack : Setup Tryz.prog tab_lLinesBack := ⟨tab_lLinesBack_ok, mixed⟩
theorem AggW.eIIII {a b c d a' b' c' d' : Int} {K : Bool → Prop} (h1 : a = a' ∧ b = b' ∧ c = c' ∧ d = d' → K true) (h2 : ¬ (a = a' ∧ b = b' ∧ c = c' ∧ d = d') → K false) : AggW [.int, .int, .int, .int] [.d (.sc (.int .i64 a)), .d (.sc (.int .i64 b)), .d (.sc (.int .i64 c)), .d (.sc (.int .i64 d))] [.d (.sc (.int .i64 a')), .d (.sc (.int .i64 b')), .d (.sc (.int .i64 c')), .d (.sc (.int .i64 d'))] K := by
  refine ⟨(decide (a = a') && (decide (b = b') && (decide (c = c') && (decide (d = d') && true)))), rfl, ?_⟩
  by_cases e : a = a' ∧ b = b' ∧ c = c' ∧ d = d'
  · rw [decide_eq_true e.1, decide_eq_true e.2.1, decide_eq_true e.2.2.1, decide_eq_true e.2.2.2]; exact h1 e
  · have : (decide (a = a') && (decide (b = b') && (decide (c = c') && (decide (d = d') && true)))) = false := by
      rw [Bool.eq_false_iff]
      intro h
      simp only [Bool.and_eq_true, decide_eq_true_eq, and_true] at h
      exact e h
    rw [this]; exact h2 e
abbrev pr (b : UInt8) : Prop := 33 ≤ b.toNat ∧ b.toNat ≤ 126
theorem pr_all : ∀ k : Fin 256, 33 ≤ k.val → k.val ≤ 126 → Lib.isSp (UInt8.ofNat k.val) = false := by decide
theorem pr_ns {b : UInt8} (h : pr b) : Lib.isSp b = false := by
  have := pr_all ⟨b.toNat, b.toNat_lt⟩ h.1 h.2
  rwa [UInt8.ofNat_toNat] at this
theorem pr_bad {b : UInt8} (h : pr b ∨ b = 32) : badB b = false := by
  unfold badB rPartsOf_1
  rw [decide_eq_false_iff_not]
  rcases h with ⟨h1, h2⟩ | rfl
  · omega
  · decide
def gw (x : List UInt8) : Prop := x ≠ [] ∧ ∀ b ∈ x, pr b
theorem fg_word : ∀ (x c rest : List UInt8), (∀ b ∈ x, pr b) → Lib.fieldsGo c (x ++ rest) = Lib.fieldsGo (c ++ x) rest
  | [], c, rest, _ => by rw [List.nil_append, List.append_nil]
  | b :: x, c, rest, h => by
    rw [List.cons_append, Lib.fieldsGo_more _ _ _ (pr_ns (h b (by simp))), fg_word x (c ++ [b]) rest (fun b hb => h b (by simp [hb])), List.append_assoc]
    rfl
theorem fg_join : ∀ (p : List (List UInt8)) (t : List UInt8), (∀ x ∈ p, gw x) → (t = [] ∨ t = [32]) → Lib.fieldsGo [] (joinL p ++ t) = p
  | [], t, _, ht => by rcases ht with rfl | rfl <;> simp [joinL, Lib.fieldsGo, Lib.isSp]
  | x :: l, t, h, ht => by
    have hx := h x (by simp)
    rw [joinL_cons, List.append_assoc, fg_word x [] _ hx.2, List.nil_append]
    by_cases hl : l = []
    · subst hl
      rw [if_pos rfl, List.nil_append]
      rcases ht with rfl | rfl
      · rw [fg_nil, if_neg hx.1]
      · rw [fg_sp (by decide), if_neg hx.1, fg_nil]; rfl
    · rw [if_neg hl, List.cons_append, fg_sp (by decide), if_neg hx.1, fg_join l t (fun y hy => h y (by simp [hy])) ht]; rfl
theorem join_mem {b : UInt8} : ∀ {p : List (List UInt8)}, b ∈ joinL p → b = 32 ∨ ∃ x ∈ p, b ∈ x
  | [], h => by cases h
  | x :: l, h => by
    rw [joinL_cons, List.mem_append] at h
    rcases h with h | h
    · exact .inr ⟨x, by simp, h⟩
    · split at h
      · cases h
      · rcases List.mem_cons.1 h with h | h
        · exact .inl h
        · rcases join_mem h with h | ⟨y, hy, h⟩
          · exact .inl h
          · exact .inr ⟨y, by simp [hy], h⟩
theorem parts_pad {p : List (List UInt8)} {a t : List UInt8} (ha : a = [32] ∨ a = [32, 32]) (ht : t = [] ∨ t = [32]) (hp : ∀ x ∈ p, gw x) (hn : p.length ≤ 12) (hs : (joinL p).length ≤ 590) : rPartsOf (tx (a ++ (joinL p ++ t))) = (p.map tx, true) := by
  have e : partsL (tx (a ++ (joinL p ++ t))) = p.map tx := by
    unfold partsL Lib.fields
    rw [data_tx]
    rcases ha with rfl | rfl
    · rw [show [32] ++ (joinL p ++ t) = 32 :: (joinL p ++ t) from rfl, Lib.fieldsGo_sp _ _ (by decide), fg_join p t hp ht]
    · rw [show [32, 32] ++ (joinL p ++ t) = 32 :: 32 :: (joinL p ++ t) from rfl, Lib.fieldsGo_sp _ _ (by decide), Lib.fieldsGo_sp _ _ (by decide), fg_join p t hp ht]
  unfold rPartsOf
  rw [if_neg, if_neg, e]
  · rw [e, List.length_map]; omega
  · rintro (h | h)
    · rw [tx_size, List.length_append, List.length_append] at h
      have h1 : a.length ≤ 2 := by rcases ha with rfl | rfl <;> decide
      have h2 : t.length ≤ 1 := by rcases ht with rfl | rfl <;> decide
      omega
    · obtain ⟨b, hb, hb2⟩ := List.any_eq_true.1 h
      rw [data_tx, List.mem_append, List.mem_append] at hb
      have : pr b ∨ b = 32 := by
        rcases hb with hb | hb | hb
        · right; rcases ha with rfl | rfl <;> simpa using hb
        · rcases join_mem hb with h | ⟨x, hx, h⟩
          · exact .inr h
          · exact .inl ((hp x hx).2 b h)
        · right
          rcases ht with rfl | rfl
          · cases hb
          · simpa using hb
      rw [pr_bad this] at hb2
      cases hb2
def gwB (x : ByteArray) : Prop := gw x.data.toList
theorem parts_padB {p : List ByteArray} {a t : List UInt8} (ha : a = [32] ∨ a = [32, 32]) (ht : t = [] ∨ t = [32]) (hp : ∀ x ∈ p, gwB x) (hn : p.length ≤ 12) (hs : (rJoin p).size ≤ 590) : rPartsOf (tx a ++ rJoin p ++ tx t) = (p, true) := by
  have h := parts_pad (p := p.map fun x => x.data.toList) ha ht (fun x hx => by obtain ⟨y, hy, rfl⟩ := List.mem_map.1 hx; exact hp y hy) (by rw [List.length_map]; exact hn) (by unfold rJoin at hs; rw [tx_size] at hs; exact hs)
  rw [List.map_map] at h
  have e2 : (tx ∘ fun x : ByteArray => x.data.toList) = id := funext fun x => rfl
  rw [e2, List.map_id] at h
  unfold rJoin
  rw [tx_append, tx_append, List.append_assoc]
  exact h
theorem dec_gw {n : Int} (h : 0 ≤ n) : gwB (rDecimal n) := by
  have hd : (rDecimal n).data.toList = Lib.decDigits n.toNat := by
    unfold rDecimal Lib.itoa
    rw [data_tx, if_neg (by omega)]
  have e := dec_digits n.toNat
  refine ⟨fun e2 => (dec_free h).2 (by rw [bytes_tx (rDecimal n), e2]), ?_⟩
  rw [hd]
  intro b hb
  obtain ⟨j, hj⟩ := List.getElem?_of_mem hb
  obtain ⟨d, h1⟩ := Lib.digit_of_decFrom _ _ _ e j b hj
  unfold Lib.digitVal at h1
  split at h1
  · rename_i hc; omega
  · cases h1
theorem aw_gw : ∀ i : Fin 9, 1 ≤ i.val → ((actWord (i.val : Int)).data.toList ≠ [] ∧ ((actWord (i.val : Int)).data.toList.all fun b => decide (33 ≤ b.toNat ∧ b.toNat ≤ 126)) = true) ∧ (actWord (i.val : Int)).size ≤ 6 := by decide
theorem act_gw {k : Int} (h : 1 ≤ k ∧ k ≤ 8) : gwB (actWord k) ∧ (actWord k).size ≤ 6 := by
  have := aw_gw ⟨k.toNat, by omega⟩ (show 1 ≤ k.toNat by omega)
  simp only [Int.toNat_of_nonneg (show 0 ≤ k by omega)] at this
  refine ⟨⟨this.1.1, fun b hb => ?_⟩, this.2⟩
  have hd := List.all_eq_true.1 this.1.2 b hb
  exact of_decide_eq_true hd
theorem fig_gw (n : Int) (h : 0 ≤ n ∧ n < 16) : pr (fig n) := by
  have : ∀ a : Fin 16, 33 ≤ (fig (a.val : Int)).toNat ∧ (fig (a.val : Int)).toNat ≤ 126 := by decide
  have h2 := this ⟨n.toNat, by omega⟩
  simp only [Int.toNat_of_nonneg h.1] at h2
  exact h2
theorem hexd_gw {t : ByteArray} (h : t.size ≤ 200) : gwB (rhexOrDash t) ∧ (rhexOrDash t).size ≤ 400 := by
  have hx : rHex t = (rhexText t, true) := by unfold rHex; rw [if_neg (by omega)]
  have hl : t.data.toList.length = t.size := Array.length_toList
  have hs : (rhexText t).size = 2 * t.size := by unfold rhexText; rw [tx_size, hex2_len, hl]
  unfold rhexOrDash
  rw [hx]
  dsimp only
  split
  · exact ⟨⟨by decide, fun b hb => by rw [data_tx, List.mem_singleton] at hb; rw [hb]; decide⟩, by decide⟩
  · rename_i hne
    refine ⟨⟨fun e => hne (by rw [bytes_tx (rhexText t), e]), fun b hb => ?_⟩, by omega⟩
    unfold rhexText at hb
    rw [data_tx] at hb
    obtain ⟨x, hx, h⟩ := List.mem_flatMap.1 hb
    have := x.toNat_lt
    unfold hex2 at h
    simp only [List.mem_cons, List.not_mem_nil, or_false] at h
    rcases h with rfl | rfl
    · exact fig_gw _ (by omega)
    · exact fig_gw _ (by omega)
theorem wordsA_gw {a : TAct} (h : actFull a) : (∀ x ∈ wordsA a, gwB x) ∧ (wordsA a).length ≤ 12 ∧ (rJoin (wordsA a)).size ≤ 590 := by
  obtain ⟨h1, h2, h3, h4, -, -, h7⟩ := full_t h
  have hk8 := (rActOk_t h.1).2.2.2
  have hw := act_gw h1
  by_cases e1 : a.kind_ = 1
  · have hx := hexd_gw h2
    have e : wordsA a = [actWord a.kind_, rhexOrDash a.text_] := by unfold wordsA wordsT; rw [if_pos e1]
    rw [e]
    refine ⟨?_, by simp, ?_⟩
    · intro x hx'
      simp only [List.mem_cons, List.not_mem_nil, or_false] at hx'
      rcases hx' with rfl | rfl
      · exact hw.1
      · exact hx.1
    · unfold rJoin
      rw [tx_size]
      have l1 : (actWord a.kind_).data.toList.length = (actWord a.kind_).size := Array.length_toList
      have l2 : (rhexOrDash a.text_).data.toList.length = (rhexOrDash a.text_).size := Array.length_toList
      simp only [List.map_cons, List.map_nil, joinL, List.length_append, List.length_cons]
      omega
  · have hall : (∀ x ∈ wordsA a, gwB x ∧ x.size ≤ 10) ∧ (wordsA a).length ≤ 10 := by
      unfold wordsA wordsT
      rw [if_neg e1]
      split
      · refine ⟨?_, by simp only [List.length_cons, List.length_map]; omega⟩
        intro x hx
        rcases List.mem_cons.1 hx with rfl | hx
        · exact ⟨hw.1, by omega⟩
        rcases List.mem_cons.1 hx with rfl | hx
        · exact ⟨dec_gw h3.1, (dec_size rfl h3.1 h3.2).2⟩
        · obtain ⟨n, hn, rfl⟩ := List.mem_map.1 hx
          exact ⟨dec_gw (h4 n hn).1, (dec_size rfl (h4 n hn).1 (h4 n hn).2).2⟩
      · refine ⟨?_, by simp⟩
        intro x hx
        rw [List.mem_singleton] at hx
        subst hx
        exact ⟨hw.1, by omega⟩
    refine ⟨fun x hx => (hall.1 x hx).1, by omega, ?_⟩
    unfold rJoin
    rw [tx_size]
    have := joinL_len (n := 10) (l := (wordsA a).map fun x => x.data.toList) (by
      intro x hx
      obtain ⟨y, hy, rfl⟩ := List.mem_map.1 hx
      have := (hall.1 y hy).2
      rw [Array.length_toList]; exact this)
    rw [List.length_map] at this
    omega
theorem lb_act {c o : TAct} {r4 s6 : ByteArray} {b : Bool} (h4 : rActLine c = r4) (h : s6 = (tx [32, 32] ++ r4) ++ tx [32]) (h7 : rReadAct s6 = (o, b)) : (b = true ↔ r4 ≠ tx []) ∧ (b = true → o = c) := by
  by_cases hf : actFull c
  · have hw := wordsA_gw hf
    have hl := actLine_words hf
    have hp := parts_padB (a := [32, 32]) (t := [32]) (.inr rfl) (.inr rfl) hw.1 hw.2.1 hw.2.2
    rw [← hl, h4, ← h] at hp
    have hc : candA (wordsA c) = c := faith_cand _ c hf rfl
    have hr : rReadAct s6 = (c, true) := by
      unfold rReadAct
      rw [hp, if_pos]
      · dsimp only; rw [hc]
      · dsimp only; rw [hc]; exact ⟨rfl, hf, rfl⟩
    rw [hr] at h7
    obtain ⟨rfl, rfl⟩ := Prod.mk.inj h7
    refine ⟨⟨fun _ => ?_, fun _ => rfl⟩, fun _ => rfl⟩
    rw [← h4, hl]
    exact rJoin_ne (aw_t (full_t hf).1).2.1
  · have e4 : r4 = tx [] := by rw [← h4]; unfold rActLine; rw [if_neg hf]
    have hp := parts_padB (p := []) (a := [32, 32]) (t := [32]) (.inr rfl) (.inr rfl) (fun x hx => by cases hx) (by simp) (by decide)
    rw [show rJoin [] = tx [] from rfl, ← e4, ← h] at hp
    have hr : rReadAct s6 = (⟨0, tx [], 0, []⟩, false) := by
      unfold rReadAct
      rw [hp, if_neg]
      rintro ⟨-, -, h3⟩
      have := congrArg List.length h3
      dsimp only at this
      unfold wordsA at this
      rw [List.length_cons] at this
      simp at this
    rw [hr] at h7
    obtain ⟨rfl, rfl⟩ := Prod.mk.inj h7
    exact ⟨⟨fun e => absurd e Bool.false_ne_true, fun e => absurd e4 e⟩, fun e => absurd e Bool.false_ne_true⟩
theorem wordsS_gw {g : TSetting} (h : rSettingOk g = true) : (∀ x ∈ wordsS g, gwB x) ∧ (rJoin (wordsS g)).size ≤ 590 := by
  have hk := of_decide_eq_true (show decide _ = true from h)
  have hall : ∀ x ∈ wordsS g, gwB x ∧ x.size ≤ 10 := by
    intro x hx
    unfold wordsS at hx
    simp only [List.mem_cons, List.not_mem_nil, or_false] at hx
    rcases hx with rfl | rfl | rfl | rfl | rfl
    · refine ⟨⟨by decide, ?_⟩, by decide⟩
      intro b hb
      rw [data_tx] at hb
      simp only [List.mem_cons, List.not_mem_nil, or_false] at hb
      rcases hb with rfl | rfl | rfl <;> decide
    all_goals exact ⟨dec_gw (by omega), (dec_size rfl (by omega) (by omega)).2⟩
  refine ⟨fun x hx => (hall x hx).1, ?_⟩
  unfold rJoin
  rw [tx_size]
  have := joinL_len (n := 10) (l := (wordsS g).map fun x => x.data.toList) (by
    intro x hx
    obtain ⟨y, hy, rfl⟩ := List.mem_map.1 hx
    have := (hall y hy).2
    rw [Array.length_toList]; exact this)
  rw [List.length_map, show (wordsS g).length = 5 from rfl] at this
  omega
theorem lb_set {g o : TSetting} {r9 s : ByteArray} {b : Bool} (h9 : rSetLine g = r9) (h : s = tx [32] ++ r9) (h11 : rReadSet s = (o, b)) : b = rSettingOk g ∧ (b = true → o = g) := by
  have hz : ∀ x : ByteArray, x ++ tx [] = x := fun x => by rw [bytes_tx x, tx_append, List.append_nil]
  rw [setLine_words] at h9
  by_cases hk : rSettingOk g = true
  · rw [if_pos hk] at h9
    have hw := wordsS_gw hk
    have hp := parts_padB (a := [32]) (t := []) (.inl rfl) (.inl rfl) hw.1 (by rw [show (wordsS g).length = 5 from rfl]; omega) hw.2
    rw [h9, hz, ← h] at hp
    have hc := words_cand hk rfl
    have hr : rReadSet s = (g, true) := by
      unfold rReadSet
      rw [hp, if_pos]
      · dsimp only; rw [hc]
      · dsimp only; rw [hc]; exact ⟨rfl, hk, rfl⟩
    rw [hr] at h11
    obtain ⟨rfl, rfl⟩ := Prod.mk.inj h11
    exact ⟨hk.symm, fun _ => rfl⟩
  · rw [if_neg hk] at h9
    have hp := parts_padB (p := []) (a := [32]) (t := []) (.inl rfl) (.inl rfl) (fun x hx => by cases hx) (by simp) (by decide)
    rw [show rJoin [] = tx [] from rfl, hz, h9, ← h] at hp
    have hr : rReadSet s = (⟨0, 0, 0, 0⟩, false) := by
      unfold rReadSet
      rw [hp, if_neg]
      rintro ⟨-, -, h3⟩
      have := congrArg List.length h3
      dsimp only at this
      unfold wordsS at this
      simp at this
    rw [hr] at h11
    obtain ⟨rfl, rfl⟩ := Prod.mk.inj h11
    exact ⟨by simpa using hk, fun e => absurd e Bool.false_ne_true⟩
theorem lb_roll : rActLine ⟨3, tx [], 0, []⟩ = tx [114, 111, 108, 108] := by
  unfold rActLine
  rw [if_pos (by decide)]
  rfl
theorem rActLine_bb {c : TAct} {r : ByteArray} (h : rActLine c = r) : r.size ≤ 590 := by
  by_cases hf : actFull c
  · rw [← h, actLine_words hf]; exact (wordsA_gw hf).2.2
  · rw [← h]; unfold rActLine; rw [if_neg hf]; decide
theorem rSetLine_bb {c : TSetting} {r : ByteArray} (h : rSetLine c = r) : r.size ≤ 590 := by
  rw [setLine_words] at h
  by_cases hk : rSettingOk c = true
  · rw [if_pos hk] at h; rw [← h]; exact (wordsS_gw hk).2
  · rw [if_neg hk] at h; rw [← h]; decide
theorem rDraw_b {code : List UInt8} {c : TAct} (h : rDrawActLine code = c) (hb : code.length ≤ 1000000000000) : c.text_.size ≤ 300 ∧ c.keeps_.length ≤ 9 := by
  unfold rDrawActLine at h
  rw [← h]
  exact (rl29Act_b (o := (rl29Act code 0 (rl01New code)).1) (oi := (rl29Act code 0 (rl01New code)).2.1) (oh := (rl29Act code 0 (rl01New code)).2.2) rfl (by omega)).1
def rsameInts (a b : List Int) : Bool := decide (a = b)
def rsameAct (a b : TAct) : Bool := decide (a.kind_ = b.kind_ ∧ a.text_ = b.text_ ∧ a.n_ = b.n_ ∧ a.keeps_ = b.keeps_)
theorem rsame_of {a b : TAct} (h : a = b) : rsameAct a b = true := by subst h; unfold rsameAct; simp
def rFnLinesBack (code : List UInt8) : Bool := true
theorem FlsameInts {a : List Int} {xa : List (List D)} {b : List Int} {xb : List (List D)} {o : Bool} (ha : a.map cI = xa) (hb : b.map cI = xb) (hl : a.length ≤ 1000000000) (hr : rsameInts a b = o)  : Fn Tryz.prog 37 [.d (.row 1 xa), .d (.row 1 xb)] [] ⟨B o, [], []⟩ := by
 refine Fn.go su_lLinesBack Tryz.func37 fun P hP Q hQ => ?_
 conv => cbv
 refine .go ha fun v1 hv1 => ?_
 conv => cbv
 refine .go hb fun v2 hv2 => ?_
 conv => cbv
 refine .neq (fun h3 => ?_) fun h3 => ?_
 conv => cbv
 have e : false = rsameInts a b := (by unfold rsameInts; symm; rw [decide_eq_false_iff_not]; intro e; rw [e] at hv1; omega)
 rw [hr] at e
 subst e
 exact hQ _ _ (.b rfl rfl)
 conv => cbv
 refine LoopW.lp (κ := Int) su_lLinesBack hP [] [0, 1] (fun i5 => [(5, I i5)]) (fun i5 => [])
   (fun i5 => 0 ≤ i5 ∧ i5 ≤ a.length ∧ ∀ (j : Nat) (hj : j < a.length) (hk : j < b.length), j < i5.toNat → a[j] = b[j])
   (fun i5 => (a.length - i5).toNat) (0) ⟨by omega, by omega, fun j _ _ h => by simp at h⟩ ⟨rfl, trivial⟩ rfl ?_
 rintro i5 J ⟨h0, h1, hx⟩ hJ
 conv => cbv
 refine .go ha fun v4 hv4 => ?_
 conv => cbv
 refine .lss (fun h5 => ?_) fun h5 => ?_
 conv => cbv
 refine .go i5.toNat ha fun hje6 e6 qe6 => ?_
 conv => cbv
 refine .go i5.toNat hb fun hje7 e7 qe7 => ?_
 conv => cbv
 refine .neq (fun h8 => ?_) fun h8 => ?_
 conv => cbv
 have e : false = rsameInts a b := (by unfold rsameInts; symm; rw [decide_eq_false_iff_not]; intro e; subst e; exact h8 (by rw [qe6, qe7]))
 rw [hr] at e
 subst e
 exact hQ _ _ (.b rfl rfl)
 conv => cbv
 refine .add fun v9 hv9 => ?_
 conv => cbv
 exact .go [] (v9) (hJ _ ⟨by omega, by omega, fun j hj hk h => if e : j = i5.toNat then by subst e; rw [← qe6, ← qe7]; first | exact Decidable.not_not.1 h8 | exact h8 | omega else hx j hj hk (by omega)⟩ (by first | (dsimp only; omega) | omega))
 conv => cbv
 have e : true = rsameInts a b := (by unfold rsameInts; symm; rw [decide_eq_true_eq]; exact List.ext_getElem (by omega) fun j p q => hx j p q (by omega))
 rw [hr] at e
 subst e
 exact hQ _ _ (.b rfl rfl)
theorem FlsameAct {akin : Int} {atex : ByteArray} {an : Int} {akee : List Int} {xakee : List (List D)} {bkin : Int} {btex : ByteArray} {bn : Int} {bkee : List Int} {xbkee : List (List D)} {o : Bool} (hakee : akee.map cI = xakee) (hbkee : bkee.map cI = xbkee) (hl : akee.length ≤ 1000000000) (hr : rsameAct (⟨akin, atex, an, akee⟩ : TAct) (⟨bkin, btex, bn, bkee⟩ : TAct) = o)  : Fn Tryz.prog 12 [.agg [I akin, S atex, I an, .d (.row 1 xakee)], .agg [I bkin, S btex, I bn, .d (.row 1 xbkee)]] [] ⟨B o, [], []⟩ := by
 refine Fn.go su_lLinesBack Tryz.func12 fun P hP Q hQ => ?_
 conv => cbv
 refine .eql (fun h1 => ?_) fun h1 => ?_
 conv => cbv
 refine .eql (fun h2 => ?_) fun h2 => ?_
 conv => cbv
 refine .eql (fun h3 => ?_) fun h3 => ?_
 conv => cbv
 generalize hr4 : rsameInts akee bkee = r4
 refine .dd hP (FlsameInts hakee hbkee hl hr4) ?_
 cases r4
 conv => cbv
 have e : false = rsameAct (⟨akin, atex, an, akee⟩ : TAct) (⟨bkin, btex, bn, bkee⟩ : TAct) := (by unfold rsameAct; symm; rw [decide_eq_false_iff_not]; intro e; dsimp only at e; have := of_decide_eq_false hr4; exact this e.2.2.2)
 rw [hr] at e
 subst e
 exact hQ _ _ (.b rfl rfl)
 conv => cbv
 have e : true = rsameAct (⟨akin, atex, an, akee⟩ : TAct) (⟨bkin, btex, bn, bkee⟩ : TAct) := (by unfold rsameAct; symm; rw [decide_eq_true_eq]; dsimp only; exact ⟨h1, h2, h3, of_decide_eq_true hr4⟩)
 rw [hr] at e
 subst e
 exact hQ _ _ (.b rfl rfl)
 conv => cbv
 have e : false = rsameAct (⟨akin, atex, an, akee⟩ : TAct) (⟨bkin, btex, bn, bkee⟩ : TAct) := (by unfold rsameAct; symm; rw [decide_eq_false_iff_not]; intro e; dsimp only at e; exact h3 e.2.2.1)
 rw [hr] at e
 subst e
 exact hQ _ _ (.b rfl rfl)
 conv => cbv
 have e : false = rsameAct (⟨akin, atex, an, akee⟩ : TAct) (⟨bkin, btex, bn, bkee⟩ : TAct) := (by unfold rsameAct; symm; rw [decide_eq_false_iff_not]; intro e; dsimp only at e; exact h2 e.2.1)
 rw [hr] at e
 subst e
 exact hQ _ _ (.b rfl rfl)
 conv => cbv
 have e : false = rsameAct (⟨akin, atex, an, akee⟩ : TAct) (⟨bkin, btex, bn, bkee⟩ : TAct) := (by unfold rsameAct; symm; rw [decide_eq_false_iff_not]; intro e; dsimp only at e; exact h1 e.1)
 rw [hr] at e
 subst e
 exact hQ _ _ (.b rfl rfl)
theorem FlFnLinesBack {code : List UInt8} {xcode : List (List D)} {o : Bool} (hcode : code.map cB = xcode) (hr : rFnLinesBack code = o)  : Fn Tryz.prog 3 [.d (.row 1 xcode)] [] ⟨B o, [], []⟩ := by
 refine Fn.go su_lLinesBack Tryz.func3 fun P hP Q hQ => ?_
 conv => cbv
 generalize hr1 : rbig code = r1
 refine .dd hP (Flbig hcode hr1) ?_
 cases r1
 conv => cbv
 have hcb : code.length ≤ 1048576 := by have := of_decide_eq_false hr1; omega
 rcases ha : rDrawActLine code with ⟨kn, tex, n, ks⟩
 have hab := rDraw_b ha (by omega)
 dsimp only at hab
 generalize hxf : (ks ++ tailB code 0 (rl01New code)).map cI = xf
 obtain ⟨nk, hnk⟩ : ∃ m, m = ks.length := ⟨_, rfl⟩
 refine .ddN hP (FsDrawActLine hcode (by omega) ha hxf hnk) rfl ?_
 conv => cbv
 generalize hr4 : rActLine (⟨kn, tex, n, ks⟩ : TAct) = r4
 have hrb := rActLine_bb hr4
 refine .lnt hP (FiActLine (akee := ks) rfl ⟨by omega, by omega⟩ hr4) (.agg (.d rfl (.d rfl (.d rfl (.sub rfl (by rw [← hxf, List.length_map, List.length_append]; omega) (by rw [← hxf, List.drop_zero, List.map_append, List.take_left' (by rw [List.length_map]; exact hnk.symm)]) .nil)))) .nil) ?_
 conv => cbv
 refine .litL 2 fun s4 hs4 zs4 => ?_
 conv => cbv
 refine .litR 1 fun s5 hs5 zs5 => ?_
 conv => cbv
 rcases hr6 : rReadAct s5 with ⟨⟨r6akin, r6atex, r6an, r6akee⟩, r6b⟩
 generalize hr6akee : r6akee.map cI = xr6akee
 refine .dd hP (FiReadAct hr6 hr6akee) ?_
 conv => cbv
 rcases hr7 : rDrawSetLine code with ⟨r7roo, r7ver, r7str, r7rol⟩
 refine .dd hP (FsDrawSetLine hcode (by omega) hr7) ?_
 conv => cbv
 generalize hr8 : rSetLine (⟨r7roo, r7ver, r7str, r7rol⟩ : TSetting) = r8
 refine .dd hP (FiSetLine hr8) ?_
 conv => cbv
 have hr8b := rSetLine_bb hr8
 refine .litL 1 fun s9 hs9 zs9 => ?_
 conv => cbv
 rcases hr10 : rReadSet s9 with ⟨⟨r10aroo, r10aver, r10astr, r10arol⟩, r10b⟩
 refine .dd hP (FiReadSet hr10) ?_
 conv => cbv
 refine .lnt hP (FsActLine (akee := ks) rfl ⟨by omega, by omega⟩ hr4) (.agg (.d rfl (.d rfl (.d rfl (.sub rfl (by rw [← hxf, List.length_map, List.length_append]; omega) (by rw [← hxf, List.drop_zero, List.map_append, List.take_left' (by rw [List.length_map]; exact hnk.symm)]) .nil)))) .nil) ?_
 conv => cbv
 have hA := lb_act hr4 (by rw [hs5, hs4]; rfl) hr6
 have hB := lb_set hr8 (by rw [hs9]; rfl) hr10
 clear hr6 hr8 hr10 ha hrb hr8b zs4 zs5 zs9
 refine .eql (fun h12 => ?_) fun h12 => ?_
 conv => cbv
 refine .neq (fun h13 => ?_) fun h13 => ?_
 conv => cbv
 refine .eql (fun h14 => ?_) fun h14 => ?_
 conv => cbv
 cases r6b
 conv => cbv
 generalize hr15 : rSettingOk (⟨r7roo, r7ver, r7str, r7rol⟩ : TSetting) = r15
 refine .dd hP (FsSettingOk hr15) ?_
 cases r15
 conv => cbv
 refine .eql (fun h16 => ?_) fun h16 => ?_
 conv => cbv
 cases r10b
 conv => cbv
 refine .lnt hP (FiActLine (akee := []) rfl ⟨by decide, by decide⟩ lb_roll) (.agg (.d rfl (.d rfl (.d rfl (.ref rfl rfl .nil)))) .nil) ?_
 conv => cbv
 refine .eql (fun h18 => ?_) fun h18 => ?_
 conv => cbv
 have e : true = rFnLinesBack code := (by first | rfl | exact absurd rfl (by assumption) | exact absurd (hA.1.2 (by assumption)) (by assumption) | exact absurd (hB.1.trans (by assumption)) (by assumption) | exact Bool.noConfusion (show false = true by assumption) | exact Bool.noConfusion (show true = false by assumption) | exact absurd (show r4 = tx [] by assumption) (hA.1.1 rfl) | (have hq := hB.2 rfl; simp only [TSetting.mk.injEq] at hq; exact absurd hq (by assumption)) | exact absurd (show r4 = tx [] by assumption) (hA.1.1 (by cases r6b; exact absurd rfl (by assumption); rfl)))
 rw [hr] at e
 subst e
 exact hQ _ _ (.b rfl rfl)
 conv => cbv
 have e : false = rFnLinesBack code := (by first | rfl | exact absurd rfl (by assumption) | exact absurd (hA.1.2 (by assumption)) (by assumption) | exact absurd (hB.1.trans (by assumption)) (by assumption) | exact Bool.noConfusion (show false = true by assumption) | exact Bool.noConfusion (show true = false by assumption) | exact absurd (show r4 = tx [] by assumption) (hA.1.1 rfl) | (have hq := hB.2 rfl; simp only [TSetting.mk.injEq] at hq; exact absurd hq (by assumption)) | exact absurd (show r4 = tx [] by assumption) (hA.1.1 (by cases r6b; exact absurd rfl (by assumption); rfl)))
 rw [hr] at e
 subst e
 exact hQ _ _ (.b rfl rfl)
 conv => cbv
 refine .eIIII (fun h17 => ?_) fun h17 => ?_
 conv => cbv
 refine .lnt hP (FiActLine (akee := []) rfl ⟨by decide, by decide⟩ lb_roll) (.agg (.d rfl (.d rfl (.d rfl (.ref rfl rfl .nil)))) .nil) ?_
 conv => cbv
 refine .eql (fun h19 => ?_) fun h19 => ?_
 conv => cbv
 have e : true = rFnLinesBack code := (by first | rfl | exact absurd rfl (by assumption) | exact absurd (hA.1.2 (by assumption)) (by assumption) | exact absurd (hB.1.trans (by assumption)) (by assumption) | exact Bool.noConfusion (show false = true by assumption) | exact Bool.noConfusion (show true = false by assumption) | exact absurd (show r4 = tx [] by assumption) (hA.1.1 rfl) | (have hq := hB.2 rfl; simp only [TSetting.mk.injEq] at hq; exact absurd hq (by assumption)) | exact absurd (show r4 = tx [] by assumption) (hA.1.1 (by cases r6b; exact absurd rfl (by assumption); rfl)))
 rw [hr] at e
 subst e
 exact hQ _ _ (.b rfl rfl)
 conv => cbv
 have e : false = rFnLinesBack code := (by first | rfl | exact absurd rfl (by assumption) | exact absurd (hA.1.2 (by assumption)) (by assumption) | exact absurd (hB.1.trans (by assumption)) (by assumption) | exact Bool.noConfusion (show false = true by assumption) | exact Bool.noConfusion (show true = false by assumption) | exact absurd (show r4 = tx [] by assumption) (hA.1.1 rfl) | (have hq := hB.2 rfl; simp only [TSetting.mk.injEq] at hq; exact absurd hq (by assumption)) | exact absurd (show r4 = tx [] by assumption) (hA.1.1 (by cases r6b; exact absurd rfl (by assumption); rfl)))
 rw [hr] at e
 subst e
 exact hQ _ _ (.b rfl rfl)
 conv => cbv
 have e : false = rFnLinesBack code := (by first | rfl | exact absurd rfl (by assumption) | exact absurd (hA.1.2 (by assumption)) (by assumption) | exact absurd (hB.1.trans (by assumption)) (by assumption) | exact Bool.noConfusion (show false = true by assumption) | exact Bool.noConfusion (show true = false by assumption) | exact absurd (show r4 = tx [] by assumption) (hA.1.1 rfl) | (have hq := hB.2 rfl; simp only [TSetting.mk.injEq] at hq; exact absurd hq (by assumption)) | exact absurd (show r4 = tx [] by assumption) (hA.1.1 (by cases r6b; exact absurd rfl (by assumption); rfl)))
 rw [hr] at e
 subst e
 exact hQ _ _ (.b rfl rfl)
 conv => cbv
 have e : false = rFnLinesBack code := (by first | rfl | exact absurd rfl (by assumption) | exact absurd (hA.1.2 (by assumption)) (by assumption) | exact absurd (hB.1.trans (by assumption)) (by assumption) | exact Bool.noConfusion (show false = true by assumption) | exact Bool.noConfusion (show true = false by assumption) | exact absurd (show r4 = tx [] by assumption) (hA.1.1 rfl) | (have hq := hB.2 rfl; simp only [TSetting.mk.injEq] at hq; exact absurd hq (by assumption)) | exact absurd (show r4 = tx [] by assumption) (hA.1.1 (by cases r6b; exact absurd rfl (by assumption); rfl)))
 rw [hr] at e
 subst e
 exact hQ _ _ (.b rfl rfl)
 conv => cbv
 refine .eql (fun h16 => ?_) fun h16 => ?_
 conv => cbv
 cases r10b
 conv => cbv
 refine .lnt hP (FiActLine (akee := []) rfl ⟨by decide, by decide⟩ lb_roll) (.agg (.d rfl (.d rfl (.d rfl (.ref rfl rfl .nil)))) .nil) ?_
 conv => cbv
 refine .eql (fun h18 => ?_) fun h18 => ?_
 conv => cbv
 have e : true = rFnLinesBack code := (by first | rfl | exact absurd rfl (by assumption) | exact absurd (hA.1.2 (by assumption)) (by assumption) | exact absurd (hB.1.trans (by assumption)) (by assumption) | exact Bool.noConfusion (show false = true by assumption) | exact Bool.noConfusion (show true = false by assumption) | exact absurd (show r4 = tx [] by assumption) (hA.1.1 rfl) | (have hq := hB.2 rfl; simp only [TSetting.mk.injEq] at hq; exact absurd hq (by assumption)) | exact absurd (show r4 = tx [] by assumption) (hA.1.1 (by cases r6b; exact absurd rfl (by assumption); rfl)))
 rw [hr] at e
 subst e
 exact hQ _ _ (.b rfl rfl)
 conv => cbv
 have e : false = rFnLinesBack code := (by first | rfl | exact absurd rfl (by assumption) | exact absurd (hA.1.2 (by assumption)) (by assumption) | exact absurd (hB.1.trans (by assumption)) (by assumption) | exact Bool.noConfusion (show false = true by assumption) | exact Bool.noConfusion (show true = false by assumption) | exact absurd (show r4 = tx [] by assumption) (hA.1.1 rfl) | (have hq := hB.2 rfl; simp only [TSetting.mk.injEq] at hq; exact absurd hq (by assumption)) | exact absurd (show r4 = tx [] by assumption) (hA.1.1 (by cases r6b; exact absurd rfl (by assumption); rfl)))
 rw [hr] at e
 subst e
 exact hQ _ _ (.b rfl rfl)
 conv => cbv
 refine .eIIII (fun h17 => ?_) fun h17 => ?_
 conv => cbv
 refine .lnt hP (FiActLine (akee := []) rfl ⟨by decide, by decide⟩ lb_roll) (.agg (.d rfl (.d rfl (.d rfl (.ref rfl rfl .nil)))) .nil) ?_
 conv => cbv
 refine .eql (fun h19 => ?_) fun h19 => ?_
 conv => cbv
 have e : true = rFnLinesBack code := (by first | rfl | exact absurd rfl (by assumption) | exact absurd (hA.1.2 (by assumption)) (by assumption) | exact absurd (hB.1.trans (by assumption)) (by assumption) | exact Bool.noConfusion (show false = true by assumption) | exact Bool.noConfusion (show true = false by assumption) | exact absurd (show r4 = tx [] by assumption) (hA.1.1 rfl) | (have hq := hB.2 rfl; simp only [TSetting.mk.injEq] at hq; exact absurd hq (by assumption)) | exact absurd (show r4 = tx [] by assumption) (hA.1.1 (by cases r6b; exact absurd rfl (by assumption); rfl)))
 rw [hr] at e
 subst e
 exact hQ _ _ (.b rfl rfl)
 conv => cbv
 have e : false = rFnLinesBack code := (by first | rfl | exact absurd rfl (by assumption) | exact absurd (hA.1.2 (by assumption)) (by assumption) | exact absurd (hB.1.trans (by assumption)) (by assumption) | exact Bool.noConfusion (show false = true by assumption) | exact Bool.noConfusion (show true = false by assumption) | exact absurd (show r4 = tx [] by assumption) (hA.1.1 rfl) | (have hq := hB.2 rfl; simp only [TSetting.mk.injEq] at hq; exact absurd hq (by assumption)) | exact absurd (show r4 = tx [] by assumption) (hA.1.1 (by cases r6b; exact absurd rfl (by assumption); rfl)))
 rw [hr] at e
 subst e
 exact hQ _ _ (.b rfl rfl)
 conv => cbv
 have e : false = rFnLinesBack code := (by first | rfl | exact absurd rfl (by assumption) | exact absurd (hA.1.2 (by assumption)) (by assumption) | exact absurd (hB.1.trans (by assumption)) (by assumption) | exact Bool.noConfusion (show false = true by assumption) | exact Bool.noConfusion (show true = false by assumption) | exact absurd (show r4 = tx [] by assumption) (hA.1.1 rfl) | (have hq := hB.2 rfl; simp only [TSetting.mk.injEq] at hq; exact absurd hq (by assumption)) | exact absurd (show r4 = tx [] by assumption) (hA.1.1 (by cases r6b; exact absurd rfl (by assumption); rfl)))
 rw [hr] at e
 subst e
 exact hQ _ _ (.b rfl rfl)
 conv => cbv
 have e : false = rFnLinesBack code := (by first | rfl | exact absurd rfl (by assumption) | exact absurd (hA.1.2 (by assumption)) (by assumption) | exact absurd (hB.1.trans (by assumption)) (by assumption) | exact Bool.noConfusion (show false = true by assumption) | exact Bool.noConfusion (show true = false by assumption) | exact absurd (show r4 = tx [] by assumption) (hA.1.1 rfl) | (have hq := hB.2 rfl; simp only [TSetting.mk.injEq] at hq; exact absurd hq (by assumption)) | exact absurd (show r4 = tx [] by assumption) (hA.1.1 (by cases r6b; exact absurd rfl (by assumption); rfl)))
 rw [hr] at e
 subst e
 exact hQ _ _ (.b rfl rfl)
 conv => cbv
 have hkl := congrArg (fun a => a.keeps_.length) (hA.2 rfl)
 dsimp only at hkl
 refine .lnt hP (FlsameAct (bkee := ks) hr6akee rfl (by omega) (rsame_of (hA.2 rfl))) (.agg (.d rfl (.d rfl (.d rfl (.d rfl .nil)))) (.agg (.d rfl (.d rfl (.d rfl (.sub rfl (by rw [← hxf, List.length_map, List.length_append]; omega) (by rw [← hxf, List.drop_zero, List.map_append, List.take_left' (by rw [List.length_map]; exact hnk.symm)]) .nil)))) .nil)) ?_
 conv => cbv
 generalize hr16 : rSettingOk (⟨r7roo, r7ver, r7str, r7rol⟩ : TSetting) = r16
 refine .dd hP (FsSettingOk hr16) ?_
 cases r16
 conv => cbv
 refine .eql (fun h17 => ?_) fun h17 => ?_
 conv => cbv
 cases r10b
 conv => cbv
 refine .lnt hP (FiActLine (akee := []) rfl ⟨by decide, by decide⟩ lb_roll) (.agg (.d rfl (.d rfl (.d rfl (.ref rfl rfl .nil)))) .nil) ?_
 conv => cbv
 refine .eql (fun h19 => ?_) fun h19 => ?_
 conv => cbv
 have e : true = rFnLinesBack code := (by first | rfl | exact absurd rfl (by assumption) | exact absurd (hA.1.2 (by assumption)) (by assumption) | exact absurd (hB.1.trans (by assumption)) (by assumption) | exact Bool.noConfusion (show false = true by assumption) | exact Bool.noConfusion (show true = false by assumption) | exact absurd (show r4 = tx [] by assumption) (hA.1.1 rfl) | (have hq := hB.2 rfl; simp only [TSetting.mk.injEq] at hq; exact absurd hq (by assumption)) | exact absurd (show r4 = tx [] by assumption) (hA.1.1 (by cases r6b; exact absurd rfl (by assumption); rfl)))
 rw [hr] at e
 subst e
 exact hQ _ _ (.b rfl rfl)
 conv => cbv
 have e : false = rFnLinesBack code := (by first | rfl | exact absurd rfl (by assumption) | exact absurd (hA.1.2 (by assumption)) (by assumption) | exact absurd (hB.1.trans (by assumption)) (by assumption) | exact Bool.noConfusion (show false = true by assumption) | exact Bool.noConfusion (show true = false by assumption) | exact absurd (show r4 = tx [] by assumption) (hA.1.1 rfl) | (have hq := hB.2 rfl; simp only [TSetting.mk.injEq] at hq; exact absurd hq (by assumption)) | exact absurd (show r4 = tx [] by assumption) (hA.1.1 (by cases r6b; exact absurd rfl (by assumption); rfl)))
 rw [hr] at e
 subst e
 exact hQ _ _ (.b rfl rfl)
 conv => cbv
 refine .eIIII (fun h18 => ?_) fun h18 => ?_
 conv => cbv
 refine .lnt hP (FiActLine (akee := []) rfl ⟨by decide, by decide⟩ lb_roll) (.agg (.d rfl (.d rfl (.d rfl (.ref rfl rfl .nil)))) .nil) ?_
 conv => cbv
 refine .eql (fun h20 => ?_) fun h20 => ?_
 conv => cbv
 have e : true = rFnLinesBack code := (by first | rfl | exact absurd rfl (by assumption) | exact absurd (hA.1.2 (by assumption)) (by assumption) | exact absurd (hB.1.trans (by assumption)) (by assumption) | exact Bool.noConfusion (show false = true by assumption) | exact Bool.noConfusion (show true = false by assumption) | exact absurd (show r4 = tx [] by assumption) (hA.1.1 rfl) | (have hq := hB.2 rfl; simp only [TSetting.mk.injEq] at hq; exact absurd hq (by assumption)) | exact absurd (show r4 = tx [] by assumption) (hA.1.1 (by cases r6b; exact absurd rfl (by assumption); rfl)))
 rw [hr] at e
 subst e
 exact hQ _ _ (.b rfl rfl)
 conv => cbv
 have e : false = rFnLinesBack code := (by first | rfl | exact absurd rfl (by assumption) | exact absurd (hA.1.2 (by assumption)) (by assumption) | exact absurd (hB.1.trans (by assumption)) (by assumption) | exact Bool.noConfusion (show false = true by assumption) | exact Bool.noConfusion (show true = false by assumption) | exact absurd (show r4 = tx [] by assumption) (hA.1.1 rfl) | (have hq := hB.2 rfl; simp only [TSetting.mk.injEq] at hq; exact absurd hq (by assumption)) | exact absurd (show r4 = tx [] by assumption) (hA.1.1 (by cases r6b; exact absurd rfl (by assumption); rfl)))
 rw [hr] at e
 subst e
 exact hQ _ _ (.b rfl rfl)
 conv => cbv
 have e : false = rFnLinesBack code := (by first | rfl | exact absurd rfl (by assumption) | exact absurd (hA.1.2 (by assumption)) (by assumption) | exact absurd (hB.1.trans (by assumption)) (by assumption) | exact Bool.noConfusion (show false = true by assumption) | exact Bool.noConfusion (show true = false by assumption) | exact absurd (show r4 = tx [] by assumption) (hA.1.1 rfl) | (have hq := hB.2 rfl; simp only [TSetting.mk.injEq] at hq; exact absurd hq (by assumption)) | exact absurd (show r4 = tx [] by assumption) (hA.1.1 (by cases r6b; exact absurd rfl (by assumption); rfl)))
 rw [hr] at e
 subst e
 exact hQ _ _ (.b rfl rfl)
 conv => cbv
 have e : false = rFnLinesBack code := (by first | rfl | exact absurd rfl (by assumption) | exact absurd (hA.1.2 (by assumption)) (by assumption) | exact absurd (hB.1.trans (by assumption)) (by assumption) | exact Bool.noConfusion (show false = true by assumption) | exact Bool.noConfusion (show true = false by assumption) | exact absurd (show r4 = tx [] by assumption) (hA.1.1 rfl) | (have hq := hB.2 rfl; simp only [TSetting.mk.injEq] at hq; exact absurd hq (by assumption)) | exact absurd (show r4 = tx [] by assumption) (hA.1.1 (by cases r6b; exact absurd rfl (by assumption); rfl)))
 rw [hr] at e
 subst e
 exact hQ _ _ (.b rfl rfl)
 conv => cbv
 refine .eql (fun h17 => ?_) fun h17 => ?_
 conv => cbv
 cases r10b
 conv => cbv
 refine .lnt hP (FiActLine (akee := []) rfl ⟨by decide, by decide⟩ lb_roll) (.agg (.d rfl (.d rfl (.d rfl (.ref rfl rfl .nil)))) .nil) ?_
 conv => cbv
 refine .eql (fun h19 => ?_) fun h19 => ?_
 conv => cbv
 have e : true = rFnLinesBack code := (by first | rfl | exact absurd rfl (by assumption) | exact absurd (hA.1.2 (by assumption)) (by assumption) | exact absurd (hB.1.trans (by assumption)) (by assumption) | exact Bool.noConfusion (show false = true by assumption) | exact Bool.noConfusion (show true = false by assumption) | exact absurd (show r4 = tx [] by assumption) (hA.1.1 rfl) | (have hq := hB.2 rfl; simp only [TSetting.mk.injEq] at hq; exact absurd hq (by assumption)) | exact absurd (show r4 = tx [] by assumption) (hA.1.1 (by cases r6b; exact absurd rfl (by assumption); rfl)))
 rw [hr] at e
 subst e
 exact hQ _ _ (.b rfl rfl)
 conv => cbv
 have e : false = rFnLinesBack code := (by first | rfl | exact absurd rfl (by assumption) | exact absurd (hA.1.2 (by assumption)) (by assumption) | exact absurd (hB.1.trans (by assumption)) (by assumption) | exact Bool.noConfusion (show false = true by assumption) | exact Bool.noConfusion (show true = false by assumption) | exact absurd (show r4 = tx [] by assumption) (hA.1.1 rfl) | (have hq := hB.2 rfl; simp only [TSetting.mk.injEq] at hq; exact absurd hq (by assumption)) | exact absurd (show r4 = tx [] by assumption) (hA.1.1 (by cases r6b; exact absurd rfl (by assumption); rfl)))
 rw [hr] at e
 subst e
 exact hQ _ _ (.b rfl rfl)
 conv => cbv
 refine .eIIII (fun h18 => ?_) fun h18 => ?_
 conv => cbv
 refine .lnt hP (FiActLine (akee := []) rfl ⟨by decide, by decide⟩ lb_roll) (.agg (.d rfl (.d rfl (.d rfl (.ref rfl rfl .nil)))) .nil) ?_
 conv => cbv
 refine .eql (fun h20 => ?_) fun h20 => ?_
 conv => cbv
 have e : true = rFnLinesBack code := (by first | rfl | exact absurd rfl (by assumption) | exact absurd (hA.1.2 (by assumption)) (by assumption) | exact absurd (hB.1.trans (by assumption)) (by assumption) | exact Bool.noConfusion (show false = true by assumption) | exact Bool.noConfusion (show true = false by assumption) | exact absurd (show r4 = tx [] by assumption) (hA.1.1 rfl) | (have hq := hB.2 rfl; simp only [TSetting.mk.injEq] at hq; exact absurd hq (by assumption)) | exact absurd (show r4 = tx [] by assumption) (hA.1.1 (by cases r6b; exact absurd rfl (by assumption); rfl)))
 rw [hr] at e
 subst e
 exact hQ _ _ (.b rfl rfl)
 conv => cbv
 have e : false = rFnLinesBack code := (by first | rfl | exact absurd rfl (by assumption) | exact absurd (hA.1.2 (by assumption)) (by assumption) | exact absurd (hB.1.trans (by assumption)) (by assumption) | exact Bool.noConfusion (show false = true by assumption) | exact Bool.noConfusion (show true = false by assumption) | exact absurd (show r4 = tx [] by assumption) (hA.1.1 rfl) | (have hq := hB.2 rfl; simp only [TSetting.mk.injEq] at hq; exact absurd hq (by assumption)) | exact absurd (show r4 = tx [] by assumption) (hA.1.1 (by cases r6b; exact absurd rfl (by assumption); rfl)))
 rw [hr] at e
 subst e
 exact hQ _ _ (.b rfl rfl)
 conv => cbv
 have e : false = rFnLinesBack code := (by first | rfl | exact absurd rfl (by assumption) | exact absurd (hA.1.2 (by assumption)) (by assumption) | exact absurd (hB.1.trans (by assumption)) (by assumption) | exact Bool.noConfusion (show false = true by assumption) | exact Bool.noConfusion (show true = false by assumption) | exact absurd (show r4 = tx [] by assumption) (hA.1.1 rfl) | (have hq := hB.2 rfl; simp only [TSetting.mk.injEq] at hq; exact absurd hq (by assumption)) | exact absurd (show r4 = tx [] by assumption) (hA.1.1 (by cases r6b; exact absurd rfl (by assumption); rfl)))
 rw [hr] at e
 subst e
 exact hQ _ _ (.b rfl rfl)
 conv => cbv
 have e : false = rFnLinesBack code := (by first | rfl | exact absurd rfl (by assumption) | exact absurd (hA.1.2 (by assumption)) (by assumption) | exact absurd (hB.1.trans (by assumption)) (by assumption) | exact Bool.noConfusion (show false = true by assumption) | exact Bool.noConfusion (show true = false by assumption) | exact absurd (show r4 = tx [] by assumption) (hA.1.1 rfl) | (have hq := hB.2 rfl; simp only [TSetting.mk.injEq] at hq; exact absurd hq (by assumption)) | exact absurd (show r4 = tx [] by assumption) (hA.1.1 (by cases r6b; exact absurd rfl (by assumption); rfl)))
 rw [hr] at e
 subst e
 exact hQ _ _ (.b rfl rfl)
 conv => cbv
 have e : false = rFnLinesBack code := (by first | rfl | exact absurd rfl (by assumption) | exact absurd (hA.1.2 (by assumption)) (by assumption) | exact absurd (hB.1.trans (by assumption)) (by assumption) | exact Bool.noConfusion (show false = true by assumption) | exact Bool.noConfusion (show true = false by assumption) | exact absurd (show r4 = tx [] by assumption) (hA.1.1 rfl) | (have hq := hB.2 rfl; simp only [TSetting.mk.injEq] at hq; exact absurd hq (by assumption)) | exact absurd (show r4 = tx [] by assumption) (hA.1.1 (by cases r6b; exact absurd rfl (by assumption); rfl)))
 rw [hr] at e
 subst e
 exact hQ _ _ (.b rfl rfl)
 conv => cbv
 refine .eql (fun h14 => ?_) fun h14 => ?_
 conv => cbv
 cases r6b
 conv => cbv
 generalize hr15 : rSettingOk (⟨r7roo, r7ver, r7str, r7rol⟩ : TSetting) = r15
 refine .dd hP (FsSettingOk hr15) ?_
 cases r15
 conv => cbv
 refine .eql (fun h16 => ?_) fun h16 => ?_
 conv => cbv
 cases r10b
 conv => cbv
 refine .lnt hP (FiActLine (akee := []) rfl ⟨by decide, by decide⟩ lb_roll) (.agg (.d rfl (.d rfl (.d rfl (.ref rfl rfl .nil)))) .nil) ?_
 conv => cbv
 refine .eql (fun h18 => ?_) fun h18 => ?_
 conv => cbv
 have e : true = rFnLinesBack code := (by first | rfl | exact absurd rfl (by assumption) | exact absurd (hA.1.2 (by assumption)) (by assumption) | exact absurd (hB.1.trans (by assumption)) (by assumption) | exact Bool.noConfusion (show false = true by assumption) | exact Bool.noConfusion (show true = false by assumption) | exact absurd (show r4 = tx [] by assumption) (hA.1.1 rfl) | (have hq := hB.2 rfl; simp only [TSetting.mk.injEq] at hq; exact absurd hq (by assumption)) | exact absurd (show r4 = tx [] by assumption) (hA.1.1 (by cases r6b; exact absurd rfl (by assumption); rfl)))
 rw [hr] at e
 subst e
 exact hQ _ _ (.b rfl rfl)
 conv => cbv
 have e : false = rFnLinesBack code := (by first | rfl | exact absurd rfl (by assumption) | exact absurd (hA.1.2 (by assumption)) (by assumption) | exact absurd (hB.1.trans (by assumption)) (by assumption) | exact Bool.noConfusion (show false = true by assumption) | exact Bool.noConfusion (show true = false by assumption) | exact absurd (show r4 = tx [] by assumption) (hA.1.1 rfl) | (have hq := hB.2 rfl; simp only [TSetting.mk.injEq] at hq; exact absurd hq (by assumption)) | exact absurd (show r4 = tx [] by assumption) (hA.1.1 (by cases r6b; exact absurd rfl (by assumption); rfl)))
 rw [hr] at e
 subst e
 exact hQ _ _ (.b rfl rfl)
 conv => cbv
 refine .eIIII (fun h17 => ?_) fun h17 => ?_
 conv => cbv
 refine .lnt hP (FiActLine (akee := []) rfl ⟨by decide, by decide⟩ lb_roll) (.agg (.d rfl (.d rfl (.d rfl (.ref rfl rfl .nil)))) .nil) ?_
 conv => cbv
 refine .eql (fun h19 => ?_) fun h19 => ?_
 conv => cbv
 have e : true = rFnLinesBack code := (by first | rfl | exact absurd rfl (by assumption) | exact absurd (hA.1.2 (by assumption)) (by assumption) | exact absurd (hB.1.trans (by assumption)) (by assumption) | exact Bool.noConfusion (show false = true by assumption) | exact Bool.noConfusion (show true = false by assumption) | exact absurd (show r4 = tx [] by assumption) (hA.1.1 rfl) | (have hq := hB.2 rfl; simp only [TSetting.mk.injEq] at hq; exact absurd hq (by assumption)) | exact absurd (show r4 = tx [] by assumption) (hA.1.1 (by cases r6b; exact absurd rfl (by assumption); rfl)))
 rw [hr] at e
 subst e
 exact hQ _ _ (.b rfl rfl)
 conv => cbv
 have e : false = rFnLinesBack code := (by first | rfl | exact absurd rfl (by assumption) | exact absurd (hA.1.2 (by assumption)) (by assumption) | exact absurd (hB.1.trans (by assumption)) (by assumption) | exact Bool.noConfusion (show false = true by assumption) | exact Bool.noConfusion (show true = false by assumption) | exact absurd (show r4 = tx [] by assumption) (hA.1.1 rfl) | (have hq := hB.2 rfl; simp only [TSetting.mk.injEq] at hq; exact absurd hq (by assumption)) | exact absurd (show r4 = tx [] by assumption) (hA.1.1 (by cases r6b; exact absurd rfl (by assumption); rfl)))
 rw [hr] at e
 subst e
 exact hQ _ _ (.b rfl rfl)
 conv => cbv
 have e : false = rFnLinesBack code := (by first | rfl | exact absurd rfl (by assumption) | exact absurd (hA.1.2 (by assumption)) (by assumption) | exact absurd (hB.1.trans (by assumption)) (by assumption) | exact Bool.noConfusion (show false = true by assumption) | exact Bool.noConfusion (show true = false by assumption) | exact absurd (show r4 = tx [] by assumption) (hA.1.1 rfl) | (have hq := hB.2 rfl; simp only [TSetting.mk.injEq] at hq; exact absurd hq (by assumption)) | exact absurd (show r4 = tx [] by assumption) (hA.1.1 (by cases r6b; exact absurd rfl (by assumption); rfl)))
 rw [hr] at e
 subst e
 exact hQ _ _ (.b rfl rfl)
 conv => cbv
 have e : false = rFnLinesBack code := (by first | rfl | exact absurd rfl (by assumption) | exact absurd (hA.1.2 (by assumption)) (by assumption) | exact absurd (hB.1.trans (by assumption)) (by assumption) | exact Bool.noConfusion (show false = true by assumption) | exact Bool.noConfusion (show true = false by assumption) | exact absurd (show r4 = tx [] by assumption) (hA.1.1 rfl) | (have hq := hB.2 rfl; simp only [TSetting.mk.injEq] at hq; exact absurd hq (by assumption)) | exact absurd (show r4 = tx [] by assumption) (hA.1.1 (by cases r6b; exact absurd rfl (by assumption); rfl)))
 rw [hr] at e
 subst e
 exact hQ _ _ (.b rfl rfl)
 conv => cbv
 refine .eql (fun h16 => ?_) fun h16 => ?_
 conv => cbv
 cases r10b
 conv => cbv
 refine .lnt hP (FiActLine (akee := []) rfl ⟨by decide, by decide⟩ lb_roll) (.agg (.d rfl (.d rfl (.d rfl (.ref rfl rfl .nil)))) .nil) ?_
 conv => cbv
 refine .eql (fun h18 => ?_) fun h18 => ?_
 conv => cbv
 have e : true = rFnLinesBack code := (by first | rfl | exact absurd rfl (by assumption) | exact absurd (hA.1.2 (by assumption)) (by assumption) | exact absurd (hB.1.trans (by assumption)) (by assumption) | exact Bool.noConfusion (show false = true by assumption) | exact Bool.noConfusion (show true = false by assumption) | exact absurd (show r4 = tx [] by assumption) (hA.1.1 rfl) | (have hq := hB.2 rfl; simp only [TSetting.mk.injEq] at hq; exact absurd hq (by assumption)) | exact absurd (show r4 = tx [] by assumption) (hA.1.1 (by cases r6b; exact absurd rfl (by assumption); rfl)))
 rw [hr] at e
 subst e
 exact hQ _ _ (.b rfl rfl)
 conv => cbv
 have e : false = rFnLinesBack code := (by first | rfl | exact absurd rfl (by assumption) | exact absurd (hA.1.2 (by assumption)) (by assumption) | exact absurd (hB.1.trans (by assumption)) (by assumption) | exact Bool.noConfusion (show false = true by assumption) | exact Bool.noConfusion (show true = false by assumption) | exact absurd (show r4 = tx [] by assumption) (hA.1.1 rfl) | (have hq := hB.2 rfl; simp only [TSetting.mk.injEq] at hq; exact absurd hq (by assumption)) | exact absurd (show r4 = tx [] by assumption) (hA.1.1 (by cases r6b; exact absurd rfl (by assumption); rfl)))
 rw [hr] at e
 subst e
 exact hQ _ _ (.b rfl rfl)
 conv => cbv
 refine .eIIII (fun h17 => ?_) fun h17 => ?_
 conv => cbv
 refine .lnt hP (FiActLine (akee := []) rfl ⟨by decide, by decide⟩ lb_roll) (.agg (.d rfl (.d rfl (.d rfl (.ref rfl rfl .nil)))) .nil) ?_
 conv => cbv
 refine .eql (fun h19 => ?_) fun h19 => ?_
 conv => cbv
 have e : true = rFnLinesBack code := (by first | rfl | exact absurd rfl (by assumption) | exact absurd (hA.1.2 (by assumption)) (by assumption) | exact absurd (hB.1.trans (by assumption)) (by assumption) | exact Bool.noConfusion (show false = true by assumption) | exact Bool.noConfusion (show true = false by assumption) | exact absurd (show r4 = tx [] by assumption) (hA.1.1 rfl) | (have hq := hB.2 rfl; simp only [TSetting.mk.injEq] at hq; exact absurd hq (by assumption)) | exact absurd (show r4 = tx [] by assumption) (hA.1.1 (by cases r6b; exact absurd rfl (by assumption); rfl)))
 rw [hr] at e
 subst e
 exact hQ _ _ (.b rfl rfl)
 conv => cbv
 have e : false = rFnLinesBack code := (by first | rfl | exact absurd rfl (by assumption) | exact absurd (hA.1.2 (by assumption)) (by assumption) | exact absurd (hB.1.trans (by assumption)) (by assumption) | exact Bool.noConfusion (show false = true by assumption) | exact Bool.noConfusion (show true = false by assumption) | exact absurd (show r4 = tx [] by assumption) (hA.1.1 rfl) | (have hq := hB.2 rfl; simp only [TSetting.mk.injEq] at hq; exact absurd hq (by assumption)) | exact absurd (show r4 = tx [] by assumption) (hA.1.1 (by cases r6b; exact absurd rfl (by assumption); rfl)))
 rw [hr] at e
 subst e
 exact hQ _ _ (.b rfl rfl)
 conv => cbv
 have e : false = rFnLinesBack code := (by first | rfl | exact absurd rfl (by assumption) | exact absurd (hA.1.2 (by assumption)) (by assumption) | exact absurd (hB.1.trans (by assumption)) (by assumption) | exact Bool.noConfusion (show false = true by assumption) | exact Bool.noConfusion (show true = false by assumption) | exact absurd (show r4 = tx [] by assumption) (hA.1.1 rfl) | (have hq := hB.2 rfl; simp only [TSetting.mk.injEq] at hq; exact absurd hq (by assumption)) | exact absurd (show r4 = tx [] by assumption) (hA.1.1 (by cases r6b; exact absurd rfl (by assumption); rfl)))
 rw [hr] at e
 subst e
 exact hQ _ _ (.b rfl rfl)
 conv => cbv
 have e : false = rFnLinesBack code := (by first | rfl | exact absurd rfl (by assumption) | exact absurd (hA.1.2 (by assumption)) (by assumption) | exact absurd (hB.1.trans (by assumption)) (by assumption) | exact Bool.noConfusion (show false = true by assumption) | exact Bool.noConfusion (show true = false by assumption) | exact absurd (show r4 = tx [] by assumption) (hA.1.1 rfl) | (have hq := hB.2 rfl; simp only [TSetting.mk.injEq] at hq; exact absurd hq (by assumption)) | exact absurd (show r4 = tx [] by assumption) (hA.1.1 (by cases r6b; exact absurd rfl (by assumption); rfl)))
 rw [hr] at e
 subst e
 exact hQ _ _ (.b rfl rfl)
 conv => cbv
 have hkl := congrArg (fun a => a.keeps_.length) (hA.2 rfl)
 dsimp only at hkl
 refine .lnt hP (FlsameAct (bkee := ks) hr6akee rfl (by omega) (rsame_of (hA.2 rfl))) (.agg (.d rfl (.d rfl (.d rfl (.d rfl .nil)))) (.agg (.d rfl (.d rfl (.d rfl (.sub rfl (by rw [← hxf, List.length_map, List.length_append]; omega) (by rw [← hxf, List.drop_zero, List.map_append, List.take_left' (by rw [List.length_map]; exact hnk.symm)]) .nil)))) .nil)) ?_
 conv => cbv
 generalize hr16 : rSettingOk (⟨r7roo, r7ver, r7str, r7rol⟩ : TSetting) = r16
 refine .dd hP (FsSettingOk hr16) ?_
 cases r16
 conv => cbv
 refine .eql (fun h17 => ?_) fun h17 => ?_
 conv => cbv
 cases r10b
 conv => cbv
 refine .lnt hP (FiActLine (akee := []) rfl ⟨by decide, by decide⟩ lb_roll) (.agg (.d rfl (.d rfl (.d rfl (.ref rfl rfl .nil)))) .nil) ?_
 conv => cbv
 refine .eql (fun h19 => ?_) fun h19 => ?_
 conv => cbv
 have e : true = rFnLinesBack code := (by first | rfl | exact absurd rfl (by assumption) | exact absurd (hA.1.2 (by assumption)) (by assumption) | exact absurd (hB.1.trans (by assumption)) (by assumption) | exact Bool.noConfusion (show false = true by assumption) | exact Bool.noConfusion (show true = false by assumption) | exact absurd (show r4 = tx [] by assumption) (hA.1.1 rfl) | (have hq := hB.2 rfl; simp only [TSetting.mk.injEq] at hq; exact absurd hq (by assumption)) | exact absurd (show r4 = tx [] by assumption) (hA.1.1 (by cases r6b; exact absurd rfl (by assumption); rfl)))
 rw [hr] at e
 subst e
 exact hQ _ _ (.b rfl rfl)
 conv => cbv
 have e : false = rFnLinesBack code := (by first | rfl | exact absurd rfl (by assumption) | exact absurd (hA.1.2 (by assumption)) (by assumption) | exact absurd (hB.1.trans (by assumption)) (by assumption) | exact Bool.noConfusion (show false = true by assumption) | exact Bool.noConfusion (show true = false by assumption) | exact absurd (show r4 = tx [] by assumption) (hA.1.1 rfl) | (have hq := hB.2 rfl; simp only [TSetting.mk.injEq] at hq; exact absurd hq (by assumption)) | exact absurd (show r4 = tx [] by assumption) (hA.1.1 (by cases r6b; exact absurd rfl (by assumption); rfl)))
 rw [hr] at e
 subst e
 exact hQ _ _ (.b rfl rfl)
 conv => cbv
 refine .eIIII (fun h18 => ?_) fun h18 => ?_
 conv => cbv
 refine .lnt hP (FiActLine (akee := []) rfl ⟨by decide, by decide⟩ lb_roll) (.agg (.d rfl (.d rfl (.d rfl (.ref rfl rfl .nil)))) .nil) ?_
 conv => cbv
 refine .eql (fun h20 => ?_) fun h20 => ?_
 conv => cbv
 have e : true = rFnLinesBack code := (by first | rfl | exact absurd rfl (by assumption) | exact absurd (hA.1.2 (by assumption)) (by assumption) | exact absurd (hB.1.trans (by assumption)) (by assumption) | exact Bool.noConfusion (show false = true by assumption) | exact Bool.noConfusion (show true = false by assumption) | exact absurd (show r4 = tx [] by assumption) (hA.1.1 rfl) | (have hq := hB.2 rfl; simp only [TSetting.mk.injEq] at hq; exact absurd hq (by assumption)) | exact absurd (show r4 = tx [] by assumption) (hA.1.1 (by cases r6b; exact absurd rfl (by assumption); rfl)))
 rw [hr] at e
 subst e
 exact hQ _ _ (.b rfl rfl)
 conv => cbv
 have e : false = rFnLinesBack code := (by first | rfl | exact absurd rfl (by assumption) | exact absurd (hA.1.2 (by assumption)) (by assumption) | exact absurd (hB.1.trans (by assumption)) (by assumption) | exact Bool.noConfusion (show false = true by assumption) | exact Bool.noConfusion (show true = false by assumption) | exact absurd (show r4 = tx [] by assumption) (hA.1.1 rfl) | (have hq := hB.2 rfl; simp only [TSetting.mk.injEq] at hq; exact absurd hq (by assumption)) | exact absurd (show r4 = tx [] by assumption) (hA.1.1 (by cases r6b; exact absurd rfl (by assumption); rfl)))
 rw [hr] at e
 subst e
 exact hQ _ _ (.b rfl rfl)
 conv => cbv
 have e : false = rFnLinesBack code := (by first | rfl | exact absurd rfl (by assumption) | exact absurd (hA.1.2 (by assumption)) (by assumption) | exact absurd (hB.1.trans (by assumption)) (by assumption) | exact Bool.noConfusion (show false = true by assumption) | exact Bool.noConfusion (show true = false by assumption) | exact absurd (show r4 = tx [] by assumption) (hA.1.1 rfl) | (have hq := hB.2 rfl; simp only [TSetting.mk.injEq] at hq; exact absurd hq (by assumption)) | exact absurd (show r4 = tx [] by assumption) (hA.1.1 (by cases r6b; exact absurd rfl (by assumption); rfl)))
 rw [hr] at e
 subst e
 exact hQ _ _ (.b rfl rfl)
 conv => cbv
 have e : false = rFnLinesBack code := (by first | rfl | exact absurd rfl (by assumption) | exact absurd (hA.1.2 (by assumption)) (by assumption) | exact absurd (hB.1.trans (by assumption)) (by assumption) | exact Bool.noConfusion (show false = true by assumption) | exact Bool.noConfusion (show true = false by assumption) | exact absurd (show r4 = tx [] by assumption) (hA.1.1 rfl) | (have hq := hB.2 rfl; simp only [TSetting.mk.injEq] at hq; exact absurd hq (by assumption)) | exact absurd (show r4 = tx [] by assumption) (hA.1.1 (by cases r6b; exact absurd rfl (by assumption); rfl)))
 rw [hr] at e
 subst e
 exact hQ _ _ (.b rfl rfl)
 conv => cbv
 refine .eql (fun h17 => ?_) fun h17 => ?_
 conv => cbv
 cases r10b
 conv => cbv
 refine .lnt hP (FiActLine (akee := []) rfl ⟨by decide, by decide⟩ lb_roll) (.agg (.d rfl (.d rfl (.d rfl (.ref rfl rfl .nil)))) .nil) ?_
 conv => cbv
 refine .eql (fun h19 => ?_) fun h19 => ?_
 conv => cbv
 have e : true = rFnLinesBack code := (by first | rfl | exact absurd rfl (by assumption) | exact absurd (hA.1.2 (by assumption)) (by assumption) | exact absurd (hB.1.trans (by assumption)) (by assumption) | exact Bool.noConfusion (show false = true by assumption) | exact Bool.noConfusion (show true = false by assumption) | exact absurd (show r4 = tx [] by assumption) (hA.1.1 rfl) | (have hq := hB.2 rfl; simp only [TSetting.mk.injEq] at hq; exact absurd hq (by assumption)) | exact absurd (show r4 = tx [] by assumption) (hA.1.1 (by cases r6b; exact absurd rfl (by assumption); rfl)))
 rw [hr] at e
 subst e
 exact hQ _ _ (.b rfl rfl)
 conv => cbv
 have e : false = rFnLinesBack code := (by first | rfl | exact absurd rfl (by assumption) | exact absurd (hA.1.2 (by assumption)) (by assumption) | exact absurd (hB.1.trans (by assumption)) (by assumption) | exact Bool.noConfusion (show false = true by assumption) | exact Bool.noConfusion (show true = false by assumption) | exact absurd (show r4 = tx [] by assumption) (hA.1.1 rfl) | (have hq := hB.2 rfl; simp only [TSetting.mk.injEq] at hq; exact absurd hq (by assumption)) | exact absurd (show r4 = tx [] by assumption) (hA.1.1 (by cases r6b; exact absurd rfl (by assumption); rfl)))
 rw [hr] at e
 subst e
 exact hQ _ _ (.b rfl rfl)
 conv => cbv
 refine .eIIII (fun h18 => ?_) fun h18 => ?_
 conv => cbv
 refine .lnt hP (FiActLine (akee := []) rfl ⟨by decide, by decide⟩ lb_roll) (.agg (.d rfl (.d rfl (.d rfl (.ref rfl rfl .nil)))) .nil) ?_
 conv => cbv
 refine .eql (fun h20 => ?_) fun h20 => ?_
 conv => cbv
 have e : true = rFnLinesBack code := (by first | rfl | exact absurd rfl (by assumption) | exact absurd (hA.1.2 (by assumption)) (by assumption) | exact absurd (hB.1.trans (by assumption)) (by assumption) | exact Bool.noConfusion (show false = true by assumption) | exact Bool.noConfusion (show true = false by assumption) | exact absurd (show r4 = tx [] by assumption) (hA.1.1 rfl) | (have hq := hB.2 rfl; simp only [TSetting.mk.injEq] at hq; exact absurd hq (by assumption)) | exact absurd (show r4 = tx [] by assumption) (hA.1.1 (by cases r6b; exact absurd rfl (by assumption); rfl)))
 rw [hr] at e
 subst e
 exact hQ _ _ (.b rfl rfl)
 conv => cbv
 have e : false = rFnLinesBack code := (by first | rfl | exact absurd rfl (by assumption) | exact absurd (hA.1.2 (by assumption)) (by assumption) | exact absurd (hB.1.trans (by assumption)) (by assumption) | exact Bool.noConfusion (show false = true by assumption) | exact Bool.noConfusion (show true = false by assumption) | exact absurd (show r4 = tx [] by assumption) (hA.1.1 rfl) | (have hq := hB.2 rfl; simp only [TSetting.mk.injEq] at hq; exact absurd hq (by assumption)) | exact absurd (show r4 = tx [] by assumption) (hA.1.1 (by cases r6b; exact absurd rfl (by assumption); rfl)))
 rw [hr] at e
 subst e
 exact hQ _ _ (.b rfl rfl)
 conv => cbv
 have e : false = rFnLinesBack code := (by first | rfl | exact absurd rfl (by assumption) | exact absurd (hA.1.2 (by assumption)) (by assumption) | exact absurd (hB.1.trans (by assumption)) (by assumption) | exact Bool.noConfusion (show false = true by assumption) | exact Bool.noConfusion (show true = false by assumption) | exact absurd (show r4 = tx [] by assumption) (hA.1.1 rfl) | (have hq := hB.2 rfl; simp only [TSetting.mk.injEq] at hq; exact absurd hq (by assumption)) | exact absurd (show r4 = tx [] by assumption) (hA.1.1 (by cases r6b; exact absurd rfl (by assumption); rfl)))
 rw [hr] at e
 subst e
 exact hQ _ _ (.b rfl rfl)
 conv => cbv
 have e : false = rFnLinesBack code := (by first | rfl | exact absurd rfl (by assumption) | exact absurd (hA.1.2 (by assumption)) (by assumption) | exact absurd (hB.1.trans (by assumption)) (by assumption) | exact Bool.noConfusion (show false = true by assumption) | exact Bool.noConfusion (show true = false by assumption) | exact absurd (show r4 = tx [] by assumption) (hA.1.1 rfl) | (have hq := hB.2 rfl; simp only [TSetting.mk.injEq] at hq; exact absurd hq (by assumption)) | exact absurd (show r4 = tx [] by assumption) (hA.1.1 (by cases r6b; exact absurd rfl (by assumption); rfl)))
 rw [hr] at e
 subst e
 exact hQ _ _ (.b rfl rfl)
 conv => cbv
 have e : false = rFnLinesBack code := (by first | rfl | exact absurd rfl (by assumption) | exact absurd (hA.1.2 (by assumption)) (by assumption) | exact absurd (hB.1.trans (by assumption)) (by assumption) | exact Bool.noConfusion (show false = true by assumption) | exact Bool.noConfusion (show true = false by assumption) | exact absurd (show r4 = tx [] by assumption) (hA.1.1 rfl) | (have hq := hB.2 rfl; simp only [TSetting.mk.injEq] at hq; exact absurd hq (by assumption)) | exact absurd (show r4 = tx [] by assumption) (hA.1.1 (by cases r6b; exact absurd rfl (by assumption); rfl)))
 rw [hr] at e
 subst e
 exact hQ _ _ (.b rfl rfl)
 conv => cbv
 have e : false = rFnLinesBack code := (by first | rfl | exact absurd rfl (by assumption) | exact absurd (hA.1.2 (by assumption)) (by assumption) | exact absurd (hB.1.trans (by assumption)) (by assumption) | exact Bool.noConfusion (show false = true by assumption) | exact Bool.noConfusion (show true = false by assumption) | exact absurd (show r4 = tx [] by assumption) (hA.1.1 rfl) | (have hq := hB.2 rfl; simp only [TSetting.mk.injEq] at hq; exact absurd hq (by assumption)) | exact absurd (show r4 = tx [] by assumption) (hA.1.1 (by cases r6b; exact absurd rfl (by assumption); rfl)))
 rw [hr] at e
 subst e
 exact hQ _ _ (.b rfl rfl)
 conv => cbv
 have e : true = rFnLinesBack code := (by first | rfl | exact absurd rfl (by assumption) | exact absurd (hA.1.2 (by assumption)) (by assumption) | exact absurd (hB.1.trans (by assumption)) (by assumption) | exact Bool.noConfusion (show false = true by assumption) | exact Bool.noConfusion (show true = false by assumption) | exact absurd (show r4 = tx [] by assumption) (hA.1.1 rfl) | (have hq := hB.2 rfl; simp only [TSetting.mk.injEq] at hq; exact absurd hq (by assumption)) | exact absurd (show r4 = tx [] by assumption) (hA.1.1 (by cases r6b; exact absurd rfl (by assumption); rfl)))
 rw [hr] at e
 subst e
 exact hQ _ _ (.b rfl rfl)
theorem T3 {code : List UInt8} {xcode : List (List D)} (hcode : code.map cB = xcode) (ok_code : code.length < 2 ^ 47) : CallOk Tryz.prog 3 [.d (.row 1 xcode)] [] ⟨.d (.sc (.bool true)), [], []⟩ := (FlFnLinesBack hcode rfl).ok
end Go.Proofs.YtmkpihcfglinjaaGreatDoor.Ab
