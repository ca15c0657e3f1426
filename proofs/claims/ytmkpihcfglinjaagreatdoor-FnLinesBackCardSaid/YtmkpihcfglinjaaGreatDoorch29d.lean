/- What functions of the program come to, for all arguments in the given bounds. -/
import Derived.Test.YtmkpihcfglinjaaGreatDoorch29c
import Derived.Test.YtmkpihcfglinjaaGreatDoorZ10
import Derived.Below
set_option linter.unusedVariables false
set_option linter.unusedSimpArgs false
namespace Go.Proofs.YtmkpihcfglinjaaGreatDoor.Ab
open Go Go.Proofs
set_option maxRecDepth 20000
set_option maxHeartbeats 4000000
set_option linter.unusedSimpArgs false
set_option linter.unusedVariables false
def tab_ch29d : List (Nat × TyRow) := [
  (3, ⟨.int .i64, some 1, some false, none, false, [.int .i64], [], some [(.int .i64 0, 0)], none, none, none⟩),
  (9, ⟨.str, some 1, some false, none, false, [.str], [], some [(.string default, 0)], none, none, none⟩),
  (24, ⟨.sl 1, some 1, some false, some (1, 8), false, [.sl 1], [], some [(.slice none 0 0, 1)], some ([.sc (.int .i64 0)], 1, 8), none, none⟩),
  (32, ⟨.other, some 4, some true, none, false, [.int .i64, .int .i64, .int .i64, .int .i64], [some (0, 1, false), some (1, 1, false), some (2, 1, false), some (3, 1, false)], some [(.int .i64 0, 0), (.int .i64 0, 0), (.int .i64 0, 0), (.int .i64 0, 0)], none, some [(0, 1), (1, 1), (2, 1), (3, 1)], some [.int, .int, .int, .int]⟩),
  (45, ⟨.sl 1, some 1, some false, some (1, 16), false, [.sl 1], [], some [(.slice none 0 0, 1)], some ([.sc (.string default)], 1, 16), none, none⟩)]
theorem tab_ch29d_ok : TabOk Tryz.prog tab_ch29d := TabOk.of (by kernel_rfl)
theorem su_ch29d : Setup Tryz.prog tab_ch29d := ⟨tab_ch29d_ok, mixed⟩
def joinL : List (List UInt8) → List UInt8
  | [] => []
  | [x] => x
  | x :: y :: l => x ++ 32 :: joinL (y :: l)
theorem joinL_cons {x : List UInt8} {l : List (List UInt8)} : joinL (x :: l) = x ++ if l = [] then [] else 32 :: joinL l := by
  cases l with
  | nil => simp [joinL]
  | cons y l => rw [if_neg (by simp)]; rfl
theorem joinL_eq : ∀ (l : List (List UInt8)), Lib.join l [32] = joinL l
  | [] => rfl
  | [x] => by simp [Lib.join, List.intercalate, joinL]
  | x :: y :: l => by
    have ih := joinL_eq (y :: l)
    unfold Lib.join List.intercalate at *
    rw [List.intersperse_cons_cons, List.flatten_cons, List.flatten_cons, ih]
    rfl
theorem joinL_len {n : Nat} : ∀ {l : List (List UInt8)}, (∀ x ∈ l, x.length ≤ n) → (joinL l).length ≤ l.length * (n + 1)
  | [], _ => by simp [joinL]
  | x :: l, h => by
    have ih := joinL_len (l := l) fun y hy => h y (by simp [hy])
    have hx := h x (by simp)
    rw [joinL_cons, List.length_append, List.length_cons, Nat.succ_mul]
    split
    · simp; omega
    · rw [List.length_cons]; omega
def free (x : List UInt8) : Prop := ∀ b ∈ x, b ≠ 32
theorem take_free {x r : List UInt8} (h : free x) (hr : r = [] ∨ ∃ q, r = 32 :: q) : (x ++ r).takeWhile (· != 32) = x ∧ (x ++ r).dropWhile (· != 32) = r := by
  induction x with
  | nil =>
    rcases hr with rfl | ⟨q, rfl⟩
    · exact ⟨rfl, rfl⟩
    · simp
  | cons b x ih =>
    have hb : (b != 32) = true := by simpa using h b (by simp)
    have := ih fun c hc => h c (by simp [hc])
    constructor <;> simp [List.takeWhile_cons, List.dropWhile_cons, hb, this.1, this.2]
theorem join_rest {l : List (List UInt8)} : (if l = [] then ([] : List UInt8) else 32 :: joinL l) = [] ∨ ∃ q, (if l = [] then ([] : List UInt8) else 32 :: joinL l) = 32 :: q := by
  split
  · exact .inl rfl
  · exact .inr ⟨_, rfl⟩
theorem joinL_inj : ∀ {xs ys : List (List UInt8)}, xs ≠ [] → ys ≠ [] → (∀ x ∈ xs, free x) → (∀ y ∈ ys, free y) → joinL xs = joinL ys → xs = ys
  | [], _, h, _, _, _, _ => absurd rfl h
  | _ :: _, [], _, h, _, _, _ => absurd rfl h
  | x :: xs, y :: ys, _, _, hx, hy, e => by
    rw [joinL_cons, joinL_cons] at e
    have h1 := take_free (hx x (by simp)) (join_rest (l := xs))
    have h2 := take_free (hy y (by simp)) (join_rest (l := ys))
    rw [e] at h1
    obtain rfl : x = y := h1.1.symm.trans h2.1
    have h3 := h1.2.symm.trans h2.2
    by_cases ex : xs = []
    · rw [if_pos ex] at h3
      split at h3
      · rename_i ey; rw [ex, ey]
      · cases h3
    · rw [if_neg ex] at h3
      split at h3
      · cases h3
      · rename_i ey
        rw [joinL_inj ex ey (fun q hq => hx q (by simp [hq])) (fun q hq => hy q (by simp [hq])) (List.cons.inj h3).2]
theorem joinL_ne {x : List UInt8} {l : List (List UInt8)} (h : x ≠ []) : joinL (x :: l) ≠ [] := by
  rw [joinL_cons]
  intro e
  exact h (List.append_eq_nil_iff.1 e).1
def rJoin (l : List ByteArray) : ByteArray := tx (joinL (l.map fun x => x.data.toList))
theorem rJoin_b {l : List ByteArray} {o : ByteArray} (e : rJoin l = o) (h : ∀ x ∈ l, x.size ≤ 600) (h2 : l.length ≤ 12) : o.size ≤ 7212 := by
  rw [← e]
  unfold rJoin
  rw [tx_size]
  have := joinL_len (n := 600) (l := l.map fun x => x.data.toList) (by
    intro x hx
    obtain ⟨y, hy, rfl⟩ := List.mem_map.1 hx
    have := h y hy
    rw [Array.length_toList]; exact this)
  rw [List.length_map] at this
  omega
theorem rJoin_inj {xs ys : List ByteArray} (hx : xs ≠ []) (hy : ys ≠ []) (fx : ∀ x ∈ xs, free x.data.toList) (fy : ∀ y ∈ ys, free y.data.toList) (e : rJoin xs = rJoin ys) : xs = ys := by
  have h := joinL_inj (by simpa using hx) (by simpa using hy) (by
    intro x hx
    obtain ⟨y, hy, rfl⟩ := List.mem_map.1 hx
    exact fx y hy) (by
    intro x hx
    obtain ⟨y, hy, rfl⟩ := List.mem_map.1 hx
    exact fy y hy) (congrArg (fun x => x.data.toList) e : _)
  have h2 := congrArg (fun l => l.map tx) h
  simp only [List.map_map] at h2
  have e2 : (tx ∘ fun x : ByteArray => x.data.toList) = id := funext fun x => rfl
  rw [e2, List.map_id, List.map_id] at h2
  exact h2
theorem rJoin_ne {x : ByteArray} {l : List ByteArray} (h : x ≠ tx []) : rJoin (x :: l) ≠ tx [] := by
  unfold rJoin
  rw [List.map_cons]
  intro e
  exact joinL_ne (fun e2 => h (by rw [bytes_tx x, e2])) (congrArg (fun x => x.data.toList) e)
def rreadFigures (l : List ByteArray) : List Int × Bool := if l.all (fun x => (rReadDecimal x).2) = true then (l.map fun x => (rReadDecimal x).1, true) else ([], false)
def rl29Num (p : List ByteArray) (i : Int) : Int := if (p.length : Int) ≤ i then 0 else (rReadDecimal (p.getD i.toNat (tx []))).1
theorem num_at {p : List ByteArray} {k : Nat} (h : k < p.length) : rl29Num p k = (rReadDecimal p[k]).1 := by
  unfold rl29Num
  rw [if_neg (by omega), Int.toNat_natCast, List.getD_eq_getElem?_getD, List.getElem?_eq_getElem h]
  rfl
theorem figs_no {l : List ByteArray} {k : Nat} (h : k < l.length) (e : (rReadDecimal l[k]).2 = false) : ([], false) = rreadFigures l := by
  unfold rreadFigures
  rw [if_neg]
  intro ha
  have := List.all_eq_true.1 ha _ (List.getElem_mem h)
  rw [e] at this
  cases this
open Go.RowKit
theorem row_strs {w : World} {S : Nat → Prop} (hS : ∀ b, S b → b < w.heap.size) {l : List ByteArray} {v : Value} (h : RelD w S (.row 1 (l.map cS)) v) :
    (l = [] ∧ ∃ a c, v = .slice a 0 c) ∨ ∃ b o c, v = .slice (some ⟨b, o, none⟩) l.length c ∧ b < w.heap.size ∧ l.length ≤ c ∧ ∀ (j : Nat) x, l[j]? = some x → w.cell? ⟨b, o + j, none⟩ = some (.string x) := by
  generalize hx : l.map cS = xs at h
  cases h with
  | nil sz a cap =>
    refine .inl ⟨?_, a, cap, rfl⟩
    cases l with
    | nil => rfl
    | cons => cases hx
  | row sz xs b off cap us hSb hc hl hu hr =>
    have hlen : xs.length = l.length := by rw [← hx, List.length_map]
    refine .inr ⟨b, off, cap, by rw [hlen], hS b hSb, by omega, ?_⟩
    intro j x hj
    have h1 : xs[j]? = some (cS x) := by rw [← hx, List.getElem?_map, hj]; rfl
    have h2 := hu j (cS x) 0 (.sc (.string x)) h1 rfl
    have h3 := hr j (cS x) 0 (.sc (.string x)) h1 rfl
    rw [Nat.mul_one, Nat.add_zero] at h2
    rw [h2]
    generalize us j 0 = u at h3
    cases h3
    rfl
theorem Flstrings_Join {l : List ByteArray} {xl : List (List D)} {o : ByteArray} (hl : l.map cS = xl) (hp : l.length ≤ 1000000 ∧ (rJoin l).size ≤ 1000000000) (hr : rJoin l = o) : Fn Tryz.prog 27 [.d (.row 1 xl), S (tx [32])] [] ⟨S o, [], []⟩ := by
 refine ⟨entered_of Tryz.func27 rfl rfl, CallOk.ofCalls fun E vs hS hA => ?_⟩
 obtain ⟨u, v, rfl, h1, h2⟩ := args2 hA
 rw [relSc h2]
 subst hl
 cases h1 with
 | d _ _ h1 =>
 have hj : Lib.join (l.map (·.data.toList)) (tx [32]).data.toList = joinL (l.map fun x => x.data.toList) := joinL_eq _
 rcases row_strs hS h1 with ⟨rfl, a, c, rfl⟩ | ⟨b, off, c, rfl, hb, hc, hcell⟩
 refine (Tryz.strings_Join_none a c (tx [32]) E.w).mono ?_
 rintro e w' ⟨rfl, rfl⟩
 refine ⟨_, rfl, Below.refl _ _, ?_⟩
 rw [← hr]
 exact .sc _ rfl
 have hz : (joinL (l.map fun x => x.data.toList)).length = (rJoin l).size := by unfold rJoin; rw [tx_size]
 refine (Tryz.strings_Join b off c l (tx [32]) E.w hcell hb (by omega) hc (by rw [hj, hz]; omega)).mono ?_
 rintro e w' ⟨rfl, hbl⟩
 refine ⟨_, rfl, hbl, ?_⟩
 rw [hj, ← hr]
 exact .sc _ rfl
theorem FireadFigures {parts : List ByteArray} {xparts : List (List D)} {oa : List Int} {xoa : List (List D)} {ob : Bool} (hparts : parts.map cS = xparts) (hs : ∀ x ∈ parts, x.size ≤ 1000000000) (hn : parts.length ≤ 1000000) (hr : rreadFigures parts = (oa, ob)) (hoa : oa.map cI = xoa) : Fn Tryz.prog 26 [.d (.row 1 xparts)] [] ⟨.tup [.d (.row 1 xoa), B ob], [], []⟩ := by
 refine Fn.go su_ch29d Tryz.func26 fun P hP Q hQ => ?_
 conv => cbv
 refine .go hparts fun v1 hv1 => ?_
 conv => cbv
 refine LoopW.lp (κ := Int × (List (List D)) × Nat) su_ch29d hP [1] [10, 11] (fun (i12, zw2, nw2) => [(4, .ref 2 0 nw2), (12, I i12)]) (fun (i12, zw2, nw2) => [(2, .row 1 false zw2)])
   (fun (i12, zw2, nw2) => ∃ (w2 : List Int), w2.map cI = zw2 ∧ nw2 = w2.length ∧ 0 ≤ i12 ∧ i12 ≤ parts.length ∧ (∀ (j : Nat) (hj : j < parts.length), j < i12.toNat → (rReadDecimal parts[j]).2 = true) ∧ w2.length = i12.toNat ∧ w2 = (parts.take i12.toNat).map fun x => (rReadDecimal x).1)
   (fun (i12, zw2, nw2) => (parts.length - i12).toNat) (0, [], 0) ⟨[], rfl, rfl, by omega, by omega, fun j _ h => by simp at h, rfl, rfl⟩ ⟨rfl, rfl, trivial⟩ rfl ?_
 rintro ⟨i12, zw2, nw2⟩ J ⟨w2, hw2, hnw2, h0, h1, hb, hwl, hw⟩ hJ
 conv => cbv
 refine .lss (fun h2 => ?_) fun h2 => ?_
 conv => cbv
 refine .go i12.toNat hparts fun hje3 e3 qe3 => ?_
 conv => cbv
 rcases hr4 : rReadDecimal e3 with ⟨r4a, r4b⟩
 refine .dd hP (FiReadDecimal (by rw [qe3]; exact hs _ (List.getElem_mem _)) hr4) ?_
 conv => cbv
 cases r4b
 conv => cbv
 have e : ([], false) = rreadFigures parts := (by exact figs_no hje3 (by rw [← qe3, hr4]))
 rw [hr] at e
 simp only [Prod.mk.injEq] at e
 obtain ⟨rfl, rfl⟩ := e
 refine hQ _ _ ?_
 exact .many (.inl rfl) rfl rfl (.ref rfl rfl (by rw [← hoa]; rfl) (.d rfl rfl (.nil)))
 conv => cbv
 refine .one r4a hw2 rfl fun nz5 z5 hnz5 hz5 => ?_
 conv => cbv
 refine .add fun v6 hv6 => ?_
 conv => cbv
 exact .go [4] (v6, z5, nz5) (hJ _ ⟨_, hz5, (by first | omega | (simp; omega) | (simp only [List.length_append, List.length_cons, List.length_nil] at *; omega)), by omega, by omega, fun j hj h => if e : j = i12.toNat then by subst e; rw [← qe3, hr4] else hb j hj (by omega), by rw [List.length_append, hwl]; simp; omega, by rw [hw, show v6.toNat = i12.toNat + 1 by omega, List.take_succ_eq_append_getElem hje3, List.map_append, ← qe3, List.map_singleton, hr4]⟩ (by first | (dsimp only; omega) | omega))
 conv => cbv
 have e : (w2, true) = rreadFigures parts := (by unfold rreadFigures; rw [if_pos (List.all_eq_true.2 fun x hx => by obtain ⟨j, hj, rfl⟩ := List.getElem_of_mem hx; exact hb j hj (by omega)), hw, List.take_of_length_le (by omega)])
 rw [hr] at e
 simp only [Prod.mk.injEq] at e
 obtain ⟨rfl, rfl⟩ := e
 refine hQ _ _ ?_
 exact .many (.inl rfl) rfl rfl (.ref rfl (by rw [← hw2, List.length_map]; first | omega | (simp; omega)) (by rw [← hw2, ← hoa]) (.d rfl rfl (.nil)))
def wordsS (s : TSetting) : List ByteArray := [tx [108, 111, 103], rDecimal s.room_, rDecimal s.version_, rDecimal s.stride_, rDecimal s.roll_]
def candS (p : List ByteArray) : TSetting := ⟨rl29Num p 1, rl29Num p 2, rl29Num p 3, rl29Num p 4⟩
def rReadSet (line : ByteArray) : TSetting × Bool := if (rPartsOf line).2 = true ∧ rSettingOk (candS (rPartsOf line).1) = true ∧ wordsS (candS (rPartsOf line).1) = (rPartsOf line).1 then (candS (rPartsOf line).1, true) else (⟨0, 0, 0, 0⟩, false)
theorem setLine_words {s : TSetting} : rSetLine s = if rSettingOk s = true then rJoin (wordsS s) else tx [] := by
  unfold rSetLine
  split
  · unfold rJoin wordsS rfigures rDecimal
    rw [tx_append]
    simp [joinL, data_tx]
  · rfl
theorem dec_free {n : Int} (h : 0 ≤ n) : free (rDecimal n).data.toList ∧ rDecimal n ≠ tx [] := by
  have hd : (rDecimal n).data.toList = Lib.decDigits n.toNat := by
    unfold rDecimal Lib.itoa
    rw [data_tx, if_neg (by omega)]
  have e := dec_digits n.toNat
  constructor
  · rw [hd]
    intro b hb
    obtain ⟨j, hj⟩ := List.getElem?_of_mem hb
    obtain ⟨d, h1⟩ := Lib.digit_of_decFrom _ _ _ e j b hj
    rintro rfl
    revert h1
    unfold Lib.digitVal
    rw [if_neg (by decide)]
    simp
  · intro e2
    have := congrArg (fun x => x.data.toList) e2
    simp only [hd] at this
    rw [show Lib.decDigits n.toNat = [] from this] at e
    simp only [Lib.decFrom, Option.some.injEq] at e
    rw [Lib.decDigits, ← e] at this
    rw [data_tx] at this
    cases this
theorem words_free {s : TSetting} (h : rSettingOk s = true) : ∀ x ∈ wordsS s, free x.data.toList := by
  have hk := of_decide_eq_true (show decide _ = true from h)
  intro x hx
  unfold wordsS at hx
  simp only [List.mem_cons, List.not_mem_nil, or_false] at hx
  rcases hx with rfl | rfl | rfl | rfl | rfl
  · intro b hb
    rw [data_tx] at hb
    simp only [List.mem_cons, List.not_mem_nil, or_false] at hb
    rcases hb with rfl | rfl | rfl <;> decide
  all_goals exact (dec_free (by omega)).1
theorem set_iff {p : List ByteArray} {s : TSetting} (hp : p ≠ []) (h : ∀ x ∈ p, wordOk x) : (rSetLine s ≠ tx [] ∧ rSetLine s = rJoin p) ↔ (rSettingOk s = true ∧ wordsS s = p) := by
  rw [setLine_words]
  constructor
  · rintro ⟨h1, h2⟩
    split at h1
    · rename_i hk
      rw [if_pos hk] at h2
      exact ⟨hk, rJoin_inj (by unfold wordsS; simp) hp (words_free hk) (fun y hy => (h y hy).2) h2⟩
    · exact absurd rfl h1
  · rintro ⟨h1, h2⟩
    rw [if_pos h1, h2]
    refine ⟨?_, rfl⟩
    rw [← h2]
    unfold wordsS
    exact rJoin_ne (by decide)
theorem join_ne {p : List ByteArray} (hp : p ≠ []) (h : ∀ x ∈ p, wordOk x) : rJoin p ≠ tx [] := by
  cases p with
  | nil => exact absurd rfl hp
  | cons x l => exact rJoin_ne (h x (by simp)).1
theorem set_len {s : TSetting} {p : List ByteArray} (h : wordsS s = p) : p.length = 5 := by rw [← h]; rfl
theorem words_num {s : TSetting} {p : List ByteArray} (hk : rSettingOk s = true) (h : wordsS s = p) : (p.drop 1).all (fun x => (rReadDecimal x).2) = true := by
  have hk := of_decide_eq_true (show decide _ = true from hk)
  subst h
  unfold wordsS
  simp only [List.drop_succ_cons, List.drop_zero, List.all_cons, List.all_nil, Bool.and_true]
  rw [read_dec (by omega) (by omega), read_dec (by omega) (by omega), read_dec (by omega) (by omega), read_dec (by omega) (by omega)]
  rfl
theorem words_cand {s : TSetting} {p : List ByteArray} (hk : rSettingOk s = true) (h : wordsS s = p) : candS p = s := by
  have hk := of_decide_eq_true (show decide _ = true from hk)
  subst h
  unfold candS
  have e1 : rl29Num (wordsS s) 1 = (rReadDecimal (rDecimal s.room_)).1 := num_at (p := wordsS s) (k := 1) (show 1 < 5 by decide)
  have e2 : rl29Num (wordsS s) 2 = (rReadDecimal (rDecimal s.version_)).1 := num_at (p := wordsS s) (k := 2) (show 2 < 5 by decide)
  have e3 : rl29Num (wordsS s) 3 = (rReadDecimal (rDecimal s.stride_)).1 := num_at (p := wordsS s) (k := 3) (show 3 < 5 by decide)
  have e4 : rl29Num (wordsS s) 4 = (rReadDecimal (rDecimal s.roll_)).1 := num_at (p := wordsS s) (k := 4) (show 4 < 5 by decide)
  rw [read_dec (by omega) (by omega)] at e1 e2 e3 e4
  rw [e1, e2, e3, e4]
theorem set_no {line : ByteArray} {p : List ByteArray} {b : Bool} (h : rPartsOf line = (p, b)) (hn : b = false ∨ ¬ (rSettingOk (candS p) = true ∧ wordsS (candS p) = p)) : ((⟨0, 0, 0, 0⟩ : TSetting), false) = rReadSet line := by
  unfold rReadSet
  rw [h, if_neg]
  rintro ⟨h1, h2⟩
  rcases hn with h3 | h3
  · rw [h3] at h1; cases h1
  · exact h3 h2
theorem set_yes {line : ByteArray} {p : List ByteArray} (h : rPartsOf line = (p, true)) (h2 : rSettingOk (candS p) = true ∧ wordsS (candS p) = p) : (candS p, true) = rReadSet line := by
  unfold rReadSet
  rw [h, if_pos ⟨rfl, h2⟩]
theorem FiReadSet {line : ByteArray} {oaroo : Int} {oaver : Int} {oastr : Int} {oarol : Int} {ob : Bool}  (hr : rReadSet line = (⟨oaroo, oaver, oastr, oarol⟩, ob))  : Fn Tryz.prog 9 [S line] [] ⟨.tup [.agg [I oaroo, I oaver, I oastr, I oarol], B ob], [], []⟩ := by
 refine Fn.go su_ch29d Tryz.func9 fun P hP Q hQ => ?_
 conv => cbv
 rcases hr1 : rPartsOf line with ⟨r1a, r1b⟩
 generalize hr1a : r1a.map cS = xr1a
 refine .dd hP (FiPartsOf  hr1 hr1a) ?_
 conv => cbv
 cases r1b
 conv => cbv
 have e : ((⟨0, 0, 0, 0⟩ : TSetting), false) = rReadSet line := (by exact set_no hr1 (.inl rfl))
 rw [hr] at e
 simp only [Prod.mk.injEq, TSetting.mk.injEq] at e
 obtain ⟨⟨rfl, rfl, rfl, rfl⟩, rfl⟩ := e
 refine hQ _ _ ?_
 exact .many (.inl rfl) rfl rfl (.agg (.d rfl rfl (.d rfl rfl (.d rfl rfl (.d rfl rfl (.nil))))) (.d rfl rfl (.nil)))
 conv => cbv
 have hpt := parts_t hr1
 have hpw : ∀ x ∈ r1a, wordOk x := fun x hx => (hpt.2.2.2.1 x hx).2
 have hps : ∀ x ∈ r1a, x.size ≤ 600 := fun x hx => (hpt.2.2.2.1 x hx).1
 have hpl := hpt.2.2.1
 refine .go hr1a fun v2 hv2 => ?_
 conv => cbv
 refine .neq (fun h3 => ?_) fun h3 => ?_
 conv => cbv
 have e : ((⟨0, 0, 0, 0⟩ : TSetting), false) = rReadSet line := (by exact set_no hr1 (.inr fun h => absurd (set_len h.2) (by omega)))
 rw [hr] at e
 simp only [Prod.mk.injEq, TSetting.mk.injEq] at e
 obtain ⟨⟨rfl, rfl, rfl, rfl⟩, rfl⟩ := e
 refine hQ _ _ ?_
 exact .many (.inl rfl) rfl rfl (.agg (.d rfl rfl (.d rfl rfl (.d rfl rfl (.d rfl rfl (.nil))))) (.d rfl rfl (.nil)))
 conv => cbv
 refine .lo hr1a fun x4 hx4 => ?_
 conv => cbv
 have hd1 : ∀ x ∈ r1a.drop 1, x.size ≤ 1000000000 := fun x hx => by have := hps x (List.mem_of_mem_drop hx); omega
 have hne : r1a ≠ [] := by intro e; rw [e] at hv2; simp at hv2; omega
 rcases hr5 : rreadFigures (r1a.drop 1) with ⟨r5a, r5b⟩
 generalize hr5a : r5a.map cI = xr5a
 refine .dd hP (FireadFigures hx4 hd1 (by rw [List.length_drop]; omega) hr5 hr5a) ?_
 conv => cbv
 cases r5b
 conv => cbv
 have e : ((⟨0, 0, 0, 0⟩ : TSetting), false) = rReadSet line := (by exact set_no hr1 (.inr fun h => by unfold rreadFigures at hr5; rw [if_pos (words_num h.1 h.2)] at hr5; cases hr5))
 rw [hr] at e
 simp only [Prod.mk.injEq, TSetting.mk.injEq] at e
 obtain ⟨⟨rfl, rfl, rfl, rfl⟩, rfl⟩ := e
 refine hQ _ _ ?_
 exact .many (.inl rfl) rfl rfl (.agg (.d rfl rfl (.d rfl rfl (.d rfl rfl (.d rfl rfl (.nil))))) (.d rfl rfl (.nil)))
 conv => cbv
 have hall : (r1a.drop 1).all (fun x => (rReadDecimal x).2) = true := by
   unfold rreadFigures at hr5
   split at hr5
   · assumption
   · cases hr5
 have h5e : r5a = (r1a.drop 1).map fun x => (rReadDecimal x).1 := by
   unfold rreadFigures at hr5
   rw [if_pos hall] at hr5
   exact (Prod.mk.inj hr5).1.symm
 have h5l : r5a.length = 4 := by rw [h5e, List.length_map, List.length_drop]; omega
 refine .go 0 hr5a fun hje6 e6 qe6 => ?_
 conv => cbv
 refine .go 1 hr5a fun hje7 e7 qe7 => ?_
 conv => cbv
 refine .go 2 hr5a fun hje8 e8 qe8 => ?_
 conv => cbv
 refine .go 3 hr5a fun hje9 e9 qe9 => ?_
 conv => cbv
 have hca : (⟨e6, e7, e8, e9⟩ : TSetting) = candS r1a := by
   have hk : ∀ (k : Nat) (hk : k < r5a.length), r5a[k] = rl29Num r1a ((k + 1 : Nat) : Int) := fun k hk => by
     rw [num_at (by omega)]
     simp only [h5e, List.getElem_map, List.getElem_drop, Nat.add_comm]
   unfold candS
   rw [qe6, qe7, qe8, qe9, hk, hk, hk, hk]
   rfl
 generalize hr10 : rSetLine (⟨e6, e7, e8, e9⟩ : TSetting) = r10
 refine .dd hP (FiSetLine hr10) ?_
 conv => cbv
 have hjb := rJoin_b (l := r1a) rfl hps hpl
 generalize hr11 : rJoin r1a = r11
 refine .dd hP (Flstrings_Join hr1a ⟨by omega, by omega⟩ hr11) ?_
 conv => cbv
 refine .neq (fun h12 => ?_) fun h12 => ?_
 conv => cbv
 have e : ((⟨0, 0, 0, 0⟩ : TSetting), false) = rReadSet line := (by exact set_no hr1 (.inr fun h => h12 (by rw [← hr10, ← hr11, hca]; exact ((set_iff hne hpw).2 h).2)))
 rw [hr] at e
 simp only [Prod.mk.injEq, TSetting.mk.injEq] at e
 obtain ⟨⟨rfl, rfl, rfl, rfl⟩, rfl⟩ := e
 refine hQ _ _ ?_
 exact .many (.inl rfl) rfl rfl (.agg (.d rfl rfl (.d rfl rfl (.d rfl rfl (.d rfl rfl (.nil))))) (.d rfl rfl (.nil)))
 conv => cbv
 have e : ((⟨e6, e7, e8, e9⟩ : TSetting), true) = rReadSet line := (by rw [hca]; refine set_yes hr1 ((set_iff hne hpw).1 ⟨?_, ?_⟩) <;> rw [← hca, hr10, h12]; exact (fun e => join_ne hne hpw (hr11.trans e)); exact hr11.symm)
 rw [hr] at e
 simp only [Prod.mk.injEq, TSetting.mk.injEq] at e
 obtain ⟨⟨rfl, rfl, rfl, rfl⟩, rfl⟩ := e
 refine hQ _ _ ?_
 exact .many (.inl rfl) rfl rfl (.agg (.d rfl rfl (.d rfl rfl (.d rfl rfl (.d rfl rfl (.nil))))) (.d rfl rfl (.nil)))
end Go.Proofs.YtmkpihcfglinjaaGreatDoor.Ab
