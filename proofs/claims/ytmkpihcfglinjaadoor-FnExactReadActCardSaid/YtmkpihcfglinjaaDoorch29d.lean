/- What functions of the program come to, for all arguments in the given bounds. -/
import Derived.Test.YtmkpihcfglinjaaDoorch29c
import Derived.Test.YtmkpihcfglinjaaDoorZ10
import Derived.Below
set_option linter.unusedVariables false
set_option linter.unusedSimpArgs false
namespace Go.Proofs.YtmkpihcfglinjaaDoor.Ab
open Go Go.Proofs
set_option maxRecDepth 20000
set_option maxHeartbeats 4000000
set_option linter.unusedSimpArgs false
set_option linter.unusedVariables false
def tab_ch29d : List (Nat × TyRow) := [
  (3, ⟨.int .i64, some 1, some false, none, false, [.int .i64], [], some [(.int .i64 0, 0)], none, none, none⟩),
  (9, ⟨.str, some 1, some false, none, false, [.str], [], some [(.string default, 0)], none, none, none⟩),
  (23, ⟨.other, some 4, some true, none, false, [.int .i64, .int .i64, .int .i64, .int .i64], [some (0, 1, false), some (1, 1, false), some (2, 1, false), some (3, 1, false)], some [(.int .i64 0, 0), (.int .i64 0, 0), (.int .i64 0, 0), (.int .i64 0, 0)], none, some [(0, 1), (1, 1), (2, 1), (3, 1)], some [.int, .int, .int, .int]⟩),
  (28, ⟨.sl 1, some 1, some false, some (1, 8), false, [.sl 1], [], some [(.slice none 0 0, 1)], some ([.sc (.int .i64 0)], 1, 8), none, none⟩),
  (35, ⟨.sl 1, some 1, some false, some (1, 16), false, [.sl 1], [], some [(.slice none 0 0, 1)], some ([.sc (.string default)], 1, 16), none, none⟩)]
theorem tab_ch29d_ok : TabOk Tryd.prog tab_ch29d := TabOk.of (by kernel_rfl)
theorem su_ch29d : Setup Tryd.prog tab_ch29d := ⟨tab_ch29d_ok, mixed⟩
def joinL : List (List UInt8) → List UInt8
  | [] => []
  | [x] => x
  | x :: y :: l => x ++ 32 :: joinL (y :: l)
theorem joinL_cons {x : List UInt8} {l : List (List UInt8)} : joinL (x :: l) = x ++ if l = [] then [] else 32 :: joinL l := by
  cases l with
  | nil => simp [joinL]
  | cons y l => rw [if_neg (by simp)]; rfl
theorem joinL_eq : ∀ (l : List (List UInt8)), Lib.join l [32] = joinL l
  | [] => rfl
  | [x] => by simp [Lib.join, List.intercalate, joinL]
  | x :: y :: l => by
    have ih := joinL_eq (y :: l)
    unfold Lib.join List.intercalate at *
    rw [List.intersperse_cons_cons, List.flatten_cons, List.flatten_cons, ih]
    rfl
theorem joinL_snoc : ∀ (l : List (List UInt8)) (y : List UInt8), joinL (l ++ [y]) = if l = [] then y else joinL l ++ 32 :: y
  | [], y => rfl
  | [x], y => rfl
  | x :: z :: l, y => by
    have ih := joinL_snoc (z :: l) y
    rw [if_neg (by simp)] at ih ⊢
    show x ++ 32 :: joinL (z :: l ++ [y]) = (x ++ 32 :: joinL (z :: l)) ++ 32 :: y
    rw [ih]
    simp
theorem joinL_len {n : Nat} : ∀ {l : List (List UInt8)}, (∀ x ∈ l, x.length ≤ n) → (joinL l).length ≤ l.length * (n + 1)
  | [], _ => by simp [joinL]
  | x :: l, h => by
    have ih := joinL_len (l := l) fun y hy => h y (by simp [hy])
    have hx := h x (by simp)
    rw [joinL_cons, List.length_append, List.length_cons, Nat.succ_mul]
    split
    · simp; omega
    · rw [List.length_cons]; omega
def free (x : List UInt8) : Prop := ∀ b ∈ x, b ≠ 32
theorem take_free {x r : List UInt8} (h : free x) (hr : r = [] ∨ ∃ q, r = 32 :: q) : (x ++ r).takeWhile (· != 32) = x ∧ (x ++ r).dropWhile (· != 32) = r := by
  induction x with
  | nil =>
    rcases hr with rfl | ⟨q, rfl⟩
    · exact ⟨rfl, rfl⟩
    · simp
  | cons b x ih =>
    have hb : (b != 32) = true := by simpa using h b (by simp)
    have := ih fun c hc => h c (by simp [hc])
    constructor <;> simp [List.takeWhile_cons, List.dropWhile_cons, hb, this.1, this.2]
theorem join_rest {l : List (List UInt8)} : (if l = [] then ([] : List UInt8) else 32 :: joinL l) = [] ∨ ∃ q, (if l = [] then ([] : List UInt8) else 32 :: joinL l) = 32 :: q := by
  split
  · exact .inl rfl
  · exact .inr ⟨_, rfl⟩
theorem joinL_inj : ∀ {xs ys : List (List UInt8)}, xs ≠ [] → ys ≠ [] → (∀ x ∈ xs, free x) → (∀ y ∈ ys, free y) → joinL xs = joinL ys → xs = ys
  | [], _, h, _, _, _, _ => absurd rfl h
  | _ :: _, [], _, h, _, _, _ => absurd rfl h
  | x :: xs, y :: ys, _, _, hx, hy, e => by
    rw [joinL_cons, joinL_cons] at e
    have h1 := take_free (hx x (by simp)) (join_rest (l := xs))
    have h2 := take_free (hy y (by simp)) (join_rest (l := ys))
    rw [e] at h1
    obtain rfl : x = y := h1.1.symm.trans h2.1
    have h3 := h1.2.symm.trans h2.2
    by_cases ex : xs = []
    · rw [if_pos ex] at h3
      split at h3
      · rename_i ey; rw [ex, ey]
      · cases h3
    · rw [if_neg ex] at h3
      split at h3
      · cases h3
      · rename_i ey
        rw [joinL_inj ex ey (fun q hq => hx q (by simp [hq])) (fun q hq => hy q (by simp [hq])) (List.cons.inj h3).2]
theorem joinL_ne {x : List UInt8} {l : List (List UInt8)} (h : x ≠ []) : joinL (x :: l) ≠ [] := by
  rw [joinL_cons]
  intro e
  exact h (List.append_eq_nil_iff.1 e).1
def rJoin (l : List ByteArray) : ByteArray := tx (joinL (l.map fun x => x.data.toList))
def rl29Join (l : List ByteArray) : ByteArray := rJoin l
theorem rJoin_b {l : List ByteArray} {o : ByteArray} (e : rJoin l = o) (h : ∀ x ∈ l, x.size ≤ 600) (h2 : l.length ≤ 12) : o.size ≤ 7212 := by
  rw [← e]
  unfold rJoin
  rw [tx_size]
  have := joinL_len (n := 600) (l := l.map fun x => x.data.toList) (by
    intro x hx
    obtain ⟨y, hy, rfl⟩ := List.mem_map.1 hx
    have := h y hy
    rw [Array.length_toList]; exact this)
  rw [List.length_map] at this
  omega
theorem rJoin_take {l : List ByteArray} {k : Nat} (h : k < l.length) : rJoin (l.take (k + 1)) = if k = 0 then l[k] else rJoin (l.take k) ++ tx [32] ++ l[k] := by
  unfold rJoin
  rw [List.take_succ_eq_append_getElem h, List.map_append, List.map_singleton, joinL_snoc]
  by_cases hk : k = 0
  · subst hk
    simp
    rfl
  · rw [if_neg hk, if_neg (by simp; exact ⟨hk, by intro e; rw [e] at h; simp at h⟩), tx_append]
    show tx _ = tx _ ++ tx _
    rw [tx_append]
    simp
theorem rJoin_inj {xs ys : List ByteArray} (hx : xs ≠ []) (hy : ys ≠ []) (fx : ∀ x ∈ xs, free x.data.toList) (fy : ∀ y ∈ ys, free y.data.toList) (e : rJoin xs = rJoin ys) : xs = ys := by
  have h := joinL_inj (by simpa using hx) (by simpa using hy) (by
    intro x hx
    obtain ⟨y, hy, rfl⟩ := List.mem_map.1 hx
    exact fx y hy) (by
    intro x hx
    obtain ⟨y, hy, rfl⟩ := List.mem_map.1 hx
    exact fy y hy) (congrArg (fun x => x.data.toList) e : _)
  have h2 := congrArg (fun l => l.map tx) h
  simp only [List.map_map] at h2
  have e2 : (tx ∘ fun x : ByteArray => x.data.toList) = id := funext fun x => rfl
  rw [e2, List.map_id, List.map_id] at h2
  exact h2
theorem rJoin_ne {x : ByteArray} {l : List ByteArray} (h : x ≠ tx []) : rJoin (x :: l) ≠ tx [] := by
  unfold rJoin
  rw [List.map_cons]
  intro e
  exact joinL_ne (fun e2 => h (by rw [bytes_tx x, e2])) (congrArg (fun x => x.data.toList) e)
def rreadFigures (l : List ByteArray) : List Int × Bool := if l.all (fun x => (rReadDecimal x).2) = true then (l.map fun x => (rReadDecimal x).1, true) else ([], false)
def rl29Num (p : List ByteArray) (i : Int) : Int := if (p.length : Int) ≤ i then 0 else (rReadDecimal (p.getD i.toNat (tx []))).1
theorem num_at {p : List ByteArray} {k : Nat} (h : k < p.length) : rl29Num p k = (rReadDecimal p[k]).1 := by
  unfold rl29Num
  rw [if_neg (by omega), Int.toNat_natCast, List.getD_eq_getElem?_getD, List.getElem?_eq_getElem h]
  rfl
theorem figs_no {l : List ByteArray} {k : Nat} (h : k < l.length) (e : (rReadDecimal l[k]).2 = false) : ([], false) = rreadFigures l := by
  unfold rreadFigures
  rw [if_neg]
  intro ha
  have := List.all_eq_true.1 ha _ (List.getElem_mem h)
  rw [e] at this
  cases this
open Go.RowKit
theorem row_strs {w : World} {S : Nat → Prop} (hS : ∀ b, S b → b < w.heap.size) {l : List ByteArray} {v : Value} (h : RelD w S (.row 1 (l.map cS)) v) :
    (l = [] ∧ ∃ a c, v = .slice a 0 c) ∨ ∃ b o c, v = .slice (some ⟨b, o, none⟩) l.length c ∧ b < w.heap.size ∧ l.length ≤ c ∧ ∀ (j : Nat) x, l[j]? = some x → w.cell? ⟨b, o + j, none⟩ = some (.string x) := by
  generalize hx : l.map cS = xs at h
  cases h with
  | nil sz a cap =>
    refine .inl ⟨?_, a, cap, rfl⟩
    cases l with
    | nil => rfl
    | cons => cases hx
  | row sz xs b off cap us hSb hc hl hu hr =>
    have hlen : xs.length = l.length := by rw [← hx, List.length_map]
    refine .inr ⟨b, off, cap, by rw [hlen], hS b hSb, by omega, ?_⟩
    intro j x hj
    have h1 : xs[j]? = some (cS x) := by rw [← hx, List.getElem?_map, hj]; rfl
    have h2 := hu j (cS x) 0 (.sc (.string x)) h1 rfl
    have h3 := hr j (cS x) 0 (.sc (.string x)) h1 rfl
    rw [Nat.mul_one, Nat.add_zero] at h2
    rw [h2]
    generalize us j 0 = u at h3
    cases h3
    rfl
theorem Flstrings_Join {l : List ByteArray} {xl : List (List D)} {o : ByteArray} (hl : l.map cS = xl) (hp : l.length ≤ 1000000 ∧ (rJoin l).size ≤ 1000000000) (hr : rJoin l = o) : Fn Tryd.prog 20 [.d (.row 1 xl), S (tx [32])] [] ⟨S o, [], []⟩ := by
 refine ⟨entered_of Tryd.func20 rfl rfl, CallOk.ofCalls fun E vs hS hA => ?_⟩
 obtain ⟨u, v, rfl, h1, h2⟩ := args2 hA
 rw [relSc h2]
 subst hl
 cases h1 with
 | d _ _ h1 =>
 have hj : Lib.join (l.map (·.data.toList)) (tx [32]).data.toList = joinL (l.map fun x => x.data.toList) := joinL_eq _
 rcases row_strs hS h1 with ⟨rfl, a, c, rfl⟩ | ⟨b, off, c, rfl, hb, hc, hcell⟩
 refine (Tryd.strings_Join_none a c (tx [32]) E.w).mono ?_
 rintro e w' ⟨rfl, rfl⟩
 refine ⟨_, rfl, Below.refl _ _, ?_⟩
 rw [← hr]
 exact .sc _ rfl
 have hz : (joinL (l.map fun x => x.data.toList)).length = (rJoin l).size := by unfold rJoin; rw [tx_size]
 refine (Tryd.strings_Join b off c l (tx [32]) E.w hcell hb (by omega) hc (by rw [hj, hz]; omega)).mono ?_
 rintro e w' ⟨rfl, hbl⟩
 refine ⟨_, rfl, hbl, ?_⟩
 rw [hj, ← hr]
 exact .sc _ rfl
theorem FireadFigures {parts : List ByteArray} {xparts : List (List D)} {oa : List Int} {xoa : List (List D)} {ob : Bool} (hparts : parts.map cS = xparts) (hs : ∀ x ∈ parts, x.size ≤ 1000000000) (hn : parts.length ≤ 1000000) (hr : rreadFigures parts = (oa, ob)) (hoa : oa.map cI = xoa) : Fn Tryd.prog 18 [.d (.row 1 xparts)] [] ⟨.tup [.d (.row 1 xoa), B ob], [], []⟩ := by
 refine Fn.go su_ch29d Tryd.func18 fun P hP Q hQ => ?_
 conv => cbv
 refine .go hparts fun v1 hv1 => ?_
 conv => cbv
 refine LoopW.lp (κ := Int × (List (List D)) × Nat) su_ch29d hP [1] [10, 11] (fun (i12, zw2, nw2) => [(4, .ref 2 0 nw2), (12, I i12)]) (fun (i12, zw2, nw2) => [(2, .row 1 false zw2)])
   (fun (i12, zw2, nw2) => ∃ (w2 : List Int), w2.map cI = zw2 ∧ nw2 = w2.length ∧ 0 ≤ i12 ∧ i12 ≤ parts.length ∧ (∀ (j : Nat) (hj : j < parts.length), j < i12.toNat → (rReadDecimal parts[j]).2 = true) ∧ w2.length = i12.toNat ∧ w2 = (parts.take i12.toNat).map fun x => (rReadDecimal x).1)
   (fun (i12, zw2, nw2) => (parts.length - i12).toNat) (0, [], 0) ⟨[], rfl, rfl, by omega, by omega, fun j _ h => by simp at h, rfl, rfl⟩ ⟨rfl, rfl, trivial⟩ rfl ?_
 rintro ⟨i12, zw2, nw2⟩ J ⟨w2, hw2, hnw2, h0, h1, hb, hwl, hw⟩ hJ
 conv => cbv
 refine .lss (fun h2 => ?_) fun h2 => ?_
 conv => cbv
 refine .go i12.toNat hparts fun hje3 e3 qe3 => ?_
 conv => cbv
 rcases hr4 : rReadDecimal e3 with ⟨r4a, r4b⟩
 refine .dd hP (FiReadDecimal (by rw [qe3]; exact hs _ (List.getElem_mem _)) hr4) ?_
 conv => cbv
 cases r4b
 conv => cbv
 have e : ([], false) = rreadFigures parts := (by exact figs_no hje3 (by rw [← qe3, hr4]))
 rw [hr] at e
 simp only [Prod.mk.injEq] at e
 obtain ⟨rfl, rfl⟩ := e
 refine hQ _ _ ?_
 exact .many (.inl rfl) rfl rfl (.ref rfl rfl (by rw [← hoa]; rfl) (.d rfl rfl (.nil)))
 conv => cbv
 refine .one r4a hw2 rfl fun nz5 z5 hnz5 hz5 => ?_
 conv => cbv
 refine .add fun v6 hv6 => ?_
 conv => cbv
 exact .go [4] (v6, z5, nz5) (hJ _ ⟨_, hz5, (by first | omega | (simp; omega) | (simp only [List.length_append, List.length_cons, List.length_nil] at *; omega)), by omega, by omega, fun j hj h => if e : j = i12.toNat then by subst e; rw [← qe3, hr4] else hb j hj (by omega), by rw [List.length_append, hwl]; simp; omega, by rw [hw, show v6.toNat = i12.toNat + 1 by omega, List.take_succ_eq_append_getElem hje3, List.map_append, ← qe3, List.map_singleton, hr4]⟩ (by first | (dsimp only; omega) | omega))
 conv => cbv
 have e : (w2, true) = rreadFigures parts := (by unfold rreadFigures; rw [if_pos (List.all_eq_true.2 fun x hx => by obtain ⟨j, hj, rfl⟩ := List.getElem_of_mem hx; exact hb j hj (by omega)), hw, List.take_of_length_le (by omega)])
 rw [hr] at e
 simp only [Prod.mk.injEq] at e
 obtain ⟨rfl, rfl⟩ := e
 refine hQ _ _ ?_
 exact .many (.inl rfl) rfl rfl (.ref rfl (by rw [← hw2, List.length_map]; first | omega | (simp; omega)) (by rw [← hw2, ← hoa]) (.d rfl rfl (.nil)))
theorem Fsl29Num {p : List ByteArray} {xp : List (List D)} {i : Int} {o : Int} (hp : p.map cS = xp) (h0 : 0 ≤ i) (hs : ∀ x ∈ p, x.size ≤ 1000000000) (hr : rl29Num p i = o)  : Fn Tryd.prog 14 [.d (.row 1 xp), I i] [] ⟨I o, [], []⟩ := by
 refine Fn.go su_ch29d Tryd.func14 fun P hP Q hQ => ?_
 conv => cbv
 refine .go hp fun v1 hv1 => ?_
 conv => cbv
 refine .geq (fun h2 => ?_) fun h2 => ?_
 conv => cbv
 have e : 0 = rl29Num p i := (by unfold rl29Num; rw [if_pos (by omega)])
 rw [hr] at e
 subst e
 exact hQ _ _ (.i rfl rfl)
 conv => cbv
 refine .go i.toNat hp fun hje3 e3 qe3 => ?_
 conv => cbv
 rcases hr4 : rReadDecimal e3 with ⟨r4a, r4b⟩
 refine .dd hP (FsReadDecimal (by rw [qe3]; exact hs _ (List.getElem_mem _)) hr4) ?_
 conv => cbv
 have e : r4a = rl29Num p i := (by unfold rl29Num; rw [if_neg (by omega), List.getD_eq_getElem?_getD, List.getElem?_eq_getElem hje3, Option.getD_some, ← qe3, hr4])
 rw [hr] at e
 subst e
 exact hQ _ _ (.i rfl rfl)
theorem Fsl29Join {p : List ByteArray} {xp : List (List D)} {o : ByteArray} (hp : p.map cS = xp) (hs : ∀ x ∈ p, x.size ≤ 600) (hn : p.length ≤ 12) (hr : rl29Join p = o)  : Fn Tryd.prog 16 [.d (.row 1 xp)] [] ⟨S o, [], []⟩ := by
 refine Fn.go su_ch29d Tryd.func16 fun P hP Q hQ => ?_
 conv => cbv
 refine LoopW.lp (κ := ByteArray × Int) su_ch29d hP [] [0] (fun (s3, i4) => [(3, S s3), (4, I i4)]) (fun (s3, i4) => [])
   (fun (s3, i4) => 0 ≤ i4 ∧ i4 ≤ p.length ∧ s3 = rJoin (p.take i4.toNat))
   (fun (s3, i4) => (p.length - i4).toNat) (tx [], 0) ⟨by omega, by omega, rfl⟩ ⟨rfl, rfl, trivial⟩ rfl ?_
 rintro ⟨s3, i4⟩ J ⟨h0, h1, hx⟩ hJ
 have hb := rJoin_b (l := p.take i4.toNat) rfl (fun x h => hs x (List.mem_of_mem_take h)) (by rw [List.length_take]; omega)
 rw [← hx] at hb
 conv => cbv
 refine .go hp fun v1 hv1 => ?_
 conv => cbv
 refine .lss (fun h2 => ?_) fun h2 => ?_
 conv => cbv
 refine .gtr (fun h3 => ?_) fun h3 => ?_
 conv => cbv
 refine .litR 1 fun s4 hs4 zs4 => ?_
 conv => cbv
 refine .go i4.toNat hp fun hje5 e5 qe5 => ?_
 conv => cbv
 have hz5 : e5.size ≤ 600 := by rw [qe5]; exact hs _ (List.getElem_mem _)
 refine .go fun s6 hs6 zs6 => ?_
 conv => cbv
 refine .add fun v7 hv7 => ?_
 conv => cbv
 have hz5 : e5.size ≤ 600 := by rw [qe5]; exact hs _ (List.getElem_mem _)
 exact .go [] (s6, v7) (hJ _ ⟨by omega, by omega, by rw [show v7.toNat = i4.toNat + 1 by omega, rJoin_take hje5, if_neg (by omega), ← qe5, hs6, hs4, hx]; rfl⟩ (by first | (dsimp only; omega) | omega))
 conv => cbv
 refine .go i4.toNat hp fun hje4 e4 qe4 => ?_
 conv => cbv
 have hz4 : e4.size ≤ 600 := by rw [qe4]; exact hs _ (List.getElem_mem _)
 refine .go fun s5 hs5 zs5 => ?_
 conv => cbv
 refine .add fun v6 hv6 => ?_
 conv => cbv
 have hz4 : e4.size ≤ 600 := by rw [qe4]; exact hs _ (List.getElem_mem _)
 exact .go [] (s5, v6) (hJ _ ⟨by omega, by omega, by rw [show v6.toNat = i4.toNat + 1 by omega, rJoin_take hje4, if_pos (by omega), ← qe4, hs5, hx, show i4.toNat = 0 by omega]; show tx [] ++ e4 = e4; rw [bytes_tx e4, tx_append]; rfl⟩ (by first | (dsimp only; omega) | omega))
 conv => cbv
 have e : s3 = rl29Join p := (by unfold rl29Join; rw [hx, List.take_of_length_le (by omega)])
 rw [hr] at e
 subst e
 exact hQ _ _ (.s rfl rfl)
theorem dec_free {n : Int} (h : 0 ≤ n) : free (rDecimal n).data.toList ∧ rDecimal n ≠ tx [] := by
  have hd : (rDecimal n).data.toList = Lib.decDigits n.toNat := by
    unfold rDecimal Lib.itoa
    rw [data_tx, if_neg (by omega)]
  have e := dec_digits n.toNat
  constructor
  · rw [hd]
    intro b hb
    obtain ⟨j, hj⟩ := List.getElem?_of_mem hb
    obtain ⟨d, h1⟩ := Lib.digit_of_decFrom _ _ _ e j b hj
    rintro rfl
    revert h1
    unfold Lib.digitVal
    rw [if_neg (by decide)]
    simp
  · intro e2
    have := congrArg (fun x => x.data.toList) e2
    simp only [hd] at this
    rw [show Lib.decDigits n.toNat = [] from this] at e
    simp only [Lib.decFrom, Option.some.injEq] at e
    rw [Lib.decDigits, ← e] at this
    rw [data_tx] at this
    cases this
theorem join_ne {p : List ByteArray} (hp : p ≠ []) (h : ∀ x ∈ p, wordOk x) : rJoin p ≠ tx [] := by
  cases p with
  | nil => exact absurd rfl hp
  | cons x l => exact rJoin_ne (h x (by simp)).1
end Go.Proofs.YtmkpihcfglinjaaDoor.Ab
