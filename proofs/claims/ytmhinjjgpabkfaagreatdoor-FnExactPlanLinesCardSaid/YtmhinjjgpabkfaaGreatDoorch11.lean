/- What functions of the program come to, for all arguments in the given bounds. -/
import Derived.Test.YtmhinjjgpabkfaaGreatDoorch10
set_option linter.unusedVariables false
set_option linter.unusedSimpArgs false
namespace Go.Proofs.YtmhinjjgpabkfaaGreatDoor.Ab
open Go Go.Proofs
set_option maxRecDepth 20000
set_option maxHeartbeats 4000000
set_option linter.unusedSimpArgs false
set_option linter.unusedVariables false
def tab_ch11 : List (Nat × TyRow) := [
  (3, ⟨.int .i64, some 1, some false, none, false, [.int .i64], [], some [(.int .i64 0, 0)], none, none, none⟩),
  (9, ⟨.str, some 1, some false, none, false, [.str], [], some [(.string default, 0)], none, none, none⟩),
  (24, ⟨.sl 1, some 1, some false, some (1, 8), false, [.sl 1], [], some [(.slice none 0 0, 1)], some ([.sc (.int .i64 0)], 1, 8), none, none⟩),
  (183, ⟨.int .u64, some 1, some false, none, false, [.int .u64], [], some [(.int .u64 0, 0)], none, none, none⟩),
  (234, ⟨.sl 2, some 1, some false, some (2, 16), false, [.sl 2], [], some [(.slice none 0 0, 2)], some ([.sc (.int .i64 0), .sc (.int .i64 0)], 2, 16), none, none⟩),
  (257, ⟨.other, some 2, some true, none, false, [.int .i64, .int .i64], [some (0, 1, false), some (1, 1, false)], some [(.int .i64 0, 0), (.int .i64 0, 0)], none, some [(0, 1), (1, 1)], some [.int, .int]⟩)]
theorem tab_ch11_ok : TabOk Tryz.prog tab_ch11 := TabOk.of (by kernel_rfl)
theorem su_ch11 : Setup Tryz.prog tab_ch11 := ⟨tab_ch11_ok, mixed⟩
def plOf (s : Nat) (offs : List Int) (n : Nat) : List TPlace := ((List.range n).filter (fun i => i % s = 0)).map (fun (i : Nat) => ⟨(i : Int), offs.getD i 0⟩)
def rPlacesOf (stride : Int) (offs : List Int) : List TPlace := if stride < 1 then [] else plOf stride.toNat offs offs.length
theorem plOf_succ {s n : Nat} {offs : List Int} : plOf s offs (n + 1) = plOf s offs n ++ (if n % s = 0 then [⟨(n : Int), offs.getD n 0⟩] else []) := by
  unfold plOf
  rw [List.range_succ, List.filter_append, List.map_append]
  congr 1
  by_cases h : n % s = 0 <;> simp [h]
theorem plOf_len {s n : Nat} {offs : List Int} : (plOf s offs n).length ≤ n := by
  unfold plOf
  rw [List.length_map]
  exact Nat.le_trans (List.length_filter_le _ _) (by simp)
theorem plOf_gap {s k : Nat} {offs : List Int} (hk : k % s = 0) : ∀ (d : Nat), d < s → plOf s offs (k + 1 + d) = plOf s offs k ++ [⟨(k : Int), offs.getD k 0⟩]
  | 0, _ => by rw [Nat.add_zero, plOf_succ, if_pos hk]
  | d + 1, h => by
    rw [← Nat.add_assoc, plOf_succ, plOf_gap hk d (by omega), if_neg, List.append_nil]
    have : k + 1 + d = k + (d + 1) := by omega
    rw [this, Nat.add_mod, hk, Nat.zero_add, Nat.mod_mod, Nat.mod_eq_of_lt h]
    omega
theorem getD_el {l : List Int} {k : Nat} (h : k < l.length) : l[k] = l.getD k 0 := by rw [List.getD_eq_getElem?_getD, List.getElem?_eq_getElem h]; rfl
def rabove (a b : Int) : ByteArray := if b ≤ a ∧ a - b ≤ 1000000000 then rVarText (a - b) else tx []
theorem rabove_b {a b : Int} {o : ByteArray} (h : rabove a b = o) : o.size ≤ 5 := by
  rw [← h]
  unfold rabove
  split
  · exact rVarText_le _
  · simp [tx_size]
def rl11Less (a b : Int) : Int := if b ≤ a ∧ a - b < 9223372036854775808 then a - b else -1
theorem above_less (a b : Int) : rVarText (rl11Less a b) = rabove a b := by
  unfold rl11Less rabove
  by_cases h : b ≤ a ∧ a - b ≤ 1000000000
  · rw [if_pos h, if_pos (by omega)]
  · rw [if_neg h]
    unfold rVarText
    split
    · rw [if_neg (by omega)]
    · rfl
def plText : Int × Int → List TPlace → Option ByteArray
  | _, [] => some (tx [])
  | q, p :: l => if rabove p.count_ q.1 = tx [] ∨ rabove p.at_ q.2 = tx [] then none else (plText (p.count_, p.at_) l).map fun t => (rabove p.count_ q.1 ++ rabove p.at_ q.2) ++ t
def rPlacesText (l : List TPlace) : ByteArray := match plText (0, 0) l with
  | some t => rVarText l.length ++ t
  | none => tx []
theorem plText_size : ∀ {l : List TPlace} {q : Int × Int} {t : ByteArray}, plText q l = some t → t.size ≤ 10 * l.length
  | [], q, t, h => by cases h; simp [tx_size]
  | p :: l, q, t, h => by
    simp only [plText] at h
    split at h
    · cases h
    · obtain ⟨u, hu, rfl⟩ := Option.map_eq_some_iff.1 h
      have := plText_size hu
      have h1 := rabove_b (rfl : rabove p.count_ q.1 = _)
      have h2 := rabove_b (rfl : rabove p.at_ q.2 = _)
      rw [ByteArray.size_append, ByteArray.size_append, List.length_cons]
      omega
theorem rPlacesText_b' (l : List TPlace) : (rPlacesText l).size ≤ 5 + 10 * l.length := by
  unfold rPlacesText
  split
  · rename_i t h
    have h1 := plText_size h
    have h2 := rVarText_le l.length
    rw [ByteArray.size_append]
    omega
  · simp [tx_size]
theorem rPlacesText_b {l : List TPlace} {o : ByteArray} (h : rPlacesText l = o) : o.size ≤ 5 + 10 * l.length := by rw [← h]; exact rPlacesText_b' l
theorem nil_app (s : ByteArray) : tx [] ++ s = s := by rw [← tx_data s, tx_append]; rfl
theorem app_nil (s : ByteArray) : s ++ tx [] = s := by rw [← tx_data s, tx_append, List.append_nil]
theorem rFixText_ne {n w : Int} (h : rFixText n w ≠ tx []) : (rFixText n w).size = w.toNat := by
  by_cases hh : 0 ≤ n ∧ 1 ≤ w ∧ w ≤ 8 ∧ n.toNat / 2 ^ (8 * w.toNat) = 0
  · exact rFixText_size hh
  · exact absurd (if_neg hh) h
def wfPl (l : List TPlace) : Prop := ∀ p ∈ l, wfI p.count_ ∧ wfI p.at_
def fixAll (acc : ByteArray) : List Int → Option ByteArray
  | [] => some acc
  | x :: l => if rFixText x 4 = tx [] then none else fixAll (acc ++ rFixText x 4) l
def rTrailerText (a b c d : Int) : ByteArray := match fixAll (tx []) [a, b, c, d] with
  | some t => t ++ tx [73, 68, 88, 33]
  | none => tx []
theorem fixAll_size : ∀ {l : List Int} {acc t : ByteArray}, fixAll acc l = some t → t.size ≤ acc.size + 8 * l.length
  | [], acc, t, h => by cases h; simp
  | x :: l, acc, t, h => by
    simp only [fixAll] at h
    split at h
    · cases h
    · have := fixAll_size h
      have h1 := @rFixText_le x 4
      rw [ByteArray.size_append] at this
      rw [List.length_cons]
      omega
theorem rTrailerText_b {a b c d : Int} {o : ByteArray} (h : rTrailerText a b c d = o) : o.size ≤ 36 := by
  rw [← h]
  unfold rTrailerText
  split
  · rename_i t ht
    have := fixAll_size ht
    simp only [tx_size, List.length_cons, List.length_nil] at this
    rw [ByteArray.size_append, tx_size]
    simp only [List.length_cons, List.length_nil]
    omega
  · simp [tx_size]
theorem fixAll_eq : ∀ {l : List Int} {acc t : ByteArray}, fixAll acc l = some t → t.size = acc.size + 4 * l.length
  | [], acc, t, h => by cases h; simp
  | x :: l, acc, t, h => by
    simp only [fixAll] at h
    split at h
    · cases h
    · rename_i hx
      have := fixAll_eq h
      have h1 := rFixText_ne hx
      rw [ByteArray.size_append, h1] at this
      rw [List.length_cons, this]
      simp
      omega
theorem rTrailerText_20 {a b c d : Int} (h : rTrailerText a b c d ≠ tx []) : (rTrailerText a b c d).size = 20 := by
  unfold rTrailerText at h ⊢
  split
  · rename_i t ht
    have := fixAll_eq ht
    simp only [tx_size, List.length_cons, List.length_nil] at this
    rw [ByteArray.size_append, tx_size, this]
    rfl
  · rename_i ht
    rw [ht] at h
    exact absurd rfl h
def rFootText (h : THead) (offs : List Int) (fin : Int) : ByteArray :=
  if rHeadOk h = true ∧ rEndMark h.version_ (h.base_ + offs.length) ≠ tx [] ∧ rPlacesText (rPlacesOf h.stride_ offs) ≠ tx [] ∧ rTrailerText fin offs.length h.stride_ 0 ≠ tx [] then
    (rEndMark h.version_ (h.base_ + offs.length) ++ rPlacesText (rPlacesOf h.stride_ offs)) ++ rTrailerText fin offs.length h.stride_ (rSumOf ((rEndMark h.version_ (h.base_ + offs.length) ++ rPlacesText (rPlacesOf h.stride_ offs)) ++ (rTrailerText fin offs.length h.stride_ 0).extract 0 12)) else tx []
theorem rPlacesOf_len {s : Int} {offs : List Int} : (rPlacesOf s offs).length ≤ offs.length := by
  unfold rPlacesOf
  split
  · simp
  · exact plOf_len
theorem rPlacesOf_wf {s : Int} {offs : List Int} (h : ∀ x ∈ offs, wfI x) (hl : offs.length < 2 ^ 40) : wfPl (rPlacesOf s offs) := by
  unfold rPlacesOf
  split
  · intro p hp; simp at hp
  · intro p hp
    unfold plOf at hp
    obtain ⟨i, hi, rfl⟩ := List.mem_map.1 hp
    have hi2 := List.mem_range.1 (List.mem_filter.1 hi).1
    refine ⟨⟨by show -9223372036854775808 ≤ (i : Int); omega, by show (i : Int) < 9223372036854775808; omega⟩, ?_⟩
    show wfI (offs.getD i 0)
    rw [← getD_el hi2]
    exact h _ (List.getElem_mem hi2)
theorem rFootText_le (h : THead) (offs : List Int) (fin : Int) : (rFootText h offs fin).size ≤ 57 + 10 * offs.length := by
  unfold rFootText
  split
  · rw [ByteArray.size_append, ByteArray.size_append]
    have h1 := rEndMark_b (rfl : rEndMark h.version_ (h.base_ + offs.length) = _)
    have h2 := rPlacesText_b' (rPlacesOf h.stride_ offs)
    have h3 := @rPlacesOf_len h.stride_ offs
    have h4 := rTrailerText_b (rfl : rTrailerText fin offs.length h.stride_ (rSumOf ((rEndMark h.version_ (h.base_ + offs.length) ++ rPlacesText (rPlacesOf h.stride_ offs)) ++ (rTrailerText fin offs.length h.stride_ 0).extract 0 12)) = _)
    omega
  · simp [tx_size]
theorem FsPlacesOf {stride : Int} {offs : List Int} {xoffs : List (List D)} {o : List TPlace} {xo : List (List D)} (hoffs : offs.map cI = xoffs) (hl : offs.length < 2 ^ 40) (hr : rPlacesOf stride offs = o) (ho : o.map ePlace = xo) : Fn Tryz.prog 211 [I stride, .d (.row 1 xoffs)] [] ⟨.d (.row 2 xo), [], []⟩ := by
 refine Fn.go su_ch11 Tryz.func211 fun P hP Q hQ => ?_
 conv => cbv
 refine LoopW.lp (κ := Int × (List (List D)) × Nat) su_ch11 hP [1] [0, 1] (fun (i6, zw2, nw2) => [(5, .ref 2 0 nw2), (6, I i6)]) (fun (i6, zw2, nw2) => [(2, .row 2 false zw2)])
   (fun (i6, zw2, nw2) => ∃ (w2 : List TPlace), w2.map ePlace = zw2 ∧ nw2 = w2.length ∧ ∃ k : Nat, i6 = (k : Int) ∧ k ≤ offs.length ∧ (1 ≤ stride ∨ k = 0) ∧ w2 = plOf stride.toNat offs k)
   (fun (i6, zw2, nw2) => (offs.length - i6).toNat) (0, [], 0) ⟨[], rfl, rfl, 0, rfl, by omega, by omega, by simp [plOf]⟩ ⟨rfl, rfl, trivial⟩ rfl ?_
 rintro ⟨i6, zw2, nw2⟩ J ⟨w2, hw2, hnw2, k, hi, hk, hs, hw⟩ hJ
 have hwl : w2.length ≤ k := by rw [hw]; exact plOf_len
 conv => cbv
 refine .go hoffs fun v1 hv1 => ?_
 conv => cbv
 refine .lss (fun h2 => ?_) fun h2 => ?_
 conv => cbv
 refine .geq (fun h3 => ?_) fun h3 => ?_
 conv => cbv
 refine .rem fun v4 hv4 => ?_
 conv => cbv
 refine .eql (fun h5 => ?_) fun h5 => ?_
 conv => cbv
 refine .go i6.toNat hoffs fun hje6 e6 qe6 => ?_
 conv => cbv
 have em0 : ((k % stride.toNat : Nat) : Int) = 0 := by rw [Int.natCast_emod, Int.toNat_of_nonneg (by omega), ← hi, ← hv4]; exact h5
 have em : k % stride.toNat = 0 := by omega
 have e1 : (⟨i6, e6⟩ : TPlace) = ⟨(k : Int), offs.getD k 0⟩ := by rw [qe6, getD_el]; simp only [hi, Int.toNat_natCast]
 refine .one (⟨i6, e6⟩ : TPlace) hw2 rfl fun nz7 z7 hnz7 hz7 => ?_
 conv => cbv
 refine .add fun v8 hv8 => ?_
 conv => cbv
 exact .go [4] (v8, z7, nz7) (hJ _ ⟨_, hz7, (by first | omega | (simp; omega)), k + 1, by omega, by omega, by omega, by rw [plOf_succ, if_pos em, hw, e1]⟩ (by first | (dsimp only; omega) | omega))
 conv => cbv
 have em : ¬ k % stride.toNat = 0 := by intro e; refine h5 ?_; rw [hv4, hi, show stride = ((stride.toNat : Nat) : Int) by omega, ← Int.natCast_emod, e]; rfl
 refine .add fun v6 hv6 => ?_
 conv => cbv
 exact .go [2] (v6, zw2, nw2) (hJ _ ⟨_, hw2, (by first | omega | (simp; omega)), k + 1, by omega, by omega, by omega, by rw [plOf_succ, if_neg em, hw]; simp⟩ (by first | (dsimp only; omega) | omega))
 conv => cbv
 have e : w2 = rPlacesOf stride offs := (by rw [hw, show k = 0 by omega]; unfold rPlacesOf; rw [if_pos (by omega)]; rfl)
 rw [hr] at e
 subst e
 exact hQ _ _ (.r rfl rfl (by rw [← hw2, List.length_map]; first | omega | (simp; omega)) (by rw [← hw2, ← ho]))
 conv => cbv
 have e : w2 = rPlacesOf stride offs := (by rw [hw]; unfold rPlacesOf; split; rw [show k = 0 by omega]; rfl; rw [show k = offs.length by omega])
 rw [hr] at e
 subst e
 exact hQ _ _ (.r rfl rfl (by rw [← hw2, List.length_map]; first | omega | (simp; omega)) (by rw [← hw2, ← ho]))
theorem FiPlacesOf {stride : Int} {offs : List Int} {xoffs : List (List D)} {o : List TPlace} {xo : List (List D)} (hoffs : offs.map cI = xoffs) (hl : offs.length < 2 ^ 40) (hr : rPlacesOf stride offs = o) (ho : o.map ePlace = xo) : Fn Tryz.prog 223 [I stride, .d (.row 1 xoffs)] [] ⟨.d (.row 2 xo), [], []⟩ := by
 refine Fn.go su_ch11 Tryz.func223 fun P hP Q hQ => ?_
 conv => cbv
 refine .lss (fun h1 => ?_) fun h1 => ?_
 conv => cbv
 have e : [] = rPlacesOf stride offs := (by unfold rPlacesOf; rw [if_pos (by omega)])
 rw [hr] at e
 subst e
 exact hQ _ _ (.r rfl rfl rfl (by rw [← ho]; rfl))
 conv => cbv
 refine LoopW.lp (κ := Int × (List (List D)) × Nat) su_ch11 hP [1] [0, 1] (fun (i6, zw2, nw2) => [(5, .ref 2 0 nw2), (6, I i6)]) (fun (i6, zw2, nw2) => [(2, .row 2 false zw2)])
   (fun (i6, zw2, nw2) => ∃ (w2 : List TPlace), w2.map ePlace = zw2 ∧ nw2 = w2.length ∧ ∃ k : Nat, i6 = (k : Int) ∧ k ≤ offs.length ∧ k % stride.toNat = 0 ∧ w2 = plOf stride.toNat offs k)
   (fun (i6, zw2, nw2) => (offs.length - i6).toNat) (0, [], 0) ⟨[], rfl, rfl, 0, rfl, by omega, by simp, by simp [plOf]⟩ ⟨rfl, rfl, trivial⟩ rfl ?_
 rintro ⟨i6, zw2, nw2⟩ J ⟨w2, hw2, hnw2, k, hi, hk, hs, hw⟩ hJ
 have hwl : w2.length ≤ k := by rw [hw]; exact plOf_len
 conv => cbv
 refine .go hoffs fun v2 hv2 => ?_
 conv => cbv
 refine .lss (fun h3 => ?_) fun h3 => ?_
 conv => cbv
 refine .go i6.toNat hoffs fun hje4 e4 qe4 => ?_
 conv => cbv
 have e1 : (⟨i6, e4⟩ : TPlace) = ⟨(k : Int), offs.getD k 0⟩ := by rw [qe4, getD_el]; simp only [hi, Int.toNat_natCast]
 refine .one (⟨i6, e4⟩ : TPlace) hw2 rfl fun nz5 z5 hnz5 hz5 => ?_
 conv => cbv
 refine .go hoffs fun v6 hv6 => ?_
 conv => cbv
 refine .sub fun v7 hv7 => ?_
 conv => cbv
 refine .gtr (fun h8 => ?_) fun h8 => ?_
 conv => cbv
 have e : (w2 ++ [(⟨i6, e4⟩ : TPlace)]) = rPlacesOf stride offs := (by unfold rPlacesOf; rw [if_neg (by omega), show offs.length = k + 1 + (offs.length - 1 - k) by omega, plOf_gap hs _ (by omega), hw, e1])
 rw [hr] at e
 subst e
 exact hQ _ _ (.r rfl rfl (by rw [← hz5, List.length_map]; first | omega | (simp; omega)) (by rw [← hz5, ← ho]))
 conv => cbv
 refine .add fun v9 hv9 => ?_
 conv => cbv
 exact .go [4] (v9, z5, nz5) (hJ _ ⟨_, hz5, (by first | omega | (simp; omega)), k + stride.toNat, by omega, by omega, by rw [Nat.add_mod_right]; exact hs, by rw [show k + stride.toNat = k + 1 + (stride.toNat - 1) by omega, plOf_gap hs _ (by omega), hw, e1]⟩ (by first | (dsimp only; omega) | omega))
 conv => cbv
 have e : w2 = rPlacesOf stride offs := (by unfold rPlacesOf; rw [if_neg (by omega), hw, show k = offs.length by omega])
 rw [hr] at e
 subst e
 exact hQ _ _ (.r rfl rfl (by rw [← hw2, List.length_map]; first | omega | (simp; omega)) (by rw [← hw2, ← ho]))
theorem FiTrailerText {mark : Int} {count : Int} {stride : Int} {sum : Int} {o : ByteArray}  (k1 : mark < 9223372036854775808) (k2 : count < 9223372036854775808) (k3 : stride < 9223372036854775808) (k4 : sum < 9223372036854775808) (hr : rTrailerText mark count stride sum = o)  : Fn Tryz.prog 224 [I mark, I count, I stride, I sum] [] ⟨S o, [], []⟩ := by
 refine Fn.go su_ch11 Tryz.func224 fun P hP Q hQ => ?_
 conv => cbv
 refine .go fun v1 hv1 => ?_
 conv => cbv
 refine LoopW.lp (κ := ByteArray × Int) su_ch11 hP [] [17, 18] (fun (s9, i19) => [(9, S s9), (19, I i19)]) (fun (s9, i19) => [])
   (fun (s9, i19) => ∃ k : Nat, i19 = (k : Int) ∧ k ≤ 4 ∧ s9.size ≤ 8 * k ∧ fixAll (tx []) [mark, count, stride, sum] = fixAll s9 ([mark, count, stride, sum].drop k))
   (fun (s9, i19) => (4 - i19).toNat) (tx [], 0) ⟨0, rfl, by omega, by simp [tx_size], rfl⟩ ⟨rfl, rfl, trivial⟩ rfl ?_
 rintro ⟨s9, i19⟩ J ⟨k, hi, hk, hz, hf⟩ hJ
 conv => cbv
 refine .lss (fun h2 => ?_) fun h2 => ?_
 conv => cbv
 refine .go i19.toNat fun p3 hp3 hjp3 => ?_
 conv => cbv
 refine .go (l := [mark, count, stride, sum]) (c := cI) rfl fun hje4 e4 qe4 => ?_
 conv => cbv
 have eE : [mark, count, stride, sum][k]'(by simp; omega) = e4 := by rw [qe4]; congr 1; omega
 have hE : e4 < 9223372036854775808 := by
   rw [← eE]
   have hk4 : k < 4 := by omega
   rcases k with _ | _ | _ | _ | k
   · exact k1
   · exact k2
   · exact k3
   · exact k4
   · omega
 generalize hr5 : rFixText e4 4 = r5
 have zr5 := rFixText_b hr5
 refine .dd hP (FiFixText (by omega) hr5) ?_
 conv => cbv
 refine .eql (fun h6 => ?_) fun h6 => ?_
 conv => cbv
 have e : (tx []) = rTrailerText mark count stride sum := (by unfold rTrailerText; rw [hf, List.drop_eq_getElem_cons (by simp; omega)]; simp only [fixAll]; rw [eE, if_pos (by rw [hr5]; exact h6)])
 rw [hr] at e
 subst e
 exact hQ _ _ (.s rfl rfl)
 conv => cbv
 refine .go fun s7 hs7 zs7 => ?_
 conv => cbv
 refine .add fun v8 hv8 => ?_
 conv => cbv
 exact .go [] (s7, v8) (hJ _ ⟨k + 1, by omega, by omega, by omega, by rw [hf, List.drop_eq_getElem_cons (by simp; omega)]; simp only [fixAll]; rw [eE, if_neg]; rw [hs7]; rw [hr5]; exact fun e => h6 (hr5.symm.trans e)⟩ (by first | (dsimp only; omega) | omega))
 conv => cbv
 refine .litR 4 fun s3 hs3 zs3 => ?_
 conv => cbv
 have e : s3 = rTrailerText mark count stride sum := (by unfold rTrailerText; rw [hf, List.drop_of_length_le (by simp; omega)]; simp only [fixAll]; exact hs3)
 rw [hr] at e
 subst e
 exact hQ _ _ (.s rfl rfl)
theorem FsTrailerText {mark : Int} {count : Int} {stride : Int} {sum : Int} {o : ByteArray}  (k1 : mark < 9223372036854775808) (k2 : count < 9223372036854775808) (k3 : stride < 9223372036854775808) (k4 : sum < 9223372036854775808) (hr : rTrailerText mark count stride sum = o)  : Fn Tryz.prog 212 [I mark, I count, I stride, I sum] [] ⟨S o, [], []⟩ := by
 refine Fn.go su_ch11 Tryz.func212 fun P hP Q hQ => ?_
 conv => cbv
 refine LoopW.lp (κ := ByteArray × Int) su_ch11 hP [] [10] (fun (s9, i11) => [(9, S s9), (11, I i11)]) (fun (s9, i11) => [])
   (fun (s9, i11) => ∃ k : Nat, i11 = (k : Int) ∧ k ≤ 4 ∧ s9.size ≤ 8 * k ∧ fixAll (tx []) [mark, count, stride, sum] = fixAll s9 ([mark, count, stride, sum].drop k))
   (fun (s9, i11) => (4 - i11).toNat) (tx [], 0) ⟨0, rfl, by omega, by simp [tx_size], rfl⟩ ⟨rfl, rfl, trivial⟩ rfl ?_
 rintro ⟨s9, i11⟩ J ⟨k, hi, hk, hz, hf⟩ hJ
 conv => cbv
 refine .lss (fun h1 => ?_) fun h1 => ?_
 conv => cbv
 refine .go i11.toNat fun p2 hp2 hjp2 => ?_
 conv => cbv
 refine .go (l := [mark, count, stride, sum]) (c := cI) rfl fun hje3 e3 qe3 => ?_
 conv => cbv
 have eE : [mark, count, stride, sum][k]'(by simp; omega) = e3 := by rw [qe3]; congr 1; omega
 have hE : e3 < 9223372036854775808 := by
   rw [← eE]
   have hk4 : k < 4 := by omega
   rcases k with _ | _ | _ | _ | k
   · exact k1
   · exact k2
   · exact k3
   · exact k4
   · omega
 generalize hr4 : rFixText e3 4 = r4
 have zr4 := rFixText_b hr4
 refine .dd hP (FsFixText (by omega) hr4) ?_
 conv => cbv
 refine .eql (fun h5 => ?_) fun h5 => ?_
 conv => cbv
 have e : (tx []) = rTrailerText mark count stride sum := (by unfold rTrailerText; rw [hf, List.drop_eq_getElem_cons (by simp; omega)]; simp only [fixAll]; rw [eE, if_pos (by rw [hr4]; exact h5)])
 rw [hr] at e
 subst e
 exact hQ _ _ (.s rfl rfl)
 conv => cbv
 refine .go fun s6 hs6 zs6 => ?_
 conv => cbv
 refine .add fun v7 hv7 => ?_
 conv => cbv
 exact .go [] (s6, v7) (hJ _ ⟨k + 1, by omega, by omega, by omega, by rw [hf, List.drop_eq_getElem_cons (by simp; omega)]; simp only [fixAll]; rw [eE, if_neg]; rw [hs6]; rw [hr4]; exact fun e => h5 (hr4.symm.trans e)⟩ (by first | (dsimp only; omega) | omega))
 conv => cbv
 refine .litR 4 fun s2 hs2 zs2 => ?_
 conv => cbv
 have e : s2 = rTrailerText mark count stride sum := (by unfold rTrailerText; rw [hf, List.drop_of_length_le (by simp; omega)]; simp only [fixAll]; exact hs2)
 rw [hr] at e
 subst e
 exact hQ _ _ (.s rfl rfl)
theorem Fsl11Less {a : Int} {b : Int} {o : Int}  (ha : wfI a) (hb : wfI b) (hr : rl11Less a b = o)  : Fn Tryz.prog 240 [I a, I b] [] ⟨I o, [], []⟩ := by
 refine Fn.go su_ch11 Tryz.func240 fun P hP Q hQ => ?_
 conv => cbv
 refine .subW fun v1 hv1 => ?_
 conv => cbv
 refine .lss (fun h2 => ?_) fun h2 => ?_
 conv => cbv
 have e : (-1) = rl11Less a b := (by unfold rl11Less; rw [i64_wrapE] at hv1; obtain ⟨ha1, ha2⟩ := ha; obtain ⟨hb1, hb2⟩ := hb; rw [if_neg (by omega)])
 rw [hr] at e
 subst e
 exact hQ _ _ (.i rfl rfl)
 conv => cbv
 refine .lss (fun h3 => ?_) fun h3 => ?_
 conv => cbv
 have e : (-1) = rl11Less a b := (by unfold rl11Less; rw [i64_wrapE] at hv1; obtain ⟨ha1, ha2⟩ := ha; obtain ⟨hb1, hb2⟩ := hb; rw [if_neg (by omega)])
 rw [hr] at e
 subst e
 exact hQ _ _ (.i rfl rfl)
 conv => cbv
 have e : v1 = rl11Less a b := (by unfold rl11Less; rw [i64_wrapE] at hv1; obtain ⟨ha1, ha2⟩ := ha; obtain ⟨hb1, hb2⟩ := hb; rw [if_pos (by omega)]; omega)
 rw [hr] at e
 subst e
 exact hQ _ _ (.i rfl rfl)
theorem Fiabove {a : Int} {b : Int} {o : ByteArray}  (ha : wfI a) (hb : wfI b) (hr : rabove a b = o)  : Fn Tryz.prog 242 [I a, I b] [] ⟨S o, [], []⟩ := by
 refine Fn.go su_ch11 Tryz.func242 fun P hP Q hQ => ?_
 conv => cbv
 refine .lss (fun h1 => ?_) fun h1 => ?_
 conv => cbv
 have e : (tx []) = rabove a b := (by unfold rabove; rw [if_neg (by omega)])
 rw [hr] at e
 subst e
 exact hQ _ _ (.s rfl rfl)
 conv => cbv
 refine .go fun v2 hv2 => ?_
 conv => cbv
 refine .go fun v3 hv3 => ?_
 conv => cbv
 refine .subW fun v4 hv4 => ?_
 conv => cbv
 have e4 : v4 = a - b := by rw [hv4, hv2, hv3, u64_wrap, u64_wrap, u64_wrap]; obtain ⟨ha1, ha2⟩ := ha; obtain ⟨hb1, hb2⟩ := hb; omega
 refine .gtr (fun h5 => ?_) fun h5 => ?_
 conv => cbv
 have e : (tx []) = rabove a b := (by unfold rabove; rw [if_neg (by omega)])
 rw [hr] at e
 subst e
 exact hQ _ _ (.s rfl rfl)
 conv => cbv
 refine .sub fun v6 hv6 => ?_
 conv => cbv
 generalize hr7 : rVarText v6 = r7
 have zr7 := rVarText_b hr7
 refine .dd hP (FiVarText hr7) ?_
 conv => cbv
 have e : r7 = rabove a b := (by unfold rabove; rw [if_pos (by omega), ← hr7, hv6])
 rw [hr] at e
 subst e
 exact hQ _ _ (.s rfl rfl)
theorem FsPlacesText {l : List TPlace} {xl : List (List D)} {o : ByteArray} (hl : l.map ePlace = xl) (hn : l.length < 2 ^ 40) (hw : wfPl l) (hr : rPlacesText l = o)  : Fn Tryz.prog 210 [.d (.row 2 xl)] [] ⟨S o, [], []⟩ := by
 refine Fn.go su_ch11 Tryz.func210 fun P hP Q hQ => ?_
 conv => cbv
 refine .go hl fun v1 hv1 => ?_
 conv => cbv
 generalize hr2 : rVarText v1 = r2
 have zr2 := rVarText_b hr2
 refine .dd hP (FsVarText hr2) ?_
 conv => cbv
 refine LoopW.lp (κ := ByteArray × Int × Int × Int) su_ch11 hP [] [0, 4] (fun (s3, i5, c0a, c0b) => [(3, S s3), (5, I i5)]) (fun (s3, i5, c0a, c0b) => [(0, .box 257 [I c0a, I c0b])])
   (fun (s3, i5, c0a, c0b) => ∃ (k : Nat) (pr : ByteArray), i5 = (k : Int) ∧ k ≤ l.length ∧ s3 = rVarText l.length ++ pr ∧ pr.size ≤ 10 * k ∧ wfI c0a ∧ wfI c0b ∧ plText (0, 0) l = (plText (c0a, c0b) (l.drop k)).map fun t => pr ++ t)
   (fun (s3, i5, c0a, c0b) => (l.length - i5).toNat) (r2, 0, 0, 0) ⟨0, tx [], rfl, by omega, by rw [← hr2, hv1, app_nil], by simp [tx_size], by constructor <;> omega, by constructor <;> omega, by simp [nil_app]⟩ ⟨rfl, rfl, trivial⟩ rfl ?_
 rintro ⟨s3, i5, c0a, c0b⟩ J ⟨k, pr, hi, hk, hs, hz, hwa, hwb, hp⟩ hJ
 have zs3 : s3.size ≤ 5 + 10 * k := by rw [hs, ByteArray.size_append]; have := rVarText_le l.length; omega
 conv => cbv
 refine .go hl fun v3 hv3 => ?_
 conv => cbv
 refine .lss (fun h4 => ?_) fun h4 => ?_
 conv => cbv
 refine .go i5.toNat hl fun hje5 ⟨e5cou, e5at⟩ qe5 => ?_
 conv => cbv
 have hkl : k < l.length := by omega
 have hd : l.drop k = ⟨e5cou, e5at⟩ :: l.drop (k + 1) := by rw [List.drop_eq_getElem_cons hkl, qe5]; congr 2; omega
 obtain ⟨hw1, hw2⟩ := hw ⟨e5cou, e5at⟩ (by rw [qe5]; exact List.getElem_mem _)
 simp only [] at hw1 hw2
 generalize hr6 : rl11Less e5cou c0a = r6
 refine .dd hP (Fsl11Less (by assumption) (by assumption) hr6) ?_
 conv => cbv
 generalize hr7 : rVarText r6 = r7
 have zr7 := rVarText_b hr7
 refine .dd hP (FsVarText hr7) ?_
 conv => cbv
 generalize hr8 : rl11Less e5at c0b = r8
 refine .dd hP (Fsl11Less (by assumption) (by assumption) hr8) ?_
 conv => cbv
 generalize hr9 : rVarText r8 = r9
 have zr9 := rVarText_b hr9
 refine .dd hP (FsVarText hr9) ?_
 conv => cbv
 have ea : rabove e5cou c0a = r7 := by rw [← hr7, ← hr6, above_less]
 have eb : rabove e5at c0b = r9 := by rw [← hr9, ← hr8, above_less]
 refine .eql (fun h10 => ?_) fun h10 => ?_
 conv => cbv
 have e : (tx []) = rPlacesText l := (by unfold rPlacesText; rw [hp, hd]; simp only [plText]; rw [ea, eb, if_pos (.inl h10)]; rfl)
 rw [hr] at e
 subst e
 exact hQ _ _ (.s rfl rfl)
 conv => cbv
 refine .eql (fun h11 => ?_) fun h11 => ?_
 conv => cbv
 have e : (tx []) = rPlacesText l := (by unfold rPlacesText; rw [hp, hd]; simp only [plText]; rw [ea, eb, if_pos (.inr h11)]; rfl)
 rw [hr] at e
 subst e
 exact hQ _ _ (.s rfl rfl)
 conv => cbv
 refine .go fun s12 hs12 zs12 => ?_
 conv => cbv
 refine .go fun s13 hs13 zs13 => ?_
 conv => cbv
 refine .add fun v14 hv14 => ?_
 conv => cbv
 exact .go [] (s13, v14, e5cou, e5at) (hJ _ ⟨k + 1, pr ++ (r7 ++ r9), by omega, by omega, by rw [hs13, hs12, hs]; simp only [ByteArray.append_assoc], by rw [ByteArray.size_append, ByteArray.size_append]; omega, hw1, hw2, by rw [hp, hd]; simp only [plText]; rw [ea, eb, if_neg (by intro h; rcases h with h | h; exact h10 h; exact h11 h), Option.map_map]; congr 1; funext t; simp only [Function.comp, ByteArray.append_assoc]⟩ (by first | (dsimp only; omega) | omega))
 conv => cbv
 have e : s3 = rPlacesText l := (by unfold rPlacesText; rw [hp, List.drop_of_length_le (by omega), hs]; simp [plText, app_nil])
 rw [hr] at e
 subst e
 exact hQ _ _ (.s rfl rfl)
end Go.Proofs.YtmhinjjgpabkfaaGreatDoor.Ab
