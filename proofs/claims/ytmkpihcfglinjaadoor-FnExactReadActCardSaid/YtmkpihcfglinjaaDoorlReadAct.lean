/- What functions of the program come to, for all arguments in the given bounds. -/
import Derived.Test.YtmkpihcfglinjaaDoorch29f
set_option linter.unusedVariables false
set_option linter.unusedSimpArgs false
namespace Go.Proofs.YtmkpihcfglinjaaDoor.Ab
open Go Go.Proofs
set_option maxRecDepth 20000
set_option maxHeartbeats 4000000
set_option linter.unusedSimpArgs false
set_option linter.unusedVariables false
def tab_lReadAct : List (Nat × TyRow) := [
  (3, ⟨.int .i64, some 1, some false, none, false, [.int .i64], [], some [(.int .i64 0, 0)], none, none, none⟩),
  (4, ⟨.bool, some 1, some false, none, false, [.bool], [], some [(.bool false, 0)], none, none, none⟩),
  (9, ⟨.str, some 1, some false, none, false, [.str], [], some [(.string default, 0)], none, none, none⟩),
  (28, ⟨.sl 1, some 1, some false, some (1, 8), false, [.sl 1], [], some [(.slice none 0 0, 1)], some ([.sc (.int .i64 0)], 1, 8), none, none⟩),
  (30, ⟨.other, some 4, some true, none, false, [.int .i64, .str, .int .i64, .sl 1], [some (0, 1, false), some (1, 1, false), some (2, 1, false), some (3, 1, false)], some [(.int .i64 0, 0), (.string default, 0), (.int .i64 0, 0), (.slice none 0 0, 1)], none, some [(0, 1), (1, 1), (2, 1), (3, 1)], none⟩),
  (35, ⟨.sl 1, some 1, some false, some (1, 16), false, [.sl 1], [], some [(.slice none 0 0, 1)], some ([.sc (.string default)], 1, 16), none, none⟩)]
theorem tab_lReadAct_ok : TabOk Tryd.prog tab_lReadAct := TabOk.of (by kernel_rfl)
theorem su_lReadAct : Setup Tryd.prog tab_lReadAct := ⟨tab_lReadAct_ok, mixed⟩
theorem act_B {line : ByteArray} {c : TAct} (h : rReadAct line = (c, true)) : (rPartsOf line).2 = true ∧ actFull c ∧ wordsA c = (rPartsOf line).1 := by
  unfold rReadAct at h
  split at h
  · rename_i g
    obtain ⟨h, -⟩ := Prod.mk.inj h
    rw [← h]; exact g
  · cases (Prod.mk.inj h).2
def mkI (k : Int) (a : List Int) : List Int := (List.range a.length).map fun (j : Nat) => k + (j : Int)
theorem mkI_len (k : Int) (a : List Int) : (mkI k a).length = a.length := by unfold mkI; rw [List.length_map, List.length_range]
theorem mkI_get {k : Int} {a : List Int} {j : Nat} (h : j < (mkI k a).length) : (mkI k a)[j] = k + (j : Int) := by simp [mkI]
theorem mkI_set {k z : Int} {a : List Int} {j : Nat} (h : j < a.length) : (z :: (mkI k (a.take j) ++ a.drop j)).set (1 + j) (k + (j : Int)) = z :: (mkI k (a.take (j + 1)) ++ a.drop (j + 1)) := by
  have hl : (mkI k (a.take j)).length = j := by rw [mkI_len, List.length_take]; omega
  rw [Nat.add_comm, List.set_cons_succ, List.set_append_right _ _ (by omega), hl, Nat.sub_self, List.drop_eq_getElem_cons h, List.set_cons_zero]
  have e : mkI k (a.take (j + 1)) = mkI k (a.take j) ++ [k + (j : Int)] := by
    unfold mkI
    rw [List.length_take, List.length_take, Nat.min_eq_left (by omega), Nat.min_eq_left (by omega), List.range_succ, List.map_append]
    rfl
  rw [e, List.append_assoc]
  rfl
def rheldIntS (a : List Int) (k : Int) : Int := if a = mkI k a then k + a.length else -1
theorem held_no {a : List Int} {k : Int} {j : Nat} (hj : j < a.length) (h : a[j] ≠ k + (j : Int)) : (-1 : Int) = rheldIntS a k := by
  unfold rheldIntS
  rw [if_neg]
  intro e
  have e2 : a[j]? = (mkI k a)[j]? := congrArg (fun l => l[j]?) e
  rw [List.getElem?_eq_getElem hj, List.getElem?_eq_getElem (by rw [mkI_len]; exact hj), mkI_get] at e2
  exact h (Option.some.inj e2)
theorem held_yes {a : List Int} {k i : Int} (hi : i = k + a.length) (h : ∀ (j : Nat) (hj : j < a.length), a[j] = k + (j : Int)) : i = rheldIntS a k := by
  unfold rheldIntS
  rw [if_pos, hi]
  refine List.ext_getElem (mkI_len k a).symm fun j h1 h2 => ?_
  rw [mkI_get, h j h1]
theorem held_mk (k : Int) (a : List Int) : rheldIntS (mkI k a) k = k + a.length := by
  unfold rheldIntS
  rw [if_pos, mkI_len]
  unfold mkI
  rw [List.length_map, List.length_range]
def reqIntS (a b : List Int) : Bool := decide (a = b)
def reqAct (a b : TAct) : Bool := decide (a.kind_ = b.kind_ ∧ a.text_ = b.text_ ∧ a.n_ = b.n_ ∧ a.keeps_ = b.keeps_)
def rmarkIntS (a : List Int) (k : Int) : Int := k + a.length
def rheldAct (a : TAct) (k : Int) : Int := if rheldIntS a.keeps_ k < 0 then -1 else rheldIntS a.keeps_ k
theorem FireadFiguresR {parts : List ByteArray} {xparts : List (List D)} {oa : List Int} {xoa : List (List D)} {ob : Bool} {no : Nat} (hparts : parts.map cS = xparts) (hs : ∀ x ∈ parts, x.size ≤ 1000000000) (hn : parts.length ≤ 1000000) (hb : rreadFigures parts = (oa, true))  (hoa : oa.map cI = xoa) (hno : no = oa.length) : Fn Tryd.prog 18 [.d (.row 1 xparts)] [] ⟨.tup [.ref 0 0 no, B true], [.row 1 false xoa], []⟩ := by
 refine Fn.goR su_lReadAct Tryd.func18 fun P hP Q hQ => ?_
 conv => cbv
 refine .go hparts fun v1 hv1 => ?_
 conv => cbv
 refine LoopW.lp (κ := Int × (List (List D)) × Nat) su_lReadAct hP [1] [10, 11] (fun (i12, zw2, nw2) => [(4, .ref 2 0 nw2), (12, I i12)]) (fun (i12, zw2, nw2) => [(2, .row 1 false zw2)])
   (fun (i12, zw2, nw2) => ∃ (w2 : List Int), w2.map cI = zw2 ∧ nw2 = w2.length ∧ 0 ≤ i12 ∧ i12 ≤ parts.length ∧ (∀ (j : Nat) (hj : j < parts.length), j < i12.toNat → (rReadDecimal parts[j]).2 = true) ∧ w2.length = i12.toNat ∧ w2 = (parts.take i12.toNat).map fun x => (rReadDecimal x).1)
   (fun (i12, zw2, nw2) => (parts.length - i12).toNat) (0, [], 0) ⟨[], rfl, rfl, by omega, by omega, fun j _ h => by simp at h, rfl, rfl⟩ ⟨rfl, rfl, trivial⟩ rfl ?_
 rintro ⟨i12, zw2, nw2⟩ J ⟨w2, hw2, hnw2, h0, h1, hbb, hwl, hw⟩ hJ
 conv => cbv
 refine .lss (fun h2 => ?_) fun h2 => ?_
 conv => cbv
 refine .go i12.toNat hparts fun hje3 e3 qe3 => ?_
 conv => cbv
 rcases hr4 : rReadDecimal e3 with ⟨r4a, r4b⟩
 refine .dd hP (FiReadDecimal (by rw [qe3]; exact hs _ (List.getElem_mem _)) hr4) ?_
 conv => cbv
 cases r4b
 conv => cbv
 have e : ([], false) = rreadFigures parts := figs_no hje3 (by rw [← qe3, hr4])
 rw [hb] at e
 exact absurd (Prod.mk.inj e).2 Bool.false_ne_true
 conv => cbv
 refine .one r4a hw2 rfl fun nz5 z5 hnz5 hz5 => ?_
 conv => cbv
 refine .add fun v6 hv6 => ?_
 conv => cbv
 exact .go [4] (v6, z5, nz5) (hJ _ ⟨_, hz5, (by first | omega | (simp; omega) | (simp only [List.length_append, List.length_cons, List.length_nil] at *; omega)), by omega, by omega, fun j hj h => if e : j = i12.toNat then by subst e; rw [← qe3, hr4] else hbb j hj (by omega), by rw [List.length_append, hwl]; simp; omega, by rw [hw, show v6.toNat = i12.toNat + 1 by omega, List.take_succ_eq_append_getElem hje3, List.map_append, ← qe3, List.map_singleton, hr4]⟩ (by first | (dsimp only; omega) | omega))
 conv => cbv
 have e : (w2, true) = rreadFigures parts := by unfold rreadFigures; rw [if_pos (List.all_eq_true.2 fun x hx => by obtain ⟨j, hj, rfl⟩ := List.getElem_of_mem hx; exact hbb j hj (by omega)), hw, List.take_of_length_le (by omega)]
 rw [hb] at e
 obtain rfl := (Prod.mk.inj e).1
 obtain rfl : zw2 = xoa := by rw [← hw2, ← hoa]
 obtain rfl : nw2 = no := by omega
 exact hQ _ _ (.of [2] (.inl rfl) rfl rfl rfl rfl)
theorem FiReadActR {line : ByteArray} {kn n : Int} {tex : ByteArray} {ks : List Int} {xf : List (List D)} {m : Nat}    (hb : rReadAct line = (⟨kn, tex, n, ks⟩, true)) (hc : counted kn) (hxf : (n :: ks).map cI = xf) (hm : m = ks.length) : Fn Tryd.prog 9 [S line] [] ⟨.tup [.agg [I kn, S tex, I n, .ref 0 1 m], B true], [.row 1 false xf], []⟩ := by
 refine Fn.goR su_lReadAct Tryd.func9 fun P hP Q hQ => ?_
 conv => cbv
 have hB := act_B hb
 rcases hr1 : rPartsOf line with ⟨r1a, r1b⟩
 generalize hr1a : r1a.map cS = xr1a
 refine .dd hP (FiPartsOf  hr1 hr1a) ?_
 conv => cbv
 cases r1b
 conv => cbv
 rw [hr1] at hB
 exact absurd hB.1 Bool.false_ne_true
 conv => cbv
 have hpt := parts_t hr1
 have hpw : ∀ x ∈ r1a, wordOk x := fun x hx => (hpt.2.2.2.1 x hx).2
 have hps : ∀ x ∈ r1a, x.size ≤ 600 := fun x hx => (hpt.2.2.2.1 x hx).1
 have hpl := hpt.2.2.1
 rw [hr1] at hB
 obtain ⟨hk, hsz, hnn, hks, htx, -, -⟩ := full_t hB.2.1
 have hwt := words_t (p := r1a) hB.2.1 hB.2.2
 dsimp only at hk hsz hnn hks htx hwt
 have hk1 : kn ≠ 1 := by unfold counted at hc; omega
 have hlen := (hwt.2.2.1 hc).1
 obtain rfl := htx hk1
 have hrf := (hwt.2.2.1 hc).2.2.1
 refine .go hr1a fun v2 hv2 => ?_
 conv => cbv
 refine .eql (fun h3 => ?_) fun h3 => ?_
 omega
 conv => cbv
 have hne : r1a ≠ [] := by intro e; rw [e] at hv2; simp at hv2; omega
 have hjb := rJoin_b (l := r1a) rfl hps hpl
 have hd1 : ∀ x ∈ r1a.drop 1, x.size ≤ 1000000000 := fun x hx => by have := hps x (List.mem_of_mem_drop hx); omega
 have hall : ∀ x ∈ r1a, x.size ≤ 1000000000 := fun x hx => by have := hps x hx; omega
 generalize hr4 : ractWords  = l4
 generalize hl4 : l4.map cS = xl4
 refine .dd hP (FiactWords hr4 hl4) ?_
 conv => cbv
 refine .go 0 hr1a fun hje5 e5 qe5 => ?_
 conv => cbv
 generalize hr6 : rIndex l4 e5 = r6
 refine .dd hP (Flslices_Index_string_string hl4 (by rw [← hr4]; decide) hr6) ?_
 conv => cbv
 have hhd : r1a.head? = some e5 := by rw [qe5, List.head?_eq_getElem?]; exact List.getElem?_eq_getElem _
 have hki : KindIs r1a r6 := KindIs.idx hhd (by rw [hr4]; exact hr6)
 have hrk : r6 = kn := hki kn hk hwt.1
 refine .eql (fun h7 => ?_) fun h7 => ?_
 omega
 conv => cbv
 refine .lo hr1a fun x8 hx8 => ?_
 conv => cbv
 obtain ⟨nf, hnf⟩ : ∃ m, m = (n :: ks).length := ⟨_, rfl⟩
 refine .ddN hP (FireadFiguresR (ob := true) hx8 hd1 (by rw [List.length_drop]; omega) hrf hxf hnf) rfl ?_
 conv => cbv
 rw [List.length_cons] at hnf
 subst hrk
 have hal := (act_iff hne hpw).2 hB.2
 refine .go fun v10 hv10 => ?_
 conv => cbv
 refine .gtr (fun h11 => ?_) fun h11 => ?_
 conv => cbv
 refine .go 0 fun p12 hp12 hjp12 => ?_
 conv => cbv
 refine .go hxf fun hje13 e13 qe13 => ?_
 conv => cbv
 refine .lo fun on14 n14 hon14 hn14 => ?_
 conv => cbv
 obtain rfl : e13 = n := by subst hp12; exact qe13
 generalize hr15 : rActLine (⟨r6, tx [], e13, ks⟩ : TAct) = r15
 refine .lnt hP (FiActLine (akee := ks) rfl ⟨by decide, by omega⟩ hr15) (.agg (.d rfl (.d rfl (.d rfl (.sub rfl (by rw [← hxf, List.length_map, List.length_cons]; omega) (by rw [← hxf, show on14 = 1 by omega, List.map_cons, List.drop_succ_cons, List.drop_zero, List.take_of_length_le (by rw [List.length_map]; omega)]) .nil)))) .nil) ?_
 conv => cbv
 refine .eql (fun h16 => ?_) fun h16 => ?_
 exact absurd (hr15.trans h16) hal.1
 conv => cbv
 generalize hr17 : rJoin r1a = r17
 refine .dd hP (Flstrings_Join hr1a ⟨by omega, by omega⟩ hr17) ?_
 conv => cbv
 refine .neq (fun h18 => ?_) fun h18 => ?_
 exact absurd (by rw [← hr15, ← hr17]; exact hal.2) h18
 conv => cbv
 obtain rfl : n14 = m := by omega
 obtain rfl : on14 = 1 := by omega
 exact hQ _ _ (.of [5] (.inl rfl) rfl rfl rfl rfl)
 omega
theorem FlmarkIntS {a : List Int} {xa : List (List D)} {z0a : Int} {na : Nat} {k : Int} {o : Int} {xz : List (List D)} (ha : (z0a :: a).map cI = xa) (hna : na = a.length) (hk : 0 ≤ k ∧ k ≤ 1000000000) (hl : a.length ≤ 1000000000)   (hr : rmarkIntS a k = o) (hz : (z0a :: mkI k a).map cI = xz) : Fn Tryd.prog 29 [.ref 0 1 na, I k] [.row 1 false xa] ⟨I o, [], [(0, .row 1 false xz)]⟩ := by
 refine Fn.goR su_lReadAct Tryd.func29 fun P hP Q hQ => ?_
 conv => cbv
 refine LoopW.lp (κ := Int × Int × (List (List D))) su_lReadAct hP [] [0] (fun (i1, i5, zw0) => [(1, I i1), (5, I i5)]) (fun (i1, i5, zw0) => [(0, .row 1 false zw0)])
   (fun (i1, i5, zw0) => ∃ (w0 : List Int), w0.map cI = zw0 ∧ 0 ≤ i5 ∧ i5 ≤ na ∧ i1 = k + i5 ∧ w0 = z0a :: (mkI k (a.take i5.toNat) ++ a.drop i5.toNat))
   (fun (i1, i5, zw0) => (na - i5).toNat) (k, 0, xa) ⟨(z0a :: a), ha, by omega, by omega, by omega, by simp [mkI]⟩ ⟨rfl, rfl, trivial⟩ rfl ?_
 rintro ⟨i1, i5, zw0⟩ J ⟨w0, hw0, h0, h1, h3, hw⟩ hJ
 have hwl : w0.length = na + 1 := by rw [hw, List.length_cons, List.length_append, mkI_len, List.length_take, List.length_drop]; omega
 conv => cbv
 refine .go fun v1 hv1 => ?_
 conv => cbv
 refine .lss (fun h2 => ?_) fun h2 => ?_
 conv => cbv
 refine .off i5.toNat fun p3 hp3 => ?_
 conv => cbv
 refine .all (i1) hw0 rfl fun z4 hz4 => ?_
 conv => cbv
 refine .add fun v5 hv5 => ?_
 conv => cbv
 refine .add fun v6 hv6 => ?_
 conv => cbv
 exact .go [] (v5, v6, z4) (hJ _ ⟨_, hz4, by omega, by omega, by omega, by rw [hw, show p3 = 1 + i5.toNat by omega, show i1 = k + (i5.toNat : Int) by omega, mkI_set (by omega), show v6.toNat = i5.toNat + 1 by omega]⟩ (by first | (dsimp only; omega) | omega))
 conv => cbv
 have hw2 : w0 = z0a :: mkI k a := by rw [hw, List.take_of_length_le (by omega), List.drop_of_length_le (by omega), List.append_nil]
 subst hw2
 obtain rfl : zw0 = xz := by rw [← hw0, ← hz]
 obtain rfl : i1 = o := by rw [← hr]; unfold rmarkIntS; omega
 exact hQ _ _ (.of [] (.inl rfl) rfl rfl rfl rfl)
theorem FlheldIntS {a : List Int} {xa : List (List D)} {k : Int} {o : Int} (ha : a.map cI = xa) (hk : 0 ≤ k ∧ k ≤ 1000000000) (hl : a.length ≤ 1000000000) (hr : rheldIntS a k = o)  : Fn Tryd.prog 30 [.d (.row 1 xa), I k] [] ⟨I o, [], []⟩ := by
 refine Fn.go su_lReadAct Tryd.func30 fun P hP Q hQ => ?_
 conv => cbv
 refine LoopW.lp (κ := Int × Int) su_lReadAct hP [] [0] (fun (i1, i5) => [(1, I i1), (5, I i5)]) (fun (i1, i5) => [])
   (fun (i1, i5) => 0 ≤ i5 ∧ i5 ≤ a.length ∧ i1 = k + i5 ∧ ∀ (j : Nat) (hj : j < a.length), j < i5.toNat → a[j] = k + (j : Int))
   (fun (i1, i5) => (a.length - i5).toNat) (k, 0) ⟨by omega, by omega, by omega, fun j _ h => by simp at h⟩ ⟨rfl, rfl, trivial⟩ rfl ?_
 rintro ⟨i1, i5⟩ J ⟨h0, h1, h3, hb⟩ hJ
 conv => cbv
 refine .go ha fun v1 hv1 => ?_
 conv => cbv
 refine .lss (fun h2 => ?_) fun h2 => ?_
 conv => cbv
 refine .go i5.toNat ha fun hje3 e3 qe3 => ?_
 conv => cbv
 refine .neq (fun h4 => ?_) fun h4 => ?_
 conv => cbv
 have e : (-1) = rheldIntS a k := (by exact held_no hje3 (by rw [← qe3]; omega))
 rw [hr] at e
 subst e
 exact hQ _ _ (.i rfl rfl)
 conv => cbv
 refine .add fun v5 hv5 => ?_
 conv => cbv
 refine .add fun v6 hv6 => ?_
 conv => cbv
 exact .go [] (v5, v6) (hJ _ ⟨by omega, by omega, by omega, fun j hj h => if e : j = i5.toNat then by subst e; rw [← qe3]; omega else hb j hj (by omega)⟩ (by first | (dsimp only; omega) | omega))
 conv => cbv
 have e : i1 = rheldIntS a k := (by exact held_yes (by omega) fun j hj => hb j hj (by omega))
 rw [hr] at e
 subst e
 exact hQ _ _ (.i rfl rfl)
theorem FleqIntS {a : List Int} {xa : List (List D)} {b : List Int} {xb : List (List D)} {o : Bool} (ha : a.map cI = xa) (hb : b.map cI = xb) (hl : a.length ≤ 1000000000) (hr : reqIntS a b = o)  : Fn Tryd.prog 28 [.d (.row 1 xa), .d (.row 1 xb)] [] ⟨B o, [], []⟩ := by
 refine Fn.go su_lReadAct Tryd.func28 fun P hP Q hQ => ?_
 conv => cbv
 refine .go ha fun v1 hv1 => ?_
 conv => cbv
 refine .go hb fun v2 hv2 => ?_
 conv => cbv
 refine .neq (fun h3 => ?_) fun h3 => ?_
 conv => cbv
 have e : false = reqIntS a b := (by unfold reqIntS; symm; rw [decide_eq_false_iff_not]; intro e; rw [e] at hv1; omega)
 rw [hr] at e
 subst e
 exact hQ _ _ (.b rfl rfl)
 conv => cbv
 refine LoopW.lp (κ := Int) su_lReadAct hP [] [0, 1] (fun i5 => [(5, I i5)]) (fun i5 => [])
   (fun i5 => 0 ≤ i5 ∧ i5 ≤ a.length ∧ ∀ (j : Nat) (hj : j < a.length) (hk : j < b.length), j < i5.toNat → a[j] = b[j])
   (fun i5 => (a.length - i5).toNat) (0) ⟨by omega, by omega, fun j _ _ h => by simp at h⟩ ⟨rfl, trivial⟩ rfl ?_
 rintro i5 J ⟨h0, h1, hx⟩ hJ
 conv => cbv
 refine .go ha fun v4 hv4 => ?_
 conv => cbv
 refine .lss (fun h5 => ?_) fun h5 => ?_
 conv => cbv
 refine .go i5.toNat ha fun hje6 e6 qe6 => ?_
 conv => cbv
 refine .go i5.toNat hb fun hje7 e7 qe7 => ?_
 conv => cbv
 refine .neq (fun h8 => ?_) fun h8 => ?_
 conv => cbv
 have e : false = reqIntS a b := (by unfold reqIntS; symm; rw [decide_eq_false_iff_not]; intro e; subst e; exact h8 (by rw [qe6, qe7]))
 rw [hr] at e
 subst e
 exact hQ _ _ (.b rfl rfl)
 conv => cbv
 refine .add fun v9 hv9 => ?_
 conv => cbv
 exact .go [] (v9) (hJ _ ⟨by omega, by omega, fun j hj hk h => if e : j = i5.toNat then by subst e; rw [← qe6, ← qe7]; first | exact Decidable.not_not.1 h8 | exact h8 | omega else hx j hj hk (by omega)⟩ (by first | (dsimp only; omega) | omega))
 conv => cbv
 have e : true = reqIntS a b := (by unfold reqIntS; symm; rw [decide_eq_true_eq]; exact List.ext_getElem (by omega) fun j p q => hx j p q (by omega))
 rw [hr] at e
 subst e
 exact hQ _ _ (.b rfl rfl)
theorem FleqAct {akin : Int} {atex : ByteArray} {an : Int} {akee : List Int} {xakee : List (List D)} {bkin : Int} {btex : ByteArray} {bn : Int} {bkee : List Int} {xbkee : List (List D)} {o : Bool} (hakee : akee.map cI = xakee) (hbkee : bkee.map cI = xbkee) (hl : akee.length ≤ 1000000000) (hr : reqAct (⟨akin, atex, an, akee⟩ : TAct) (⟨bkin, btex, bn, bkee⟩ : TAct) = o)  : Fn Tryd.prog 10 [.agg [I akin, S atex, I an, .d (.row 1 xakee)], .agg [I bkin, S btex, I bn, .d (.row 1 xbkee)]] [] ⟨B o, [], []⟩ := by
 refine Fn.go su_lReadAct Tryd.func10 fun P hP Q hQ => ?_
 conv => cbv
 refine .neq (fun h1 => ?_) fun h1 => ?_
 conv => cbv
 have e : false = reqAct (⟨akin, atex, an, akee⟩ : TAct) (⟨bkin, btex, bn, bkee⟩ : TAct) := (by unfold reqAct; symm; rw [decide_eq_false_iff_not]; intro e; dsimp only at e; first | (exact absurd e.1 h1) | omega)
 rw [hr] at e
 subst e
 exact hQ _ _ (.b rfl rfl)
 conv => cbv
 refine .neq (fun h2 => ?_) fun h2 => ?_
 conv => cbv
 have e : false = reqAct (⟨akin, atex, an, akee⟩ : TAct) (⟨bkin, btex, bn, bkee⟩ : TAct) := (by unfold reqAct; symm; rw [decide_eq_false_iff_not]; intro e; dsimp only at e; first | exact absurd e.2.1 h2 | exact h2 e.2.1)
 rw [hr] at e
 subst e
 exact hQ _ _ (.b rfl rfl)
 conv => cbv
 refine .neq (fun h3 => ?_) fun h3 => ?_
 conv => cbv
 have e : false = reqAct (⟨akin, atex, an, akee⟩ : TAct) (⟨bkin, btex, bn, bkee⟩ : TAct) := (by unfold reqAct; symm; rw [decide_eq_false_iff_not]; intro e; dsimp only at e; first | omega | exact absurd e.2.2.1 h3)
 rw [hr] at e
 subst e
 exact hQ _ _ (.b rfl rfl)
 conv => cbv
 generalize hr4 : reqIntS akee bkee = r4
 refine .dd hP (FleqIntS hakee hbkee hl hr4) ?_
 cases r4
 conv => cbv
 have e : false = reqAct (⟨akin, atex, an, akee⟩ : TAct) (⟨bkin, btex, bn, bkee⟩ : TAct) := (by unfold reqAct; symm; rw [decide_eq_false_iff_not]; intro e; dsimp only at e; have := of_decide_eq_false hr4; exact this e.2.2.2)
 rw [hr] at e
 subst e
 exact hQ _ _ (.b rfl rfl)
 conv => cbv
 have e : true = reqAct (⟨akin, atex, an, akee⟩ : TAct) (⟨bkin, btex, bn, bkee⟩ : TAct) := (by unfold reqAct; symm; rw [decide_eq_true_eq]; dsimp only; have := of_decide_eq_true hr4; refine ⟨?_, ?_, ?_, this⟩ <;> first | omega | assumption | (apply Classical.byContradiction; assumption))
 rw [hr] at e
 subst e
 exact hQ _ _ (.b rfl rfl)
theorem FlmarkAct {akin : Int} {atex : ByteArray} {an : Int} {akee : List Int} {xakee : List (List D)} {z0 : Int} {nakee : Nat} {k : Int} {o : Int} {xz : List (List D)} (hakee : (z0 :: akee).map cI = xakee) (hnakee : nakee = akee.length) (hk : 0 ≤ k ∧ k ≤ 1000000000) (hl : akee.length ≤ 1000000000)   (hr : rmarkIntS akee k = o) (hz : (z0 :: mkI k akee).map cI = xz) : Fn Tryd.prog 11 [.agg [I akin, S atex, I an, .ref 0 1 nakee], I k] [.row 1 false xakee] ⟨I o, [], [(0, .row 1 false xz)]⟩ := by
 refine Fn.goR su_lReadAct Tryd.func11 fun P hP Q hQ => ?_
 conv => cbv
 refine .bx [0] [] hP (FlmarkIntS hakee hnakee hk hl hr hz) rfl rfl rfl rfl ?_
 conv => cbv
 exact hQ _ _ (.of [] (.inl rfl) rfl rfl rfl rfl)
theorem FlheldAct {akin : Int} {atex : ByteArray} {an : Int} {akee : List Int} {xakee : List (List D)} {k : Int} {o : Int} (hakee : akee.map cI = xakee) (hk : 0 ≤ k ∧ k ≤ 1000000000) (hl : akee.length ≤ 1000000000) (hr : rheldAct (⟨akin, atex, an, akee⟩ : TAct) k = o)  : Fn Tryd.prog 12 [.agg [I akin, S atex, I an, .d (.row 1 xakee)], I k] [] ⟨I o, [], []⟩ := by
 refine Fn.go su_lReadAct Tryd.func12 fun P hP Q hQ => ?_
 conv => cbv
 generalize hr1 : rheldIntS akee k = r1
 refine .dd hP (FlheldIntS hakee hk hl hr1) ?_
 conv => cbv
 refine .lss (fun h2 => ?_) fun h2 => ?_
 conv => cbv
 have e : (-1) = rheldAct (⟨akin, atex, an, akee⟩ : TAct) k := (by unfold rheldAct; dsimp only; rw [hr1, if_pos (by omega)])
 rw [hr] at e
 subst e
 exact hQ _ _ (.i rfl rfl)
 conv => cbv
 have e : r1 = rheldAct (⟨akin, atex, an, akee⟩ : TAct) k := (by unfold rheldAct; dsimp only; rw [hr1, if_neg (by omega)])
 rw [hr] at e
 subst e
 exact hQ _ _ (.i rfl rfl)
def rmarkAct (a : TAct) (k : Int) : Int := rmarkIntS a.keeps_ k
def rFnExactReadAct (aLine : ByteArray) : Bool := true
theorem act_A {line : ByteArray} {c : TAct} {b : Bool} (h : rReadAct line = (c, b)) (hn : ¬ (b = true ∧ counted c.kind_)) : c.keeps_.length = 0 := by
  unfold rReadAct at h
  split at h
  · obtain ⟨rfl, rfl⟩ := Prod.mk.inj h
    have : ¬ counted (kindOf (rPartsOf line).1) := fun hc => hn ⟨rfl, hc⟩
    unfold candA
    dsimp only
    rw [if_neg (fun e => this (by unfold counted; omega))]
    rfl
  · obtain ⟨rfl, -⟩ := Prod.mk.inj h
    rfl
theorem act_kl {line : ByteArray} {c : TAct} (h : rReadAct line = (c, true)) : c.keeps_.length ≤ 12 := by
  have hB := act_B h
  by_cases hc : counted c.kind_
  · have := ((words_t hB.2.1 hB.2.2).2.2.1 hc).1
    have h2 := (parts_t (show rPartsOf line = ((rPartsOf line).1, true) by rw [← hB.1])).2.2.1
    omega
  · have := act_A h (fun h => hc h.2)
    omega
theorem held_act {a b : Int} {t : ByteArray} (ks : List Int) : rheldAct ⟨a, t, b, mkI 1 ks⟩ 1 = rmarkIntS ks 1 := by
  unfold rheldAct rmarkIntS
  dsimp only
  rw [held_mk, if_neg (by omega)]
theorem held_act0 {c : TAct} (h : c.keeps_.length = 0) : rheldAct c 1 = rmarkAct c 1 := by
  have e := List.eq_nil_of_length_eq_zero h
  unfold rheldAct rmarkAct rmarkIntS rheldIntS
  rw [e]
  rfl
theorem reqAct_refl (a : TAct) : reqAct a a = true := by unfold reqAct; simp
theorem FlFnExactReadActB {aLine : ByteArray} {o : Bool} {kn n : Int} {tex : ByteArray} {ks : List Int}  (hb : rReadAct aLine = (⟨kn, tex, n, ks⟩, true)) (hc : counted kn) (hr : rFnExactReadAct aLine = o)  : Fn Tryd.prog 4 [S aLine] [] ⟨B o, [], []⟩ := by
 refine Fn.go su_lReadAct Tryd.func4 fun P hP Q hQ => ?_
 conv => cbv
 refine .go fun v1 hv1 => ?_
 conv => cbv
 refine .gtr (fun h2 => ?_) fun h2 => ?_
 conv => cbv
 have e : true = rFnExactReadAct aLine := (by rfl)
 rw [hr] at e
 subst e
 exact hQ _ _ (.b rfl rfl)
 conv => cbv
 obtain ⟨xk, hxk⟩ : ∃ x, ks.map cI = x := ⟨_, rfl⟩
 have hkl := act_kl hb
 dsimp only at hkl
 refine .dd hP (FsReadAct hb hxk) ?_
 conv => cbv
 obtain ⟨xf5, hxf5⟩ : ∃ x, (n :: ks).map cI = x := ⟨_, rfl⟩
 obtain ⟨mxf5, hmxf5⟩ : ∃ m, m = ks.length := ⟨_, rfl⟩
 refine .ddN hP (FiReadActR hb hc hxf5 hmxf5) rfl ?_
 conv => cbv
 refine .lnt hP (FleqAct (akee := ks) (bkee := ks) rfl hxk (by omega) (reqAct_refl ⟨kn, tex, n, ks⟩)) (.agg (.d rfl (.d rfl (.d rfl (.sub rfl (by rw [← hxf5, List.length_map, List.length_cons]; omega) (by rw [← hxf5, List.map_cons, List.drop_succ_cons, List.drop_zero, List.take_of_length_le (by rw [List.length_map]; omega)]) .nil)))) (.agg (.d rfl (.d rfl (.d rfl (.d rfl .nil)))) .nil)) ?_
 conv => cbv
 refine .neq (fun h7 => ?_) fun h7 => ?_
 conv => cbv
 have e : false = rFnExactReadAct aLine := (by exact absurd rfl h7)
 rw [hr] at e
 subst e
 exact hQ _ _ (.b rfl rfl)
 conv => cbv
 obtain ⟨xg, hxg⟩ : ∃ x, (n :: mkI 1 ks).map cI = x := ⟨_, rfl⟩
 obtain ⟨km, hkm⟩ : ∃ x, rmarkIntS ks 1 = x := ⟨_, rfl⟩
 refine .bx [2] [] hP (FlmarkAct hxf5 hmxf5 ⟨by omega, by omega⟩ (by omega) hkm hxg) rfl rfl rfl rfl ?_
 conv => cbv
 obtain ⟨kh10, hkh10⟩ : ∃ x, rheldAct ⟨kn, tex, n, mkI 1 ks⟩ 1 = x := ⟨_, rfl⟩
 have hkh10k : kh10 = km ∧ 0 ≤ km := by rw [← hkh10, ← hkm, held_act]; unfold rmarkIntS; omega
 refine .lnt hP (FlheldAct (akee := mkI 1 ks) rfl ⟨by omega, by omega⟩ (by rw [mkI_len]; omega) hkh10) (.agg (.d rfl (.d rfl (.d rfl (.sub rfl (by rw [← hxg, List.length_map, List.length_cons, mkI_len]; omega) (by rw [← hxg, List.map_cons, List.drop_succ_cons, List.drop_zero, List.take_of_length_le (by rw [List.length_map, mkI_len]; omega)]) .nil)))) (.d rfl .nil)) ?_
 conv => cbv
 refine .lss (fun h11 => ?_) fun h11 => ?_
 conv => cbv
 have e : false = rFnExactReadAct aLine := (by omega)
 rw [hr] at e
 subst e
 exact hQ _ _ (.b rfl rfl)
 conv => cbv
 refine .neq (fun h12 => ?_) fun h12 => ?_
 conv => cbv
 have e : false = rFnExactReadAct aLine := (by omega)
 rw [hr] at e
 subst e
 exact hQ _ _ (.b rfl rfl)
 conv => cbv
 obtain ⟨xf14, hxf14⟩ : ∃ x, (n :: ks).map cI = x := ⟨_, rfl⟩
 obtain ⟨mxf14, hmxf14⟩ : ∃ m, m = ks.length := ⟨_, rfl⟩
 refine .ddN hP (FiReadActR hb hc hxf14 hmxf14) rfl ?_
 conv => cbv
 refine .lnt hP (FleqAct (akee := ks) (bkee := ks) rfl hxk (by omega) (reqAct_refl ⟨kn, tex, n, ks⟩)) (.agg (.d rfl (.d rfl (.d rfl (.sub rfl (by rw [← hxf14, List.length_map, List.length_cons]; omega) (by rw [← hxf14, List.map_cons, List.drop_succ_cons, List.drop_zero, List.take_of_length_le (by rw [List.length_map]; omega)]) .nil)))) (.agg (.d rfl (.d rfl (.d rfl (.d rfl .nil)))) .nil)) ?_
 conv => cbv
 refine .neq (fun h16 => ?_) fun h16 => ?_
 conv => cbv
 have e : false = rFnExactReadAct aLine := (by exact absurd rfl h16)
 rw [hr] at e
 subst e
 exact hQ _ _ (.b rfl rfl)
 conv => cbv
 obtain ⟨kh18, hkh18⟩ : ∃ x, rheldAct ⟨kn, tex, n, mkI 1 ks⟩ 1 = x := ⟨_, rfl⟩
 have hkh18k : kh18 = km ∧ 0 ≤ km := by rw [← hkh18, ← hkm, held_act]; unfold rmarkIntS; omega
 refine .lnt hP (FlheldAct (akee := mkI 1 ks) rfl ⟨by omega, by omega⟩ (by rw [mkI_len]; omega) hkh18) (.agg (.d rfl (.d rfl (.d rfl (.sub rfl (by rw [← hxg, List.length_map, List.length_cons, mkI_len]; omega) (by rw [← hxg, List.map_cons, List.drop_succ_cons, List.drop_zero, List.take_of_length_le (by rw [List.length_map, mkI_len]; omega)]) .nil)))) (.d rfl .nil)) ?_
 conv => cbv
 refine .lss (fun h19 => ?_) fun h19 => ?_
 conv => cbv
 have e : false = rFnExactReadAct aLine := (by omega)
 rw [hr] at e
 subst e
 exact hQ _ _ (.b rfl rfl)
 conv => cbv
 refine .neq (fun h20 => ?_) fun h20 => ?_
 conv => cbv
 have e : false = rFnExactReadAct aLine := (by omega)
 rw [hr] at e
 subst e
 exact hQ _ _ (.b rfl rfl)
 conv => cbv
 have e : true = rFnExactReadAct aLine := (by rfl)
 rw [hr] at e
 subst e
 exact hQ _ _ (.b rfl rfl)
theorem FlmarkIntSE {a : List Int} {xa : List (List D)} {k : Int} {o : Int} (ha : a.map cI = xa) (h0 : a.length = 0) (hr : rmarkIntS a k = o)  : Fn Tryd.prog 29 [.d (.row 1 xa), I k] [] ⟨I o, [], []⟩ := by
 refine Fn.go su_lReadAct Tryd.func29 fun P hP Q hQ => ?_
 conv => cbv
 refine LoopW.lp (κ := Unit) su_lReadAct hP [] [0, 1, 5] (fun () => []) (fun () => [])
   (fun () => 0 = 0 ∧ True)
   (fun () => 0) (()) ⟨rfl, trivial⟩ trivial rfl ?_
 rintro ⟨⟩ J ⟨-, -⟩ hJ
 conv => cbv
 refine .go ha fun v1 hv1 => ?_
 conv => cbv
 refine .lss (fun h2 => ?_) fun h2 => ?_
 omega
 conv => cbv
 have e : k = rmarkIntS a k := (by unfold rmarkIntS; omega)
 rw [hr] at e
 subst e
 exact hQ _ _ (.i rfl rfl)
theorem FlmarkActE {akin : Int} {atex : ByteArray} {an : Int} {akee : List Int} {xakee : List (List D)} {k : Int} {o : Int} (hakee : akee.map cI = xakee) (h0 : akee.length = 0) (hr : rmarkAct (⟨akin, atex, an, akee⟩ : TAct) k = o)  : Fn Tryd.prog 11 [.agg [I akin, S atex, I an, .d (.row 1 xakee)], I k] [] ⟨I o, [], []⟩ := by
 refine Fn.go su_lReadAct Tryd.func11 fun P hP Q hQ => ?_
 conv => cbv
 generalize hr1 : rmarkIntS akee k = r1
 refine .dd hP (FlmarkIntSE hakee h0 hr1) ?_
 conv => cbv
 have e : r1 = rmarkAct (⟨akin, atex, an, akee⟩ : TAct) k := (by exact hr1.symm)
 rw [hr] at e
 subst e
 exact hQ _ _ (.i rfl rfl)
theorem FlFnExactReadActA {aLine : ByteArray} {o : Bool}  (hA : ¬ ((rReadAct aLine).2 = true ∧ counted (rReadAct aLine).1.kind_)) (hr : rFnExactReadAct aLine = o)  : Fn Tryd.prog 4 [S aLine] [] ⟨B o, [], []⟩ := by
 refine Fn.go su_lReadAct Tryd.func4 fun P hP Q hQ => ?_
 conv => cbv
 refine .go fun v1 hv1 => ?_
 conv => cbv
 refine .gtr (fun h2 => ?_) fun h2 => ?_
 conv => cbv
 have e : true = rFnExactReadAct aLine := (by rfl)
 rw [hr] at e
 subst e
 exact hQ _ _ (.b rfl rfl)
 conv => cbv
 rcases hr3 : rReadAct aLine with ⟨⟨r3akin, r3atex, r3an, r3akee⟩, r3b⟩
 generalize hr3akee : r3akee.map cI = xr3akee
 refine .dd hP (FsReadAct hr3 hr3akee) ?_
 conv => cbv
 rcases hr4 : rReadAct aLine with ⟨⟨r4akin, r4atex, r4an, r4akee⟩, r4b⟩
 generalize hr4akee : r4akee.map cI = xr4akee
 refine .dd hP (FiReadAct hr4 hr4akee) ?_
 conv => cbv
 have hA4 := hA
 rw [hr4] at hA4
 have hz0 : r4akee.length = 0 := act_A hr4 hA4
 generalize hr5 : reqAct (⟨r4akin, r4atex, r4an, r4akee⟩ : TAct) (⟨r3akin, r3atex, r3an, r3akee⟩ : TAct) = r5
 refine .dd hP (FleqAct hr4akee hr3akee (by omega) hr5) ?_
 cases r5
 conv => cbv
 have e : false = rFnExactReadAct aLine := (by rw [← (Prod.mk.inj (hr3.symm.trans hr4)).1, reqAct_refl] at hr5; cases hr5)
 rw [hr] at e
 subst e
 exact hQ _ _ (.b rfl rfl)
 conv => cbv
 refine .neq (fun h6 => ?_) fun h6 => ?_
 conv => cbv
 have e : false = rFnExactReadAct aLine := (by exact absurd (Prod.mk.inj (hr3.symm.trans hr4)).2.symm h6)
 rw [hr] at e
 subst e
 exact hQ _ _ (.b rfl rfl)
 conv => cbv
 generalize hr7 : rmarkAct (⟨r4akin, r4atex, r4an, r4akee⟩ : TAct) 1 = r7
 refine .dd hP (FlmarkActE hr4akee hz0 hr7) ?_
 conv => cbv
 generalize hr8 : rheldAct (⟨r4akin, r4atex, r4an, r4akee⟩ : TAct) 1 = r8
 refine .dd hP (FlheldAct hr4akee ⟨by omega, by omega⟩ (by omega) hr8) ?_
 conv => cbv
 refine .lss (fun h9 => ?_) fun h9 => ?_
 conv => cbv
 have e : false = rFnExactReadAct aLine := (by have hq := held_act0 (c := ⟨r4akin, r4atex, r4an, r4akee⟩) hz0; rw [hr7, hr8] at hq; have h77 : 0 ≤ r7 := (by rw [← hr7]; unfold rmarkAct rmarkIntS; dsimp only; omega); omega)
 rw [hr] at e
 subst e
 exact hQ _ _ (.b rfl rfl)
 conv => cbv
 refine .neq (fun h10 => ?_) fun h10 => ?_
 conv => cbv
 have e : false = rFnExactReadAct aLine := (by have hq := held_act0 (c := ⟨r4akin, r4atex, r4an, r4akee⟩) hz0; rw [hr7, hr8] at hq; have h77 : 0 ≤ r7 := (by rw [← hr7]; unfold rmarkAct rmarkIntS; dsimp only; omega); omega)
 rw [hr] at e
 subst e
 exact hQ _ _ (.b rfl rfl)
 conv => cbv
 rcases hr11 : rReadAct aLine with ⟨⟨r11akin, r11atex, r11an, r11akee⟩, r11b⟩
 generalize hr11akee : r11akee.map cI = xr11akee
 refine .dd hP (FiReadAct hr11 hr11akee) ?_
 conv => cbv
 have hA5 := hA
 rw [hr11] at hA5
 have hz1 : r11akee.length = 0 := act_A hr11 hA5
 generalize hr12 : reqAct (⟨r11akin, r11atex, r11an, r11akee⟩ : TAct) (⟨r3akin, r3atex, r3an, r3akee⟩ : TAct) = r12
 refine .dd hP (FleqAct hr11akee hr3akee (by omega) hr12) ?_
 cases r12
 conv => cbv
 have e : false = rFnExactReadAct aLine := (by rw [← (Prod.mk.inj (hr3.symm.trans hr11)).1, reqAct_refl] at hr12; cases hr12)
 rw [hr] at e
 subst e
 exact hQ _ _ (.b rfl rfl)
 conv => cbv
 refine .neq (fun h13 => ?_) fun h13 => ?_
 conv => cbv
 have e : false = rFnExactReadAct aLine := (by exact absurd (Prod.mk.inj (hr3.symm.trans hr11)).2.symm h13)
 rw [hr] at e
 subst e
 exact hQ _ _ (.b rfl rfl)
 conv => cbv
 generalize hr14 : rheldAct (⟨r4akin, r4atex, r4an, r4akee⟩ : TAct) 1 = r14
 refine .dd hP (FlheldAct hr4akee ⟨by omega, by omega⟩ (by omega) hr14) ?_
 conv => cbv
 refine .lss (fun h15 => ?_) fun h15 => ?_
 conv => cbv
 have e : false = rFnExactReadAct aLine := (by have hq := held_act0 (c := ⟨r4akin, r4atex, r4an, r4akee⟩) hz0; rw [hr7, hr14] at hq; have h77 : 0 ≤ r7 := (by rw [← hr7]; unfold rmarkAct rmarkIntS; dsimp only; omega); omega)
 rw [hr] at e
 subst e
 exact hQ _ _ (.b rfl rfl)
 conv => cbv
 refine .neq (fun h16 => ?_) fun h16 => ?_
 conv => cbv
 have e : false = rFnExactReadAct aLine := (by have hq := held_act0 (c := ⟨r4akin, r4atex, r4an, r4akee⟩) hz0; rw [hr7, hr14] at hq; have h77 : 0 ≤ r7 := (by rw [← hr7]; unfold rmarkAct rmarkIntS; dsimp only; omega); omega)
 rw [hr] at e
 subst e
 exact hQ _ _ (.b rfl rfl)
 conv => cbv
 have e : true = rFnExactReadAct aLine := (by rfl)
 rw [hr] at e
 subst e
 exact hQ _ _ (.b rfl rfl)
theorem T4 {aLine : ByteArray} (ok_aLine : aLine.size < 2 ^ 47) : CallOk Tryd.prog 4 [.d (.sc (.string aLine))] [] ⟨.d (.sc (.bool true)), [], []⟩ := by
  by_cases hA : (rReadAct aLine).2 = true ∧ counted (rReadAct aLine).1.kind_
  · rcases h : rReadAct aLine with ⟨⟨kn, tex, n, ks⟩, b⟩
    rw [h] at hA
    obtain ⟨rfl, hc⟩ := hA
    exact (FlFnExactReadActB (aLine := aLine) h hc rfl).ok
  · exact (FlFnExactReadActA (aLine := aLine) hA rfl).ok
end Go.Proofs.YtmkpihcfglinjaaDoor.Ab
