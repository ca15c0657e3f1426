/- What functions of the program come to, for all arguments in the given bounds. -/
import Derived.Test.YtmkpihcfglinjaaDoorch06k6
import Derived.Test.YtmkpihcfglinjaaDoorZ10
set_option linter.unusedVariables false
set_option linter.unusedSimpArgs false
namespace Go.Proofs.YtmkpihcfglinjaaDoor.Ab
open Go Go.Proofs
set_option maxRecDepth 20000
set_option maxHeartbeats 4000000
set_option linter.unusedSimpArgs false
set_option linter.unusedVariables false
def tab_ch29c : List (Nat × TyRow) := [
  (3, ⟨.int .i64, some 1, some false, none, false, [.int .i64], [], some [(.int .i64 0, 0)], none, none, none⟩),
  (5, ⟨.int .u8, some 1, some false, none, false, [.int .u8], [], some [(.int .u8 0, 0)], none, none, none⟩),
  (9, ⟨.str, some 1, some false, none, false, [.str], [], some [(.string default, 0)], none, none, none⟩),
  (35, ⟨.sl 1, some 1, some false, some (1, 16), false, [.sl 1], [], some [(.slice none 0 0, 1)], some ([.sc (.string default)], 1, 16), none, none⟩),
  (56, ⟨.sl 1, some 1, some false, some (1, 1), true, [.sl 1], [], some [(.slice none 0 0, 1)], some ([.sc (.int .u8 0)], 1, 1), none, none⟩)]
theorem tab_ch29c_ok : TabOk Tryd.prog tab_ch29c := TabOk.of (by kernel_rfl)
theorem su_ch29c : Setup Tryd.prog tab_ch29c := ⟨tab_ch29c_ok, mixed⟩
def rPartsOf_1 (b : Int) : Bool := decide (b < 32 ∨ 126 < b)
def badB (b : UInt8) : Bool := rPartsOf_1 (b.toNat : Int)
def partsL (s : ByteArray) : List ByteArray := (Lib.fields s.data.toList).map tx
def rFields (s : ByteArray) : List ByteArray := partsL s
def rPartsOf (s : ByteArray) : List ByteArray × Bool := if 600 < s.size ∨ s.data.toList.any badB = true then ([], false) else if 12 < (partsL s).length then ([], false) else (partsL s, true)
def rIndexFunc_PartsOf_1 (l : List UInt8) : Int := idxI badB l
def rContainsFunc_PartsOf_1 (l : List UInt8) : Bool := l.any badB
theorem cont_parts {l : List UInt8} : rContainsFunc_PartsOf_1 l = decide (0 ≤ rIndexFunc_PartsOf_1 l) := by
  unfold rContainsFunc_PartsOf_1 rIndexFunc_PartsOf_1
  cases h : l.any badB with
  | true =>
    obtain ⟨x, hx, hp⟩ := List.any_eq_true.1 h
    symm
    rw [decide_eq_true_eq]
    unfold idxI
    rw [if_pos (List.findIdx_lt_length_of_exists ⟨x, hx, hp⟩)]
    omega
  | false =>
    symm
    rw [decide_eq_false_iff_not]
    intro h0
    obtain ⟨hi, hp⟩ := idxI_get (rfl : idxI badB l = _) h0
    have := List.any_eq_true.2 ⟨_, List.getElem_mem hi, hp⟩
    rw [h] at this
    cases this
theorem bad_no {l : List UInt8} (h : l.any badB = false) {b : UInt8} (hb : b ∈ l) : 32 ≤ b.toNat ∧ b.toNat ≤ 126 := by
  have h1 := List.any_eq_false.1 h b hb
  unfold badB rPartsOf_1 at h1
  rw [decide_eq_true_eq] at h1
  omega
theorem isSp_no {b : UInt8} (h : 32 ≤ b.toNat ∧ b.toNat ≤ 126) : Lib.isSp b = decide (b.toNat = 32) := by
  have e : ∀ n : Nat, n < 256 → ((b == UInt8.ofNat n) = decide (b.toNat = n)) := by
    intro n hn
    rw [Bool.eq_iff_iff, beq_iff_eq, decide_eq_true_eq]
    constructor
    · rintro rfl; rw [UInt8.toNat_ofNat', Nat.mod_eq_of_lt (by omega)]
    · intro h; apply UInt8.toNat_inj.1; rw [h, UInt8.toNat_ofNat', Nat.mod_eq_of_lt (by omega)]
  unfold Lib.isSp
  rw [show (9 : UInt8) = UInt8.ofNat 9 from rfl, show (10 : UInt8) = UInt8.ofNat 10 from rfl, show (11 : UInt8) = UInt8.ofNat 11 from rfl, show (12 : UInt8) = UInt8.ofNat 12 from rfl, show (13 : UInt8) = UInt8.ofNat 13 from rfl, show (32 : UInt8) = UInt8.ofNat 32 from rfl,
    e 9 (by omega), e 10 (by omega), e 11 (by omega), e 12 (by omega), e 13 (by omega), e 32 (by omega), decide_eq_false (show ¬ b.toNat = 9 by omega), decide_eq_false (show ¬ b.toNat = 10 by omega), decide_eq_false (show ¬ b.toNat = 11 by omega), decide_eq_false (show ¬ b.toNat = 12 by omega), decide_eq_false (show ¬ b.toNat = 13 by omega)]
  rfl
def piece (l : List UInt8) (b i : Nat) : List UInt8 := (l.drop b).take (i - b)
theorem piece_more {l : List UInt8} {b i : Nat} (h : b ≤ i) (hi : i < l.length) : piece l b i ++ [l[i]] = piece l b (i + 1) := by
  unfold piece
  rw [show i + 1 - b = (i - b) + 1 by omega, List.take_succ_eq_append_getElem (by rw [List.length_drop]; omega)]
  congr 2
  rw [List.getElem_drop]
  congr 1
  omega
theorem piece_ne {l : List UInt8} {b i : Nat} (h : b < i) (hi : i ≤ l.length) : piece l b i ≠ [] := by
  intro e
  have := congrArg List.length e
  unfold piece at this
  rw [List.length_take, List.length_drop, List.length_nil] at this
  omega
theorem piece_nil {l : List UInt8} {i : Nat} : piece l i i = [] := by unfold piece; rw [Nat.sub_self, List.take_zero]
theorem fg_nil {c : List UInt8} : Lib.fieldsGo c [] = if c = [] then [] else [c] := by
  cases c <;> simp [Lib.fieldsGo]
theorem fg_sp {c : List UInt8} {b : UInt8} {l : List UInt8} (h : Lib.isSp b = true) : Lib.fieldsGo c (b :: l) = (if c = [] then [] else [c]) ++ Lib.fieldsGo [] l := by
  cases c <;> simp [Lib.fieldsGo, h]
theorem parts_no {l : List UInt8} {b i : Nat} (h : b ≤ i) (hi : i < l.length) (hs : Lib.isSp l[i] = false) : Lib.fieldsGo (piece l b i) (l.drop i) = Lib.fieldsGo (piece l b (i + 1)) (l.drop (i + 1)) := by
  rw [List.drop_eq_getElem_cons hi, Lib.fieldsGo_more _ _ _ hs, piece_more h hi]
theorem parts_sp {l : List UInt8} {b i : Nat} (hi : i < l.length) (hs : Lib.isSp l[i] = true) : Lib.fieldsGo (piece l b i) (l.drop i) = (if piece l b i = [] then [] else [piece l b i]) ++ Lib.fieldsGo (piece l (i + 1) (i + 1)) (l.drop (i + 1)) := by
  rw [List.drop_eq_getElem_cons hi, fg_sp hs, piece_nil]
theorem ext_piece (s : ByteArray) (i j : Nat) : s.extract i j = tx (piece s.data.toList i j) := by
  have := std_ssub (l := s.data.toList) (a := (i : Int)) (b := (j : Int))
  rw [tx_data] at this
  exact this
theorem fields_len {l c : List UInt8} : (Lib.fieldsGo c l).length ≤ l.length + 1 := by
  induction l generalizing c with
  | nil => rw [fg_nil]; split <;> simp
  | cons b l ih =>
    cases h : Lib.isSp b
    · rw [Lib.fieldsGo_more _ _ _ h, List.length_cons]
      have := ih (c := c ++ [b])
      omega
    · rw [fg_sp h, List.length_append, List.length_cons]
      have := ih (c := [])
      split <;> simp <;> omega
theorem field_of {l : List UInt8} : ∀ {c x : List UInt8}, x ∈ Lib.fieldsGo c l → x.length ≤ c.length + l.length ∧ ∀ b ∈ x, b ∈ c ∨ b ∈ l := by
  induction l with
  | nil =>
    intro c x hx
    rw [fg_nil] at hx
    split at hx
    · cases hx
    · rw [List.mem_singleton] at hx
      subst hx
      exact ⟨by simp, fun b hb => .inl hb⟩
  | cons a l ih =>
    intro c x hx
    cases h : Lib.isSp a
    · rw [Lib.fieldsGo_more _ _ _ h] at hx
      obtain ⟨h1, h2⟩ := ih hx
      rw [List.length_append, List.length_singleton] at h1
      refine ⟨by rw [List.length_cons]; omega, fun b hb => ?_⟩
      rcases h2 b hb with h3 | h3
      · rcases List.mem_append.1 h3 with h4 | h4
        · exact .inl h4
        · rw [List.mem_singleton.1 h4]; exact .inr (by simp)
      · exact .inr (by simp [h3])
    · rw [fg_sp h] at hx
      rcases List.mem_append.1 hx with hx | hx
      · split at hx
        · cases hx
        · rw [List.mem_singleton] at hx
          subst hx
          exact ⟨by omega, fun b hb => .inl hb⟩
      · obtain ⟨h1, h2⟩ := ih hx
        rw [List.length_nil] at h1
        refine ⟨by rw [List.length_cons]; omega, fun b hb => ?_⟩
        rcases h2 b hb with h3 | h3
        · cases h3
        · exact .inr (by simp [h3])
theorem field_ns {l : List UInt8} : ∀ {c x : List UInt8}, (∀ b ∈ c, Lib.isSp b = false) → x ∈ Lib.fieldsGo c l → x ≠ [] ∧ ∀ b ∈ x, Lib.isSp b = false := by
  induction l with
  | nil =>
    intro c x hc hx
    rw [fg_nil] at hx
    split at hx
    · cases hx
    · rw [List.mem_singleton] at hx
      subst hx
      exact ⟨by assumption, hc⟩
  | cons a l ih =>
    intro c x hc hx
    cases h : Lib.isSp a
    · rw [Lib.fieldsGo_more _ _ _ h] at hx
      refine ih (fun b hb => ?_) hx
      rcases List.mem_append.1 hb with hb | hb
      · exact hc b hb
      · rw [List.mem_singleton.1 hb]; exact h
    · rw [fg_sp h] at hx
      rcases List.mem_append.1 hx with hx | hx
      · split at hx
        · cases hx
        · rw [List.mem_singleton] at hx
          subst hx
          exact ⟨by assumption, hc⟩
      · exact ih (fun b hb => by cases hb) hx
def wordOk (x : ByteArray) : Prop := x ≠ tx [] ∧ ∀ b ∈ x.data.toList, b ≠ 32
theorem parts_t {s : ByteArray} {p : List ByteArray} (h : rPartsOf s = (p, true)) : p = partsL s ∧ s.size ≤ 600 ∧ p.length ≤ 12 ∧ (∀ x ∈ p, x.size ≤ 600 ∧ wordOk x) ∧ s.data.toList.any badB = false := by
  unfold rPartsOf at h
  split at h
  · cases h
  · rename_i h1
    split at h
    · cases h
    · obtain rfl := (Prod.mk.inj h).1
      have hb : s.data.toList.any badB = false := by simpa using fun h2 => h1 (.inr h2)
      have hn : s.data.toList.length = s.size := Array.length_toList
      refine ⟨rfl, by omega, by omega, fun x hx => ?_, hb⟩
      unfold partsL at hx
      obtain ⟨y, hy, rfl⟩ := List.mem_map.1 hx
      have h3 := field_of hy
      have h4 := field_ns (fun b hb => by cases hb) hy
      rw [List.length_nil] at h3
      refine ⟨by rw [tx_size]; omega, fun e => h4.1 (congrArg (·.data.toList) e), fun b hb => ?_⟩
      have h5 := h4.2 b hb
      rintro rfl
      exact absurd h5 (by decide)
theorem FiPartsOf_1 {b : Int} {o : Bool}  (hr : rPartsOf_1 b = o)  : Fn Tryd.prog 35 [.d (.sc (.int .u8 b))] [] ⟨B o, [], []⟩ := by
 refine Fn.go su_ch29c Tryd.func35 fun P hP Q hQ => ?_
 conv => cbv
 refine .lss (fun h1 => ?_) fun h1 => ?_
 conv => cbv
 have e : true = rPartsOf_1 b := (by unfold rPartsOf_1; symm; first | (rw [decide_eq_true_eq]; omega) | (rw [decide_eq_false_iff_not]; omega))
 rw [hr] at e
 subst e
 exact hQ _ _ (.b rfl rfl)
 conv => cbv
 refine .gtr (fun h2 => ?_) fun h2 => ?_
 conv => cbv
 have e : true = rPartsOf_1 b := (by unfold rPartsOf_1; symm; first | (rw [decide_eq_true_eq]; omega) | (rw [decide_eq_false_iff_not]; omega))
 rw [hr] at e
 subst e
 exact hQ _ _ (.b rfl rfl)
 conv => cbv
 have e : false = rPartsOf_1 b := (by unfold rPartsOf_1; symm; first | (rw [decide_eq_true_eq]; omega) | (rw [decide_eq_false_iff_not]; omega))
 rw [hr] at e
 subst e
 exact hQ _ _ (.b rfl rfl)
theorem FlIndexFunc_PartsOf_1 {l : List UInt8} {xl : List (List D)} {o : Int} (hl : l.map cB = xl) (hn : l.length < 2 ^ 40) (hr : rIndexFunc_PartsOf_1 l = o)  : Fn Tryd.prog 57 [.d (.row 1 xl), .clo 35 []] [] ⟨I o, [], []⟩ := by
 refine Fn.go su_ch29c Tryd.func57 fun P hP Q hQ => ?_
 conv => cbv
 refine .go hl fun v1 hv1 => ?_
 conv => cbv
 refine LoopW.lp (κ := Int) su_ch29c hP [] [0, 1, 7] (fun i8 => [(8, I i8)]) (fun i8 => [])
   (fun i8 => 0 ≤ i8 ∧ i8 ≤ l.length ∧ ∀ (j : Nat) (hj : j < l.length), j < i8.toNat → badB l[j] = false)
   (fun i8 => (l.length - i8).toNat) (0) ⟨by omega, by omega, fun j _ h => by simp at h⟩ ⟨rfl, trivial⟩ rfl ?_
 rintro i8 J ⟨h0, h1, hb⟩ hJ
 conv => cbv
 refine .lss (fun h2 => ?_) fun h2 => ?_
 conv => cbv
 refine .go i8.toNat hl fun hje3 e3 qe3 => ?_
 conv => cbv
 generalize hr4 : rPartsOf_1 (e3.toNat : Int) = r4
 refine .dd hP (FiPartsOf_1 hr4) ?_
 cases r4
 conv => cbv
 refine .add fun v5 hv5 => ?_
 conv => cbv
 exact .go [] (v5) (hJ _ ⟨by omega, by omega, fun j hj h => if e : j = i8.toNat then by subst e; unfold badB; rw [← qe3]; exact hr4 else hb j hj (by omega)⟩ (by first | (dsimp only; omega) | omega))
 conv => cbv
 have e : i8 = rIndexFunc_PartsOf_1 l := (by exact idxI_at (p := badB) h0 (by omega) (by unfold badB; rw [← qe3]; exact hr4) hb)
 rw [hr] at e
 subst e
 exact hQ _ _ (.i rfl rfl)
 conv => cbv
 have e : (-1) = rIndexFunc_PartsOf_1 l := (by exact idxI_none (p := badB) fun j hj => hb j hj (by omega))
 rw [hr] at e
 subst e
 exact hQ _ _ (.i rfl rfl)
theorem FlContainsFunc_PartsOf_1 {l : List UInt8} {xl : List (List D)} {o : Bool} (hl : l.map cB = xl) (hn : l.length < 2 ^ 40) (hr : rContainsFunc_PartsOf_1 l = o)  : Fn Tryd.prog 34 [.d (.row 1 xl), .clo 35 []] [] ⟨B o, [], []⟩ := by
 refine Fn.go su_ch29c Tryd.func34 fun P hP Q hQ => ?_
 conv => cbv
 generalize hr1 : rIndexFunc_PartsOf_1 l = r1
 refine .dd hP (FlIndexFunc_PartsOf_1 hl hn hr1) ?_
 conv => cbv
 refine .geq (fun h2 => ?_) fun h2 => ?_
 conv => cbv
 have e : true = rContainsFunc_PartsOf_1 l := (by rw [cont_parts, hr1]; exact (decide_eq_true h2).symm)
 rw [hr] at e
 subst e
 exact hQ _ _ (.b rfl rfl)
 conv => cbv
 have e : false = rContainsFunc_PartsOf_1 l := (by rw [cont_parts, hr1]; exact (decide_eq_false (by omega)).symm)
 rw [hr] at e
 subst e
 exact hQ _ _ (.b rfl rfl)
theorem scV {E : Env} {u v : Value} (h : RelAV E (.d (.sc u)) v) : v = u := by
  cases h with
  | d _ _ h => cases h with | sc => rfl
theorem fresh0 {w : World} {S : Nat → Prop} {β : Nat → Option Nat} {r0 : List Root} {R : Root} : Fresh (callCtx w S β r0) (callEnv w S β r0 [R]) r0.length [R] := by
  refine ⟨Nat.le_refl _, ?_, ?_⟩
  · intro k R' hk
    show (r0 ++ [R])[r0.length + k]? = some R'
    rw [List.getElem?_append_right (by omega)]
    simpa using hk
  · intro k hk hp
    have : r0.length + k < r0.length := hp
    omega
theorem fields_ok {s : ByteArray} (hs : s.size ≤ 1000000) (ha : s.data.toList.any badB = false) : CallOk Tryd.prog 36 [S s] [] ⟨.ref 0 0 (partsL s).length, [.row 1 false ((partsL s).map cS)], []⟩ := by
  intro w S β vs hM hA
  obtain ⟨v, rfl, h1⟩ := args1 hA
  obtain rfl := scV h1
  refine (Tryd.strings_Fields s w (by omega) (fun j b hb => by have := bad_no ha (List.mem_of_getElem? hb); omega) (globs_0 hM.glob)).mono ?_
  rintro e w' ⟨rfl, rfl⟩
  have hl : (partsL s).length = (Lib.fields s.data.toList).length := by unfold partsL; rw [List.length_map]
  have hF : Fresh (callCtx w S β []) (callEnv w S β [] [.row 1 false ((partsL s).map cS)]) 0 [.row 1 false ((partsL s).map cS)] := fresh0
  obtain ⟨q, hrel⟩ := rowed (E := callEnv w S β [] [.row 1 false ((partsL s).map cS)]) hM (r := 0) (sz := 1) (xs := (partsL s).map cS) (cs := ((Lib.fields s.data.toList).map fun l => Value.string ⟨l.toArray⟩).toArray) (fr := (0, 0)) (hF.rt 0 _ rfl) (hF.np 0 (by simp)) hF.m (Grow.alloc w _) ⟨unfrozen_zero _, .inl rfl⟩
    (by
      intro i x hx
      rw [List.getElem?_map] at hx
      obtain ⟨y, _, rfl⟩ := Option.map_eq_some_iff.1 hx
      rfl) (by simp [partsL]) (by
      intro i x j y hx hy
      rw [List.getElem?_map] at hx
      obtain ⟨z, hz, rfl⟩ := Option.map_eq_some_iff.1 hx
      match j, hy with
      | 0, hy =>
        obtain rfl := Option.some.inj hy
        unfold partsL at hz
        rw [List.getElem?_map] at hz
        obtain ⟨u, hu, rfl⟩ := Option.map_eq_some_iff.1 hz
        refine ⟨.string (tx u), ?_, .sc _ rfl⟩
        rw [Nat.mul_one, Nat.add_zero, List.getElem?_toArray, List.getElem?_map, hu]
        rfl)
  refine ⟨_, _, rfl, rfl, q.mem, q.step, q.rt, q.pres, q.size, ?_⟩
  rw [hl]
  exact hrel _ _ (Nat.le_refl _) (by simp)
theorem Flstrings_Fields {s : ByteArray} {o : List ByteArray} {xo : List (List D)} (hs : s.size ≤ 1000000 ∧ s.data.toList.any badB = false) (hr : rFields s = o) (ho : o.map cS = xo) : Fn Tryd.prog 36 [S s] [] ⟨.d (.row 1 xo), [], []⟩ := by
 refine ⟨entered_of Tryd.func36 rfl rfl, ?_⟩
 subst ho hr
 exact (fields_ok hs.1 hs.2).rowD rfl (by rw [List.length_map])
theorem FiPartsOf {line : ByteArray} {oa : List ByteArray} {xoa : List (List D)} {ob : Bool}  (hr : rPartsOf line = (oa, ob)) (hoa : oa.map cS = xoa) : Fn Tryd.prog 17 [S line] [] ⟨.tup [.d (.row 1 xoa), B ob], [], []⟩ := by
 refine Fn.go su_ch29c Tryd.func17 fun P hP Q hQ => ?_
 conv => cbv
 refine .go fun v1 hv1 => ?_
 conv => cbv
 refine .gtr (fun h2 => ?_) fun h2 => ?_
 conv => cbv
 have e : ([], false) = rPartsOf line := (by unfold rPartsOf; rw [if_pos (.inl (by omega))])
 rw [hr] at e
 simp only [Prod.mk.injEq] at e
 obtain ⟨rfl, rfl⟩ := e
 refine hQ _ _ ?_
 exact .many (.inl rfl) rfl rfl (.ref rfl rfl (by rw [← hoa]; rfl) (.d rfl rfl (.nil)))
 conv => cbv
 refine .go fun nz3 z3 hnz3 hz3 => ?_
 conv => cbv
 have hnl : line.data.toList.length < 2 ^ 40 := by rw [Array.length_toList]; show line.size < _; omega
 generalize hr4 : rContainsFunc_PartsOf_1 line.data.toList = r4
 refine .lnt hP (FlContainsFunc_PartsOf_1 hz3 hnl hr4) (.ref rfl (by rw [← hz3, List.length_map]; first | omega | (simp; omega)) (.d rfl .nil)) ?_
 cases r4
 conv => cbv
 generalize hr5 : rFields line = l5
 generalize hl5 : l5.map cS = xl5
 refine .dd hP (Flstrings_Fields ⟨by omega, hr4⟩ hr5 hl5) ?_
 conv => cbv
 refine .go hl5 fun v6 hv6 => ?_
 conv => cbv
 refine .gtr (fun h7 => ?_) fun h7 => ?_
 conv => cbv
 have e : ([], false) = rPartsOf line := (by unfold rPartsOf; rw [if_neg (by rintro (h | h); omega; exact Bool.noConfusion (hr4.symm.trans h)), if_pos (by rw [show partsL line = l5 from hr5]; omega)])
 rw [hr] at e
 simp only [Prod.mk.injEq] at e
 obtain ⟨rfl, rfl⟩ := e
 refine hQ _ _ ?_
 exact .many (.inl rfl) rfl rfl (.ref rfl rfl (by rw [← hoa]; rfl) (.d rfl rfl (.nil)))
 conv => cbv
 have e : (l5, true) = rPartsOf line := (by unfold rPartsOf; rw [if_neg (by rintro (h | h); omega; exact Bool.noConfusion (hr4.symm.trans h)), if_neg (by rw [show partsL line = l5 from hr5]; omega), show partsL line = l5 from hr5])
 rw [hr] at e
 simp only [Prod.mk.injEq] at e
 obtain ⟨rfl, rfl⟩ := e
 refine hQ _ _ ?_
 exact .many (.inl rfl) rfl rfl (.d rfl (rowEq hl5 hoa) (.d rfl rfl (.nil)))
 conv => cbv
 have e : ([], false) = rPartsOf line := (by unfold rPartsOf; rw [if_pos (.inr hr4)])
 rw [hr] at e
 simp only [Prod.mk.injEq] at e
 obtain ⟨rfl, rfl⟩ := e
 refine hQ _ _ ?_
 exact .many (.inl rfl) rfl rfl (.ref rfl rfl (by rw [← hoa]; rfl) (.d rfl rfl (.nil)))
theorem byte_get6 {t : ByteArray} {j : Nat} (hj : j < t.size) : t.data.toList[j]'(by rw [Array.length_toList]; exact hj) = t[j] := by
  rw [Array.getElem_toList]; rfl
structure PInv (s : ByteArray) (b i : Nat) (w : List ByteArray) : Prop where
  ok : ∀ (j : Nat) (hj : j < s.size), j < i → badB s[j] = false
  go : i ≤ s.size → b ≤ i ∧ w.map (·.data.toList) ++ Lib.fieldsGo (piece s.data.toList b i) (s.data.toList.drop i) = Lib.fields s.data.toList
  fin : s.size < i → w = partsL s
theorem PInv.init {s : ByteArray} : PInv s 0 0 [] := ⟨fun j _ h => by omega, fun _ => ⟨Nat.le_refl _, by rw [piece_nil]; rfl⟩, fun h => by omega⟩
theorem bad_at {s : ByteArray} {i : Nat} (hi : i < s.size) (h : ¬ ((s[i]).toNat < 32)) (h2 : ¬ (126 < (s[i]).toNat)) : badB s[i] = false := by
  unfold badB rPartsOf_1
  rw [decide_eq_false_iff_not]
  omega
theorem PInv.ok' {s : ByteArray} {b i : Nat} {w : List ByteArray} (h : PInv s b i w) (hi : i < s.size) (hb : badB s[i] = false) : ∀ (j : Nat) (hj : j < s.size), j < i + 1 → badB s[j] = false := by
  intro j hj hji
  rcases Nat.lt_or_ge j i with h1 | h1
  · exact h.ok j hj h1
  · obtain rfl : j = i := by omega
    exact hb
theorem PInv.more {s : ByteArray} {b i : Nat} {w : List ByteArray} (h : PInv s b i w) (hi : i < s.size) (hb : badB s[i] = false) (h32 : (s[i]).toNat ≠ 32) : PInv s b (i + 1) w := by
  have hl : i < s.data.toList.length := by rw [Array.length_toList]; exact hi
  obtain ⟨h1, h2⟩ := h.go (by omega)
  refine ⟨h.ok' hi hb, fun _ => ⟨by omega, ?_⟩, fun h3 => by omega⟩
  rw [← h2, parts_no h1 hl]
  rw [byte_get6 hi]
  unfold badB rPartsOf_1 at hb
  rw [decide_eq_false_iff_not] at hb
  rw [isSp_no (by omega)]
  exact decide_eq_false h32
theorem PInv.sp {s : ByteArray} {b i : Nat} {w : List ByteArray} (h : PInv s b i w) (hi : i < s.size) (h32 : (s[i]).toNat = 32) : PInv s (i + 1) (i + 1) (if b < i then w ++ [s.extract b i] else w) := by
  have hl : i < s.data.toList.length := by rw [Array.length_toList]; exact hi
  obtain ⟨h1, h2⟩ := h.go (by omega)
  have hb : badB s[i] = false := bad_at hi (by omega) (by omega)
  refine ⟨h.ok' hi hb, fun _ => ⟨by omega, ?_⟩, fun h3 => by omega⟩
  rw [← h2, parts_sp hl (by rw [byte_get6 hi, isSp_no (by omega)]; exact decide_eq_true h32)]
  split
  · rename_i hbi
    rw [if_neg (piece_ne hbi (by omega)), List.map_append, List.append_assoc, ext_piece]
    rfl
  · obtain rfl : b = i := by omega
    rw [if_pos piece_nil, List.nil_append]
theorem PInv.last {s : ByteArray} {b : Nat} {w : List ByteArray} (h : PInv s b s.size w) : PInv s (s.size + 1) (s.size + 1) (if b < s.size then w ++ [s.extract b s.size] else w) := by
  have hl : s.data.toList.length = s.size := Array.length_toList
  obtain ⟨h1, h2⟩ := h.go (Nat.le_refl _)
  refine ⟨fun j hj _ => h.ok j hj hj, fun h3 => by omega, fun _ => ?_⟩
  rw [List.drop_of_length_le (by omega), fg_nil] at h2
  unfold partsL
  rw [← h2, List.map_append, List.map_map]
  have e : w.map (tx ∘ fun x => x.data.toList) = w := by
    rw [show (tx ∘ fun x : ByteArray => x.data.toList) = id from funext fun x => rfl, List.map_id]
  rw [e]
  split
  · rename_i hb
    rw [if_neg (piece_ne hb (by omega)), ext_piece]
    rfl
  · obtain rfl : b = s.size := by omega
    rw [if_pos piece_nil, List.map_nil, List.append_nil]
theorem PInv.len {s : ByteArray} {b i : Nat} {w : List ByteArray} (h : PInv s b i w) (hi : i ≤ s.size) : w.length ≤ s.size + 1 := by
  have := congrArg List.length (h.go hi).2
  have h2 := fields_len (l := s.data.toList) (c := [])
  have hl : s.data.toList.length = s.size := Array.length_toList
  rw [List.length_append, List.length_map] at this
  unfold Lib.fields at this
  omega
theorem PInv.no {s : ByteArray} {b i : Nat} {w : List ByteArray} (h : PInv s b i w) (hi : s.size < i) : s.data.toList.any badB = false := by
  rw [List.any_eq_false]
  intro x hx
  obtain ⟨j, hj, rfl⟩ := List.getElem_of_mem hx
  have hj2 : j < s.size := by rw [Array.length_toList] at hj; exact hj
  rw [byte_get6 hj2, h.ok j hj2 (by omega)]
  decide
theorem bad_yes {s : ByteArray} {i : Nat} (hi : i < s.size) (h : (s[i]).toNat < 32 ∨ 126 < (s[i]).toNat) : s.data.toList.any badB = true := by
  refine List.any_eq_true.2 ⟨s[i], ?_, ?_⟩
  · rw [← byte_get6 hi]; exact List.getElem_mem _
  · unfold badB rPartsOf_1
    rw [decide_eq_true_eq]
    omega
theorem FsPartsOf {line : ByteArray} {oa : List ByteArray} {xoa : List (List D)} {ob : Bool}  (hr : rPartsOf line = (oa, ob)) (hoa : oa.map cS = xoa) : Fn Tryd.prog 13 [S line] [] ⟨.tup [.d (.row 1 xoa), B ob], [], []⟩ := by
 refine Fn.go su_ch29c Tryd.func13 fun P hP Q hQ => ?_
 conv => cbv
 refine .go fun v1 hv1 => ?_
 conv => cbv
 refine .gtr (fun h2 => ?_) fun h2 => ?_
 conv => cbv
 have e : ([], false) = rPartsOf line := (by unfold rPartsOf; rw [if_pos (.inl (by omega))])
 rw [hr] at e
 simp only [Prod.mk.injEq] at e
 obtain ⟨rfl, rfl⟩ := e
 refine hQ _ _ ?_
 exact .many (.inl rfl) rfl rfl (.ref rfl rfl (by rw [← hoa]; rfl) (.d rfl rfl (.nil)))
 conv => cbv
 refine LoopW.lp (κ := Int × Int × (List (List D)) × Nat) su_ch29c hP [1] [0] (fun (i5, i6, zw2, nw2) => [(4, .ref 2 0 nw2), (5, I i5), (6, I i6)]) (fun (i5, i6, zw2, nw2) => [(2, .row 1 false zw2)])
   (fun (i5, i6, zw2, nw2) => ∃ (w2 : List ByteArray), w2.map cS = zw2 ∧ nw2 = w2.length ∧ 0 ≤ i5 ∧ 0 ≤ i6 ∧ i6 ≤ line.size + 1 ∧ i5 ≤ line.size + 1 ∧ PInv line i5.toNat i6.toNat w2)
   (fun (i5, i6, zw2, nw2) => (line.size + 1 - i6).toNat) (0, 0, [], 0) ⟨[], rfl, rfl, by omega, by omega, by omega, by omega, PInv.init⟩ ⟨rfl, rfl, rfl, trivial⟩ rfl ?_
 rintro ⟨i5, i6, zw2, nw2⟩ J ⟨w2, hw2, hnw2, h0, h0b, h1, h1b, hi⟩ hJ
 have hln := fun h => hi.len h
 have hgo := fun h => (hi.go h).1
 conv => cbv
 refine .go fun v3 hv3 => ?_
 conv => cbv
 refine .leq (fun h4 => ?_) fun h4 => ?_
 conv => cbv
 refine .go fun v5 hv5 => ?_
 conv => cbv
 refine .lss (fun h6 => ?_) fun h6 => ?_
 conv => cbv
 refine .go i6.toNat fun hjv7 v7 hv7 bv7 => ?_
 conv => cbv
 refine .lss (fun h8 => ?_) fun h8 => ?_
 conv => cbv
 have e : ([], false) = rPartsOf line := (by unfold rPartsOf; rw [if_pos (.inr (bad_yes (i := i6.toNat) (by omega) (by omega)))])
 rw [hr] at e
 simp only [Prod.mk.injEq] at e
 obtain ⟨rfl, rfl⟩ := e
 refine hQ _ _ ?_
 exact .many (.inl rfl) rfl rfl (.ref rfl rfl (by rw [← hoa]; rfl) (.d rfl rfl (.nil)))
 conv => cbv
 refine .go i6.toNat fun hjv9 v9 hv9 bv9 => ?_
 conv => cbv
 refine .gtr (fun h10 => ?_) fun h10 => ?_
 conv => cbv
 have e : ([], false) = rPartsOf line := (by unfold rPartsOf; rw [if_pos (.inr (bad_yes (i := i6.toNat) (by omega) (by omega)))])
 rw [hr] at e
 simp only [Prod.mk.injEq] at e
 obtain ⟨rfl, rfl⟩ := e
 refine hQ _ _ ?_
 exact .many (.inl rfl) rfl rfl (.ref rfl rfl (by rw [← hoa]; rfl) (.d rfl rfl (.nil)))
 conv => cbv
 refine .go fun v11 hv11 => ?_
 conv => cbv
 refine .lss (fun h12 => ?_) fun h12 => ?_
 conv => cbv
 refine .go i6.toNat fun hjv13 v13 hv13 bv13 => ?_
 conv => cbv
 refine .neq (fun h14 => ?_) fun h14 => ?_
 conv => cbv
 refine .add fun v15 hv15 => ?_
 conv => cbv
 exact .go [2] (i5, v15, zw2, nw2) (hJ _ ⟨_, hw2, (by first | omega | (simp; omega) | (simp only [List.length_append, List.length_cons, List.length_nil] at *; omega)), by omega, by omega, by omega, by omega, by rw [show v15.toNat = i6.toNat + 1 by omega]; exact hi.more (by omega) (bad_at (by omega) (by omega) (by omega)) (by omega)⟩ (by first | (dsimp only; omega) | omega))
 conv => cbv
 refine .lss (fun h15 => ?_) fun h15 => ?_
 conv => cbv
 refine .lohi fun s16 hs16 => ?_
 conv => cbv
 refine .one s16 hw2 rfl fun nz17 z17 hnz17 hz17 => ?_
 conv => cbv
 refine .add fun v18 hv18 => ?_
 conv => cbv
 refine .add fun v19 hv19 => ?_
 conv => cbv
 exact .go [4] (v18, v19, z17, nz17) (hJ _ ⟨_, hz17, (by first | omega | (simp; omega) | (simp only [List.length_append, List.length_cons, List.length_nil] at *; omega)), by omega, by omega, by omega, by omega, by rw [show v18.toNat = i6.toNat + 1 by omega, show v19.toNat = i6.toNat + 1 by omega, hs16]; have := hi.sp (by omega) (by omega); rw [if_pos (by omega)] at this; exact this⟩ (by first | (dsimp only; omega) | omega))
 conv => cbv
 refine .add fun v16 hv16 => ?_
 conv => cbv
 refine .add fun v17 hv17 => ?_
 conv => cbv
 exact .go [2] (v16, v17, zw2, nw2) (hJ _ ⟨_, hw2, (by first | omega | (simp; omega) | (simp only [List.length_append, List.length_cons, List.length_nil] at *; omega)), by omega, by omega, by omega, by omega, by rw [show v16.toNat = i6.toNat + 1 by omega, show v17.toNat = i6.toNat + 1 by omega]; have := hi.sp (by omega) (by omega); rw [if_neg (by omega)] at this; exact this⟩ (by first | (dsimp only; omega) | omega))
 conv => cbv
 refine .lss (fun h13 => ?_) fun h13 => ?_
 conv => cbv
 refine .lohi fun s14 hs14 => ?_
 conv => cbv
 refine .one s14 hw2 rfl fun nz15 z15 hnz15 hz15 => ?_
 conv => cbv
 refine .add fun v16 hv16 => ?_
 conv => cbv
 refine .add fun v17 hv17 => ?_
 conv => cbv
 exact .go [4] (v16, v17, z15, nz15) (hJ _ ⟨_, hz15, (by first | omega | (simp; omega) | (simp only [List.length_append, List.length_cons, List.length_nil] at *; omega)), by omega, by omega, by omega, by omega, by exfalso; omega⟩ (by first | (dsimp only; omega) | omega))
 conv => cbv
 refine .add fun v14 hv14 => ?_
 conv => cbv
 refine .add fun v15 hv15 => ?_
 conv => cbv
 exact .go [2] (v14, v15, zw2, nw2) (hJ _ ⟨_, hw2, (by first | omega | (simp; omega) | (simp only [List.length_append, List.length_cons, List.length_nil] at *; omega)), by omega, by omega, by omega, by omega, by exfalso; omega⟩ (by first | (dsimp only; omega) | omega))
 conv => cbv
 refine .go fun v7 hv7 => ?_
 conv => cbv
 refine .lss (fun h8 => ?_) fun h8 => ?_
 conv => cbv
 refine .go i6.toNat fun hjv9 v9 hv9 bv9 => ?_
 conv => cbv
 refine .neq (fun h10 => ?_) fun h10 => ?_
 conv => cbv
 refine .add fun v11 hv11 => ?_
 conv => cbv
 exact .go [2] (i5, v11, zw2, nw2) (hJ _ ⟨_, hw2, (by first | omega | (simp; omega) | (simp only [List.length_append, List.length_cons, List.length_nil] at *; omega)), by omega, by omega, by omega, by omega, by exfalso; omega⟩ (by first | (dsimp only; omega) | omega))
 conv => cbv
 refine .lss (fun h11 => ?_) fun h11 => ?_
 conv => cbv
 refine .lohi fun s12 hs12 => ?_
 conv => cbv
 refine .one s12 hw2 rfl fun nz13 z13 hnz13 hz13 => ?_
 conv => cbv
 refine .add fun v14 hv14 => ?_
 conv => cbv
 refine .add fun v15 hv15 => ?_
 conv => cbv
 exact .go [4] (v14, v15, z13, nz13) (hJ _ ⟨_, hz13, (by first | omega | (simp; omega) | (simp only [List.length_append, List.length_cons, List.length_nil] at *; omega)), by omega, by omega, by omega, by omega, by exfalso; omega⟩ (by first | (dsimp only; omega) | omega))
 conv => cbv
 refine .add fun v12 hv12 => ?_
 conv => cbv
 refine .add fun v13 hv13 => ?_
 conv => cbv
 exact .go [2] (v12, v13, zw2, nw2) (hJ _ ⟨_, hw2, (by first | omega | (simp; omega) | (simp only [List.length_append, List.length_cons, List.length_nil] at *; omega)), by omega, by omega, by omega, by omega, by exfalso; omega⟩ (by first | (dsimp only; omega) | omega))
 conv => cbv
 refine .lss (fun h9 => ?_) fun h9 => ?_
 conv => cbv
 refine .lohi fun s10 hs10 => ?_
 conv => cbv
 refine .one s10 hw2 rfl fun nz11 z11 hnz11 hz11 => ?_
 conv => cbv
 refine .add fun v12 hv12 => ?_
 conv => cbv
 refine .add fun v13 hv13 => ?_
 conv => cbv
 exact .go [4] (v12, v13, z11, nz11) (hJ _ ⟨_, hz11, (by first | omega | (simp; omega) | (simp only [List.length_append, List.length_cons, List.length_nil] at *; omega)), by omega, by omega, by omega, by omega, by rw [show v12.toNat = line.size + 1 by omega, show v13.toNat = line.size + 1 by omega, hs10]; have hz : i6.toNat = line.size := (by omega); rw [hz] at hi; have := hi.last; rw [if_pos (by omega)] at this; rw [hz]; exact this⟩ (by first | (dsimp only; omega) | omega))
 conv => cbv
 refine .add fun v10 hv10 => ?_
 conv => cbv
 refine .add fun v11 hv11 => ?_
 conv => cbv
 exact .go [2] (v10, v11, zw2, nw2) (hJ _ ⟨_, hw2, (by first | omega | (simp; omega) | (simp only [List.length_append, List.length_cons, List.length_nil] at *; omega)), by omega, by omega, by omega, by omega, by rw [show v10.toNat = line.size + 1 by omega, show v11.toNat = line.size + 1 by omega]; have hz : i6.toNat = line.size := (by omega); rw [hz] at hi; have := hi.last; rw [if_neg (by omega)] at this; exact this⟩ (by first | (dsimp only; omega) | omega))
 conv => cbv
 refine .go fun v5 hv5 => ?_
 conv => cbv
 refine .gtr (fun h6 => ?_) fun h6 => ?_
 conv => cbv
 have e : ([], false) = rPartsOf line := (by unfold rPartsOf; rw [if_neg (by rintro (h | h); omega; exact Bool.noConfusion ((hi.no (by omega)).symm.trans h)), ← hi.fin (by omega), if_pos (by omega)])
 rw [hr] at e
 simp only [Prod.mk.injEq] at e
 obtain ⟨rfl, rfl⟩ := e
 refine hQ _ _ ?_
 exact .many (.inl rfl) rfl rfl (.ref rfl rfl (by rw [← hoa]; rfl) (.d rfl rfl (.nil)))
 conv => cbv
 have e : (w2, true) = rPartsOf line := (by unfold rPartsOf; rw [if_neg (by rintro (h | h); omega; exact Bool.noConfusion ((hi.no (by omega)).symm.trans h)), ← hi.fin (by omega), if_neg (by omega)])
 rw [hr] at e
 simp only [Prod.mk.injEq] at e
 obtain ⟨rfl, rfl⟩ := e
 refine hQ _ _ ?_
 exact .many (.inl rfl) rfl rfl (.ref rfl (by rw [← hw2, List.length_map]; first | omega | (simp; omega)) (by rw [← hw2, ← hoa]) (.d rfl rfl (.nil)))
end Go.Proofs.YtmkpihcfglinjaaDoor.Ab
