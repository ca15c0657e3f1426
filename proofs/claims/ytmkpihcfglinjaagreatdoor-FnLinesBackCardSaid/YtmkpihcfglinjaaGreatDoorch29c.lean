/- What functions of the program come to, for all arguments in the given bounds. -/
import Derived.Test.YtmkpihcfglinjaaGreatDoorch06k6
import Derived.Test.YtmkpihcfglinjaaGreatDoorZ10
set_option linter.unusedVariables false
set_option linter.unusedSimpArgs false
namespace Go.Proofs.YtmkpihcfglinjaaGreatDoor.Ab
open Go Go.Proofs
set_option maxRecDepth 20000
set_option maxHeartbeats 4000000
set_option linter.unusedSimpArgs false
set_option linter.unusedVariables false
def tab_ch29c : List (Nat × TyRow) := [
  (3, ⟨.int .i64, some 1, some false, none, false, [.int .i64], [], some [(.int .i64 0, 0)], none, none, none⟩),
  (5, ⟨.int .u8, some 1, some false, none, false, [.int .u8], [], some [(.int .u8 0, 0)], none, none, none⟩),
  (9, ⟨.str, some 1, some false, none, false, [.str], [], some [(.string default, 0)], none, none, none⟩),
  (22, ⟨.sl 1, some 1, some false, some (1, 1), true, [.sl 1], [], some [(.slice none 0 0, 1)], some ([.sc (.int .u8 0)], 1, 1), none, none⟩),
  (45, ⟨.sl 1, some 1, some false, some (1, 16), false, [.sl 1], [], some [(.slice none 0 0, 1)], some ([.sc (.string default)], 1, 16), none, none⟩)]
theorem tab_ch29c_ok : TabOk Tryz.prog tab_ch29c := TabOk.of (by kernel_rfl)
theorem su_ch29c : Setup Tryz.prog tab_ch29c := ⟨tab_ch29c_ok, mixed⟩
def rPartsOf_1 (b : Int) : Bool := decide (b < 32 ∨ 126 < b)
def badB (b : UInt8) : Bool := rPartsOf_1 (b.toNat : Int)
def partsL (s : ByteArray) : List ByteArray := (Lib.fields s.data.toList).map tx
def rFields (s : ByteArray) : List ByteArray := partsL s
def rPartsOf (s : ByteArray) : List ByteArray × Bool := if 600 < s.size ∨ s.data.toList.any badB = true then ([], false) else if 12 < (partsL s).length then ([], false) else (partsL s, true)
def rIndexFunc_PartsOf_1 (l : List UInt8) : Int := idxI badB l
def rContainsFunc_PartsOf_1 (l : List UInt8) : Bool := l.any badB
theorem cont_parts {l : List UInt8} : rContainsFunc_PartsOf_1 l = decide (0 ≤ rIndexFunc_PartsOf_1 l) := by
  unfold rContainsFunc_PartsOf_1 rIndexFunc_PartsOf_1
  cases h : l.any badB with
  | true =>
    obtain ⟨x, hx, hp⟩ := List.any_eq_true.1 h
    symm
    rw [decide_eq_true_eq]
    unfold idxI
    rw [if_pos (List.findIdx_lt_length_of_exists ⟨x, hx, hp⟩)]
    omega
  | false =>
    symm
    rw [decide_eq_false_iff_not]
    intro h0
    obtain ⟨hi, hp⟩ := idxI_get (rfl : idxI badB l = _) h0
    have := List.any_eq_true.2 ⟨_, List.getElem_mem hi, hp⟩
    rw [h] at this
    cases this
theorem bad_no {l : List UInt8} (h : l.any badB = false) {b : UInt8} (hb : b ∈ l) : 32 ≤ b.toNat ∧ b.toNat ≤ 126 := by
  have h1 := List.any_eq_false.1 h b hb
  unfold badB rPartsOf_1 at h1
  rw [decide_eq_true_eq] at h1
  omega
theorem fg_nil {c : List UInt8} : Lib.fieldsGo c [] = if c = [] then [] else [c] := by
  cases c <;> simp [Lib.fieldsGo]
theorem fg_sp {c : List UInt8} {b : UInt8} {l : List UInt8} (h : Lib.isSp b = true) : Lib.fieldsGo c (b :: l) = (if c = [] then [] else [c]) ++ Lib.fieldsGo [] l := by
  cases c <;> simp [Lib.fieldsGo, h]
theorem field_of {l : List UInt8} : ∀ {c x : List UInt8}, x ∈ Lib.fieldsGo c l → x.length ≤ c.length + l.length ∧ ∀ b ∈ x, b ∈ c ∨ b ∈ l := by
  induction l with
  | nil =>
    intro c x hx
    rw [fg_nil] at hx
    split at hx
    · cases hx
    · rw [List.mem_singleton] at hx
      subst hx
      exact ⟨by simp, fun b hb => .inl hb⟩
  | cons a l ih =>
    intro c x hx
    cases h : Lib.isSp a
    · rw [Lib.fieldsGo_more _ _ _ h] at hx
      obtain ⟨h1, h2⟩ := ih hx
      rw [List.length_append, List.length_singleton] at h1
      refine ⟨by rw [List.length_cons]; omega, fun b hb => ?_⟩
      rcases h2 b hb with h3 | h3
      · rcases List.mem_append.1 h3 with h4 | h4
        · exact .inl h4
        · rw [List.mem_singleton.1 h4]; exact .inr (by simp)
      · exact .inr (by simp [h3])
    · rw [fg_sp h] at hx
      rcases List.mem_append.1 hx with hx | hx
      · split at hx
        · cases hx
        · rw [List.mem_singleton] at hx
          subst hx
          exact ⟨by omega, fun b hb => .inl hb⟩
      · obtain ⟨h1, h2⟩ := ih hx
        rw [List.length_nil] at h1
        refine ⟨by rw [List.length_cons]; omega, fun b hb => ?_⟩
        rcases h2 b hb with h3 | h3
        · cases h3
        · exact .inr (by simp [h3])
theorem field_ns {l : List UInt8} : ∀ {c x : List UInt8}, (∀ b ∈ c, Lib.isSp b = false) → x ∈ Lib.fieldsGo c l → x ≠ [] ∧ ∀ b ∈ x, Lib.isSp b = false := by
  induction l with
  | nil =>
    intro c x hc hx
    rw [fg_nil] at hx
    split at hx
    · cases hx
    · rw [List.mem_singleton] at hx
      subst hx
      exact ⟨by assumption, hc⟩
  | cons a l ih =>
    intro c x hc hx
    cases h : Lib.isSp a
    · rw [Lib.fieldsGo_more _ _ _ h] at hx
      refine ih (fun b hb => ?_) hx
      rcases List.mem_append.1 hb with hb | hb
      · exact hc b hb
      · rw [List.mem_singleton.1 hb]; exact h
    · rw [fg_sp h] at hx
      rcases List.mem_append.1 hx with hx | hx
      · split at hx
        · cases hx
        · rw [List.mem_singleton] at hx
          subst hx
          exact ⟨by assumption, hc⟩
      · exact ih (fun b hb => by cases hb) hx
def wordOk (x : ByteArray) : Prop := x ≠ tx [] ∧ ∀ b ∈ x.data.toList, b ≠ 32
theorem parts_t {s : ByteArray} {p : List ByteArray} (h : rPartsOf s = (p, true)) : p = partsL s ∧ s.size ≤ 600 ∧ p.length ≤ 12 ∧ (∀ x ∈ p, x.size ≤ 600 ∧ wordOk x) ∧ s.data.toList.any badB = false := by
  unfold rPartsOf at h
  split at h
  · cases h
  · rename_i h1
    split at h
    · cases h
    · obtain rfl := (Prod.mk.inj h).1
      have hb : s.data.toList.any badB = false := by simpa using fun h2 => h1 (.inr h2)
      have hn : s.data.toList.length = s.size := Array.length_toList
      refine ⟨rfl, by omega, by omega, fun x hx => ?_, hb⟩
      unfold partsL at hx
      obtain ⟨y, hy, rfl⟩ := List.mem_map.1 hx
      have h3 := field_of hy
      have h4 := field_ns (fun b hb => by cases hb) hy
      rw [List.length_nil] at h3
      refine ⟨by rw [tx_size]; omega, fun e => h4.1 (congrArg (·.data.toList) e), fun b hb => ?_⟩
      have h5 := h4.2 b hb
      rintro rfl
      exact absurd h5 (by decide)
theorem FiPartsOf_1 {b : Int} {o : Bool}  (hr : rPartsOf_1 b = o)  : Fn Tryz.prog 46 [.d (.sc (.int .u8 b))] [] ⟨B o, [], []⟩ := by
 refine Fn.go su_ch29c Tryz.func46 fun P hP Q hQ => ?_
 conv => cbv
 refine .lss (fun h1 => ?_) fun h1 => ?_
 conv => cbv
 have e : true = rPartsOf_1 b := (by unfold rPartsOf_1; symm; first | (rw [decide_eq_true_eq]; omega) | (rw [decide_eq_false_iff_not]; omega))
 rw [hr] at e
 subst e
 exact hQ _ _ (.b rfl rfl)
 conv => cbv
 refine .gtr (fun h2 => ?_) fun h2 => ?_
 conv => cbv
 have e : true = rPartsOf_1 b := (by unfold rPartsOf_1; symm; first | (rw [decide_eq_true_eq]; omega) | (rw [decide_eq_false_iff_not]; omega))
 rw [hr] at e
 subst e
 exact hQ _ _ (.b rfl rfl)
 conv => cbv
 have e : false = rPartsOf_1 b := (by unfold rPartsOf_1; symm; first | (rw [decide_eq_true_eq]; omega) | (rw [decide_eq_false_iff_not]; omega))
 rw [hr] at e
 subst e
 exact hQ _ _ (.b rfl rfl)
theorem FlIndexFunc_PartsOf_1 {l : List UInt8} {xl : List (List D)} {o : Int} (hl : l.map cB = xl) (hn : l.length < 2 ^ 40) (hr : rIndexFunc_PartsOf_1 l = o)  : Fn Tryz.prog 62 [.d (.row 1 xl), .clo 46 []] [] ⟨I o, [], []⟩ := by
 refine Fn.go su_ch29c Tryz.func62 fun P hP Q hQ => ?_
 conv => cbv
 refine .go hl fun v1 hv1 => ?_
 conv => cbv
 refine LoopW.lp (κ := Int) su_ch29c hP [] [0, 1, 7] (fun i8 => [(8, I i8)]) (fun i8 => [])
   (fun i8 => 0 ≤ i8 ∧ i8 ≤ l.length ∧ ∀ (j : Nat) (hj : j < l.length), j < i8.toNat → badB l[j] = false)
   (fun i8 => (l.length - i8).toNat) (0) ⟨by omega, by omega, fun j _ h => by simp at h⟩ ⟨rfl, trivial⟩ rfl ?_
 rintro i8 J ⟨h0, h1, hb⟩ hJ
 conv => cbv
 refine .lss (fun h2 => ?_) fun h2 => ?_
 conv => cbv
 refine .go i8.toNat hl fun hje3 e3 qe3 => ?_
 conv => cbv
 generalize hr4 : rPartsOf_1 (e3.toNat : Int) = r4
 refine .dd hP (FiPartsOf_1 hr4) ?_
 cases r4
 conv => cbv
 refine .add fun v5 hv5 => ?_
 conv => cbv
 exact .go [] (v5) (hJ _ ⟨by omega, by omega, fun j hj h => if e : j = i8.toNat then by subst e; unfold badB; rw [← qe3]; exact hr4 else hb j hj (by omega)⟩ (by first | (dsimp only; omega) | omega))
 conv => cbv
 have e : i8 = rIndexFunc_PartsOf_1 l := (by exact idxI_at (p := badB) h0 (by omega) (by unfold badB; rw [← qe3]; exact hr4) hb)
 rw [hr] at e
 subst e
 exact hQ _ _ (.i rfl rfl)
 conv => cbv
 have e : (-1) = rIndexFunc_PartsOf_1 l := (by exact idxI_none (p := badB) fun j hj => hb j hj (by omega))
 rw [hr] at e
 subst e
 exact hQ _ _ (.i rfl rfl)
theorem FlContainsFunc_PartsOf_1 {l : List UInt8} {xl : List (List D)} {o : Bool} (hl : l.map cB = xl) (hn : l.length < 2 ^ 40) (hr : rContainsFunc_PartsOf_1 l = o)  : Fn Tryz.prog 45 [.d (.row 1 xl), .clo 46 []] [] ⟨B o, [], []⟩ := by
 refine Fn.go su_ch29c Tryz.func45 fun P hP Q hQ => ?_
 conv => cbv
 generalize hr1 : rIndexFunc_PartsOf_1 l = r1
 refine .dd hP (FlIndexFunc_PartsOf_1 hl hn hr1) ?_
 conv => cbv
 refine .geq (fun h2 => ?_) fun h2 => ?_
 conv => cbv
 have e : true = rContainsFunc_PartsOf_1 l := (by rw [cont_parts, hr1]; exact (decide_eq_true h2).symm)
 rw [hr] at e
 subst e
 exact hQ _ _ (.b rfl rfl)
 conv => cbv
 have e : false = rContainsFunc_PartsOf_1 l := (by rw [cont_parts, hr1]; exact (decide_eq_false (by omega)).symm)
 rw [hr] at e
 subst e
 exact hQ _ _ (.b rfl rfl)
theorem scV {E : Env} {u v : Value} (h : RelAV E (.d (.sc u)) v) : v = u := by
  cases h with
  | d _ _ h => cases h with | sc => rfl
theorem fresh0 {w : World} {S : Nat → Prop} {β : Nat → Option Nat} {r0 : List Root} {R : Root} : Fresh (callCtx w S β r0) (callEnv w S β r0 [R]) r0.length [R] := by
  refine ⟨Nat.le_refl _, ?_, ?_⟩
  · intro k R' hk
    show (r0 ++ [R])[r0.length + k]? = some R'
    rw [List.getElem?_append_right (by omega)]
    simpa using hk
  · intro k hk hp
    have : r0.length + k < r0.length := hp
    omega
theorem fields_ok {s : ByteArray} (hs : s.size ≤ 1000000) (ha : s.data.toList.any badB = false) : CallOk Tryz.prog 47 [S s] [] ⟨.ref 0 0 (partsL s).length, [.row 1 false ((partsL s).map cS)], []⟩ := by
  intro w S β vs hM hA
  obtain ⟨v, rfl, h1⟩ := args1 hA
  obtain rfl := scV h1
  refine (Tryz.strings_Fields s w (by omega) (fun j b hb => by have := bad_no ha (List.mem_of_getElem? hb); omega) (globs_0 hM.glob)).mono ?_
  rintro e w' ⟨rfl, rfl⟩
  have hl : (partsL s).length = (Lib.fields s.data.toList).length := by unfold partsL; rw [List.length_map]
  have hF : Fresh (callCtx w S β []) (callEnv w S β [] [.row 1 false ((partsL s).map cS)]) 0 [.row 1 false ((partsL s).map cS)] := fresh0
  obtain ⟨q, hrel⟩ := rowed (E := callEnv w S β [] [.row 1 false ((partsL s).map cS)]) hM (r := 0) (sz := 1) (xs := (partsL s).map cS) (cs := ((Lib.fields s.data.toList).map fun l => Value.string ⟨l.toArray⟩).toArray) (fr := (0, 0)) (hF.rt 0 _ rfl) (hF.np 0 (by simp)) hF.m (Grow.alloc w _) ⟨unfrozen_zero _, .inl rfl⟩
    (by
      intro i x hx
      rw [List.getElem?_map] at hx
      obtain ⟨y, _, rfl⟩ := Option.map_eq_some_iff.1 hx
      rfl) (by simp [partsL]) (by
      intro i x j y hx hy
      rw [List.getElem?_map] at hx
      obtain ⟨z, hz, rfl⟩ := Option.map_eq_some_iff.1 hx
      match j, hy with
      | 0, hy =>
        obtain rfl := Option.some.inj hy
        unfold partsL at hz
        rw [List.getElem?_map] at hz
        obtain ⟨u, hu, rfl⟩ := Option.map_eq_some_iff.1 hz
        refine ⟨.string (tx u), ?_, .sc _ rfl⟩
        rw [Nat.mul_one, Nat.add_zero, List.getElem?_toArray, List.getElem?_map, hu]
        rfl)
  refine ⟨_, _, rfl, rfl, q.mem, q.step, q.rt, q.pres, q.size, ?_⟩
  rw [hl]
  exact hrel _ _ (Nat.le_refl _) (by simp)
theorem Flstrings_Fields {s : ByteArray} {o : List ByteArray} {xo : List (List D)} (hs : s.size ≤ 1000000 ∧ s.data.toList.any badB = false) (hr : rFields s = o) (ho : o.map cS = xo) : Fn Tryz.prog 47 [S s] [] ⟨.d (.row 1 xo), [], []⟩ := by
 refine ⟨entered_of Tryz.func47 rfl rfl, ?_⟩
 subst ho hr
 exact (fields_ok hs.1 hs.2).rowD rfl (by rw [List.length_map])
theorem FiPartsOf {line : ByteArray} {oa : List ByteArray} {xoa : List (List D)} {ob : Bool}  (hr : rPartsOf line = (oa, ob)) (hoa : oa.map cS = xoa) : Fn Tryz.prog 23 [S line] [] ⟨.tup [.d (.row 1 xoa), B ob], [], []⟩ := by
 refine Fn.go su_ch29c Tryz.func23 fun P hP Q hQ => ?_
 conv => cbv
 refine .go fun v1 hv1 => ?_
 conv => cbv
 refine .gtr (fun h2 => ?_) fun h2 => ?_
 conv => cbv
 have e : ([], false) = rPartsOf line := (by unfold rPartsOf; rw [if_pos (.inl (by omega))])
 rw [hr] at e
 simp only [Prod.mk.injEq] at e
 obtain ⟨rfl, rfl⟩ := e
 refine hQ _ _ ?_
 exact .many (.inl rfl) rfl rfl (.ref rfl rfl (by rw [← hoa]; rfl) (.d rfl rfl (.nil)))
 conv => cbv
 refine .go fun nz3 z3 hnz3 hz3 => ?_
 conv => cbv
 have hnl : line.data.toList.length < 2 ^ 40 := by rw [Array.length_toList]; show line.size < _; omega
 generalize hr4 : rContainsFunc_PartsOf_1 line.data.toList = r4
 refine .lnt hP (FlContainsFunc_PartsOf_1 hz3 hnl hr4) (.ref rfl (by rw [← hz3, List.length_map]; first | omega | (simp; omega)) (.d rfl .nil)) ?_
 cases r4
 conv => cbv
 generalize hr5 : rFields line = l5
 generalize hl5 : l5.map cS = xl5
 refine .dd hP (Flstrings_Fields ⟨by omega, hr4⟩ hr5 hl5) ?_
 conv => cbv
 refine .go hl5 fun v6 hv6 => ?_
 conv => cbv
 refine .gtr (fun h7 => ?_) fun h7 => ?_
 conv => cbv
 have e : ([], false) = rPartsOf line := (by unfold rPartsOf; rw [if_neg (by rintro (h | h); omega; exact Bool.noConfusion (hr4.symm.trans h)), if_pos (by rw [show partsL line = l5 from hr5]; omega)])
 rw [hr] at e
 simp only [Prod.mk.injEq] at e
 obtain ⟨rfl, rfl⟩ := e
 refine hQ _ _ ?_
 exact .many (.inl rfl) rfl rfl (.ref rfl rfl (by rw [← hoa]; rfl) (.d rfl rfl (.nil)))
 conv => cbv
 have e : (l5, true) = rPartsOf line := (by unfold rPartsOf; rw [if_neg (by rintro (h | h); omega; exact Bool.noConfusion (hr4.symm.trans h)), if_neg (by rw [show partsL line = l5 from hr5]; omega), show partsL line = l5 from hr5])
 rw [hr] at e
 simp only [Prod.mk.injEq] at e
 obtain ⟨rfl, rfl⟩ := e
 refine hQ _ _ ?_
 exact .many (.inl rfl) rfl rfl (.d rfl (rowEq hl5 hoa) (.d rfl rfl (.nil)))
 conv => cbv
 have e : ([], false) = rPartsOf line := (by unfold rPartsOf; rw [if_pos (.inr hr4)])
 rw [hr] at e
 simp only [Prod.mk.injEq] at e
 obtain ⟨rfl, rfl⟩ := e
 refine hQ _ _ ?_
 exact .many (.inl rfl) rfl rfl (.ref rfl rfl (by rw [← hoa]; rfl) (.d rfl rfl (.nil)))
theorem byte_get6 {t : ByteArray} {j : Nat} (hj : j < t.size) : t.data.toList[j]'(by rw [Array.length_toList]; exact hj) = t[j] := by
  rw [Array.getElem_toList]; rfl
end Go.Proofs.YtmkpihcfglinjaaGreatDoor.Ab
