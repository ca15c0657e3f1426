/- What functions of the program come to, for all arguments in the given bounds. -/
import Derived.Test.YtmhinjjgpabkfaaGreatDoorch08
set_option linter.unusedVariables false
set_option linter.unusedSimpArgs false
namespace Go.Proofs.YtmhinjjgpabkfaaGreatDoor.Ab
open Go Go.Proofs
set_option maxRecDepth 20000
set_option maxHeartbeats 4000000
set_option linter.unusedSimpArgs false
set_option linter.unusedVariables false
def tab_ch09 : List (Nat × TyRow) := [
  (3, ⟨.int .i64, some 1, some false, none, false, [.int .i64], [], some [(.int .i64 0, 0)], none, none, none⟩),
  (5, ⟨.int .u8, some 1, some false, none, false, [.int .u8], [], some [(.int .u8 0, 0)], none, none, none⟩),
  (9, ⟨.str, some 1, some false, none, false, [.str], [], some [(.string default, 0)], none, none, none⟩),
  (99, ⟨.other, some 4, some true, none, false, [.int .i64, .int .i64, .int .i64, .int .i64], [some (0, 1, false), some (1, 1, false), some (2, 1, false), some (3, 1, false)], some [(.int .i64 0, 0), (.int .i64 0, 0), (.int .i64 0, 0), (.int .i64 0, 0)], none, some [(0, 1), (1, 1), (2, 1), (3, 1)], some [.int, .int, .int, .int]⟩)]
theorem tab_ch09_ok : TabOk Tryz.prog tab_ch09 := TabOk.of (by kernel_rfl)
theorem su_ch09 : Setup Tryz.prog tab_ch09 := ⟨tab_ch09_ok, mixed⟩
def rHasPrefix (s p : ByteArray) : Bool := decide (s.extract 0 p.size = p)
def rhasAt (b : ByteArray) (p : Int) (t : ByteArray) : Bool := decide ((0 ≤ p ∧ p + t.size ≤ b.size) ∧ b.extract p.toNat (p.toNat + t.size) = t)
theorem ext_size {s : ByteArray} {i j : Nat} (h : i ≤ j) (h2 : j ≤ s.size) : (s.extract i j).size = j - i := by
  rw [ByteArray.size_extract]
  omega
theorem ext_ext {s : ByteArray} {i k : Nat} (h : i ≤ s.size) : (s.extract i s.size).extract 0 k = s.extract i (i + k) := by
  rw [ext_tx, ext_tx, ext_tx s i (i + k), data_tx, List.drop_zero, Nat.sub_zero, List.take_take, Nat.add_sub_cancel_left]
  congr 1
  have : (s.data.toList.drop i).length = s.size - i := by rw [List.length_drop, lst_size]
  by_cases hk : k ≤ s.size - i
  · rw [Nat.min_eq_left hk]
  · rw [Nat.min_eq_right (by omega), List.take_of_length_le (by omega), List.take_of_length_le (by omega)]
theorem rHasPrefix_le {s p : ByteArray} (h : rHasPrefix s p = true) : p.size ≤ s.size := by
  have := of_decide_eq_true h
  have h2 := congrArg ByteArray.size this
  rw [ByteArray.size_extract] at h2
  omega
theorem rFixText4 (n : Int) (h : 0 ≤ n ∧ n < 4294967296) : (rFixText n 4).size = 4 := rFixText_size ⟨h.1, by omega, by omega, Nat.div_eq_of_lt (show n.toNat < 2 ^ (8 * 4) by omega)⟩
theorem rFrameText_ne {v n : Int} {r : ByteArray} (hv : v = 1 ∨ v = 2) (hn : 0 ≤ n ∧ n ≤ 1000000000) (hr : r.size ≤ 60) : rFrameText v n r ≠ tx [] := by
  unfold rFrameText
  rw [if_pos ⟨hv, hn, hr⟩]
  intro h
  have := congrArg ByteArray.size h
  rw [ByteArray.size_append, rFixText4 _ (rSumOf_lt r), tx_size] at this
  simp at this
theorem rFrameText_none {v n : Int} {r : ByteArray} (h : ¬ ((v = 1 ∨ v = 2) ∧ 0 ≤ n ∧ n ≤ 1000000000)) : rFrameText v n r = tx [] := if_neg (fun hh => h ⟨hh.1, hh.2.1⟩)
def rframeAt (v n : Int) (b : ByteArray) (p x q : Int) : ByteArray × Int × Bool :=
  if x ≤ 60 ∧ q + x ≤ b.size ∧ rFrameText v n (b.extract q.toNat (q + x).toNat) ≠ tx [] ∧ rhasAt b p (rFrameText v n (b.extract q.toNat (q + x).toNat)) = true then
    (b.extract q.toNat (q + x).toNat, p + (rFrameText v n (b.extract q.toNat (q + x).toNat)).size, true) else (tx [], 0, false)
def rReadFrame (v n : Int) (b : ByteArray) (p : Int) : ByteArray × Int × Bool :=
  if v = 2 then (if (rReadFix b p 4).2 = true then rframeAt v n b p (rReadFix b p 4).1 (p + 8) else (tx [], 0, false))
  else (if (rReadVar b p).2.2 = true then rframeAt v n b p (rReadVar b p).1 (rReadVar b p).2.1 else (tx [], 0, false))
theorem rf_new {v n p x : Int} {b : ByteArray} {ok : Bool} (h1 : v = 2) (h : rReadFix b p 4 = (x, ok)) : rReadFrame v n b p = if ok = true then rframeAt v n b p x (p + 8) else (tx [], 0, false) := by
  unfold rReadFrame
  rw [if_pos h1, h]
theorem rf_old {v n p x q : Int} {b : ByteArray} {ok : Bool} (h1 : v ≠ 2) (h : rReadVar b p = (x, q, ok)) : rReadFrame v n b p = if ok = true then rframeAt v n b p x q else (tx [], 0, false) := by
  unfold rReadFrame
  rw [if_neg h1, h]
theorem rReadFix_ok {b : ByteArray} {p w x : Int} (h : rReadFix b p w = (x, true)) : (1 ≤ w ∧ w ≤ 8) ∧ 0 ≤ p ∧ p + w ≤ b.size ∧ 0 ≤ x ∧ x < 9223372036854775808 := by
  unfold rReadFix at h
  split at h
  · split at h
    · simp only [Prod.mk.injEq, and_true] at h
      omega
    · simp at h
  · simp at h
theorem vread_le : ∀ {f : Nat} {l : List UInt8} {n k : Nat}, vread f l = some (n, k) → 1 ≤ k ∧ k ≤ l.length
  | 0, l, n, k, h => by simp [vread] at h
  | f + 1, [], n, k, h => by simp [vread] at h
  | f + 1, x :: l, n, k, h => by
    simp only [vread] at h
    split at h
    · simp only [Option.some.injEq, Prod.mk.injEq] at h
      simp
      omega
    · split at h
      · rename_i m j hm
        have := vread_le hm
        split at h
        · cases h
        · simp only [Option.some.injEq, Prod.mk.injEq] at h
          simp
          omega
      · cases h
theorem rReadVar_ok {b : ByteArray} {p x q : Int} (h : rReadVar b p = (x, q, true)) : 0 ≤ p ∧ p < q ∧ q ≤ b.size ∧ 0 ≤ x ∧ x ≤ 1000000000 := by
  unfold rReadVar at h
  split at h
  · split at h
    · rename_i n k hv
      have := vread_le hv
      rw [List.length_drop, lst_size] at this
      split at h
      · simp only [Prod.mk.injEq, and_true] at h
        omega
      · simp at h
    · simp at h
  · simp at h
theorem fa_none {v n p x q : Int} {b : ByteArray} (h : ¬ (x ≤ 60 ∧ q + x ≤ b.size)) : (tx [], 0, false) = rframeAt v n b p x q := (if_neg (fun hh => h ⟨hh.1, hh.2.1⟩)).symm
theorem fa_no {v n p x q : Int} {b t : ByteArray} (h : rFrameText v n (b.extract q.toNat (q + x).toNat) = t) (h2 : t = tx [] ∨ rhasAt b p t = false) : (tx [], 0, false) = rframeAt v n b p x q := by
  unfold rframeAt
  rw [h, if_neg]
  rintro ⟨_, _, h3, h4⟩
  rcases h2 with h2 | h2
  · exact h3 h2
  · rw [h2] at h4; cases h4
theorem fa_yes {v n p x q : Int} {b t : ByteArray} (hx : x ≤ 60 ∧ q + x ≤ b.size) (h : rFrameText v n (b.extract q.toNat (q + x).toNat) = t) (h2 : t ≠ tx []) (h3 : rhasAt b p t = true) : (b.extract q.toNat (q + x).toNat, p + (t.size : Int), true) = rframeAt v n b p x q := by
  unfold rframeAt
  rw [h, if_pos ⟨hx.1, hx.2, h2, h3⟩]
def rMarkAt (v n : Int) (b : ByteArray) (p : Int) : Bool := decide (rEndMark v n ≠ tx []) && rhasAt b p (rEndMark v n)
theorem rf_bad {v n p : Int} {b : ByteArray} (h : ¬ ((v = 1 ∨ v = 2) ∧ 0 ≤ n ∧ n ≤ 1000000000)) : (tx [], 0, false) = rReadFrame v n b p := by
  unfold rReadFrame
  split
  · split
    · exact fa_no (rFrameText_none h) (.inl rfl)
    · rfl
  · split
    · exact fa_no (rFrameText_none h) (.inl rfl)
    · rfl
theorem rf_out {v n p : Int} {b : ByteArray} (h : ¬ (0 ≤ p ∧ p ≤ b.size)) : (tx [], 0, false) = rReadFrame v n b p := by
  rcases h1 : rReadFix b p 4 with ⟨x, ok⟩
  rcases h2 : rReadVar b p with ⟨y, q, ok2⟩
  by_cases hv : v = 2
  · rw [rf_new hv h1]
    cases ok
    · rfl
    · have := rReadFix_ok h1; omega
  · rw [rf_old hv h2]
    cases ok2
    · rfl
    · have := rReadVar_ok h2; omega
def bAt (b : ByteArray) (i : Nat) : Int := (((b.data.toList[i]?).getD 0).toNat : Nat)
theorem bAt_eq {b : ByteArray} {i : Nat} (h : i < b.size) : ((b[i].toNat : Nat) : Int) = bAt b i := by
  unfold bAt
  rw [lst_get h, List.getElem?_eq_getElem (by rw [lst_size]; exact h)]
  rfl
def rReadHead (b : ByteArray) : THead × Bool :=
  if 24 ≤ b.size ∧ (rReadFix b 8 8).2 = true ∧ rHeadText ⟨bAt b 4, bAt b 5, (rReadFix b 8 8).1, (rReadFix b 16 4).1⟩ = b.extract 0 24 then (⟨bAt b 4, bAt b 5, (rReadFix b 8 8).1, (rReadFix b 16 4).1⟩, true) else (⟨0, 0, 0, 0⟩, false)
theorem rReadHead_t {b : ByteArray} {h : THead} (e : rReadHead b = (h, true)) : 24 ≤ b.size ∧ rHeadText h = b.extract 0 24 ∧ rHeadOk h = true := by
  unfold rReadHead at e
  split at e
  · rename_i hh
    simp only [Prod.mk.injEq, and_true] at e
    rw [← e]
    refine ⟨hh.1, hh.2.2, ?_⟩
    by_cases hk : rHeadOk ⟨bAt b 4, bAt b 5, (rReadFix b 8 8).1, (rReadFix b 16 4).1⟩ = true
    · exact hk
    · have h2 := hh.2.2
      unfold rHeadText at h2
      rw [if_neg hk] at h2
      have := congrArg ByteArray.size h2
      rw [tx_size, ext_size (by omega) (by omega)] at this
      simp at this
  · simp at e
theorem Flinternal_stringslite_HasPrefix {s : ByteArray} {p : ByteArray} {o : Bool}  (hs : s.size < 2 ^ 47) (hr : rHasPrefix s p = o)  : Fn Tryz.prog 237 [S s, S p] [] ⟨B o, [], []⟩ := by
 refine Fn.go su_ch09 Tryz.func237 fun P hP Q hQ => ?_
 conv => cbv
 refine .go fun v1 hv1 => ?_
 conv => cbv
 refine .go fun v2 hv2 => ?_
 conv => cbv
 refine .geq (fun h3 => ?_) fun h3 => ?_
 conv => cbv
 refine .go fun v4 hv4 => ?_
 conv => cbv
 refine .hi fun s5 hs5 => ?_
 conv => cbv
 refine .eql (fun h6 => ?_) fun h6 => ?_
 conv => cbv
 have e : true = rHasPrefix s p := (by unfold rHasPrefix; symm; rw [decide_eq_true_eq, show p.size = v4.toNat by omega, ← hs5]; exact h6)
 rw [hr] at e
 subst e
 exact hQ _ _ (.b rfl rfl)
 conv => cbv
 have e : false = rHasPrefix s p := (by unfold rHasPrefix; symm; rw [decide_eq_false_iff_not]; intro h; refine h6 ?_; rw [hs5, show v4.toNat = p.size by omega]; exact h)
 rw [hr] at e
 subst e
 exact hQ _ _ (.b rfl rfl)
 conv => cbv
 have e : false = rHasPrefix s p := (by symm; cases hh : rHasPrefix s p; rfl; have := rHasPrefix_le hh; omega)
 rw [hr] at e
 subst e
 exact hQ _ _ (.b rfl rfl)
theorem Flstrings_HasPrefix {s : ByteArray} {p : ByteArray} {o : Bool}  (hs : s.size < 2 ^ 47) (hr : rHasPrefix s p = o)  : Fn Tryz.prog 198 [S s, S p] [] ⟨B o, [], []⟩ := by
 refine Fn.go su_ch09 Tryz.func198 fun P hP Q hQ => ?_
 conv => cbv
 generalize hr1 : rHasPrefix s p = r1
 refine .dd hP (Flinternal_stringslite_HasPrefix (by omega) hr1) ?_
 cases r1
 conv => cbv
 have e : false = rHasPrefix s p := (by exact hr1.symm)
 rw [hr] at e
 subst e
 exact hQ _ _ (.b rfl rfl)
 conv => cbv
 have e : true = rHasPrefix s p := (by exact hr1.symm)
 rw [hr] at e
 subst e
 exact hQ _ _ (.b rfl rfl)
theorem FihasAt {b : ByteArray} {p : Int} {t : ByteArray} {o : Bool}  (hs : b.size < 2 ^ 47) (hr : rhasAt b p t = o)  : Fn Tryz.prog 215 [S b, I p, S t] [] ⟨B o, [], []⟩ := by
 refine Fn.go su_ch09 Tryz.func215 fun P hP Q hQ => ?_
 conv => cbv
 refine .go fun v1 hv1 => ?_
 conv => cbv
 generalize hr2 : rwithin p 0 v1 = r2
 refine .dd hP (Fiwithin hr2) ?_
 cases r2
 simp only [rwithin, decide_eq_true_eq, decide_eq_false_iff_not] at hr2
 conv => cbv
 have e : false = rhasAt b p t := (by unfold rhasAt; symm; rw [decide_eq_false_iff_not]; intro h; omega)
 rw [hr] at e
 subst e
 exact hQ _ _ (.b rfl rfl)
 simp only [rwithin, decide_eq_true_eq, decide_eq_false_iff_not] at hr2
 conv => cbv
 refine .lo fun s3 hs3 => ?_
 conv => cbv
 have z3 : s3.size ≤ b.size := by rw [hs3, ByteArray.size_extract]; omega
 have key : rHasPrefix s3 t = rhasAt b p t := by
   unfold rHasPrefix rhasAt
   rw [hs3, ext_ext (by omega)]
   simp only [decide_eq_decide]
   constructor
   · intro h; refine ⟨?_, h⟩; have h2 := congrArg ByteArray.size h; rw [ByteArray.size_extract] at h2; omega
   · intro h; exact h.2
 generalize hr4 : rHasPrefix s3 t = r4
 refine .dd hP (Flstrings_HasPrefix (by omega) hr4) ?_
 cases r4
 conv => cbv
 have e : false = rhasAt b p t := (by rw [← key]; exact hr4.symm)
 rw [hr] at e
 subst e
 exact hQ _ _ (.b rfl rfl)
 conv => cbv
 have e : true = rhasAt b p t := (by rw [← key]; exact hr4.symm)
 rw [hr] at e
 subst e
 exact hQ _ _ (.b rfl rfl)
theorem FiMarkAt {v : Int} {n : Int} {b : ByteArray} {p : Int} {o : Bool}  (hs : b.size < 2 ^ 47) (hp : -140737488355328 ≤ p ∧ p < 140737488355328) (hr : rMarkAt v n b p = o)  : Fn Tryz.prog 183 [I v, I n, S b, I p] [] ⟨B o, [], []⟩ := by
 refine Fn.go su_ch09 Tryz.func183 fun P hP Q hQ => ?_
 conv => cbv
 generalize hr1 : rEndMark v n = r1
 have zr1 := rEndMark_b hr1
 refine .dd hP (FiEndMark hr1) ?_
 conv => cbv
 refine .neq (fun h2 => ?_) fun h2 => ?_
 conv => cbv
 generalize hr3 : rhasAt b p r1 = r3
 refine .dd hP (FihasAt (by omega) hr3) ?_
 cases r3
 conv => cbv
 have e : false = rMarkAt v n b p := (by unfold rMarkAt; rw [hr1]; simp [show r1 ≠ tx [] from h2, hr3])
 rw [hr] at e
 subst e
 exact hQ _ _ (.b rfl rfl)
 conv => cbv
 have e : true = rMarkAt v n b p := (by unfold rMarkAt; rw [hr1]; simp [show r1 ≠ tx [] from h2, hr3])
 rw [hr] at e
 subst e
 exact hQ _ _ (.b rfl rfl)
 conv => cbv
 have e : false = rMarkAt v n b p := (by unfold rMarkAt; rw [hr1]; simp [show r1 = tx [] from h2])
 rw [hr] at e
 subst e
 exact hQ _ _ (.b rfl rfl)
theorem FsMarkAt {v : Int} {n : Int} {b : ByteArray} {p : Int} {o : Bool}  (hs : b.size < 2 ^ 47) (hp : -140737488355328 ≤ p ∧ p < 140737488355328) (hr : rMarkAt v n b p = o)  : Fn Tryz.prog 147 [I v, I n, S b, I p] [] ⟨B o, [], []⟩ := by
 refine Fn.go su_ch09 Tryz.func147 fun P hP Q hQ => ?_
 conv => cbv
 generalize hr1 : rEndMark v n = r1
 have zr1 := rEndMark_b hr1
 refine .dd hP (FsEndMark hr1) ?_
 conv => cbv
 refine .neq (fun h2 => ?_) fun h2 => ?_
 conv => cbv
 refine .go fun v3 hv3 => ?_
 conv => cbv
 refine .go fun v4 hv4 => ?_
 conv => cbv
 refine .sub fun v5 hv5 => ?_
 conv => cbv
 generalize hr6 : rl01In p 0 v5 = r6
 refine .dd hP (Fsl01In hr6) ?_
 cases r6
 simp only [rl01In, decide_eq_true_eq, decide_eq_false_iff_not] at hr6
 conv => cbv
 have e : false = rMarkAt v n b p := (by unfold rMarkAt rhasAt; rw [hr1]; symm; simp; omega)
 rw [hr] at e
 subst e
 exact hQ _ _ (.b rfl rfl)
 simp only [rl01In, decide_eq_true_eq, decide_eq_false_iff_not] at hr6
 conv => cbv
 refine .go fun v7 hv7 => ?_
 conv => cbv
 refine .add fun v8 hv8 => ?_
 conv => cbv
 refine .lohi fun s9 hs9 => ?_
 conv => cbv
 refine .eql (fun h10 => ?_) fun h10 => ?_
 conv => cbv
 have e : true = rMarkAt v n b p := (by unfold rMarkAt rhasAt; rw [hr1, hs9, show v8.toNat = p.toNat + r1.size by omega] at *; symm; simp [h10, show r1 ≠ tx [] from h2]; omega)
 rw [hr] at e
 subst e
 exact hQ _ _ (.b rfl rfl)
 conv => cbv
 have e : false = rMarkAt v n b p := (by unfold rMarkAt rhasAt; rw [hr1]; rw [hs9, show v8.toNat = p.toNat + r1.size by omega] at h10; symm; simp [h10])
 rw [hr] at e
 subst e
 exact hQ _ _ (.b rfl rfl)
 conv => cbv
 have e : false = rMarkAt v n b p := (by unfold rMarkAt; rw [hr1]; simp [show r1 = tx [] from h2])
 rw [hr] at e
 subst e
 exact hQ _ _ (.b rfl rfl)
theorem FiReadHead {b : ByteArray} {oaver : Int} {oastr : Int} {oabas : Int} {oalin : Int} {ob : Bool}  (hs : b.size < 2 ^ 47) (hr : rReadHead b = (⟨oaver, oastr, oabas, oalin⟩, ob))  : Fn Tryz.prog 182 [S b] [] ⟨.tup [.agg [I oaver, I oastr, I oabas, I oalin], B ob], [], []⟩ := by
 refine Fn.go su_ch09 Tryz.func182 fun P hP Q hQ => ?_
 conv => cbv
 refine .go fun v1 hv1 => ?_
 conv => cbv
 refine .lss (fun h2 => ?_) fun h2 => ?_
 conv => cbv
 have e : ((⟨0, 0, 0, 0⟩ : THead), false) = rReadHead b := (by unfold rReadHead; rw [if_neg (by omega)])
 rw [hr] at e
 simp only [Prod.mk.injEq, THead.mk.injEq] at e
 obtain ⟨⟨rfl, rfl, rfl, rfl⟩, rfl⟩ := e
 refine hQ _ _ ?_
 exact .many (.inl rfl) rfl rfl (.agg (.d rfl rfl (.d rfl rfl (.d rfl rfl (.d rfl rfl (.nil))))) (.d rfl rfl (.nil)))
 conv => cbv
 rcases hr3 : rReadFix b 8 8 with ⟨r3a, r3b⟩
 refine .dd hP (FiReadFix (by omega) hr3) ?_
 conv => cbv
 rcases hr4 : rReadFix b 16 4 with ⟨r4a, r4b⟩
 refine .dd hP (FiReadFix (by omega) hr4) ?_
 conv => cbv
 refine .go 4 fun hjv5 v5 hv5 bv5 => ?_
 conv => cbv
 refine .id fun v6 hv6 => ?_
 conv => cbv
 refine .go 5 fun hjv7 v7 hv7 bv7 => ?_
 conv => cbv
 refine .id fun v8 hv8 => ?_
 conv => cbv
 cases r3b
 conv => cbv
 have e : ((⟨0, 0, 0, 0⟩ : THead), false) = rReadHead b := (by unfold rReadHead; rw [hr3, hr4, if_neg]; simp)
 rw [hr] at e
 simp only [Prod.mk.injEq, THead.mk.injEq] at e
 obtain ⟨⟨rfl, rfl, rfl, rfl⟩, rfl⟩ := e
 refine hQ _ _ ?_
 exact .many (.inl rfl) rfl rfl (.agg (.d rfl rfl (.d rfl rfl (.d rfl rfl (.d rfl rfl (.nil))))) (.d rfl rfl (.nil)))
 conv => cbv
 have e4 : v6 = bAt b 4 := by rw [hv6, hv5, bAt_eq]
 have e5 : v8 = bAt b 5 := by rw [hv8, hv7, bAt_eq]
 generalize hr9 : rHeadText (⟨v6, v8, r3a, r4a⟩ : THead) = r9
 have zr9 := rHeadText_b hr9
 refine .dd hP (FiHeadText hr9) ?_
 conv => cbv
 refine .hi fun s10 hs10 => ?_
 conv => cbv
 refine .neq (fun h11 => ?_) fun h11 => ?_
 conv => cbv
 have e : ((⟨0, 0, 0, 0⟩ : THead), false) = rReadHead b := (by unfold rReadHead; rw [hr3, hr4, if_neg]; rintro ⟨_, _, h⟩; refine h11 ?_; rw [← hr9, hs10, e4, e5]; exact h)
 rw [hr] at e
 simp only [Prod.mk.injEq, THead.mk.injEq] at e
 obtain ⟨⟨rfl, rfl, rfl, rfl⟩, rfl⟩ := e
 refine hQ _ _ ?_
 exact .many (.inl rfl) rfl rfl (.agg (.d rfl rfl (.d rfl rfl (.d rfl rfl (.d rfl rfl (.nil))))) (.d rfl rfl (.nil)))
 conv => cbv
 have e : ((⟨v6, v8, r3a, r4a⟩ : THead), true) = rReadHead b := (by unfold rReadHead; rw [hr3, hr4, ← e4, ← e5, if_pos]; refine ⟨by omega, rfl, ?_⟩; rw [hr9, h11, hs10]; rfl)
 rw [hr] at e
 simp only [Prod.mk.injEq, THead.mk.injEq] at e
 obtain ⟨⟨rfl, rfl, rfl, rfl⟩, rfl⟩ := e
 refine hQ _ _ ?_
 exact .many (.inl rfl) rfl rfl (.agg (.d rfl rfl (.d rfl rfl (.d rfl rfl (.d rfl rfl (.nil))))) (.d rfl rfl (.nil)))
theorem FsReadHead {b : ByteArray} {oaver : Int} {oastr : Int} {oabas : Int} {oalin : Int} {ob : Bool}  (hs : b.size < 2 ^ 47) (hr : rReadHead b = (⟨oaver, oastr, oabas, oalin⟩, ob))  : Fn Tryz.prog 144 [S b] [] ⟨.tup [.agg [I oaver, I oastr, I oabas, I oalin], B ob], [], []⟩ := by
 refine Fn.go su_ch09 Tryz.func144 fun P hP Q hQ => ?_
 conv => cbv
 refine .go fun v1 hv1 => ?_
 conv => cbv
 refine .lss (fun h2 => ?_) fun h2 => ?_
 conv => cbv
 have e : ((⟨0, 0, 0, 0⟩ : THead), false) = rReadHead b := (by unfold rReadHead; rw [if_neg (by omega)])
 rw [hr] at e
 simp only [Prod.mk.injEq, THead.mk.injEq] at e
 obtain ⟨⟨rfl, rfl, rfl, rfl⟩, rfl⟩ := e
 refine hQ _ _ ?_
 exact .many (.inl rfl) rfl rfl (.agg (.d rfl rfl (.d rfl rfl (.d rfl rfl (.d rfl rfl (.nil))))) (.d rfl rfl (.nil)))
 conv => cbv
 rcases hr3 : rReadFix b 8 8 with ⟨r3a, r3b⟩
 refine .dd hP (FsReadFix (by omega) hr3) ?_
 conv => cbv
 rcases hr4 : rReadFix b 16 4 with ⟨r4a, r4b⟩
 refine .dd hP (FsReadFix (by omega) hr4) ?_
 conv => cbv
 refine .go 4 fun hjv5 v5 hv5 bv5 => ?_
 conv => cbv
 refine .id fun v6 hv6 => ?_
 conv => cbv
 refine .go 5 fun hjv7 v7 hv7 bv7 => ?_
 conv => cbv
 refine .id fun v8 hv8 => ?_
 conv => cbv
 cases r3b
 conv => cbv
 have e : ((⟨0, 0, 0, 0⟩ : THead), false) = rReadHead b := (by unfold rReadHead; rw [hr3, hr4, if_neg]; simp)
 rw [hr] at e
 simp only [Prod.mk.injEq, THead.mk.injEq] at e
 obtain ⟨⟨rfl, rfl, rfl, rfl⟩, rfl⟩ := e
 refine hQ _ _ ?_
 exact .many (.inl rfl) rfl rfl (.agg (.d rfl rfl (.d rfl rfl (.d rfl rfl (.d rfl rfl (.nil))))) (.d rfl rfl (.nil)))
 conv => cbv
 have e4 : v6 = bAt b 4 := by rw [hv6, hv5, bAt_eq]
 have e5 : v8 = bAt b 5 := by rw [hv8, hv7, bAt_eq]
 generalize hr9 : rHeadText (⟨v6, v8, r3a, r4a⟩ : THead) = r9
 have zr9 := rHeadText_b hr9
 refine .dd hP (FsHeadText hr9) ?_
 conv => cbv
 refine .hi fun s10 hs10 => ?_
 conv => cbv
 refine .neq (fun h11 => ?_) fun h11 => ?_
 conv => cbv
 have e : ((⟨0, 0, 0, 0⟩ : THead), false) = rReadHead b := (by unfold rReadHead; rw [hr3, hr4, if_neg]; rintro ⟨_, _, h⟩; refine h11 ?_; rw [← hr9, hs10, e4, e5]; exact h)
 rw [hr] at e
 simp only [Prod.mk.injEq, THead.mk.injEq] at e
 obtain ⟨⟨rfl, rfl, rfl, rfl⟩, rfl⟩ := e
 refine hQ _ _ ?_
 exact .many (.inl rfl) rfl rfl (.agg (.d rfl rfl (.d rfl rfl (.d rfl rfl (.d rfl rfl (.nil))))) (.d rfl rfl (.nil)))
 conv => cbv
 have e : ((⟨v6, v8, r3a, r4a⟩ : THead), true) = rReadHead b := (by unfold rReadHead; rw [hr3, hr4, ← e4, ← e5, if_pos]; refine ⟨by omega, rfl, ?_⟩; rw [hr9, h11, hs10]; rfl)
 rw [hr] at e
 simp only [Prod.mk.injEq, THead.mk.injEq] at e
 obtain ⟨⟨rfl, rfl, rfl, rfl⟩, rfl⟩ := e
 refine hQ _ _ ?_
 exact .many (.inl rfl) rfl rfl (.agg (.d rfl rfl (.d rfl rfl (.d rfl rfl (.d rfl rfl (.nil))))) (.d rfl rfl (.nil)))
theorem FiReadFrame {v : Int} {n : Int} {b : ByteArray} {p : Int} {oa : ByteArray} {ob : Int} {oc : Bool}  (hs : b.size < 2 ^ 47) (hp : -140737488355328 ≤ p ∧ p < 140737488355328) (hr : rReadFrame v n b p = (oa, ob, oc))  : Fn Tryz.prog 184 [I v, I n, S b, I p] [] ⟨.tup [S oa, I ob, B oc], [], []⟩ := by
 refine Fn.go su_ch09 Tryz.func184 fun P hP Q hQ => ?_
 conv => cbv
 refine .eql (fun h1 => ?_) fun h1 => ?_
 conv => cbv
 rcases hr2 : rReadFix b p 4 with ⟨r2a, r2b⟩
 refine .dd hP (FiReadFix (by omega) hr2) ?_
 conv => cbv
 refine .add fun v3 hv3 => ?_
 conv => cbv
 cases r2b
 conv => cbv
 have e : ((tx []), 0, false) = rReadFrame v n b p := (by rw [rf_new h1 hr2]; rfl)
 rw [hr] at e
 simp only [Prod.mk.injEq] at e
 obtain ⟨rfl, rfl, rfl⟩ := e
 refine hQ _ _ ?_
 exact .many (.inl rfl) rfl rfl (.d rfl rfl (.d rfl rfl (.d rfl rfl (.nil))))
 conv => cbv
 have zz := rReadFix_ok hr2
 refine .gtr (fun h4 => ?_) fun h4 => ?_
 conv => cbv
 have e : ((tx []), 0, false) = rReadFrame v n b p := (by rw [rf_new h1 hr2]; rw [if_pos rfl]; exact fa_none (by omega))
 rw [hr] at e
 simp only [Prod.mk.injEq] at e
 obtain ⟨rfl, rfl, rfl⟩ := e
 refine hQ _ _ ?_
 exact .many (.inl rfl) rfl rfl (.d rfl rfl (.d rfl rfl (.d rfl rfl (.nil))))
 conv => cbv
 refine .go fun v5 hv5 => ?_
 conv => cbv
 refine .gtr (fun h6 => ?_) fun h6 => ?_
 conv => cbv
 have e : ((tx []), 0, false) = rReadFrame v n b p := (by rw [rf_new h1 hr2]; rw [if_pos rfl]; exact fa_none (by omega))
 rw [hr] at e
 simp only [Prod.mk.injEq] at e
 obtain ⟨rfl, rfl, rfl⟩ := e
 refine hQ _ _ ?_
 exact .many (.inl rfl) rfl rfl (.d rfl rfl (.d rfl rfl (.d rfl rfl (.nil))))
 conv => cbv
 refine .go fun v7 hv7 => ?_
 conv => cbv
 refine .sub fun v8 hv8 => ?_
 conv => cbv
 refine .gtr (fun h9 => ?_) fun h9 => ?_
 conv => cbv
 have e : ((tx []), 0, false) = rReadFrame v n b p := (by rw [rf_new h1 hr2]; rw [if_pos rfl]; exact fa_none (by omega))
 rw [hr] at e
 simp only [Prod.mk.injEq] at e
 obtain ⟨rfl, rfl, rfl⟩ := e
 refine hQ _ _ ?_
 exact .many (.inl rfl) rfl rfl (.d rfl rfl (.d rfl rfl (.d rfl rfl (.nil))))
 conv => cbv
 refine .add fun v10 hv10 => ?_
 conv => cbv
 refine .lohi fun s11 hs11 => ?_
 conv => cbv
 have z11 : s11.size ≤ b.size := by rw [hs11, ByteArray.size_extract]; omega
 have e11 : s11 = b.extract (p + 8).toNat (p + 8 + r2a).toNat := by rw [hs11, hv10, hv3]
 generalize hr12 : rFrameText v n s11 = r12
 have zr12 := rFrameText_b hr12
 refine .dd hP (FiFrameText (by omega) hr12) ?_
 conv => cbv
 refine .eql (fun h13 => ?_) fun h13 => ?_
 conv => cbv
 have e : ((tx []), 0, false) = rReadFrame v n b p := (by rw [rf_new h1 hr2]; rw [if_pos rfl]; rw [e11] at hr12; exact fa_no hr12 (.inl h13))
 rw [hr] at e
 simp only [Prod.mk.injEq] at e
 obtain ⟨rfl, rfl, rfl⟩ := e
 refine hQ _ _ ?_
 exact .many (.inl rfl) rfl rfl (.d rfl rfl (.d rfl rfl (.d rfl rfl (.nil))))
 conv => cbv
 generalize hr14 : rhasAt b p r12 = r14
 refine .dd hP (FihasAt (by omega) hr14) ?_
 cases r14
 conv => cbv
 have e : ((tx []), 0, false) = rReadFrame v n b p := (by rw [rf_new h1 hr2]; rw [if_pos rfl]; rw [e11] at hr12; exact fa_no hr12 (.inr hr14))
 rw [hr] at e
 simp only [Prod.mk.injEq] at e
 obtain ⟨rfl, rfl, rfl⟩ := e
 refine hQ _ _ ?_
 exact .many (.inl rfl) rfl rfl (.d rfl rfl (.d rfl rfl (.d rfl rfl (.nil))))
 conv => cbv
 refine .go fun v15 hv15 => ?_
 conv => cbv
 refine .add fun v16 hv16 => ?_
 conv => cbv
 have e : (s11, v16, true) = rReadFrame v n b p := (by rw [rf_new h1 hr2]; rw [if_pos rfl]; rw [e11] at hr12 ⊢; rw [hv16, hv15]; exact fa_yes (by omega) hr12 h13 hr14)
 rw [hr] at e
 simp only [Prod.mk.injEq] at e
 obtain ⟨rfl, rfl, rfl⟩ := e
 refine hQ _ _ ?_
 exact .many (.inl rfl) rfl rfl (.d rfl rfl (.d rfl rfl (.d rfl rfl (.nil))))
 conv => cbv
 rcases hr2 : rReadVar b p with ⟨r2a, r2b, r2c⟩
 refine .dd hP (FiReadVar (by omega) hr2) ?_
 conv => cbv
 cases r2c
 conv => cbv
 have e : ((tx []), 0, false) = rReadFrame v n b p := (by rw [rf_old h1 hr2]; rfl)
 rw [hr] at e
 simp only [Prod.mk.injEq] at e
 obtain ⟨rfl, rfl, rfl⟩ := e
 refine hQ _ _ ?_
 exact .many (.inl rfl) rfl rfl (.d rfl rfl (.d rfl rfl (.d rfl rfl (.nil))))
 conv => cbv
 have zz := rReadVar_ok hr2
 refine .gtr (fun h3 => ?_) fun h3 => ?_
 conv => cbv
 have e : ((tx []), 0, false) = rReadFrame v n b p := (by rw [rf_old h1 hr2]; rw [if_pos rfl]; exact fa_none (by omega))
 rw [hr] at e
 simp only [Prod.mk.injEq] at e
 obtain ⟨rfl, rfl, rfl⟩ := e
 refine hQ _ _ ?_
 exact .many (.inl rfl) rfl rfl (.d rfl rfl (.d rfl rfl (.d rfl rfl (.nil))))
 conv => cbv
 refine .go fun v4 hv4 => ?_
 conv => cbv
 refine .gtr (fun h5 => ?_) fun h5 => ?_
 conv => cbv
 have e : ((tx []), 0, false) = rReadFrame v n b p := (by rw [rf_old h1 hr2]; rw [if_pos rfl]; exact fa_none (by omega))
 rw [hr] at e
 simp only [Prod.mk.injEq] at e
 obtain ⟨rfl, rfl, rfl⟩ := e
 refine hQ _ _ ?_
 exact .many (.inl rfl) rfl rfl (.d rfl rfl (.d rfl rfl (.d rfl rfl (.nil))))
 conv => cbv
 refine .go fun v6 hv6 => ?_
 conv => cbv
 refine .sub fun v7 hv7 => ?_
 conv => cbv
 refine .gtr (fun h8 => ?_) fun h8 => ?_
 conv => cbv
 have e : ((tx []), 0, false) = rReadFrame v n b p := (by rw [rf_old h1 hr2]; rw [if_pos rfl]; exact fa_none (by omega))
 rw [hr] at e
 simp only [Prod.mk.injEq] at e
 obtain ⟨rfl, rfl, rfl⟩ := e
 refine hQ _ _ ?_
 exact .many (.inl rfl) rfl rfl (.d rfl rfl (.d rfl rfl (.d rfl rfl (.nil))))
 conv => cbv
 refine .add fun v9 hv9 => ?_
 conv => cbv
 refine .lohi fun s10 hs10 => ?_
 conv => cbv
 have z10 : s10.size ≤ b.size := by rw [hs10, ByteArray.size_extract]; omega
 have e10 : s10 = b.extract r2b.toNat (r2b + r2a).toNat := by rw [hs10, hv9]
 generalize hr11 : rFrameText v n s10 = r11
 have zr11 := rFrameText_b hr11
 refine .dd hP (FiFrameText (by omega) hr11) ?_
 conv => cbv
 refine .eql (fun h12 => ?_) fun h12 => ?_
 conv => cbv
 have e : ((tx []), 0, false) = rReadFrame v n b p := (by rw [rf_old h1 hr2]; rw [if_pos rfl]; rw [e10] at hr11; exact fa_no hr11 (.inl h12))
 rw [hr] at e
 simp only [Prod.mk.injEq] at e
 obtain ⟨rfl, rfl, rfl⟩ := e
 refine hQ _ _ ?_
 exact .many (.inl rfl) rfl rfl (.d rfl rfl (.d rfl rfl (.d rfl rfl (.nil))))
 conv => cbv
 generalize hr13 : rhasAt b p r11 = r13
 refine .dd hP (FihasAt (by omega) hr13) ?_
 cases r13
 conv => cbv
 have e : ((tx []), 0, false) = rReadFrame v n b p := (by rw [rf_old h1 hr2]; rw [if_pos rfl]; rw [e10] at hr11; exact fa_no hr11 (.inr hr13))
 rw [hr] at e
 simp only [Prod.mk.injEq] at e
 obtain ⟨rfl, rfl, rfl⟩ := e
 refine hQ _ _ ?_
 exact .many (.inl rfl) rfl rfl (.d rfl rfl (.d rfl rfl (.d rfl rfl (.nil))))
 conv => cbv
 refine .go fun v14 hv14 => ?_
 conv => cbv
 refine .add fun v15 hv15 => ?_
 conv => cbv
 have e : (s10, v15, true) = rReadFrame v n b p := (by rw [rf_old h1 hr2]; rw [if_pos rfl]; rw [e10] at hr11 ⊢; rw [hv15, hv14]; exact fa_yes (by omega) hr11 h12 hr13)
 rw [hr] at e
 simp only [Prod.mk.injEq] at e
 obtain ⟨rfl, rfl, rfl⟩ := e
 refine hQ _ _ ?_
 exact .many (.inl rfl) rfl rfl (.d rfl rfl (.d rfl rfl (.d rfl rfl (.nil))))
theorem hasAt_not {b t : ByteArray} {p : Int} (hp : 0 ≤ p) (h : (b.size : Int) - p < t.size) : rhasAt b p t = false := by
  unfold rhasAt
  rw [decide_eq_false_iff_not]
  omega
theorem hasAt_ext {b t : ByteArray} {p q : Int} (hp : 0 ≤ p) (h : (t.size : Int) ≤ b.size - p) (hq : q = p + t.size) : rhasAt b p t = true ↔ b.extract p.toNat q.toNat = t := by
  unfold rhasAt
  rw [decide_eq_true_eq, show q.toNat = p.toNat + t.size by omega]
  exact ⟨fun hh => hh.2, fun hh => ⟨by omega, hh⟩⟩
theorem FsReadFrame {v : Int} {n : Int} {b : ByteArray} {p : Int} {oa : ByteArray} {ob : Int} {oc : Bool}  (hs : b.size < 2 ^ 47) (hp : -140737488355328 ≤ p ∧ p < 140737488355328) (hr : rReadFrame v n b p = (oa, ob, oc))  : Fn Tryz.prog 148 [I v, I n, S b, I p] [] ⟨.tup [S oa, I ob, B oc], [], []⟩ := by
 refine Fn.go su_ch09 Tryz.func148 fun P hP Q hQ => ?_
 conv => cbv
 generalize hr1 : rl01In v 1 2 = r1
 refine .dd hP (Fsl01In hr1) ?_
 cases r1
 simp only [rl01In, decide_eq_true_eq, decide_eq_false_iff_not] at hr1
 conv => cbv
 have e : ((tx []), 0, false) = rReadFrame v n b p := (by exact rf_bad (by omega))
 rw [hr] at e
 simp only [Prod.mk.injEq] at e
 obtain ⟨rfl, rfl, rfl⟩ := e
 refine hQ _ _ ?_
 exact .many (.inl rfl) rfl rfl (.d rfl rfl (.d rfl rfl (.d rfl rfl (.nil))))
 simp only [rl01In, decide_eq_true_eq, decide_eq_false_iff_not] at hr1
 conv => cbv
 generalize hr2 : rl01In n 0 1000000000 = r2
 refine .dd hP (Fsl01In hr2) ?_
 cases r2
 simp only [rl01In, decide_eq_true_eq, decide_eq_false_iff_not] at hr2
 conv => cbv
 have e : ((tx []), 0, false) = rReadFrame v n b p := (by exact rf_bad (by omega))
 rw [hr] at e
 simp only [Prod.mk.injEq] at e
 obtain ⟨rfl, rfl, rfl⟩ := e
 refine hQ _ _ ?_
 exact .many (.inl rfl) rfl rfl (.d rfl rfl (.d rfl rfl (.d rfl rfl (.nil))))
 simp only [rl01In, decide_eq_true_eq, decide_eq_false_iff_not] at hr2
 conv => cbv
 refine .go fun v3 hv3 => ?_
 conv => cbv
 generalize hr4 : rl01In p 0 v3 = r4
 refine .dd hP (Fsl01In hr4) ?_
 cases r4
 simp only [rl01In, decide_eq_true_eq, decide_eq_false_iff_not] at hr4
 conv => cbv
 have e : ((tx []), 0, false) = rReadFrame v n b p := (by exact rf_out (by omega))
 rw [hr] at e
 simp only [Prod.mk.injEq] at e
 obtain ⟨rfl, rfl, rfl⟩ := e
 refine hQ _ _ ?_
 exact .many (.inl rfl) rfl rfl (.d rfl rfl (.d rfl rfl (.d rfl rfl (.nil))))
 simp only [rl01In, decide_eq_true_eq, decide_eq_false_iff_not] at hr4
 conv => cbv
 rcases hr5 : rReadVar b p with ⟨r5a, r5b, r5c⟩
 refine .dd hP (FsReadVar (by omega) hr5) ?_
 conv => cbv
 refine .eql (fun h6 => ?_) fun h6 => ?_
 conv => cbv
 rcases hr7 : rReadFix b p 4 with ⟨r7a, r7b⟩
 refine .dd hP (FsReadFix (by omega) hr7) ?_
 conv => cbv
 refine .add fun v8 hv8 => ?_
 conv => cbv
 cases r7b
 conv => cbv
 have e : ((tx []), 0, false) = rReadFrame v n b p := (by rw [rf_new h6 hr7]; rfl)
 rw [hr] at e
 simp only [Prod.mk.injEq] at e
 obtain ⟨rfl, rfl, rfl⟩ := e
 refine hQ _ _ ?_
 exact .many (.inl rfl) rfl rfl (.d rfl rfl (.d rfl rfl (.d rfl rfl (.nil))))
 conv => cbv
 have zz := rReadFix_ok hr7
 refine .gtr (fun h9 => ?_) fun h9 => ?_
 conv => cbv
 have e : ((tx []), 0, false) = rReadFrame v n b p := (by rw [rf_new h6 hr7]; rw [if_pos rfl]; exact fa_none (by omega))
 rw [hr] at e
 simp only [Prod.mk.injEq] at e
 obtain ⟨rfl, rfl, rfl⟩ := e
 refine hQ _ _ ?_
 exact .many (.inl rfl) rfl rfl (.d rfl rfl (.d rfl rfl (.d rfl rfl (.nil))))
 conv => cbv
 refine .go fun v10 hv10 => ?_
 conv => cbv
 refine .sub fun v11 hv11 => ?_
 conv => cbv
 refine .gtr (fun h12 => ?_) fun h12 => ?_
 conv => cbv
 have e : ((tx []), 0, false) = rReadFrame v n b p := (by rw [rf_new h6 hr7]; rw [if_pos rfl]; exact fa_none (by omega))
 rw [hr] at e
 simp only [Prod.mk.injEq] at e
 obtain ⟨rfl, rfl, rfl⟩ := e
 refine hQ _ _ ?_
 exact .many (.inl rfl) rfl rfl (.d rfl rfl (.d rfl rfl (.d rfl rfl (.nil))))
 conv => cbv
 refine .add fun v13 hv13 => ?_
 conv => cbv
 refine .lohi fun s14 hs14 => ?_
 conv => cbv
 have z14 : s14.size ≤ b.size := by rw [hs14, ByteArray.size_extract]; omega
 have y14 : s14.size ≤ 60 := by rw [hs14, ByteArray.size_extract]; omega
 have e14 : s14 = b.extract (p + 8).toNat (p + 8 + r7a).toNat := by rw [hs14, hv13, hv8]
 have ne := rFrameText_ne (v := v) (n := n) (r := s14) (by omega) (by omega) y14
 generalize hr15 : rFrameText v n s14 = r15
 have zr15 := rFrameText_b hr15
 refine .dd hP (FsFrameText (by omega) hr15) ?_
 conv => cbv
 refine .go fun v16 hv16 => ?_
 conv => cbv
 refine .go fun v17 hv17 => ?_
 conv => cbv
 refine .sub fun v18 hv18 => ?_
 conv => cbv
 refine .gtr (fun h19 => ?_) fun h19 => ?_
 conv => cbv
 have e : ((tx []), 0, false) = rReadFrame v n b p := (by rw [rf_new h6 hr7]; rw [if_pos rfl]; rw [e14] at hr15; exact fa_no hr15 (.inr (hasAt_not (by omega) (by omega))))
 rw [hr] at e
 simp only [Prod.mk.injEq] at e
 obtain ⟨rfl, rfl, rfl⟩ := e
 refine hQ _ _ ?_
 exact .many (.inl rfl) rfl rfl (.d rfl rfl (.d rfl rfl (.d rfl rfl (.nil))))
 conv => cbv
 refine .go fun v20 hv20 => ?_
 conv => cbv
 refine .add fun v21 hv21 => ?_
 conv => cbv
 refine .lohi fun s22 hs22 => ?_
 conv => cbv
 refine .neq (fun h23 => ?_) fun h23 => ?_
 conv => cbv
 have e : ((tx []), 0, false) = rReadFrame v n b p := (by rw [rf_new h6 hr7]; rw [if_pos rfl]; rw [e14] at hr15; refine fa_no hr15 (.inr ?_); rw [← Bool.not_eq_true, hasAt_ext (q := v21) (by omega) (by omega) (by omega), ← hs22]; exact h23)
 rw [hr] at e
 simp only [Prod.mk.injEq] at e
 obtain ⟨rfl, rfl, rfl⟩ := e
 refine hQ _ _ ?_
 exact .many (.inl rfl) rfl rfl (.d rfl rfl (.d rfl rfl (.d rfl rfl (.nil))))
 conv => cbv
 refine .go fun v24 hv24 => ?_
 conv => cbv
 refine .add fun v25 hv25 => ?_
 conv => cbv
 have e : (s14, v25, true) = rReadFrame v n b p := (by rw [rf_new h6 hr7]; rw [if_pos rfl]; rw [hr15] at ne; rw [e14] at hr15 ⊢; rw [hv25, hv24]; exact fa_yes (by omega) hr15 ne ((hasAt_ext (q := v21) (by omega) (by omega) (by omega)).2 (hs22 ▸ h23)))
 rw [hr] at e
 simp only [Prod.mk.injEq] at e
 obtain ⟨rfl, rfl, rfl⟩ := e
 refine hQ _ _ ?_
 exact .many (.inl rfl) rfl rfl (.d rfl rfl (.d rfl rfl (.d rfl rfl (.nil))))
 conv => cbv
 cases r5c
 conv => cbv
 have e : ((tx []), 0, false) = rReadFrame v n b p := (by rw [rf_old (by omega) hr5]; rfl)
 rw [hr] at e
 simp only [Prod.mk.injEq] at e
 obtain ⟨rfl, rfl, rfl⟩ := e
 refine hQ _ _ ?_
 exact .many (.inl rfl) rfl rfl (.d rfl rfl (.d rfl rfl (.d rfl rfl (.nil))))
 conv => cbv
 have zz := rReadVar_ok hr5
 refine .gtr (fun h7 => ?_) fun h7 => ?_
 conv => cbv
 have e : ((tx []), 0, false) = rReadFrame v n b p := (by rw [rf_old (by omega) hr5]; rw [if_pos rfl]; exact fa_none (by omega))
 rw [hr] at e
 simp only [Prod.mk.injEq] at e
 obtain ⟨rfl, rfl, rfl⟩ := e
 refine hQ _ _ ?_
 exact .many (.inl rfl) rfl rfl (.d rfl rfl (.d rfl rfl (.d rfl rfl (.nil))))
 conv => cbv
 refine .go fun v8 hv8 => ?_
 conv => cbv
 refine .sub fun v9 hv9 => ?_
 conv => cbv
 refine .gtr (fun h10 => ?_) fun h10 => ?_
 conv => cbv
 have e : ((tx []), 0, false) = rReadFrame v n b p := (by rw [rf_old (by omega) hr5]; rw [if_pos rfl]; exact fa_none (by omega))
 rw [hr] at e
 simp only [Prod.mk.injEq] at e
 obtain ⟨rfl, rfl, rfl⟩ := e
 refine hQ _ _ ?_
 exact .many (.inl rfl) rfl rfl (.d rfl rfl (.d rfl rfl (.d rfl rfl (.nil))))
 conv => cbv
 refine .add fun v11 hv11 => ?_
 conv => cbv
 refine .lohi fun s12 hs12 => ?_
 conv => cbv
 have z12 : s12.size ≤ b.size := by rw [hs12, ByteArray.size_extract]; omega
 have y12 : s12.size ≤ 60 := by rw [hs12, ByteArray.size_extract]; omega
 have e12 : s12 = b.extract r5b.toNat (r5b + r5a).toNat := by rw [hs12, hv11]
 have ne := rFrameText_ne (v := v) (n := n) (r := s12) (by omega) (by omega) y12
 generalize hr13 : rFrameText v n s12 = r13
 have zr13 := rFrameText_b hr13
 refine .dd hP (FsFrameText (by omega) hr13) ?_
 conv => cbv
 refine .go fun v14 hv14 => ?_
 conv => cbv
 refine .go fun v15 hv15 => ?_
 conv => cbv
 refine .sub fun v16 hv16 => ?_
 conv => cbv
 refine .gtr (fun h17 => ?_) fun h17 => ?_
 conv => cbv
 have e : ((tx []), 0, false) = rReadFrame v n b p := (by rw [rf_old (by omega) hr5]; rw [if_pos rfl]; rw [e12] at hr13; exact fa_no hr13 (.inr (hasAt_not (by omega) (by omega))))
 rw [hr] at e
 simp only [Prod.mk.injEq] at e
 obtain ⟨rfl, rfl, rfl⟩ := e
 refine hQ _ _ ?_
 exact .many (.inl rfl) rfl rfl (.d rfl rfl (.d rfl rfl (.d rfl rfl (.nil))))
 conv => cbv
 refine .go fun v18 hv18 => ?_
 conv => cbv
 refine .add fun v19 hv19 => ?_
 conv => cbv
 refine .lohi fun s20 hs20 => ?_
 conv => cbv
 refine .neq (fun h21 => ?_) fun h21 => ?_
 conv => cbv
 have e : ((tx []), 0, false) = rReadFrame v n b p := (by rw [rf_old (by omega) hr5]; rw [if_pos rfl]; rw [e12] at hr13; refine fa_no hr13 (.inr ?_); rw [← Bool.not_eq_true, hasAt_ext (q := v19) (by omega) (by omega) (by omega), ← hs20]; exact h21)
 rw [hr] at e
 simp only [Prod.mk.injEq] at e
 obtain ⟨rfl, rfl, rfl⟩ := e
 refine hQ _ _ ?_
 exact .many (.inl rfl) rfl rfl (.d rfl rfl (.d rfl rfl (.d rfl rfl (.nil))))
 conv => cbv
 refine .go fun v22 hv22 => ?_
 conv => cbv
 refine .add fun v23 hv23 => ?_
 conv => cbv
 have e : (s12, v23, true) = rReadFrame v n b p := (by rw [rf_old (by omega) hr5]; rw [if_pos rfl]; rw [hr13] at ne; rw [e12] at hr13 ⊢; rw [hv23, hv22]; exact fa_yes (by omega) hr13 ne ((hasAt_ext (q := v19) (by omega) (by omega) (by omega)).2 (hs20 ▸ h21)))
 rw [hr] at e
 simp only [Prod.mk.injEq] at e
 obtain ⟨rfl, rfl, rfl⟩ := e
 refine hQ _ _ ?_
 exact .many (.inl rfl) rfl rfl (.d rfl rfl (.d rfl rfl (.d rfl rfl (.nil))))
end Go.Proofs.YtmhinjjgpabkfaaGreatDoor.Ab
