/- What functions of the program come to, for all arguments in the given bounds. -/
import Derived.Test.YtmhinjjgpabkfaaGreatDoorchB
set_option linter.unusedVariables false
set_option linter.unusedSimpArgs false
namespace Go.Proofs.YtmhinjjgpabkfaaGreatDoor.Ab
open Go Go.Proofs
set_option maxRecDepth 20000
set_option maxHeartbeats 4000000
set_option linter.unusedSimpArgs false
set_option linter.unusedVariables false
def tab_ch08 : List (Nat × TyRow) := [
  (3, ⟨.int .i64, some 1, some false, none, false, [.int .i64], [], some [(.int .i64 0, 0)], none, none, none⟩),
  (9, ⟨.str, some 1, some false, none, false, [.str], [], some [(.string default, 0)], none, none, none⟩),
  (99, ⟨.other, some 4, some true, none, false, [.int .i64, .int .i64, .int .i64, .int .i64], [some (0, 1, false), some (1, 1, false), some (2, 1, false), some (3, 1, false)], some [(.int .i64 0, 0), (.int .i64 0, 0), (.int .i64 0, 0), (.int .i64 0, 0)], none, some [(0, 1), (1, 1), (2, 1), (3, 1)], some [.int, .int, .int, .int]⟩)]
theorem tab_ch08_ok : TabOk Tryz.prog tab_ch08 := TabOk.of (by kernel_rfl)
theorem su_ch08 : Setup Tryz.prog tab_ch08 := ⟨tab_ch08_ok, mixed⟩
def rHeadOk (h : THead) : Bool := decide ((1 ≤ h.version_ ∧ h.version_ ≤ 2) ∧ (1 ≤ h.stride_ ∧ h.stride_ ≤ 20) ∧ (0 ≤ h.base_ ∧ h.base_ ≤ 1000000000) ∧ 0 ≤ h.link_ ∧ h.link_ ≤ 4294967295)
theorem rHeadOk_t {a b c d : Int} (h : rHeadOk ⟨a, b, c, d⟩ = true) : (1 ≤ a ∧ a ≤ 2) ∧ (1 ≤ b ∧ b ≤ 20) ∧ (0 ≤ c ∧ c ≤ 1000000000) ∧ 0 ≤ d ∧ d ≤ 4294967295 := of_decide_eq_true h
def headL (h : THead) : ByteArray := ((((tx [83, 69, 71, 77] ++ rFixText h.version_ 1) ++ rFixText h.stride_ 1) ++ tx [0, 0]) ++ rFixText h.base_ 8) ++ rFixText h.link_ 4
def rHeadText (h : THead) : ByteArray := if rHeadOk h = true then headL h ++ rFixText (rSumOf (headL h)) 4 else tx []
theorem headL_le (h : THead) : (headL h).size ≤ 38 := by
  unfold headL
  simp only [ByteArray.size_append, tx_size, List.length_cons, List.length_nil]
  have h1 := @rFixText_le h.version_ 1
  have h2 := @rFixText_le h.stride_ 1
  have h3 := @rFixText_le h.base_ 8
  have h4 := @rFixText_le h.link_ 4
  omega
theorem rHeadText_b {h : THead} {o : ByteArray} (e : rHeadText h = o) : o.size ≤ 50 := by
  rw [← e]
  unfold rHeadText
  split
  · have h1 := headL_le h
    have h2 := @rFixText_le (rSumOf (headL h)) 4
    rw [ByteArray.size_append]
    omega
  · simp [tx_size]
def rsized (p n : Int) : ByteArray := rFixText n 4 ++ rFixText (rSumOf (rFixText p 8 ++ rFixText n 4)) 4
theorem rsized_b {p n : Int} {o : ByteArray} (e : rsized p n = o) : o.size ≤ 16 := by
  rw [← e]
  unfold rsized
  have h1 := @rFixText_le n 4
  have h2 := @rFixText_le (rSumOf (rFixText p 8 ++ rFixText n 4)) 4
  rw [ByteArray.size_append]
  omega
def rFrameText (v p : Int) (s : ByteArray) : ByteArray := if (v = 1 ∨ v = 2) ∧ (0 ≤ p ∧ p ≤ 1000000000) ∧ s.size ≤ 60 then ((if v = 2 then rsized p s.size else rVarText s.size) ++ s) ++ rFixText (rSumOf s) 4 else tx []
theorem rFrameText_b {v p : Int} {s o : ByteArray} (e : rFrameText v p s = o) : o.size ≤ 84 := by
  rw [← e]
  unfold rFrameText
  split
  · have h1 := rsized_b (rfl : rsized p s.size = _)
    have h2 := rVarText_le s.size
    have h3 := @rFixText_le (rSumOf s) 4
    rw [ByteArray.size_append, ByteArray.size_append]
    split <;> omega
  · simp [tx_size]
def rEndMark (v p : Int) : ByteArray := if (v = 1 ∨ v = 2) ∧ (0 ≤ p ∧ p ≤ 1000000000) then (if v = 1 then tx [255, 255, 255, 255, 15] else rsized p 4294967295) else tx []
theorem rEndMark_b {v p : Int} {o : ByteArray} (e : rEndMark v p = o) : o.size ≤ 16 := by
  rw [← e]
  unfold rEndMark
  split
  · split
    · simp [tx_size]
    · exact rsized_b rfl
  · simp [tx_size]
theorem FsHeadOk {hver : Int} {hstr : Int} {hbas : Int} {hlin : Int} {o : Bool}  (hr : rHeadOk (⟨hver, hstr, hbas, hlin⟩ : THead) = o)  : Fn Tryz.prog 177 [.agg [I hver, I hstr, I hbas, I hlin]] [] ⟨B o, [], []⟩ := by
 refine Fn.go su_ch08 Tryz.func177 fun P hP Q hQ => ?_
 conv => cbv
 generalize hr1 : rl01In hver 1 2 = r1
 refine .dd hP (Fsl01In hr1) ?_
 cases r1
 simp only [rl01In, decide_eq_true_eq, decide_eq_false_iff_not] at hr1
 conv => cbv
 have e : false = rHeadOk (⟨hver, hstr, hbas, hlin⟩ : THead) := (by simp [rHeadOk]; omega)
 rw [hr] at e
 subst e
 exact hQ _ _ (.b rfl rfl)
 simp only [rl01In, decide_eq_true_eq, decide_eq_false_iff_not] at hr1
 conv => cbv
 generalize hr2 : rl01In hstr 1 20 = r2
 refine .dd hP (Fsl01In hr2) ?_
 cases r2
 simp only [rl01In, decide_eq_true_eq, decide_eq_false_iff_not] at hr2
 conv => cbv
 have e : false = rHeadOk (⟨hver, hstr, hbas, hlin⟩ : THead) := (by simp [rHeadOk]; omega)
 rw [hr] at e
 subst e
 exact hQ _ _ (.b rfl rfl)
 simp only [rl01In, decide_eq_true_eq, decide_eq_false_iff_not] at hr2
 conv => cbv
 generalize hr3 : rl01In hbas 0 1000000000 = r3
 refine .dd hP (Fsl01In hr3) ?_
 cases r3
 simp only [rl01In, decide_eq_true_eq, decide_eq_false_iff_not] at hr3
 conv => cbv
 have e : false = rHeadOk (⟨hver, hstr, hbas, hlin⟩ : THead) := (by simp [rHeadOk]; omega)
 rw [hr] at e
 subst e
 exact hQ _ _ (.b rfl rfl)
 simp only [rl01In, decide_eq_true_eq, decide_eq_false_iff_not] at hr3
 conv => cbv
 generalize hr4 : rl01In hlin 0 4294967295 = r4
 refine .dd hP (Fsl01In hr4) ?_
 cases r4
 simp only [rl01In, decide_eq_true_eq, decide_eq_false_iff_not] at hr4
 conv => cbv
 have e : false = rHeadOk (⟨hver, hstr, hbas, hlin⟩ : THead) := (by simp [rHeadOk]; omega)
 rw [hr] at e
 subst e
 exact hQ _ _ (.b rfl rfl)
 simp only [rl01In, decide_eq_true_eq, decide_eq_false_iff_not] at hr4
 conv => cbv
 have e : true = rHeadOk (⟨hver, hstr, hbas, hlin⟩ : THead) := (by simp [rHeadOk]; omega)
 rw [hr] at e
 subst e
 exact hQ _ _ (.b rfl rfl)
theorem FiHeadOk {hver : Int} {hstr : Int} {hbas : Int} {hlin : Int} {o : Bool}  (hr : rHeadOk (⟨hver, hstr, hbas, hlin⟩ : THead) = o)  : Fn Tryz.prog 186 [.agg [I hver, I hstr, I hbas, I hlin]] [] ⟨B o, [], []⟩ := by
 refine Fn.go su_ch08 Tryz.func186 fun P hP Q hQ => ?_
 conv => cbv
 generalize hr1 : risVersion hver = r1
 refine .dd hP (FiisVersion hr1) ?_
 cases r1
 simp only [risVersion, decide_eq_true_eq, decide_eq_false_iff_not] at hr1
 conv => cbv
 have e : false = rHeadOk (⟨hver, hstr, hbas, hlin⟩ : THead) := (by simp [rHeadOk]; omega)
 rw [hr] at e
 subst e
 exact hQ _ _ (.b rfl rfl)
 simp only [risVersion, decide_eq_true_eq, decide_eq_false_iff_not] at hr1
 conv => cbv
 generalize hr2 : rwithin hstr 1 20 = r2
 refine .dd hP (Fiwithin hr2) ?_
 cases r2
 simp only [rwithin, decide_eq_true_eq, decide_eq_false_iff_not] at hr2
 conv => cbv
 have e : false = rHeadOk (⟨hver, hstr, hbas, hlin⟩ : THead) := (by simp [rHeadOk]; omega)
 rw [hr] at e
 subst e
 exact hQ _ _ (.b rfl rfl)
 simp only [rwithin, decide_eq_true_eq, decide_eq_false_iff_not] at hr2
 conv => cbv
 generalize hr3 : risNumber hbas = r3
 refine .dd hP (FiisNumber hr3) ?_
 cases r3
 simp only [risNumber, decide_eq_true_eq, decide_eq_false_iff_not] at hr3
 conv => cbv
 have e : false = rHeadOk (⟨hver, hstr, hbas, hlin⟩ : THead) := (by simp [rHeadOk]; omega)
 rw [hr] at e
 subst e
 exact hQ _ _ (.b rfl rfl)
 simp only [risNumber, decide_eq_true_eq, decide_eq_false_iff_not] at hr3
 conv => cbv
 generalize hr4 : rwithin hlin 0 4294967295 = r4
 refine .dd hP (Fiwithin hr4) ?_
 cases r4
 simp only [rwithin, decide_eq_true_eq, decide_eq_false_iff_not] at hr4
 conv => cbv
 have e : false = rHeadOk (⟨hver, hstr, hbas, hlin⟩ : THead) := (by simp [rHeadOk]; omega)
 rw [hr] at e
 subst e
 exact hQ _ _ (.b rfl rfl)
 simp only [rwithin, decide_eq_true_eq, decide_eq_false_iff_not] at hr4
 conv => cbv
 have e : true = rHeadOk (⟨hver, hstr, hbas, hlin⟩ : THead) := (by simp [rHeadOk]; omega)
 rw [hr] at e
 subst e
 exact hQ _ _ (.b rfl rfl)
theorem FsHeadText {hver : Int} {hstr : Int} {hbas : Int} {hlin : Int} {o : ByteArray}  (hr : rHeadText (⟨hver, hstr, hbas, hlin⟩ : THead) = o)  : Fn Tryz.prog 174 [.agg [I hver, I hstr, I hbas, I hlin]] [] ⟨S o, [], []⟩ := by
 refine Fn.go su_ch08 Tryz.func174 fun P hP Q hQ => ?_
 conv => cbv
 generalize hr1 : rHeadOk (⟨hver, hstr, hbas, hlin⟩ : THead) = r1
 refine .dd hP (FsHeadOk hr1) ?_
 cases r1
 conv => cbv
 have e : (tx []) = rHeadText (⟨hver, hstr, hbas, hlin⟩ : THead) := (by unfold rHeadText; rw [if_neg (by rw [hr1]; simp)])
 rw [hr] at e
 subst e
 exact hQ _ _ (.s rfl rfl)
 conv => cbv
 have hh := rHeadOk_t hr1
 generalize hr2 : rFixText hver 1 = r2
 have zr2 := rFixText_b hr2
 refine .dd hP (FsFixText (by omega) hr2) ?_
 conv => cbv
 refine .litL 4 fun s3 hs3 zs3 => ?_
 conv => cbv
 generalize hr4 : rFixText hstr 1 = r4
 have zr4 := rFixText_b hr4
 refine .dd hP (FsFixText (by omega) hr4) ?_
 conv => cbv
 refine .go fun s5 hs5 zs5 => ?_
 conv => cbv
 refine .litR 2 fun s6 hs6 zs6 => ?_
 conv => cbv
 generalize hr7 : rFixText hbas 8 = r7
 have zr7 := rFixText_b hr7
 refine .dd hP (FsFixText (by omega) hr7) ?_
 conv => cbv
 refine .go fun s8 hs8 zs8 => ?_
 conv => cbv
 generalize hr9 : rFixText hlin 4 = r9
 have zr9 := rFixText_b hr9
 refine .dd hP (FsFixText (by omega) hr9) ?_
 conv => cbv
 refine .go fun s10 hs10 zs10 => ?_
 conv => cbv
 generalize hr11 : rSumOf s10 = r11
 have zr11 := rSumOf_b hr11
 refine .dd hP (FsSumOf (by omega) hr11) ?_
 conv => cbv
 generalize hr12 : rFixText r11 4 = r12
 have zr12 := rFixText_b hr12
 refine .dd hP (FsFixText (by omega) hr12) ?_
 conv => cbv
 refine .go fun s13 hs13 zs13 => ?_
 conv => cbv
 have e : s13 = rHeadText (⟨hver, hstr, hbas, hlin⟩ : THead) := (by subst_vars; unfold rHeadText; rw [if_pos hr1]; rfl)
 rw [hr] at e
 subst e
 exact hQ _ _ (.s rfl rfl)
theorem FiHeadText {hver : Int} {hstr : Int} {hbas : Int} {hlin : Int} {o : ByteArray}  (hr : rHeadText (⟨hver, hstr, hbas, hlin⟩ : THead) = o)  : Fn Tryz.prog 189 [.agg [I hver, I hstr, I hbas, I hlin]] [] ⟨S o, [], []⟩ := by
 refine Fn.go su_ch08 Tryz.func189 fun P hP Q hQ => ?_
 conv => cbv
 generalize hr1 : rHeadOk (⟨hver, hstr, hbas, hlin⟩ : THead) = r1
 refine .dd hP (FiHeadOk hr1) ?_
 cases r1
 conv => cbv
 have e : (tx []) = rHeadText (⟨hver, hstr, hbas, hlin⟩ : THead) := (by unfold rHeadText; rw [if_neg (by rw [hr1]; simp)])
 rw [hr] at e
 subst e
 exact hQ _ _ (.s rfl rfl)
 conv => cbv
 have hh := rHeadOk_t hr1
 generalize hr2 : rFixText hver 1 = r2
 have zr2 := rFixText_b hr2
 refine .dd hP (FiFixText (by omega) hr2) ?_
 conv => cbv
 refine .litL 4 fun s3 hs3 zs3 => ?_
 conv => cbv
 generalize hr4 : rFixText hstr 1 = r4
 have zr4 := rFixText_b hr4
 refine .dd hP (FiFixText (by omega) hr4) ?_
 conv => cbv
 refine .go fun s5 hs5 zs5 => ?_
 conv => cbv
 generalize hr6 : rFixText 0 2 = r6
 have zr6 := rFixText_b hr6
 refine .dd hP (FiFixText (by omega) hr6) ?_
 conv => cbv
 refine .go fun s7 hs7 zs7 => ?_
 conv => cbv
 generalize hr8 : rFixText hbas 8 = r8
 have zr8 := rFixText_b hr8
 refine .dd hP (FiFixText (by omega) hr8) ?_
 conv => cbv
 refine .go fun s9 hs9 zs9 => ?_
 conv => cbv
 generalize hr10 : rFixText hlin 4 = r10
 have zr10 := rFixText_b hr10
 refine .dd hP (FiFixText (by omega) hr10) ?_
 conv => cbv
 refine .go fun s11 hs11 zs11 => ?_
 conv => cbv
 generalize hr12 : rSumOf s11 = r12
 have zr12 := rSumOf_b hr12
 refine .dd hP (FiSumOf (by omega) hr12) ?_
 conv => cbv
 generalize hr13 : rFixText r12 4 = r13
 have zr13 := rFixText_b hr13
 refine .dd hP (FiFixText (by omega) hr13) ?_
 conv => cbv
 refine .go fun s14 hs14 zs14 => ?_
 conv => cbv
 have e : s14 = rHeadText (⟨hver, hstr, hbas, hlin⟩ : THead) := (by subst_vars; unfold rHeadText; rw [if_pos hr1]; rfl)
 rw [hr] at e
 subst e
 exact hQ _ _ (.s rfl rfl)
theorem Fisized {p : Int} {n : Int} {o : ByteArray}  (hp : p < 9223372036854775808) (hn : n < 9223372036854775808) (hr : rsized p n = o)  : Fn Tryz.prog 221 [I p, I n] [] ⟨S o, [], []⟩ := by
 refine Fn.go su_ch08 Tryz.func221 fun P hP Q hQ => ?_
 conv => cbv
 generalize hr1 : rFixText n 4 = r1
 have zr1 := rFixText_b hr1
 refine .dd hP (FiFixText (by omega) hr1) ?_
 conv => cbv
 generalize hr2 : rFixText p 8 = r2
 have zr2 := rFixText_b hr2
 refine .dd hP (FiFixText (by omega) hr2) ?_
 conv => cbv
 refine .go fun s3 hs3 zs3 => ?_
 conv => cbv
 generalize hr4 : rSumOf s3 = r4
 have zr4 := rSumOf_b hr4
 refine .dd hP (FiSumOf (by omega) hr4) ?_
 conv => cbv
 generalize hr5 : rFixText r4 4 = r5
 have zr5 := rFixText_b hr5
 refine .dd hP (FiFixText (by omega) hr5) ?_
 conv => cbv
 refine .go fun s6 hs6 zs6 => ?_
 conv => cbv
 have e : s6 = rsized p n := (by subst_vars; rfl)
 rw [hr] at e
 subst e
 exact hQ _ _ (.s rfl rfl)
theorem FiFrameText {v : Int} {p : Int} {s : ByteArray} {o : ByteArray}  (hs : s.size < 2 ^ 47) (hr : rFrameText v p s = o)  : Fn Tryz.prog 191 [I v, I p, S s] [] ⟨S o, [], []⟩ := by
 refine Fn.go su_ch08 Tryz.func191 fun P hP Q hQ => ?_
 conv => cbv
 generalize hr1 : risVersion v = r1
 refine .dd hP (FiisVersion hr1) ?_
 cases r1
 simp only [risVersion, decide_eq_true_eq, decide_eq_false_iff_not] at hr1
 conv => cbv
 have e : (tx []) = rFrameText v p s := (by unfold rFrameText; rw [if_neg (by omega)])
 rw [hr] at e
 subst e
 exact hQ _ _ (.s rfl rfl)
 simp only [risVersion, decide_eq_true_eq, decide_eq_false_iff_not] at hr1
 conv => cbv
 generalize hr2 : risNumber p = r2
 refine .dd hP (FiisNumber hr2) ?_
 cases r2
 simp only [risNumber, decide_eq_true_eq, decide_eq_false_iff_not] at hr2
 conv => cbv
 have e : (tx []) = rFrameText v p s := (by unfold rFrameText; rw [if_neg (by omega)])
 rw [hr] at e
 subst e
 exact hQ _ _ (.s rfl rfl)
 simp only [risNumber, decide_eq_true_eq, decide_eq_false_iff_not] at hr2
 conv => cbv
 refine .go fun v3 hv3 => ?_
 conv => cbv
 refine .gtr (fun h4 => ?_) fun h4 => ?_
 conv => cbv
 have e : (tx []) = rFrameText v p s := (by unfold rFrameText; rw [if_neg (by omega)])
 rw [hr] at e
 subst e
 exact hQ _ _ (.s rfl rfl)
 conv => cbv
 refine .go fun v5 hv5 => ?_
 conv => cbv
 generalize hr6 : rVarText v5 = r6
 have zr6 := rVarText_b hr6
 refine .dd hP (FiVarText hr6) ?_
 conv => cbv
 refine .eql (fun h7 => ?_) fun h7 => ?_
 conv => cbv
 refine .go fun v8 hv8 => ?_
 conv => cbv
 generalize hr9 : rsized p v8 = r9
 have zr9 := rsized_b hr9
 refine .dd hP (Fisized (by omega) (by omega) hr9) ?_
 conv => cbv
 refine .go fun s10 hs10 zs10 => ?_
 conv => cbv
 generalize hr11 : rSumOf s = r11
 have zr11 := rSumOf_b hr11
 refine .dd hP (FiSumOf (by omega) hr11) ?_
 conv => cbv
 generalize hr12 : rFixText r11 4 = r12
 have zr12 := rFixText_b hr12
 refine .dd hP (FiFixText (by omega) hr12) ?_
 conv => cbv
 refine .go fun s13 hs13 zs13 => ?_
 conv => cbv
 have e : s13 = rFrameText v p s := (by subst_vars; unfold rFrameText; rw [if_pos ⟨hr1, hr2, by omega⟩, if_pos rfl])
 rw [hr] at e
 subst e
 exact hQ _ _ (.s rfl rfl)
 conv => cbv
 refine .go fun s8 hs8 zs8 => ?_
 conv => cbv
 generalize hr9 : rSumOf s = r9
 have zr9 := rSumOf_b hr9
 refine .dd hP (FiSumOf (by omega) hr9) ?_
 conv => cbv
 generalize hr10 : rFixText r9 4 = r10
 have zr10 := rFixText_b hr10
 refine .dd hP (FiFixText (by omega) hr10) ?_
 conv => cbv
 refine .go fun s11 hs11 zs11 => ?_
 conv => cbv
 have e : s11 = rFrameText v p s := (by subst_vars; unfold rFrameText; rw [if_pos ⟨hr1, hr2, by omega⟩, if_neg h7])
 rw [hr] at e
 subst e
 exact hQ _ _ (.s rfl rfl)
theorem FsFrameText {v : Int} {p : Int} {s : ByteArray} {o : ByteArray}  (hs : s.size < 2 ^ 47) (hr : rFrameText v p s = o)  : Fn Tryz.prog 178 [I v, I p, S s] [] ⟨S o, [], []⟩ := by
 refine Fn.go su_ch08 Tryz.func178 fun P hP Q hQ => ?_
 conv => cbv
 generalize hr1 : rl01In v 1 2 = r1
 refine .dd hP (Fsl01In hr1) ?_
 cases r1
 simp only [rl01In, decide_eq_true_eq, decide_eq_false_iff_not] at hr1
 conv => cbv
 have e : (tx []) = rFrameText v p s := (by unfold rFrameText; rw [if_neg (by omega)])
 rw [hr] at e
 subst e
 exact hQ _ _ (.s rfl rfl)
 simp only [rl01In, decide_eq_true_eq, decide_eq_false_iff_not] at hr1
 conv => cbv
 generalize hr2 : rl01In p 0 1000000000 = r2
 refine .dd hP (Fsl01In hr2) ?_
 cases r2
 simp only [rl01In, decide_eq_true_eq, decide_eq_false_iff_not] at hr2
 conv => cbv
 have e : (tx []) = rFrameText v p s := (by unfold rFrameText; rw [if_neg (by omega)])
 rw [hr] at e
 subst e
 exact hQ _ _ (.s rfl rfl)
 simp only [rl01In, decide_eq_true_eq, decide_eq_false_iff_not] at hr2
 conv => cbv
 refine .go fun v3 hv3 => ?_
 conv => cbv
 refine .gtr (fun h4 => ?_) fun h4 => ?_
 conv => cbv
 have e : (tx []) = rFrameText v p s := (by unfold rFrameText; rw [if_neg (by omega)])
 rw [hr] at e
 subst e
 exact hQ _ _ (.s rfl rfl)
 conv => cbv
 generalize hr5 : rSumOf s = r5
 have zr5 := rSumOf_b hr5
 refine .dd hP (FsSumOf (by omega) hr5) ?_
 conv => cbv
 generalize hr6 : rFixText r5 4 = r6
 have zr6 := rFixText_b hr6
 refine .dd hP (FsFixText (by omega) hr6) ?_
 conv => cbv
 refine .eql (fun h7 => ?_) fun h7 => ?_
 conv => cbv
 refine .go fun v8 hv8 => ?_
 conv => cbv
 generalize hr9 : rVarText v8 = r9
 have zr9 := rVarText_b hr9
 refine .dd hP (FsVarText hr9) ?_
 conv => cbv
 refine .go fun s10 hs10 zs10 => ?_
 conv => cbv
 refine .go fun s11 hs11 zs11 => ?_
 conv => cbv
 have e : s11 = rFrameText v p s := (by subst_vars; unfold rFrameText; rw [if_pos ⟨by omega, hr2, by omega⟩, if_neg (by omega)])
 rw [hr] at e
 subst e
 exact hQ _ _ (.s rfl rfl)
 conv => cbv
 refine .go fun v8 hv8 => ?_
 conv => cbv
 generalize hr9 : rFixText v8 4 = r9
 have zr9 := rFixText_b hr9
 refine .dd hP (FsFixText (by omega) hr9) ?_
 conv => cbv
 generalize hr10 : rFixText p 8 = r10
 have zr10 := rFixText_b hr10
 refine .dd hP (FsFixText (by omega) hr10) ?_
 conv => cbv
 refine .go fun s11 hs11 zs11 => ?_
 conv => cbv
 generalize hr12 : rSumOf s11 = r12
 have zr12 := rSumOf_b hr12
 refine .dd hP (FsSumOf (by omega) hr12) ?_
 conv => cbv
 generalize hr13 : rFixText r12 4 = r13
 have zr13 := rFixText_b hr13
 refine .dd hP (FsFixText (by omega) hr13) ?_
 conv => cbv
 refine .go fun s14 hs14 zs14 => ?_
 conv => cbv
 refine .go fun s15 hs15 zs15 => ?_
 conv => cbv
 refine .go fun s16 hs16 zs16 => ?_
 conv => cbv
 have e : s16 = rFrameText v p s := (by subst_vars; unfold rFrameText; rw [if_pos ⟨by omega, hr2, by omega⟩, if_pos (by omega)]; rfl)
 rw [hr] at e
 subst e
 exact hQ _ _ (.s rfl rfl)
theorem FiEndMark {v : Int} {p : Int} {o : ByteArray}  (hr : rEndMark v p = o)  : Fn Tryz.prog 214 [I v, I p] [] ⟨S o, [], []⟩ := by
 refine Fn.go su_ch08 Tryz.func214 fun P hP Q hQ => ?_
 conv => cbv
 generalize hr1 : risVersion v = r1
 refine .dd hP (FiisVersion hr1) ?_
 cases r1
 simp only [risVersion, decide_eq_true_eq, decide_eq_false_iff_not] at hr1
 conv => cbv
 have e : (tx []) = rEndMark v p := (by unfold rEndMark; rw [if_neg (by omega)])
 rw [hr] at e
 subst e
 exact hQ _ _ (.s rfl rfl)
 simp only [risVersion, decide_eq_true_eq, decide_eq_false_iff_not] at hr1
 conv => cbv
 generalize hr2 : risNumber p = r2
 refine .dd hP (FiisNumber hr2) ?_
 cases r2
 simp only [risNumber, decide_eq_true_eq, decide_eq_false_iff_not] at hr2
 conv => cbv
 have e : (tx []) = rEndMark v p := (by unfold rEndMark; rw [if_neg (by omega)])
 rw [hr] at e
 subst e
 exact hQ _ _ (.s rfl rfl)
 simp only [risNumber, decide_eq_true_eq, decide_eq_false_iff_not] at hr2
 conv => cbv
 refine .eql (fun h3 => ?_) fun h3 => ?_
 conv => cbv
 have e : (tx [255, 255, 255, 255, 15]) = rEndMark v p := (by subst_vars; unfold rEndMark; rw [if_pos ⟨hr1, hr2⟩, if_pos rfl])
 rw [hr] at e
 subst e
 exact hQ _ _ (.s rfl rfl)
 conv => cbv
 generalize hr4 : rsized p 4294967295 = r4
 have zr4 := rsized_b hr4
 refine .dd hP (Fisized (by omega) (by omega) hr4) ?_
 conv => cbv
 have e : r4 = rEndMark v p := (by subst_vars; unfold rEndMark; rw [if_pos ⟨hr1, hr2⟩, if_neg h3])
 rw [hr] at e
 subst e
 exact hQ _ _ (.s rfl rfl)
theorem FsEndMark {v : Int} {p : Int} {o : ByteArray}  (hr : rEndMark v p = o)  : Fn Tryz.prog 180 [I v, I p] [] ⟨S o, [], []⟩ := by
 refine Fn.go su_ch08 Tryz.func180 fun P hP Q hQ => ?_
 conv => cbv
 generalize hr1 : rl01In v 1 2 = r1
 refine .dd hP (Fsl01In hr1) ?_
 cases r1
 simp only [rl01In, decide_eq_true_eq, decide_eq_false_iff_not] at hr1
 conv => cbv
 have e : (tx []) = rEndMark v p := (by unfold rEndMark; rw [if_neg (by omega)])
 rw [hr] at e
 subst e
 exact hQ _ _ (.s rfl rfl)
 simp only [rl01In, decide_eq_true_eq, decide_eq_false_iff_not] at hr1
 conv => cbv
 generalize hr2 : rl01In p 0 1000000000 = r2
 refine .dd hP (Fsl01In hr2) ?_
 cases r2
 simp only [rl01In, decide_eq_true_eq, decide_eq_false_iff_not] at hr2
 conv => cbv
 have e : (tx []) = rEndMark v p := (by unfold rEndMark; rw [if_neg (by omega)])
 rw [hr] at e
 subst e
 exact hQ _ _ (.s rfl rfl)
 simp only [rl01In, decide_eq_true_eq, decide_eq_false_iff_not] at hr2
 conv => cbv
 refine .eql (fun h3 => ?_) fun h3 => ?_
 conv => cbv
 have e : (tx [255, 255, 255, 255, 15]) = rEndMark v p := (by subst_vars; unfold rEndMark; rw [if_pos ⟨by omega, hr2⟩, if_pos rfl])
 rw [hr] at e
 subst e
 exact hQ _ _ (.s rfl rfl)
 conv => cbv
 generalize hr4 : rFixText 4294967295 4 = r4
 have zr4 := rFixText_b hr4
 refine .dd hP (FsFixText (by omega) hr4) ?_
 conv => cbv
 generalize hr5 : rFixText p 8 = r5
 have zr5 := rFixText_b hr5
 refine .dd hP (FsFixText (by omega) hr5) ?_
 conv => cbv
 refine .go fun s6 hs6 zs6 => ?_
 conv => cbv
 generalize hr7 : rSumOf s6 = r7
 have zr7 := rSumOf_b hr7
 refine .dd hP (FsSumOf (by omega) hr7) ?_
 conv => cbv
 generalize hr8 : rFixText r7 4 = r8
 have zr8 := rFixText_b hr8
 refine .dd hP (FsFixText (by omega) hr8) ?_
 conv => cbv
 refine .go fun s9 hs9 zs9 => ?_
 conv => cbv
 have e : s9 = rEndMark v p := (by subst_vars; unfold rEndMark; rw [if_pos ⟨by omega, hr2⟩, if_neg h3]; rfl)
 rw [hr] at e
 subst e
 exact hQ _ _ (.s rfl rfl)
end Go.Proofs.YtmhinjjgpabkfaaGreatDoor.Ab
