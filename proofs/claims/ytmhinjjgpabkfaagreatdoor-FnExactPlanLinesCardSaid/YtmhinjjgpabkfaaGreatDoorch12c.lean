/- What functions of the program come to, for all arguments in the given bounds. -/
import Derived.Test.YtmhinjjgpabkfaaGreatDoorch14f
set_option linter.unusedVariables false
set_option linter.unusedSimpArgs false
namespace Go.Proofs.YtmhinjjgpabkfaaGreatDoor.Ab
open Go Go.Proofs
set_option maxRecDepth 20000
set_option maxHeartbeats 4000000
set_option linter.unusedSimpArgs false
set_option linter.unusedVariables false
def tab_ch12c : List (Nat × TyRow) := [
  (3, ⟨.int .i64, some 1, some false, none, false, [.int .i64], [], some [(.int .i64 0, 0)], none, none, none⟩),
  (4, ⟨.bool, some 1, some false, none, false, [.bool], [], some [(.bool false, 0)], none, none, none⟩),
  (9, ⟨.str, some 1, some false, none, false, [.str], [], some [(.string default, 0)], none, none, none⟩),
  (41, ⟨.sl 1, some 1, some false, some (1, 16), false, [.sl 1], [], some [(.slice none 0 0, 1)], some ([.sc (.string default)], 1, 16), none, none⟩),
  (99, ⟨.other, some 4, some true, none, false, [.int .i64, .int .i64, .int .i64, .int .i64], [some (0, 1, false), some (1, 1, false), some (2, 1, false), some (3, 1, false)], some [(.int .i64 0, 0), (.int .i64 0, 0), (.int .i64 0, 0), (.int .i64 0, 0)], none, some [(0, 1), (1, 1), (2, 1), (3, 1)], some [.int, .int, .int, .int]⟩),
  (101, ⟨.other, some 9, some true, none, false, [.bool, .int .i64, .int .i64, .int .i64, .int .i64, .sl 1, .sl 1, .int .i64, .bool], [some (0, 1, false), some (1, 4, true), some (5, 1, false), some (6, 1, false), some (7, 1, false), some (8, 1, false)], some [(.bool false, 0), (.int .i64 0, 0), (.int .i64 0, 0), (.int .i64 0, 0), (.int .i64 0, 0), (.slice none 0 0, 1), (.slice none 0 0, 1), (.int .i64 0, 0), (.bool false, 0)], none, some [(0, 1), (1, 4), (5, 1), (6, 1), (7, 1), (8, 1)], none⟩)]
theorem tab_ch12c_ok : TabOk Tryz.prog tab_ch12c := TabOk.of (by kernel_rfl)
theorem su_ch12c : Setup Tryz.prog tab_ch12c := ⟨tab_ch12c_ok, mixed⟩
def rResealed (b : ByteArray) (v : Int) : ByteArray :=
  if (rScanText b).ok_ = true ∧ (0 ≤ v ∧ v ≤ 2) then (if 0 < v then rSealText ⟨v, (rScanText b).head_.stride_, (rScanText b).head_.base_, (rScanText b).head_.link_⟩ (rScanText b).records_ else rSealText (rScanText b).head_ (rScanText b).records_) else tx []
theorem rResealed_b {b : ByteArray} {v : Int} {o : ByteArray} (e : rResealed b v = o) : o.size ≤ 200000 := by
  rw [← e]
  unfold rResealed
  split
  · split
    · exact rSealText_b rfl
    · exact rSealText_b rfl
  · simp [tx_size]
theorem FiResealed {b : ByteArray} {version : Int} {o : ByteArray}  (hn : b.size < 2 ^ 40) (hr : rResealed b version = o)  : Fn Tryz.prog 129 [S b, I version] [] ⟨S o, [], []⟩ := by
 refine Fn.go su_ch12c Tryz.func129 fun P hP Q hQ => ?_
 conv => cbv
 rcases hr1 : rScanText b with ⟨r1ok, ⟨r1heaver, r1heastr, r1heabas, r1healin⟩, r1rec, r1off, r1end, r1mar⟩
 generalize hr1rec : r1rec.map cS = xr1rec
 generalize hr1off : r1off.map cI = xr1off
 refine .dd hP (FiScanText (by omega) hr1 hr1rec hr1off) ?_
 conv => cbv
 have zl := rScan_recs (b := b)
 rw [hr1] at zl
 simp only [] at zl
 cases r1ok
 conv => cbv
 have e : (tx []) = rResealed b version := (by unfold rResealed; rw [hr1]; simp only []; rw [if_neg]; rintro ⟨q, _⟩; cases q)
 rw [hr] at e
 subst e
 exact hQ _ _ (.s rfl rfl)
 conv => cbv
 refine .neq (fun h2 => ?_) fun h2 => ?_
 conv => cbv
 generalize hr3 : risVersion version = r3
 refine .dd hP (FiisVersion hr3) ?_
 cases r3
 simp only [risVersion, decide_eq_true_eq, decide_eq_false_iff_not] at hr3
 conv => cbv
 have e : (tx []) = rResealed b version := (by unfold rResealed; rw [hr1]; simp only []; rw [if_neg]; rintro ⟨_, q⟩; omega)
 rw [hr] at e
 subst e
 exact hQ _ _ (.s rfl rfl)
 simp only [risVersion, decide_eq_true_eq, decide_eq_false_iff_not] at hr3
 conv => cbv
 refine .neq (fun h4 => ?_) fun h4 => ?_
 conv => cbv
 generalize hr5 : rSealText (⟨version, r1heastr, r1heabas, r1healin⟩ : THead) r1rec = r5
 have zr5 := rSealText_b hr5
 refine .dd hP (FiSealText hr1rec (by omega) hr5) ?_
 conv => cbv
 have e : r5 = rResealed b version := (by unfold rResealed; rw [hr1]; simp only []; rw [if_pos ⟨trivial, by omega⟩, if_pos (by omega)]; exact hr5.symm)
 rw [hr] at e
 subst e
 exact hQ _ _ (.s rfl rfl)
 conv => cbv
 generalize hr5 : rSealText (⟨r1heaver, r1heastr, r1heabas, r1healin⟩ : THead) r1rec = r5
 have zr5 := rSealText_b hr5
 refine .dd hP (FiSealText hr1rec (by omega) hr5) ?_
 conv => cbv
 have e : r5 = rResealed b version := (by exact absurd h4 h2)
 rw [hr] at e
 subst e
 exact hQ _ _ (.s rfl rfl)
 conv => cbv
 refine .neq (fun h3 => ?_) fun h3 => ?_
 conv => cbv
 generalize hr4 : rSealText (⟨version, r1heastr, r1heabas, r1healin⟩ : THead) r1rec = r4
 have zr4 := rSealText_b hr4
 refine .dd hP (FiSealText hr1rec (by omega) hr4) ?_
 conv => cbv
 have e : r4 = rResealed b version := (by exact absurd h2 h3)
 rw [hr] at e
 subst e
 exact hQ _ _ (.s rfl rfl)
 conv => cbv
 generalize hr4 : rSealText (⟨r1heaver, r1heastr, r1heabas, r1healin⟩ : THead) r1rec = r4
 have zr4 := rSealText_b hr4
 refine .dd hP (FiSealText hr1rec (by omega) hr4) ?_
 conv => cbv
 have e : r4 = rResealed b version := (by unfold rResealed; rw [hr1]; simp only []; rw [if_pos ⟨trivial, by omega⟩, if_neg (by omega)]; exact hr4.symm)
 rw [hr] at e
 subst e
 exact hQ _ _ (.s rfl rfl)
theorem FsResealed {b : ByteArray} {version : Int} {o : ByteArray}  (hn : b.size < 2 ^ 40) (hr : rResealed b version = o)  : Fn Tryz.prog 124 [S b, I version] [] ⟨S o, [], []⟩ := by
 refine Fn.go su_ch12c Tryz.func124 fun P hP Q hQ => ?_
 conv => cbv
 rcases hr1 : rScanText b with ⟨r1ok, ⟨r1heaver, r1heastr, r1heabas, r1healin⟩, r1rec, r1off, r1end, r1mar⟩
 generalize hr1rec : r1rec.map cS = xr1rec
 generalize hr1off : r1off.map cI = xr1off
 refine .dd hP (FsScanText (by omega) hr1 hr1rec hr1off) ?_
 conv => cbv
 have zl := rScan_recs (b := b)
 rw [hr1] at zl
 simp only [] at zl
 cases r1ok
 conv => cbv
 have e : (tx []) = rResealed b version := (by unfold rResealed; rw [hr1]; simp only []; rw [if_neg]; rintro ⟨q, _⟩; cases q)
 rw [hr] at e
 subst e
 exact hQ _ _ (.s rfl rfl)
 conv => cbv
 generalize hr2 : rl01In version 0 2 = r2
 refine .dd hP (Fsl01In hr2) ?_
 cases r2
 simp only [rl01In, decide_eq_true_eq, decide_eq_false_iff_not] at hr2
 conv => cbv
 have e : (tx []) = rResealed b version := (by unfold rResealed; rw [hr1]; simp only []; rw [if_neg]; rintro ⟨_, q⟩; omega)
 rw [hr] at e
 subst e
 exact hQ _ _ (.s rfl rfl)
 simp only [rl01In, decide_eq_true_eq, decide_eq_false_iff_not] at hr2
 conv => cbv
 refine .gtr (fun h3 => ?_) fun h3 => ?_
 conv => cbv
 generalize hr4 : rSealText (⟨version, r1heastr, r1heabas, r1healin⟩ : THead) r1rec = r4
 have zr4 := rSealText_b hr4
 refine .dd hP (FsSealText hr1rec (by omega) hr4) ?_
 conv => cbv
 have e : r4 = rResealed b version := (by unfold rResealed; rw [hr1]; simp only []; rw [if_pos ⟨trivial, by omega⟩, if_pos (by omega)]; exact hr4.symm)
 rw [hr] at e
 subst e
 exact hQ _ _ (.s rfl rfl)
 conv => cbv
 generalize hr4 : rSealText (⟨r1heaver, r1heastr, r1heabas, r1healin⟩ : THead) r1rec = r4
 have zr4 := rSealText_b hr4
 refine .dd hP (FsSealText hr1rec (by omega) hr4) ?_
 conv => cbv
 have e : r4 = rResealed b version := (by unfold rResealed; rw [hr1]; simp only []; rw [if_pos ⟨trivial, by omega⟩, if_neg (by omega)]; exact hr4.symm)
 rw [hr] at e
 subst e
 exact hQ _ _ (.s rfl rfl)
end Go.Proofs.YtmhinjjgpabkfaaGreatDoor.Ab
