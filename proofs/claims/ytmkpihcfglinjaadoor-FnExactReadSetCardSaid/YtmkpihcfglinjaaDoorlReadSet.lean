/- What functions of the program come to, for all arguments in the given bounds. -/
import Derived.Test.YtmkpihcfglinjaaDoorch29d
set_option linter.unusedVariables false
set_option linter.unusedSimpArgs false
namespace Go.Proofs.YtmkpihcfglinjaaDoor.Ab
open Go Go.Proofs
set_option maxRecDepth 20000
set_option maxHeartbeats 4000000
set_option linter.unusedSimpArgs false
set_option linter.unusedVariables false
def tab_lReadSet : List (Nat × TyRow) := [
  (3, ⟨.int .i64, some 1, some false, none, false, [.int .i64], [], some [(.int .i64 0, 0)], none, none, none⟩),
  (4, ⟨.bool, some 1, some false, none, false, [.bool], [], some [(.bool false, 0)], none, none, none⟩),
  (9, ⟨.str, some 1, some false, none, false, [.str], [], some [(.string default, 0)], none, none, none⟩),
  (23, ⟨.other, some 4, some true, none, false, [.int .i64, .int .i64, .int .i64, .int .i64], [some (0, 1, false), some (1, 1, false), some (2, 1, false), some (3, 1, false)], some [(.int .i64 0, 0), (.int .i64 0, 0), (.int .i64 0, 0), (.int .i64 0, 0)], none, some [(0, 1), (1, 1), (2, 1), (3, 1)], some [.int, .int, .int, .int]⟩)]
theorem tab_lReadSet_ok : TabOk Tryd.prog tab_lReadSet := TabOk.of (by kernel_rfl)
theorem su_lReadSet : Setup Tryd.prog tab_lReadSet := ⟨tab_lReadSet_ok, mixed⟩
def reqSetting (a b : TSetting) : Bool := decide (a.room_ = b.room_ ∧ a.version_ = b.version_ ∧ a.stride_ = b.stride_ ∧ a.roll_ = b.roll_)
def rFnExactReadSet (aLine : ByteArray) : Bool := true
theorem FleqSetting {aroo : Int} {aver : Int} {astr : Int} {arol : Int} {broo : Int} {bver : Int} {bstr : Int} {brol : Int} {o : Bool}  (hr : reqSetting (⟨aroo, aver, astr, arol⟩ : TSetting) (⟨broo, bver, bstr, brol⟩ : TSetting) = o)  : Fn Tryd.prog 7 [.agg [I aroo, I aver, I astr, I arol], .agg [I broo, I bver, I bstr, I brol]] [] ⟨B o, [], []⟩ := by
 refine Fn.go su_lReadSet Tryd.func7 fun P hP Q hQ => ?_
 conv => cbv
 refine .neq (fun h1 => ?_) fun h1 => ?_
 conv => cbv
 have e : false = reqSetting (⟨aroo, aver, astr, arol⟩ : TSetting) (⟨broo, bver, bstr, brol⟩ : TSetting) := (by unfold reqSetting; dsimp only; symm; first | (rw [decide_eq_true_eq]; omega) | (rw [decide_eq_false_iff_not]; omega))
 rw [hr] at e
 subst e
 exact hQ _ _ (.b rfl rfl)
 conv => cbv
 refine .neq (fun h2 => ?_) fun h2 => ?_
 conv => cbv
 have e : false = reqSetting (⟨aroo, aver, astr, arol⟩ : TSetting) (⟨broo, bver, bstr, brol⟩ : TSetting) := (by unfold reqSetting; dsimp only; symm; first | (rw [decide_eq_true_eq]; omega) | (rw [decide_eq_false_iff_not]; omega))
 rw [hr] at e
 subst e
 exact hQ _ _ (.b rfl rfl)
 conv => cbv
 refine .neq (fun h3 => ?_) fun h3 => ?_
 conv => cbv
 have e : false = reqSetting (⟨aroo, aver, astr, arol⟩ : TSetting) (⟨broo, bver, bstr, brol⟩ : TSetting) := (by unfold reqSetting; dsimp only; symm; first | (rw [decide_eq_true_eq]; omega) | (rw [decide_eq_false_iff_not]; omega))
 rw [hr] at e
 subst e
 exact hQ _ _ (.b rfl rfl)
 conv => cbv
 refine .neq (fun h4 => ?_) fun h4 => ?_
 conv => cbv
 have e : false = reqSetting (⟨aroo, aver, astr, arol⟩ : TSetting) (⟨broo, bver, bstr, brol⟩ : TSetting) := (by unfold reqSetting; dsimp only; symm; first | (rw [decide_eq_true_eq]; omega) | (rw [decide_eq_false_iff_not]; omega))
 rw [hr] at e
 subst e
 exact hQ _ _ (.b rfl rfl)
 conv => cbv
 have e : true = reqSetting (⟨aroo, aver, astr, arol⟩ : TSetting) (⟨broo, bver, bstr, brol⟩ : TSetting) := (by unfold reqSetting; dsimp only; symm; first | (rw [decide_eq_true_eq]; omega) | (rw [decide_eq_false_iff_not]; omega))
 rw [hr] at e
 subst e
 exact hQ _ _ (.b rfl rfl)
theorem FlFnExactReadSet {aLine : ByteArray} {o : Bool}  (hr : rFnExactReadSet aLine = o)  : Fn Tryd.prog 3 [S aLine] [] ⟨B o, [], []⟩ := by
 refine Fn.go su_lReadSet Tryd.func3 fun P hP Q hQ => ?_
 conv => cbv
 refine .go fun v1 hv1 => ?_
 conv => cbv
 refine .gtr (fun h2 => ?_) fun h2 => ?_
 conv => cbv
 have e : true = rFnExactReadSet aLine := (by rfl)
 rw [hr] at e
 subst e
 exact hQ _ _ (.b rfl rfl)
 conv => cbv
 rcases hr3 : rReadSet aLine with ⟨⟨r3aroo, r3aver, r3astr, r3arol⟩, r3b⟩
 refine .dd hP (FsReadSet hr3) ?_
 conv => cbv
 rcases hr4 : rReadSet aLine with ⟨⟨r4aroo, r4aver, r4astr, r4arol⟩, r4b⟩
 refine .dd hP (FiReadSet hr4) ?_
 conv => cbv
 generalize hr5 : reqSetting (⟨r4aroo, r4aver, r4astr, r4arol⟩ : TSetting) (⟨r3aroo, r3aver, r3astr, r3arol⟩ : TSetting) = r5
 refine .dd hP (FleqSetting hr5) ?_
 cases r5
 conv => cbv
 have e : false = rFnExactReadSet aLine := (by have hh := hr3.symm.trans hr4; simp only [Prod.mk.injEq, TSetting.mk.injEq] at hh; have h5 := of_decide_eq_false hr5; dsimp only at h5; exact absurd ⟨hh.1.1.symm, hh.1.2.1.symm, hh.1.2.2.1.symm, hh.1.2.2.2.symm⟩ h5)
 rw [hr] at e
 subst e
 exact hQ _ _ (.b rfl rfl)
 conv => cbv
 refine .neq (fun h6 => ?_) fun h6 => ?_
 conv => cbv
 have e : false = rFnExactReadSet aLine := (by have hh := hr3.symm.trans hr4; simp only [Prod.mk.injEq, TSetting.mk.injEq] at hh; first | exact absurd hh.2.symm h6 | exact absurd hh.2 h6)
 rw [hr] at e
 subst e
 exact hQ _ _ (.b rfl rfl)
 conv => cbv
 have e : true = rFnExactReadSet aLine := (by rfl)
 rw [hr] at e
 subst e
 exact hQ _ _ (.b rfl rfl)
theorem T3 {aLine : ByteArray} (ok_aLine : aLine.size < 2 ^ 47) : CallOk Tryd.prog 3 [.d (.sc (.string aLine))] [] ⟨.d (.sc (.bool true)), [], []⟩ := (FlFnExactReadSet (aLine := aLine) rfl).ok
end Go.Proofs.YtmkpihcfglinjaaDoor.Ab
