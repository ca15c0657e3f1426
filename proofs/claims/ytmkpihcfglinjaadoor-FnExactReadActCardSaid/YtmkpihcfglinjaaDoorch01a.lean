/- What functions of the program come to, for all arguments in the given bounds. -/
import Derived.Test.YtmkpihcfglinjaaDoorH
import Derived.Test.YtmkpihcfglinjaaDoorZ10
set_option linter.unusedVariables false
set_option linter.unusedSimpArgs false
namespace Go.Proofs.YtmkpihcfglinjaaDoor.Ab
open Go Go.Proofs
set_option maxRecDepth 20000
set_option maxHeartbeats 4000000
set_option linter.unusedSimpArgs false
set_option linter.unusedVariables false
def tab_ch01a : List (Nat × TyRow) := [
  (3, ⟨.int .i64, some 1, some false, none, false, [.int .i64], [], some [(.int .i64 0, 0)], none, none, none⟩)]
theorem tab_ch01a_ok : TabOk Tryd.prog tab_ch01a := TabOk.of (by kernel_rfl)
theorem su_ch01a : Setup Tryd.prog tab_ch01a := ⟨tab_ch01a_ok, mixed⟩
theorem u8_wrap {n : Int} : IntKind.u8.wrap n = n % 256 := by
  show (let m := n % (2 ^ 8 : Int); if false && decide (m ≥ (2 ^ 7 : Int)) then m - (2 ^ 8 : Int) else m) = n % 256
  simp
theorem bv_nat {w n : Nat} (h : n < 2 ^ w) : (BitVec.ofInt w (n : Int)).toNat = n := by
  rw [BitVec.toNat_ofInt, ← Int.natCast_emod, Nat.mod_eq_of_lt h, Int.toNat_natCast]
theorem data_tx (l : List UInt8) : (tx l).data.toList = l := rfl
def rwithin (v lo hi : Int) : Bool := decide (lo ≤ v ∧ v ≤ hi)
def rl01In (v lo hi : Int) : Bool := decide (lo ≤ v ∧ v ≤ hi)
def risNumber (n : Int) : Bool := decide (0 ≤ n ∧ n ≤ 1000000000)
theorem Fiwithin {v : Int} {lo : Int} {hi : Int} {o : Bool}  (hr : rwithin v lo hi = o)  : Fn Tryd.prog 63 [I v, I lo, I hi] [] ⟨B o, [], []⟩ := by
 refine Fn.go su_ch01a Tryd.func63 fun P hP Q hQ => ?_
 conv => cbv
 refine .geq (fun h1 => ?_) fun h1 => ?_
 conv => cbv
 refine .leq (fun h2 => ?_) fun h2 => ?_
 conv => cbv
 have e : true = rwithin v lo hi := (by unfold rwithin; simp; omega)
 rw [hr] at e
 subst e
 exact hQ _ _ (.b rfl rfl)
 conv => cbv
 have e : false = rwithin v lo hi := (by unfold rwithin; simp; omega)
 rw [hr] at e
 subst e
 exact hQ _ _ (.b rfl rfl)
 conv => cbv
 have e : false = rwithin v lo hi := (by unfold rwithin; simp; omega)
 rw [hr] at e
 subst e
 exact hQ _ _ (.b rfl rfl)
theorem Fsl01In {v : Int} {lo : Int} {hi : Int} {o : Bool}  (hr : rl01In v lo hi = o)  : Fn Tryd.prog 48 [I v, I lo, I hi] [] ⟨B o, [], []⟩ := by
 refine Fn.go su_ch01a Tryd.func48 fun P hP Q hQ => ?_
 conv => cbv
 refine .geq (fun h1 => ?_) fun h1 => ?_
 conv => cbv
 refine .leq (fun h2 => ?_) fun h2 => ?_
 conv => cbv
 have e : true = rl01In v lo hi := (by unfold rl01In; simp; omega)
 rw [hr] at e
 subst e
 exact hQ _ _ (.b rfl rfl)
 conv => cbv
 have e : false = rl01In v lo hi := (by unfold rl01In; simp; omega)
 rw [hr] at e
 subst e
 exact hQ _ _ (.b rfl rfl)
 conv => cbv
 have e : false = rl01In v lo hi := (by unfold rl01In; simp; omega)
 rw [hr] at e
 subst e
 exact hQ _ _ (.b rfl rfl)
theorem FiisNumber {n : Int} {o : Bool}  (hr : risNumber n = o)  : Fn Tryd.prog 51 [I n] [] ⟨B o, [], []⟩ := by
 refine Fn.go su_ch01a Tryd.func51 fun P hP Q hQ => ?_
 conv => cbv
 generalize hr1 : rwithin n 0 1000000000 = r1
 refine .dd hP (Fiwithin hr1) ?_
 cases r1
 simp only [rwithin, decide_eq_true_eq, decide_eq_false_iff_not] at hr1
 conv => cbv
 have e : false = risNumber n := (by unfold risNumber; simp [*])
 rw [hr] at e
 subst e
 exact hQ _ _ (.b rfl rfl)
 simp only [rwithin, decide_eq_true_eq, decide_eq_false_iff_not] at hr1
 conv => cbv
 have e : true = risNumber n := (by unfold risNumber; simp [*])
 rw [hr] at e
 subst e
 exact hQ _ _ (.b rfl rfl)
end Go.Proofs.YtmkpihcfglinjaaDoor.Ab
