/- What functions of the program come to, for all arguments in the given bounds. -/
import Derived.Test.YtmkpihcfglinjaaGreatDoorH
import Derived.Test.YtmkpihcfglinjaaGreatDoorZ10
set_option linter.unusedVariables false
set_option linter.unusedSimpArgs false
namespace Go.Proofs.YtmkpihcfglinjaaGreatDoor.Ab
open Go Go.Proofs
set_option maxRecDepth 20000
set_option maxHeartbeats 4000000
set_option linter.unusedSimpArgs false
set_option linter.unusedVariables false
def tab_ch01a : List (Nat × TyRow) := [
  (3, ⟨.int .i64, some 1, some false, none, false, [.int .i64], [], some [(.int .i64 0, 0)], none, none, none⟩)]
theorem tab_ch01a_ok : TabOk Tryz.prog tab_ch01a := TabOk.of (by kernel_rfl)
theorem su_ch01a : Setup Tryz.prog tab_ch01a := ⟨tab_ch01a_ok, mixed⟩
structure TAct where
  kind_ : Int
  text_ : ByteArray
  n_ : Int
  keeps_ : List Int
structure TSetting where
  room_ : Int
  version_ : Int
  stride_ : Int
  roll_ : Int
structure TWriter where
  version_ : Int
  stride_ : Int
  roll_ : Int
  base_ : Int
  link_ : Int
  offsets_ : List Int
  end_ : Int
  open_ : Bool
  code_ : Int
theorem u8_wrap {n : Int} : IntKind.u8.wrap n = n % 256 := by
  show (let m := n % (2 ^ 8 : Int); if false && decide (m ≥ (2 ^ 7 : Int)) then m - (2 ^ 8 : Int) else m) = n % 256
  simp
theorem bv_nat {w n : Nat} (h : n < 2 ^ w) : (BitVec.ofInt w (n : Int)).toNat = n := by
  rw [BitVec.toNat_ofInt, ← Int.natCast_emod, Nat.mod_eq_of_lt h, Int.toNat_natCast]
theorem data_tx (l : List UInt8) : (tx l).data.toList = l := rfl
def rwithin (v lo hi : Int) : Bool := decide (lo ≤ v ∧ v ≤ hi)
def rl01In (v lo hi : Int) : Bool := decide (lo ≤ v ∧ v ≤ hi)
def risNumber (n : Int) : Bool := decide (0 ≤ n ∧ n ≤ 1000000000)
def risVersion (n : Int) : Bool := decide (n = 1 ∨ n = 2)
theorem Fiwithin {v : Int} {lo : Int} {hi : Int} {o : Bool}  (hr : rwithin v lo hi = o)  : Fn Tryz.prog 41 [I v, I lo, I hi] [] ⟨B o, [], []⟩ := by
 refine Fn.go su_ch01a Tryz.func41 fun P hP Q hQ => ?_
 conv => cbv
 refine .geq (fun h1 => ?_) fun h1 => ?_
 conv => cbv
 refine .leq (fun h2 => ?_) fun h2 => ?_
 conv => cbv
 have e : true = rwithin v lo hi := (by unfold rwithin; simp; omega)
 rw [hr] at e
 subst e
 exact hQ _ _ (.b rfl rfl)
 conv => cbv
 have e : false = rwithin v lo hi := (by unfold rwithin; simp; omega)
 rw [hr] at e
 subst e
 exact hQ _ _ (.b rfl rfl)
 conv => cbv
 have e : false = rwithin v lo hi := (by unfold rwithin; simp; omega)
 rw [hr] at e
 subst e
 exact hQ _ _ (.b rfl rfl)
theorem Fsl01In {v : Int} {lo : Int} {hi : Int} {o : Bool}  (hr : rl01In v lo hi = o)  : Fn Tryz.prog 36 [I v, I lo, I hi] [] ⟨B o, [], []⟩ := by
 refine Fn.go su_ch01a Tryz.func36 fun P hP Q hQ => ?_
 conv => cbv
 refine .geq (fun h1 => ?_) fun h1 => ?_
 conv => cbv
 refine .leq (fun h2 => ?_) fun h2 => ?_
 conv => cbv
 have e : true = rl01In v lo hi := (by unfold rl01In; simp; omega)
 rw [hr] at e
 subst e
 exact hQ _ _ (.b rfl rfl)
 conv => cbv
 have e : false = rl01In v lo hi := (by unfold rl01In; simp; omega)
 rw [hr] at e
 subst e
 exact hQ _ _ (.b rfl rfl)
 conv => cbv
 have e : false = rl01In v lo hi := (by unfold rl01In; simp; omega)
 rw [hr] at e
 subst e
 exact hQ _ _ (.b rfl rfl)
theorem FiisNumber {n : Int} {o : Bool}  (hr : risNumber n = o)  : Fn Tryz.prog 17 [I n] [] ⟨B o, [], []⟩ := by
 refine Fn.go su_ch01a Tryz.func17 fun P hP Q hQ => ?_
 conv => cbv
 generalize hr1 : rwithin n 0 1000000000 = r1
 refine .dd hP (Fiwithin hr1) ?_
 cases r1
 simp only [rwithin, decide_eq_true_eq, decide_eq_false_iff_not] at hr1
 conv => cbv
 have e : false = risNumber n := (by unfold risNumber; simp [*])
 rw [hr] at e
 subst e
 exact hQ _ _ (.b rfl rfl)
 simp only [rwithin, decide_eq_true_eq, decide_eq_false_iff_not] at hr1
 conv => cbv
 have e : true = risNumber n := (by unfold risNumber; simp [*])
 rw [hr] at e
 subst e
 exact hQ _ _ (.b rfl rfl)
theorem FiisVersion {n : Int} {o : Bool}  (hr : risVersion n = o)  : Fn Tryz.prog 70 [I n] [] ⟨B o, [], []⟩ := by
 refine Fn.go su_ch01a Tryz.func70 fun P hP Q hQ => ?_
 conv => cbv
 refine .eql (fun h1 => ?_) fun h1 => ?_
 conv => cbv
 have e : true = risVersion n := (by unfold risVersion; simp [*])
 rw [hr] at e
 subst e
 exact hQ _ _ (.b rfl rfl)
 conv => cbv
 refine .eql (fun h2 => ?_) fun h2 => ?_
 conv => cbv
 have e : true = risVersion n := (by unfold risVersion; simp [*])
 rw [hr] at e
 subst e
 exact hQ _ _ (.b rfl rfl)
 conv => cbv
 have e : false = risVersion n := (by unfold risVersion; simp [*])
 rw [hr] at e
 subst e
 exact hQ _ _ (.b rfl rfl)
end Go.Proofs.YtmkpihcfglinjaaGreatDoor.Ab
