/- CodeName of the program and of the reference tell the same text for each code, so the law answers true. Condition: none. -/
import Derived.Test.YtbdlhemakfmadaaPFnExactCodeNamex1
namespace Go.Proofs.Ytbdlhemakfmadaa.Pure
open Go.RowKit Go.Proofs.Ytbdlhemakfmadaa.PFnExactCodeName Go.Proofs.YtbdlhemakfmadaaW.PrintWords Go.Proofs.YtbdlhemakfmadaaW.PrintLast

theorem codeName_some (a : Int) : ∃ s, spec_CodeName.f a = some s := by
  unfold spec_CodeName.f spec_l01In.f
  by_cases h : a ≥ 0
  · rw [if_pos h]
    by_cases h2 : a ≤ 4
    · have h0 : 0 ≤ a := h
      have h5 : a < 5 := by omega
      simp [h2, h0, h5]
    · simp [h2]
  · rw [if_neg h]; simp

theorem FnExactCodeName : laws_FnExactCodeName.Pure := by
  intro a _
  obtain ⟨s, hs⟩ := codeName_some a
  have hi : impl_CodeName.f a = some s := hs
  unfold laws_FnExactCodeName.f
  rw [hs, hi]; simp

end Go.Proofs.Ytbdlhemakfmadaa.Pure
