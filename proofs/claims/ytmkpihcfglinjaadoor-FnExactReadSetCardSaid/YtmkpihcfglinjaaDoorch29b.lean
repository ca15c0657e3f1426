/- What functions of the program come to, for all arguments in the given bounds. -/
import Derived.Test.YtmkpihcfglinjaaDoorch29
import Derived.Test.YtmkpihcfglinjaaDoorZ10
set_option linter.unusedVariables false
set_option linter.unusedSimpArgs false
namespace Go.Proofs.YtmkpihcfglinjaaDoor.Ab
open Go Go.Proofs
set_option maxRecDepth 20000
set_option maxHeartbeats 4000000
set_option linter.unusedSimpArgs false
set_option linter.unusedVariables false
def rActOk (a : TAct) : Bool := decide ((1 ≤ a.kind_ ∧ a.kind_ ≤ 8) ∧ a.text_.size ≤ 200 ∧ 0 ≤ a.n_ ∧ a.keeps_.length ≤ 8)
def rActLine_1 (n : Int) : Bool := decide (¬ (0 ≤ n ∧ n ≤ 1000000000))
def rContainsFunc_ActLine_1 (l : List Int) : Bool := l.any rActLine_1
def counted (k : Int) : Prop := k = 5 ∨ k = 6 ∨ k = 8
instance (k : Int) : Decidable (counted k) := by unfold counted; infer_instance
def actFull (a : TAct) : Prop := rActOk a = true ∧ (a.kind_ ≠ 1 → a.text_ = ⟨⟨[]⟩⟩) ∧ (¬ (a.kind_ = 5 ∨ a.kind_ = 6 ∨ a.kind_ = 8) → a.n_ = 0) ∧ (a.kind_ ≠ 8 → a.keeps_.length = 0) ∧ rActLine_1 a.n_ = false ∧ rContainsFunc_ActLine_1 a.keeps_ = false
instance (a : TAct) : Decidable (actFull a) := by unfold actFull; infer_instance
end Go.Proofs.YtmkpihcfglinjaaDoor.Ab
