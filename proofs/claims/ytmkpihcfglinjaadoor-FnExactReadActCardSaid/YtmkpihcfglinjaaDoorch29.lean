/- What functions of the program come to, for all arguments in the given bounds. -/
import Derived.Test.YtmkpihcfglinjaaDoorch01d
set_option linter.unusedVariables false
set_option linter.unusedSimpArgs false
namespace Go.Proofs.YtmkpihcfglinjaaDoor.Ab
open Go Go.Proofs
set_option maxRecDepth 20000
set_option maxHeartbeats 4000000
set_option linter.unusedSimpArgs false
set_option linter.unusedVariables false
theorem lit_tx (l : List UInt8) : (⟨⟨l⟩⟩ : ByteArray) = tx l := rfl
theorem bytes_tx (s : ByteArray) : s = tx s.data.toList := rfl
theorem getD_of {α : Type} {l : List α} {i j : Nat} {d x : α} (h : i < l.length) (hx : x = l[i]) (e : i = j) : x = l.getD j d := by
  subst e
  rw [hx, List.getD_eq_getElem?_getD, List.getElem?_eq_getElem h]; rfl
end Go.Proofs.YtmkpihcfglinjaaDoor.Ab
