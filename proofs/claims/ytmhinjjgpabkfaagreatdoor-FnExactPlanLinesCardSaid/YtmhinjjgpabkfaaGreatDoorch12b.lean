/- What functions of the program come to, for all arguments in the given bounds. -/
import Derived.Test.YtmhinjjgpabkfaaGreatDoorch12
set_option linter.unusedVariables false
set_option linter.unusedSimpArgs false
namespace Go.Proofs.YtmhinjjgpabkfaaGreatDoor.Ab
open Go Go.Proofs
set_option maxRecDepth 20000
set_option maxHeartbeats 4000000
set_option linter.unusedSimpArgs false
set_option linter.unusedVariables false
theorem scanL_recs : ∀ (k : Nat) {h : THead} {b : ByteArray} {n : Nat} {p : Int}, (b.size - p).toNat ≤ k → 0 ≤ p ∧ p ≤ b.size → p + (scanL h b n p).1.length ≤ b.size
  | k, h, b, n, p, hk, hp => by
    cases hm : rMarkAt h.version_ (h.base_ + n) b p
    · rcases hf : rReadFrame h.version_ (h.base_ + n) b p with ⟨r, q, ok⟩
      cases ok
      · rw [scanL_stop hm hf]
        simpa using hp.2
      · have h2 := rReadFrame_ok hf
        rw [scanL_next hm hf]
        cases k with
        | zero => omega
        | succ k =>
          have ih := scanL_recs k (h := h) (b := b) (n := n + 1) (p := q) (by omega) (by omega)
          rw [List.length_cons]
          omega
    · rw [scanL_mark hm]
      simpa using hp.2
theorem rScan_recs {b : ByteArray} : (rScanText b).records_.length ≤ b.size := by
  unfold rScanText
  split
  · rename_i h e
    have h2 := rReadHead_t e
    have := scanL_recs _ (h := h) (b := b) (n := 0) (p := 24) (Nat.le_refl _) (by omega)
    show (scanL h b 0 24).1.length ≤ _
    omega
  · simp
end Go.Proofs.YtmhinjjgpabkfaaGreatDoor.Ab
