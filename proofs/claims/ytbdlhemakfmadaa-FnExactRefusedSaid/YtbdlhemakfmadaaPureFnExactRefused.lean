/- Refused of the program and of the reference count the same codes, and the argument stays as it was. Condition: none. -/
import Derived.Test.YtbdlhemakfmadaaPFnExactRefusedx1
namespace Go.Proofs.Ytbdlhemakfmadaa.Pure
open Go.RowKit Go.Proofs.Ytbdlhemakfmadaa.PFnExactRefused Go.Proofs.YtbdlhemakfmadaaW.PrintWords Go.Proofs.YtbdlhemakfmadaaW.PrintLast

theorem wrap_id {i : Int} (h0 : 0 ≤ i) (h : i ≤ 1048577) : wrap64 (i + 1) = i + 1 := by
  unfold wrap64; omega

theorem toIntS_loop (l : List Int) (hn : l.length ≤ 1048576) (d : Nat) : ∀ (k : Nat) (o : List Int) (i : Int), 0 ≤ i → i ≤ l.length → (l.length : Int) - i = d → d < k →
    o.length = l.length → o.take i.toNat = l.take i.toNat → laws_toIntS.l0 k l o i = some l := by
  induction d with
  | zero =>
    intro k o i h0 h1 hd hk hl ht
    obtain ⟨k, rfl⟩ : ∃ m, k = m + 1 := ⟨k - 1, by omega⟩
    simp only [laws_toIntS.l0]
    rw [if_neg (by omega)]
    have e : i.toNat = l.length := by omega
    rw [e] at ht
    rw [List.take_of_length_le (by omega), List.take_of_length_le (by omega)] at ht
    rw [ht]
  | succ d ih =>
    intro k o i h0 h1 hd hk hl ht
    obtain ⟨k, rfl⟩ : ∃ m, k = m + 1 := ⟨k - 1, by omega⟩
    simp only [laws_toIntS.l0]
    rw [if_pos (by omega), if_pos h0, if_pos (by omega), wrap_id h0 (by omega)]
    refine ih k _ (i + 1) (by omega) (by omega) (by omega) (by omega) (by simpa using hl) ?_
    have e : (i + 1).toNat = i.toNat + 1 := by omega
    have hi : i.toNat < l.length := by omega
    rw [e, List.take_succ_eq_append_getElem hi, List.take_succ_eq_append_getElem (by simpa [hl] using hi)]
    rw [List.take_set_of_le (Nat.le_refl _), ht]
    simp [rd, List.getD, hi]

theorem toIntS_eq (l : List Int) (hn : l.length ≤ 1048576) (k : Nat) (hk : l.length < k) : laws_toIntS.f k l = some l := by
  unfold laws_toIntS.f
  rw [if_pos (by omega), if_pos (by omega)]
  exact toIntS_loop l hn l.length k _ 0 (by omega) (by omega) (by omega) hk (by simp) (by simp)

theorem eqIntS_loop (l : List Int) (hn : l.length ≤ 1048576) (d : Nat) : ∀ (k : Nat) (i : Int), 0 ≤ i → i ≤ l.length → (l.length : Int) - i = d → d < k →
    laws_eqIntS.l0 k l l i = some true := by
  induction d with
  | zero =>
    intro k i h0 h1 hd hk
    obtain ⟨k, rfl⟩ : ∃ m, k = m + 1 := ⟨k - 1, by omega⟩
    simp only [laws_eqIntS.l0]
    rw [if_neg (by omega)]
  | succ d ih =>
    intro k i h0 h1 hd hk
    obtain ⟨k, rfl⟩ : ∃ m, k = m + 1 := ⟨k - 1, by omega⟩
    simp only [laws_eqIntS.l0]
    rw [if_pos (by omega), if_pos h0, if_pos (by omega), if_pos trivial, wrap_id h0 (by omega)]
    exact ih k (i + 1) (by omega) (by omega) (by omega) (by omega)

theorem eqIntS_self (l : List Int) (hn : l.length ≤ 1048576) (k : Nat) (hk : l.length < k) : laws_eqIntS.f k l l = some true := by
  unfold laws_eqIntS.f
  rw [if_pos rfl]
  exact eqIntS_loop l hn l.length k 0 (by omega) (by omega) (by omega) hk

theorem refused_loop (l : List Int) (hn : l.length ≤ 1048576) (d : Nat) : ∀ (k : Nat) (x i : Int), 0 ≤ i → i ≤ l.length → (l.length : Int) - i = d → d < k →
    impl_Refused.l0 k x l (l.length : Int) i = spec_Refused.l0 k l x i ∧ ∃ r, spec_Refused.l0 k l x i = some r := by
  induction d with
  | zero =>
    intro k x i h0 h1 hd hk
    obtain ⟨k, rfl⟩ : ∃ m, k = m + 1 := ⟨k - 1, by omega⟩
    simp only [impl_Refused.l0, spec_Refused.l0]
    rw [if_neg (by omega), if_neg (by omega)]
    exact ⟨rfl, _, rfl⟩
  | succ d ih =>
    intro k x i h0 h1 hd hk
    obtain ⟨k, rfl⟩ : ∃ m, k = m + 1 := ⟨k - 1, by omega⟩
    simp only [impl_Refused.l0, spec_Refused.l0]
    have hlt : i < (l.length : Int) := by omega
    simp only [if_pos hlt, if_pos h0, wrap_id h0 (show i ≤ 1048577 by omega)]
    split
    · exact ih k x (i + 1) (by omega) (by omega) (by omega) (by omega)
    · exact ih k _ (i + 1) (by omega) (by omega) (by omega) (by omega)

theorem FnExactRefused : laws_FnExactRefused.Pure := by
  intro l _ _ _
  refine ⟨l.length + 1, ?_⟩
  unfold laws_FnExactRefused.f
  by_cases hb : (l.length : Int) > 1048576
  · rw [if_pos hb]
  · rw [if_neg hb]
    have hn : l.length ≤ 1048576 := by omega
    obtain ⟨e, r, hr⟩ := refused_loop l hn l.length (l.length + 1) 0 0 (by omega) (by omega) (by omega) (by omega)
    rw [toIntS_eq l hn _ (by omega)]
    simp only [Option.bind_some]
    unfold spec_Refused.f impl_Refused.f
    rw [e, hr]
    simp only [Option.bind_some, if_true]
    rw [eqIntS_self l hn _ (by omega)]
    simp

end Go.Proofs.Ytbdlhemakfmadaa.Pure
