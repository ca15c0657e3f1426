/- What functions of the program come to, for all arguments in the given bounds. -/
import Derived.Test.YtmhinjjgpabkfaaGreatDoorch11
set_option linter.unusedVariables false
set_option linter.unusedSimpArgs false
namespace Go.Proofs.YtmhinjjgpabkfaaGreatDoor.Ab
open Go Go.Proofs
set_option maxRecDepth 20000
set_option maxHeartbeats 4000000
set_option linter.unusedSimpArgs false
set_option linter.unusedVariables false
def tab_ch11b : List (Nat × TyRow) := [
  (3, ⟨.int .i64, some 1, some false, none, false, [.int .i64], [], some [(.int .i64 0, 0)], none, none, none⟩),
  (9, ⟨.str, some 1, some false, none, false, [.str], [], some [(.string default, 0)], none, none, none⟩),
  (125, ⟨.other, some 2, some true, none, false, [.other, .sl 1], [some (0, 1, false), some (1, 1, false)], some [(.pointer none, 0), (.slice none 0 0, 1)], none, some [(0, 1), (1, 1)], none⟩),
  (234, ⟨.sl 2, some 1, some false, some (2, 16), false, [.sl 2], [], some [(.slice none 0 0, 2)], some ([.sc (.int .i64 0), .sc (.int .i64 0)], 2, 16), none, none⟩),
  (257, ⟨.other, some 2, some true, none, false, [.int .i64, .int .i64], [some (0, 1, false), some (1, 1, false)], some [(.int .i64 0, 0), (.int .i64 0, 0)], none, some [(0, 1), (1, 1)], some [.int, .int]⟩)]
theorem tab_ch11b_ok : TabOk Tryz.prog tab_ch11b := TabOk.of (by kernel_rfl)
theorem su_ch11b : Setup Tryz.prog tab_ch11b := ⟨tab_ch11b_ok, mixed⟩
theorem FiPlacesText {l : List TPlace} {xl : List (List D)} {o : ByteArray} (hl : l.map ePlace = xl) (hn : l.length ≤ 1048576) (hw : wfPl l) (hr : rPlacesText l = o)  : Fn Tryz.prog 222 [.d (.row 2 xl)] [] ⟨S o, [], []⟩ := by
 refine Fn.go su_ch11b Tryz.func222 fun P hP Q hQ => ?_
 conv => cbv
 refine .go hl fun v1 hv1 => ?_
 conv => cbv
 generalize hr2 : rVarText v1 = r2
 have zr2 := rVarText_b hr2
 refine .dd hP (FiVarText hr2) ?_
 conv => cbv
 obtain ⟨nb3, hnb3⟩ : ∃ m, ([] : List UInt8).length + r2.size = m := ⟨_, rfl⟩
 obtain ⟨b3, hb3⟩ : ∃ m, [] ++ r2.data.toList = m := ⟨_, rfl⟩
 obtain ⟨kb3, hkb3⟩ : ∃ m, (r2.size : Int) = m := ⟨_, rfl⟩
 have lb3 : nb3 = b3.length := by rw [← hb3, List.length_append, Array.length_toList]; exact hnb3.symm
 refine .bx [2, 0] [0] hP (FiWrite0 rfl (by first | omega | (simp; omega)) hnb3 hb3 hkb3) rfl rfl rfl rfl ?_
 conv => cbv
 refine .go hl fun v4 hv4 => ?_
 conv => cbv
 refine LoopW.lp (κ := Int × Int × Int × (List UInt8) × Nat) su_ch11b hP [3] [3, 4, 15, 16] (fun (i17, c4a, c4b, zw5, nw5) => [(17, I i17)]) (fun (i17, c4a, c4b, zw5, nw5) => [(2, .box 125 [.ptr 2 0 0, .ref 5 0 nw5]), (4, .box 257 [I c4a, I c4b]), (5, .buf 5 false zw5)])
   (fun (i17, c4a, c4b, zw5, nw5) => nw5 = zw5.length ∧ ∃ (k : Nat) (pr : ByteArray), i17 = (k : Int) ∧ k ≤ l.length ∧ zw5 = (rVarText l.length ++ pr).data.toList ∧ pr.size ≤ 10 * k ∧ wfI c4a ∧ wfI c4b ∧ plText (0, 0) l = (plText (c4a, c4b) (l.drop k)).map fun t => pr ++ t)
   (fun (i17, c4a, c4b, zw5, nw5) => (l.length - i17).toNat) (0, 0, 0, b3, nb3) ⟨lb3, 0, tx [], rfl, by omega, by rw [← hb3, app_nil, ← hv1, hr2]; rfl, by simp [tx_size], by constructor <;> omega, by constructor <;> omega, by simp [nil_app]⟩ ⟨rfl, trivial⟩ rfl ?_
 rintro ⟨i17, c4a, c4b, zw5, nw5⟩ J ⟨hnw5, k, pr, hi, hk, hs, hz, hwa, hwb, hp⟩ hJ
 have z1 : 1 ≤ (rVarText l.length).size := by unfold rVarText; rw [if_pos (by omega), tx_size]; exact List.length_pos_iff.2 (varL_ne _)
 have zv := rVarText_le l.length
 have zl : zw5.length = (rVarText l.length).size + pr.size := by rw [hs, Array.length_toList]; exact ByteArray.size_append
 conv => cbv
 refine .lss (fun h5 => ?_) fun h5 => ?_
 conv => cbv
 refine .go i17.toNat hl fun hje6 ⟨e6cou, e6at⟩ qe6 => ?_
 conv => cbv
 have hkl : k < l.length := by omega
 have hd : l.drop k = ⟨e6cou, e6at⟩ :: l.drop (k + 1) := by rw [List.drop_eq_getElem_cons hkl, qe6]; congr 2; omega
 obtain ⟨hw1, hw2⟩ := hw ⟨e6cou, e6at⟩ (by rw [qe6]; exact List.getElem_mem _)
 simp only [] at hw1 hw2
 generalize hr7 : rabove e6cou c4a = r7
 have zr7 := rabove_b hr7
 refine .dd hP (Fiabove (by assumption) (by assumption) hr7) ?_
 conv => cbv
 generalize hr8 : rabove e6at c4b = r8
 have zr8 := rabove_b hr8
 refine .dd hP (Fiabove (by assumption) (by assumption) hr8) ?_
 conv => cbv
 refine .eql (fun h9 => ?_) fun h9 => ?_
 conv => cbv
 have e : (tx []) = rPlacesText l := (by unfold rPlacesText; rw [hp, hd]; simp only [plText]; rw [hr7, hr8, if_pos (.inl h9)]; rfl)
 rw [hr] at e
 subst e
 exact hQ _ _ (.s rfl rfl)
 conv => cbv
 refine .eql (fun h10 => ?_) fun h10 => ?_
 conv => cbv
 have e : (tx []) = rPlacesText l := (by unfold rPlacesText; rw [hp, hd]; simp only [plText]; rw [hr7, hr8, if_pos (.inr h10)]; rfl)
 rw [hr] at e
 subst e
 exact hQ _ _ (.s rfl rfl)
 conv => cbv
 refine .go fun s11 hs11 zs11 => ?_
 conv => cbv
 obtain ⟨nb12, hnb12⟩ : ∃ m, (zw5 : List UInt8).length + s11.size = m := ⟨_, rfl⟩
 obtain ⟨b12, hb12⟩ : ∃ m, zw5 ++ s11.data.toList = m := ⟨_, rfl⟩
 obtain ⟨kb12, hkb12⟩ : ∃ m, (s11.size : Int) = m := ⟨_, rfl⟩
 have lb12 : nb12 = b12.length := by rw [← hb12, List.length_append, Array.length_toList]; exact hnb12.symm
 refine .bx [2, 5] [5] hP (FiWrite1 hnw5 (by first | omega | (simp; omega)) hnb12 hb12 hkb12) rfl rfl rfl rfl ?_
 conv => cbv
 refine .add fun v13 hv13 => ?_
 conv => cbv
 exact .go [7] (v13, e6cou, e6at, b12, nb12) (hJ _ ⟨(by first | omega | (simp; omega)), k + 1, pr ++ (r7 ++ r8), by omega, by omega, by rw [← hb12, hs, hs11]; simp [ByteArray.data_append, List.append_assoc], by rw [ByteArray.size_append, ByteArray.size_append]; omega, hw1, hw2, by rw [hp, hd]; simp only [plText]; rw [hr7, hr8, if_neg (by intro h; rcases h with h | h; exact h9 h; exact h10 h), Option.map_map]; congr 1; funext t; simp only [Function.comp, ByteArray.append_assoc]⟩ (by first | (dsimp only; omega) | omega))
 conv => cbv
 obtain ⟨b6, hb6⟩ : ∃ m, tx zw5 = m := ⟨_, rfl⟩
 have zb6 : b6.size = zw5.length := by rw [← hb6, tx_size]
 refine .bx [2, 5] [5] hP (FiString (x := .ptr 0 0 0) hnw5 (by intro e; rw [e] at zl; simp at zl; omega) (by first | omega | (simp; omega)) hb6) rfl rfl rfl rfl ?_
 conv => cbv
 have e : b6 = rPlacesText l := (by unfold rPlacesText; rw [hp, List.drop_of_length_le (by omega)]; simp only [plText, Option.map_some, app_nil]; rw [← hb6, hs, tx_data])
 rw [hr] at e
 subst e
 exact hQ _ _ (.s rfl rfl)
end Go.Proofs.YtmhinjjgpabkfaaGreatDoor.Ab
