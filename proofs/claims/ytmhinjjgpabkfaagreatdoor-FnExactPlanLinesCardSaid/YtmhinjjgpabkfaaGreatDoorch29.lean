/- What functions of the program come to, for all arguments in the given bounds. -/
import Derived.Test.YtmhinjjgpabkfaaGreatDoorch01d
set_option linter.unusedVariables false
set_option linter.unusedSimpArgs false
namespace Go.Proofs.YtmhinjjgpabkfaaGreatDoor.Ab
open Go Go.Proofs
set_option maxRecDepth 20000
set_option maxHeartbeats 4000000
set_option linter.unusedSimpArgs false
set_option linter.unusedVariables false
def tab_ch29 : List (Nat × TyRow) := [
  (3, ⟨.int .i64, some 1, some false, none, false, [.int .i64], [], some [(.int .i64 0, 0)], none, none, none⟩),
  (9, ⟨.str, some 1, some false, none, false, [.str], [], some [(.string default, 0)], none, none, none⟩),
  (24, ⟨.sl 1, some 1, some false, some (1, 8), false, [.sl 1], [], some [(.slice none 0 0, 1)], some ([.sc (.int .i64 0)], 1, 8), none, none⟩),
  (32, ⟨.other, some 4, some true, none, false, [.int .i64, .int .i64, .int .i64, .int .i64], [some (0, 1, false), some (1, 1, false), some (2, 1, false), some (3, 1, false)], some [(.int .i64 0, 0), (.int .i64 0, 0), (.int .i64 0, 0), (.int .i64 0, 0)], none, some [(0, 1), (1, 1), (2, 1), (3, 1)], some [.int, .int, .int, .int]⟩),
  (41, ⟨.sl 1, some 1, some false, some (1, 16), false, [.sl 1], [], some [(.slice none 0 0, 1)], some ([.sc (.string default)], 1, 16), none, none⟩),
  (83, ⟨.other, some 9, some true, none, false, [.int .i64, .int .i64, .int .i64, .int .i64, .int .i64, .sl 1, .int .i64, .bool, .int .i64], [some (0, 1, false), some (1, 1, false), some (2, 1, false), some (3, 1, false), some (4, 1, false), some (5, 1, false), some (6, 1, false), some (7, 1, false), some (8, 1, false)], some [(.int .i64 0, 0), (.int .i64 0, 0), (.int .i64 0, 0), (.int .i64 0, 0), (.int .i64 0, 0), (.slice none 0 0, 1), (.int .i64 0, 0), (.bool false, 0), (.int .i64 0, 0)], none, some [(0, 1), (1, 1), (2, 1), (3, 1), (4, 1), (5, 1), (6, 1), (7, 1), (8, 1)], none⟩),
  (110, ⟨.other, some 4, some true, none, false, [.int .i64, .str, .str, .str], [some (0, 1, false), some (1, 1, false), some (2, 1, false), some (3, 1, false)], some [(.int .i64 0, 0), (.string default, 0), (.string default, 0), (.string default, 0)], none, some [(0, 1), (1, 1), (2, 1), (3, 1)], some [.int, .str, .str, .str]⟩)]
theorem tab_ch29_ok : TabOk Tryz.prog tab_ch29 := TabOk.of (by kernel_rfl)
theorem su_ch29 : Setup Tryz.prog tab_ch29 := ⟨tab_ch29_ok, mixed⟩
theorem lit_tx (l : List UInt8) : (⟨⟨l⟩⟩ : ByteArray) = tx l := rfl
theorem bytes_tx (s : ByteArray) : s = tx s.data.toList := rfl
def opWords : List ByteArray := [(tx []), (tx [114, 101, 109, 111, 118, 101]), (tx [99, 114, 101, 97, 116, 101]), (tx [97, 112, 112, 101, 110, 100]), (tx [115, 121, 110, 99]), (tx [114, 101, 110, 97, 109, 101]), (tx [110, 97, 109, 101, 115])]
def opWord (k : Int) : ByteArray := opWords.getD k.toNat (tx [])
theorem getD_of {α : Type} {l : List α} {i j : Nat} {d x : α} (h : i < l.length) (hx : x = l[i]) (e : i = j) : x = l.getD j d := by
  subst e
  rw [hx, List.getD_eq_getElem?_getD, List.getElem?_eq_getElem h]; rfl
theorem opWord_b {k : Int} {o : ByteArray} (e : o = opWord k) : o.size ≤ 6 := by
  subst e
  unfold opWord
  rcases Nat.lt_or_ge k.toNat 7 with h | h
  · have : ∀ i : Fin 7, (opWords.getD i.val (tx [])).size ≤ 6 := by decide
    exact this ⟨_, h⟩
  · rw [List.getD_eq_getElem?_getD, List.getElem?_eq_none (by exact h)]; decide
def rOpLine (x : TOp) : ByteArray :=
  if 1 ≤ x.kind_ ∧ x.kind_ ≤ 6 then
    if x.kind_ = 6 then opWord x.kind_
    else if x.kind_ = 3 then opWord x.kind_ ++ tx [32] ++ x.name_ ++ rfigures [(x.text_.size : Int)]
    else if x.kind_ = 5 then opWord x.kind_ ++ tx [32] ++ x.name_ ++ tx [32] ++ x.to_
    else opWord x.kind_ ++ tx [32] ++ x.name_
  else tx [63]
theorem FiOpLine {xkin : Int} {xnam : ByteArray} {xto : ByteArray} {xtex : ByteArray} {o : ByteArray}  (hz : xnam.size ≤ 1048576 ∧ xto.size ≤ 1048576 ∧ xtex.size ≤ 1048576) (hr : rOpLine (⟨xkin, xnam, xto, xtex⟩ : TOp) = o)  : Fn Tryz.prog 77 [.agg [I xkin, S xnam, S xto, S xtex]] [] ⟨S o, [], []⟩ := by
 refine Fn.go su_ch29 Tryz.func77 fun P hP Q hQ => ?_
 conv => cbv
 generalize hr1 : rwithin xkin 1 6 = r1
 refine .dd hP (Fiwithin hr1) ?_
 cases r1
 simp only [rwithin, decide_eq_true_eq, decide_eq_false_iff_not] at hr1
 conv => cbv
 have e : (tx [63]) = rOpLine (⟨xkin, xnam, xto, xtex⟩ : TOp) := (by unfold rOpLine; rw [if_neg (by exact hr1)])
 rw [hr] at e
 subst e
 exact hQ _ _ (.s rfl rfl)
 simp only [rwithin, decide_eq_true_eq, decide_eq_false_iff_not] at hr1
 conv => cbv
 refine .go xkin.toNat fun p2 hp2 hjp2 => ?_
 conv => cbv
 refine .go (l := opWords) (c := cS) (hj := by show p2 < 7; omega) rfl fun hje3 e3 qe3 => ?_
 conv => cbv
 have hw3 : e3 = opWord xkin := getD_of hje3 qe3 (by omega)
 have hb3 := opWord_b hw3
 refine .eql (fun h4 => ?_) fun h4 => ?_
 conv => cbv
 have e : e3 = rOpLine (⟨xkin, xnam, xto, xtex⟩ : TOp) := (by unfold rOpLine; rw [if_pos (by exact hr1)]; dsimp only; rw [if_pos h4]; exact hw3)
 rw [hr] at e
 subst e
 exact hQ _ _ (.s rfl rfl)
 conv => cbv
 refine .eql (fun h5 => ?_) fun h5 => ?_
 conv => cbv
 refine .litR 1 fun s6 hs6 zs6 => ?_
 conv => cbv
 refine .go fun s7 hs7 zs7 => ?_
 conv => cbv
 refine .go fun v8 hv8 => ?_
 conv => cbv
 have hf : (∀ n ∈ [v8], in64 n) ∧ [v8].length ≤ 100 := ⟨by intro n hn; simp only [List.mem_cons, List.not_mem_nil, or_false] at hn; unfold in64; omega, by simp⟩
 generalize hr9 : rfigures [v8] = r9
 refine .lnt hP (Fifigures rfl hf hr9) (.ref rfl rfl .nil) ?_
 conv => cbv
 try (have hb9 := rfigures_b hr9 hf.1; simp only [List.length_cons, List.length_nil] at hb9)
 refine .go fun s10 hs10 zs10 => ?_
 conv => cbv
 have e : s10 = rOpLine (⟨xkin, xnam, xto, xtex⟩ : TOp) := (by unfold rOpLine; rw [if_pos (by exact hr1)]; dsimp only; rw [if_neg h4, if_pos h5, hs10, hs7, hs6, ← hr9, hv8, hw3]; rfl)
 rw [hr] at e
 subst e
 exact hQ _ _ (.s rfl rfl)
 conv => cbv
 refine .eql (fun h6 => ?_) fun h6 => ?_
 conv => cbv
 refine .litR 1 fun s7 hs7 zs7 => ?_
 conv => cbv
 refine .go fun s8 hs8 zs8 => ?_
 conv => cbv
 refine .litR 1 fun s9 hs9 zs9 => ?_
 conv => cbv
 try (have hb9 := rfigures_b hr9 hf.1; simp only [List.length_cons, List.length_nil] at hb9)
 refine .go fun s10 hs10 zs10 => ?_
 conv => cbv
 have e : s10 = rOpLine (⟨xkin, xnam, xto, xtex⟩ : TOp) := (by unfold rOpLine; rw [if_pos (by exact hr1)]; dsimp only; rw [if_neg h4, if_neg h5, if_pos h6, hs10, hs9, hs8, hs7, hw3]; rfl)
 rw [hr] at e
 subst e
 exact hQ _ _ (.s rfl rfl)
 conv => cbv
 refine .litR 1 fun s7 hs7 zs7 => ?_
 conv => cbv
 refine .go fun s8 hs8 zs8 => ?_
 conv => cbv
 have e : s8 = rOpLine (⟨xkin, xnam, xto, xtex⟩ : TOp) := (by unfold rOpLine; rw [if_pos (by exact hr1)]; dsimp only; rw [if_neg h4, if_neg h5, if_neg h6, hs8, hs7, hw3]; rfl)
 rw [hr] at e
 subst e
 exact hQ _ _ (.s rfl rfl)
theorem FsOpLine {xkin : Int} {xnam : ByteArray} {xto : ByteArray} {xtex : ByteArray} {o : ByteArray}  (hz : xnam.size ≤ 1048576 ∧ xto.size ≤ 1048576 ∧ xtex.size ≤ 1048576) (hr : rOpLine (⟨xkin, xnam, xto, xtex⟩ : TOp) = o)  : Fn Tryz.prog 76 [.agg [I xkin, S xnam, S xto, S xtex]] [] ⟨S o, [], []⟩ := by
 refine Fn.go su_ch29 Tryz.func76 fun P hP Q hQ => ?_
 conv => cbv
 generalize hr1 : rl01In xkin 1 6 = r1
 refine .dd hP (Fsl01In hr1) ?_
 cases r1
 simp only [rl01In, decide_eq_true_eq, decide_eq_false_iff_not] at hr1
 conv => cbv
 have e : (tx [63]) = rOpLine (⟨xkin, xnam, xto, xtex⟩ : TOp) := (by unfold rOpLine; rw [if_neg (by exact hr1)])
 rw [hr] at e
 subst e
 exact hQ _ _ (.s rfl rfl)
 simp only [rl01In, decide_eq_true_eq, decide_eq_false_iff_not] at hr1
 conv => cbv
 refine .go xkin.toNat fun p2 hp2 hjp2 => ?_
 conv => cbv
 refine .go (l := opWords) (c := cS) (hj := by show p2 < 7; omega) rfl fun hje3 e3 qe3 => ?_
 conv => cbv
 have hw3 : e3 = opWord xkin := getD_of hje3 qe3 (by omega)
 have hb3 := opWord_b hw3
 refine .eql (fun h4 => ?_) fun h4 => ?_
 conv => cbv
 have e : e3 = rOpLine (⟨xkin, xnam, xto, xtex⟩ : TOp) := (by unfold rOpLine; rw [if_pos (by exact hr1)]; dsimp only; rw [if_pos h4]; exact hw3)
 rw [hr] at e
 subst e
 exact hQ _ _ (.s rfl rfl)
 conv => cbv
 refine .litR 1 fun s5 hs5 zs5 => ?_
 conv => cbv
 refine .go fun s6 hs6 zs6 => ?_
 conv => cbv
 refine .eql (fun h7 => ?_) fun h7 => ?_
 conv => cbv
 refine .litR 1 fun s8 hs8 zs8 => ?_
 conv => cbv
 refine .go fun v9 hv9 => ?_
 conv => cbv
 have hn : in64 v9 := by unfold in64; omega
 generalize hr10 : rDecimal v9 = r10
 refine .dd hP (FsDecimal hn hr10) ?_
 conv => cbv
 have hb10 := rDecimal_b hr10 hn
 refine .go fun s11 hs11 zs11 => ?_
 conv => cbv
 have e : s11 = rOpLine (⟨xkin, xnam, xto, xtex⟩ : TOp) := (by unfold rOpLine; rw [if_pos (by exact hr1)]; dsimp only; rw [if_neg h4, if_pos h7]; rw [hs11, hs8, hs6, hs5, ← hr10, hv9, hw3]; unfold rfigures rDecimal; rw [bytes_tx (opWord xkin), bytes_tx xnam]; simp only [lit_tx, tx_append]; simp)
 rw [hr] at e
 subst e
 exact hQ _ _ (.s rfl rfl)
 conv => cbv
 refine .eql (fun h8 => ?_) fun h8 => ?_
 conv => cbv
 refine .litR 1 fun s9 hs9 zs9 => ?_
 conv => cbv
 refine .go fun s10 hs10 zs10 => ?_
 conv => cbv
 have e : s10 = rOpLine (⟨xkin, xnam, xto, xtex⟩ : TOp) := (by unfold rOpLine; rw [if_pos (by exact hr1)]; dsimp only; rw [if_neg h4, if_neg h7, if_pos h8, hs10, hs9, hs6, hs5, hw3]; rfl)
 rw [hr] at e
 subst e
 exact hQ _ _ (.s rfl rfl)
 conv => cbv
 have e : s6 = rOpLine (⟨xkin, xnam, xto, xtex⟩ : TOp) := (by unfold rOpLine; rw [if_pos (by exact hr1)]; dsimp only; rw [if_neg h4, if_neg h7, if_neg h8, hs6, hs5, hw3]; rfl)
 rw [hr] at e
 subst e
 exact hQ _ _ (.s rfl rfl)
end Go.Proofs.YtmhinjjgpabkfaaGreatDoor.Ab
