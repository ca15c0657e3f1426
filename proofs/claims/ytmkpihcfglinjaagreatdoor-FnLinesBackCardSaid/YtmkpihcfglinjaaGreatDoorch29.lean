/- What functions of the program come to, for all arguments in the given bounds. -/
import Derived.Test.YtmkpihcfglinjaaGreatDoorch01d
set_option linter.unusedVariables false
set_option linter.unusedSimpArgs false
namespace Go.Proofs.YtmkpihcfglinjaaGreatDoor.Ab
open Go Go.Proofs
set_option maxRecDepth 20000
set_option maxHeartbeats 4000000
set_option linter.unusedSimpArgs false
set_option linter.unusedVariables false
def tab_ch29 : List (Nat × TyRow) := [
  (3, ⟨.int .i64, some 1, some false, none, false, [.int .i64], [], some [(.int .i64 0, 0)], none, none, none⟩),
  (9, ⟨.str, some 1, some false, none, false, [.str], [], some [(.string default, 0)], none, none, none⟩),
  (24, ⟨.sl 1, some 1, some false, some (1, 8), false, [.sl 1], [], some [(.slice none 0 0, 1)], some ([.sc (.int .i64 0)], 1, 8), none, none⟩),
  (32, ⟨.other, some 4, some true, none, false, [.int .i64, .int .i64, .int .i64, .int .i64], [some (0, 1, false), some (1, 1, false), some (2, 1, false), some (3, 1, false)], some [(.int .i64 0, 0), (.int .i64 0, 0), (.int .i64 0, 0), (.int .i64 0, 0)], none, some [(0, 1), (1, 1), (2, 1), (3, 1)], some [.int, .int, .int, .int]⟩),
  (63, ⟨.other, some 9, some true, none, false, [.int .i64, .int .i64, .int .i64, .int .i64, .int .i64, .sl 1, .int .i64, .bool, .int .i64], [some (0, 1, false), some (1, 1, false), some (2, 1, false), some (3, 1, false), some (4, 1, false), some (5, 1, false), some (6, 1, false), some (7, 1, false), some (8, 1, false)], some [(.int .i64 0, 0), (.int .i64 0, 0), (.int .i64 0, 0), (.int .i64 0, 0), (.int .i64 0, 0), (.slice none 0 0, 1), (.int .i64 0, 0), (.bool false, 0), (.int .i64 0, 0)], none, some [(0, 1), (1, 1), (2, 1), (3, 1), (4, 1), (5, 1), (6, 1), (7, 1), (8, 1)], none⟩)]
theorem tab_ch29_ok : TabOk Tryz.prog tab_ch29 := TabOk.of (by kernel_rfl)
theorem su_ch29 : Setup Tryz.prog tab_ch29 := ⟨tab_ch29_ok, mixed⟩
theorem lit_tx (l : List UInt8) : (⟨⟨l⟩⟩ : ByteArray) = tx l := rfl
theorem bytes_tx (s : ByteArray) : s = tx s.data.toList := rfl
def rWriterNew (v s r : Int) : TWriter × Bool := if (1 ≤ v ∧ v ≤ 2) ∧ (1 ≤ s ∧ s ≤ 20) ∧ (1 ≤ r ∧ r ≤ 50) then (⟨v, s, r, 0, 0, [], 0, false, 0⟩, true) else (⟨0, 0, 0, 0, 0, [], 0, false, 0⟩, false)
theorem rWriterNew_2 {v s r : Int} {w : TWriter} {b : Bool} (e : rWriterNew v s r = (w, b)) : b = decide ((1 ≤ v ∧ v ≤ 2) ∧ (1 ≤ s ∧ s ≤ 20) ∧ (1 ≤ r ∧ r ≤ 50)) := by
  unfold rWriterNew at e
  split at e
  · rw [decide_eq_true (by assumption)]; exact (congrArg Prod.snd e).symm
  · rw [decide_eq_false (by assumption)]; exact (congrArg Prod.snd e).symm
def rSettingOk (s : TSetting) : Bool := decide (((1 ≤ s.version_ ∧ s.version_ ≤ 2) ∧ (1 ≤ s.stride_ ∧ s.stride_ ≤ 20) ∧ (1 ≤ s.roll_ ∧ s.roll_ ≤ 50)) ∧ (0 ≤ s.room_ ∧ s.room_ ≤ 20000))
def rSetLine (s : TSetting) : ByteArray := if rSettingOk s then tx [108, 111, 103] ++ rfigures [s.room_, s.version_, s.stride_, s.roll_] else tx []
theorem getD_of {α : Type} {l : List α} {i j : Nat} {d x : α} (h : i < l.length) (hx : x = l[i]) (e : i = j) : x = l.getD j d := by
  subst e
  rw [hx, List.getD_eq_getElem?_getD, List.getElem?_eq_getElem h]; rfl
theorem FiWriterNew {v : Int} {s : Int} {r : Int} {oaver : Int} {oastr : Int} {oarol : Int} {oabas : Int} {oalin : Int} {oaoff : List Int} {xoaoff : List (List D)} {oaend : Int} {oaope : Bool} {oacod : Int} {ob : Bool}  (hr : rWriterNew v s r = (⟨oaver, oastr, oarol, oabas, oalin, oaoff, oaend, oaope, oacod⟩, ob)) (hoaoff : oaoff.map cI = xoaoff) : Fn Tryz.prog 56 [I v, I s, I r] [] ⟨.tup [.agg [I oaver, I oastr, I oarol, I oabas, I oalin, .d (.row 1 xoaoff), I oaend, B oaope, I oacod], B ob], [], []⟩ := by
 refine Fn.go su_ch29 Tryz.func56 fun P hP Q hQ => ?_
 conv => cbv
 generalize hr1 : risVersion v = r1
 refine .dd hP (FiisVersion hr1) ?_
 cases r1
 simp only [risVersion, decide_eq_true_eq, decide_eq_false_iff_not] at hr1
 conv => cbv
 have e : ((⟨0, 0, 0, 0, 0, [], 0, false, 0⟩ : TWriter), false) = rWriterNew v s r := (by unfold rWriterNew; rw [if_neg (by omega)])
 rw [hr] at e
 simp only [Prod.mk.injEq, TWriter.mk.injEq] at e
 obtain ⟨⟨rfl, rfl, rfl, rfl, rfl, rfl, rfl, rfl, rfl⟩, rfl⟩ := e
 refine hQ _ _ ?_
 exact .many (.inl rfl) rfl rfl (.agg (.d rfl rfl (.d rfl rfl (.d rfl rfl (.d rfl rfl (.d rfl rfl (.ref rfl rfl (by rw [← hoaoff]; rfl) (.d rfl rfl (.d rfl rfl (.d rfl rfl (.nil)))))))))) (.d rfl rfl (.nil)))
 simp only [risVersion, decide_eq_true_eq, decide_eq_false_iff_not] at hr1
 conv => cbv
 generalize hr2 : rwithin s 1 20 = r2
 refine .dd hP (Fiwithin hr2) ?_
 cases r2
 simp only [rwithin, decide_eq_true_eq, decide_eq_false_iff_not] at hr2
 conv => cbv
 have e : ((⟨0, 0, 0, 0, 0, [], 0, false, 0⟩ : TWriter), false) = rWriterNew v s r := (by unfold rWriterNew; rw [if_neg (by omega)])
 rw [hr] at e
 simp only [Prod.mk.injEq, TWriter.mk.injEq] at e
 obtain ⟨⟨rfl, rfl, rfl, rfl, rfl, rfl, rfl, rfl, rfl⟩, rfl⟩ := e
 refine hQ _ _ ?_
 exact .many (.inl rfl) rfl rfl (.agg (.d rfl rfl (.d rfl rfl (.d rfl rfl (.d rfl rfl (.d rfl rfl (.ref rfl rfl (by rw [← hoaoff]; rfl) (.d rfl rfl (.d rfl rfl (.d rfl rfl (.nil)))))))))) (.d rfl rfl (.nil)))
 simp only [rwithin, decide_eq_true_eq, decide_eq_false_iff_not] at hr2
 conv => cbv
 generalize hr3 : rwithin r 1 50 = r3
 refine .dd hP (Fiwithin hr3) ?_
 cases r3
 simp only [rwithin, decide_eq_true_eq, decide_eq_false_iff_not] at hr3
 conv => cbv
 have e : ((⟨0, 0, 0, 0, 0, [], 0, false, 0⟩ : TWriter), false) = rWriterNew v s r := (by unfold rWriterNew; rw [if_neg (by omega)])
 rw [hr] at e
 simp only [Prod.mk.injEq, TWriter.mk.injEq] at e
 obtain ⟨⟨rfl, rfl, rfl, rfl, rfl, rfl, rfl, rfl, rfl⟩, rfl⟩ := e
 refine hQ _ _ ?_
 exact .many (.inl rfl) rfl rfl (.agg (.d rfl rfl (.d rfl rfl (.d rfl rfl (.d rfl rfl (.d rfl rfl (.ref rfl rfl (by rw [← hoaoff]; rfl) (.d rfl rfl (.d rfl rfl (.d rfl rfl (.nil)))))))))) (.d rfl rfl (.nil)))
 simp only [rwithin, decide_eq_true_eq, decide_eq_false_iff_not] at hr3
 conv => cbv
 have e : ((⟨v, s, r, 0, 0, [], 0, false, 0⟩ : TWriter), true) = rWriterNew v s r := (by unfold rWriterNew; rw [if_pos (by omega)])
 rw [hr] at e
 simp only [Prod.mk.injEq, TWriter.mk.injEq] at e
 obtain ⟨⟨rfl, rfl, rfl, rfl, rfl, rfl, rfl, rfl, rfl⟩, rfl⟩ := e
 refine hQ _ _ ?_
 exact .many (.inl rfl) rfl rfl (.agg (.d rfl rfl (.d rfl rfl (.d rfl rfl (.d rfl rfl (.d rfl rfl (.ref rfl rfl (by rw [← hoaoff]; rfl) (.d rfl rfl (.d rfl rfl (.d rfl rfl (.nil)))))))))) (.d rfl rfl (.nil)))
theorem FiSettingOk {sroo : Int} {sver : Int} {sstr : Int} {srol : Int} {o : Bool}  (hr : rSettingOk (⟨sroo, sver, sstr, srol⟩ : TSetting) = o)  : Fn Tryz.prog 29 [.agg [I sroo, I sver, I sstr, I srol]] [] ⟨B o, [], []⟩ := by
 refine Fn.go su_ch29 Tryz.func29 fun P hP Q hQ => ?_
 conv => cbv
 rcases hr1 : rWriterNew sver sstr srol with ⟨⟨r1aver, r1astr, r1arol, r1abas, r1alin, r1aoff, r1aend, r1aope, r1acod⟩, r1b⟩
 generalize hr1aoff : r1aoff.map cI = xr1aoff
 refine .dd hP (FiWriterNew hr1 hr1aoff) ?_
 conv => cbv
 cases r1b
 conv => cbv
 have e : false = rSettingOk (⟨sroo, sver, sstr, srol⟩ : TSetting) := (by unfold rSettingOk; rw [decide_eq_false]; intro hh; have := (rWriterNew_2 hr1).symm; rw [decide_eq_false_iff_not] at this; exact this hh.1)
 rw [hr] at e
 subst e
 exact hQ _ _ (.b rfl rfl)
 conv => cbv
 generalize hr2 : rwithin sroo 0 20000 = r2
 refine .dd hP (Fiwithin hr2) ?_
 cases r2
 simp only [rwithin, decide_eq_true_eq, decide_eq_false_iff_not] at hr2
 conv => cbv
 have e : false = rSettingOk (⟨sroo, sver, sstr, srol⟩ : TSetting) := (by unfold rSettingOk; rw [decide_eq_false]; intro hh; exact hr2 hh.2)
 rw [hr] at e
 subst e
 exact hQ _ _ (.b rfl rfl)
 simp only [rwithin, decide_eq_true_eq, decide_eq_false_iff_not] at hr2
 conv => cbv
 have e : true = rSettingOk (⟨sroo, sver, sstr, srol⟩ : TSetting) := (by unfold rSettingOk; rw [decide_eq_true]; exact ⟨of_decide_eq_true (rWriterNew_2 hr1).symm, hr2⟩)
 rw [hr] at e
 subst e
 exact hQ _ _ (.b rfl rfl)
theorem FsWriterNew {v : Int} {s : Int} {r : Int} {oaver : Int} {oastr : Int} {oarol : Int} {oabas : Int} {oalin : Int} {oaoff : List Int} {xoaoff : List (List D)} {oaend : Int} {oaope : Bool} {oacod : Int} {ob : Bool}  (hr : rWriterNew v s r = (⟨oaver, oastr, oarol, oabas, oalin, oaoff, oaend, oaope, oacod⟩, ob)) (hoaoff : oaoff.map cI = xoaoff) : Fn Tryz.prog 38 [I v, I s, I r] [] ⟨.tup [.agg [I oaver, I oastr, I oarol, I oabas, I oalin, .d (.row 1 xoaoff), I oaend, B oaope, I oacod], B ob], [], []⟩ := by
 refine Fn.go su_ch29 Tryz.func38 fun P hP Q hQ => ?_
 conv => cbv
 generalize hr1 : rl01In v 1 2 = r1
 refine .dd hP (Fsl01In hr1) ?_
 cases r1
 simp only [rl01In, decide_eq_true_eq, decide_eq_false_iff_not] at hr1
 conv => cbv
 have e : ((⟨0, 0, 0, 0, 0, [], 0, false, 0⟩ : TWriter), false) = rWriterNew v s r := (by unfold rWriterNew; rw [if_neg (by omega)])
 rw [hr] at e
 simp only [Prod.mk.injEq, TWriter.mk.injEq] at e
 obtain ⟨⟨rfl, rfl, rfl, rfl, rfl, rfl, rfl, rfl, rfl⟩, rfl⟩ := e
 refine hQ _ _ ?_
 exact .many (.inl rfl) rfl rfl (.agg (.d rfl rfl (.d rfl rfl (.d rfl rfl (.d rfl rfl (.d rfl rfl (.ref rfl rfl (by rw [← hoaoff]; rfl) (.d rfl rfl (.d rfl rfl (.d rfl rfl (.nil)))))))))) (.d rfl rfl (.nil)))
 simp only [rl01In, decide_eq_true_eq, decide_eq_false_iff_not] at hr1
 conv => cbv
 generalize hr2 : rl01In s 1 20 = r2
 refine .dd hP (Fsl01In hr2) ?_
 cases r2
 simp only [rl01In, decide_eq_true_eq, decide_eq_false_iff_not] at hr2
 conv => cbv
 have e : ((⟨0, 0, 0, 0, 0, [], 0, false, 0⟩ : TWriter), false) = rWriterNew v s r := (by unfold rWriterNew; rw [if_neg (by omega)])
 rw [hr] at e
 simp only [Prod.mk.injEq, TWriter.mk.injEq] at e
 obtain ⟨⟨rfl, rfl, rfl, rfl, rfl, rfl, rfl, rfl, rfl⟩, rfl⟩ := e
 refine hQ _ _ ?_
 exact .many (.inl rfl) rfl rfl (.agg (.d rfl rfl (.d rfl rfl (.d rfl rfl (.d rfl rfl (.d rfl rfl (.ref rfl rfl (by rw [← hoaoff]; rfl) (.d rfl rfl (.d rfl rfl (.d rfl rfl (.nil)))))))))) (.d rfl rfl (.nil)))
 simp only [rl01In, decide_eq_true_eq, decide_eq_false_iff_not] at hr2
 conv => cbv
 generalize hr3 : rl01In r 1 50 = r3
 refine .dd hP (Fsl01In hr3) ?_
 cases r3
 simp only [rl01In, decide_eq_true_eq, decide_eq_false_iff_not] at hr3
 conv => cbv
 have e : ((⟨0, 0, 0, 0, 0, [], 0, false, 0⟩ : TWriter), false) = rWriterNew v s r := (by unfold rWriterNew; rw [if_neg (by omega)])
 rw [hr] at e
 simp only [Prod.mk.injEq, TWriter.mk.injEq] at e
 obtain ⟨⟨rfl, rfl, rfl, rfl, rfl, rfl, rfl, rfl, rfl⟩, rfl⟩ := e
 refine hQ _ _ ?_
 exact .many (.inl rfl) rfl rfl (.agg (.d rfl rfl (.d rfl rfl (.d rfl rfl (.d rfl rfl (.d rfl rfl (.ref rfl rfl (by rw [← hoaoff]; rfl) (.d rfl rfl (.d rfl rfl (.d rfl rfl (.nil)))))))))) (.d rfl rfl (.nil)))
 simp only [rl01In, decide_eq_true_eq, decide_eq_false_iff_not] at hr3
 conv => cbv
 have e : ((⟨v, s, r, 0, 0, [], 0, false, 0⟩ : TWriter), true) = rWriterNew v s r := (by unfold rWriterNew; rw [if_pos (by omega)])
 rw [hr] at e
 simp only [Prod.mk.injEq, TWriter.mk.injEq] at e
 obtain ⟨⟨rfl, rfl, rfl, rfl, rfl, rfl, rfl, rfl, rfl⟩, rfl⟩ := e
 refine hQ _ _ ?_
 exact .many (.inl rfl) rfl rfl (.agg (.d rfl rfl (.d rfl rfl (.d rfl rfl (.d rfl rfl (.d rfl rfl (.ref rfl rfl (by rw [← hoaoff]; rfl) (.d rfl rfl (.d rfl rfl (.d rfl rfl (.nil)))))))))) (.d rfl rfl (.nil)))
theorem FsSettingOk {sroo : Int} {sver : Int} {sstr : Int} {srol : Int} {o : Bool}  (hr : rSettingOk (⟨sroo, sver, sstr, srol⟩ : TSetting) = o)  : Fn Tryz.prog 13 [.agg [I sroo, I sver, I sstr, I srol]] [] ⟨B o, [], []⟩ := by
 refine Fn.go su_ch29 Tryz.func13 fun P hP Q hQ => ?_
 conv => cbv
 rcases hr1 : rWriterNew sver sstr srol with ⟨⟨r1aver, r1astr, r1arol, r1abas, r1alin, r1aoff, r1aend, r1aope, r1acod⟩, r1b⟩
 generalize hr1aoff : r1aoff.map cI = xr1aoff
 refine .dd hP (FsWriterNew hr1 hr1aoff) ?_
 conv => cbv
 cases r1b
 conv => cbv
 have e : false = rSettingOk (⟨sroo, sver, sstr, srol⟩ : TSetting) := (by unfold rSettingOk; rw [decide_eq_false]; intro hh; have := (rWriterNew_2 hr1).symm; rw [decide_eq_false_iff_not] at this; exact this hh.1)
 rw [hr] at e
 subst e
 exact hQ _ _ (.b rfl rfl)
 conv => cbv
 generalize hr2 : rl01In sroo 0 20000 = r2
 refine .dd hP (Fsl01In hr2) ?_
 cases r2
 simp only [rl01In, decide_eq_true_eq, decide_eq_false_iff_not] at hr2
 conv => cbv
 have e : false = rSettingOk (⟨sroo, sver, sstr, srol⟩ : TSetting) := (by unfold rSettingOk; rw [decide_eq_false]; intro hh; exact hr2 hh.2)
 rw [hr] at e
 subst e
 exact hQ _ _ (.b rfl rfl)
 simp only [rl01In, decide_eq_true_eq, decide_eq_false_iff_not] at hr2
 conv => cbv
 have e : true = rSettingOk (⟨sroo, sver, sstr, srol⟩ : TSetting) := (by unfold rSettingOk; rw [decide_eq_true]; exact ⟨of_decide_eq_true (rWriterNew_2 hr1).symm, hr2⟩)
 rw [hr] at e
 subst e
 exact hQ _ _ (.b rfl rfl)
theorem FiSetLine {sroo : Int} {sver : Int} {sstr : Int} {srol : Int} {o : ByteArray}  (hr : rSetLine (⟨sroo, sver, sstr, srol⟩ : TSetting) = o)  : Fn Tryz.prog 10 [.agg [I sroo, I sver, I sstr, I srol]] [] ⟨S o, [], []⟩ := by
 refine Fn.go su_ch29 Tryz.func10 fun P hP Q hQ => ?_
 conv => cbv
 generalize hr1 : rSettingOk (⟨sroo, sver, sstr, srol⟩ : TSetting) = r1
 refine .dd hP (FiSettingOk hr1) ?_
 cases r1
 conv => cbv
 have e : (tx []) = rSetLine (⟨sroo, sver, sstr, srol⟩ : TSetting) := (by unfold rSetLine; rw [hr1]; rfl)
 rw [hr] at e
 subst e
 exact hQ _ _ (.s rfl rfl)
 conv => cbv
 have hk := of_decide_eq_true (show decide _ = true from hr1)
 dsimp only at hk
 have hf : (∀ n ∈ [sroo, sver, sstr, srol], in64 n) ∧ [sroo, sver, sstr, srol].length ≤ 100 := ⟨by intro n hn; simp only [List.mem_cons, List.not_mem_nil, or_false] at hn; unfold in64; omega, by simp⟩
 generalize hr2 : rfigures [sroo, sver, sstr, srol] = r2
 refine .lnt hP (Fifigures rfl hf hr2) (.ref rfl rfl .nil) ?_
 conv => cbv
 have hb2 := rfigures_b hr2 hf.1
 simp only [List.length_cons, List.length_nil] at hb2
 refine .litL 3 fun s3 hs3 zs3 => ?_
 conv => cbv
 have e : s3 = rSetLine (⟨sroo, sver, sstr, srol⟩ : TSetting) := (by unfold rSetLine; rw [hr1, hs3, hr2]; rfl)
 rw [hr] at e
 subst e
 exact hQ _ _ (.s rfl rfl)
end Go.Proofs.YtmkpihcfglinjaaGreatDoor.Ab
