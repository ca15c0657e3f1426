/- What functions of the program come to, for all arguments in the given bounds. -/
import Derived.Test.YtmhinjjgpabkfaaGreatDoorch09
set_option linter.unusedVariables false
set_option linter.unusedSimpArgs false
namespace Go.Proofs.YtmhinjjgpabkfaaGreatDoor.Ab
open Go Go.Proofs
set_option maxRecDepth 20000
set_option maxHeartbeats 4000000
set_option linter.unusedSimpArgs false
set_option linter.unusedVariables false
def tab_ch10 : List (Nat × TyRow) := [
  (3, ⟨.int .i64, some 1, some false, none, false, [.int .i64], [], some [(.int .i64 0, 0)], none, none, none⟩),
  (4, ⟨.bool, some 1, some false, none, false, [.bool], [], some [(.bool false, 0)], none, none, none⟩),
  (9, ⟨.str, some 1, some false, none, false, [.str], [], some [(.string default, 0)], none, none, none⟩),
  (24, ⟨.sl 1, some 1, some false, some (1, 8), false, [.sl 1], [], some [(.slice none 0 0, 1)], some ([.sc (.int .i64 0)], 1, 8), none, none⟩),
  (41, ⟨.sl 1, some 1, some false, some (1, 16), false, [.sl 1], [], some [(.slice none 0 0, 1)], some ([.sc (.string default)], 1, 16), none, none⟩),
  (99, ⟨.other, some 4, some true, none, false, [.int .i64, .int .i64, .int .i64, .int .i64], [some (0, 1, false), some (1, 1, false), some (2, 1, false), some (3, 1, false)], some [(.int .i64 0, 0), (.int .i64 0, 0), (.int .i64 0, 0), (.int .i64 0, 0)], none, some [(0, 1), (1, 1), (2, 1), (3, 1)], some [.int, .int, .int, .int]⟩),
  (101, ⟨.other, some 9, some true, none, false, [.bool, .int .i64, .int .i64, .int .i64, .int .i64, .sl 1, .sl 1, .int .i64, .bool], [some (0, 1, false), some (1, 4, true), some (5, 1, false), some (6, 1, false), some (7, 1, false), some (8, 1, false)], some [(.bool false, 0), (.int .i64 0, 0), (.int .i64 0, 0), (.int .i64 0, 0), (.int .i64 0, 0), (.slice none 0 0, 1), (.slice none 0 0, 1), (.int .i64 0, 0), (.bool false, 0)], none, some [(0, 1), (1, 4), (5, 1), (6, 1), (7, 1), (8, 1)], none⟩)]
theorem tab_ch10_ok : TabOk Tryz.prog tab_ch10 := TabOk.of (by kernel_rfl)
theorem su_ch10 : Setup Tryz.prog tab_ch10 := ⟨tab_ch10_ok, mixed⟩
def scanL (h : THead) (b : ByteArray) (n : Nat) (p : Int) : List ByteArray × List Int × Int × Bool :=
  if rMarkAt h.version_ (h.base_ + n) b p = true then ([], [], p, true)
  else match rReadFrame h.version_ (h.base_ + n) b p with
    | (r, q, true) => if p < q ∧ q ≤ b.size then (r :: (scanL h b (n + 1) q).1, p :: (scanL h b (n + 1) q).2.1, (scanL h b (n + 1) q).2.2) else ([], [], p, false)
    | _ => ([], [], p, false)
termination_by (b.size - p).toNat
decreasing_by all_goals omega
def rScanText (b : ByteArray) : TScan := match rReadHead b with
  | (h, true) => ⟨true, h, (scanL h b 0 24).1, (scanL h b 0 24).2.1, (scanL h b 0 24).2.2.1, (scanL h b 0 24).2.2.2⟩
  | _ => ⟨false, ⟨0, 0, 0, 0⟩, [], [], 0, false⟩
theorem rFrameText_pos {v n : Int} {r t : ByteArray} (e : rFrameText v n r = t) (h : t ≠ tx []) : 5 ≤ t.size := by
  unfold rFrameText at e
  split at e
  · rename_i hh
    have h4 := rFixText4 _ (rSumOf_lt r)
    have h1 : 1 ≤ (if v = 2 then rsized n r.size else rVarText r.size).size := by
      split
      · unfold rsized
        rw [ByteArray.size_append, rFixText4 _ (by omega)]
        omega
      · unfold rVarText
        rw [if_pos (by omega), tx_size]
        exact List.length_pos_iff.2 (varL_ne _)
    rw [← e, ByteArray.size_append, ByteArray.size_append]
    omega
  · exact absurd e.symm h
theorem rReadFrame_ok {v n p q : Int} {b r : ByteArray} (h : rReadFrame v n b p = (r, q, true)) : 0 ≤ p ∧ p + 5 ≤ q ∧ q ≤ b.size ∧ r.size ≤ 60 ∧ (v = 1 ∨ v = 2) ∧ 0 ≤ n ∧ n ≤ 1000000000 ∧ q = p + (rFrameText v n r).size ∧ rhasAt b p (rFrameText v n r) = true := by
  have key : ∀ {x s : Int}, 0 ≤ s → 0 ≤ x → rframeAt v n b p x s = (r, q, true) → 0 ≤ p ∧ p + 5 ≤ q ∧ q ≤ b.size ∧ r.size ≤ 60 ∧ (v = 1 ∨ v = 2) ∧ 0 ≤ n ∧ n ≤ 1000000000 ∧ q = p + (rFrameText v n r).size ∧ rhasAt b p (rFrameText v n r) = true := by
    intro x s hs hx e
    unfold rframeAt at e
    split at e
    · rename_i hh
      obtain ⟨h1, h2, h3, h4⟩ := hh
      simp only [Prod.mk.injEq, and_true] at e
      obtain ⟨rfl, rfl⟩ := e
      have h5 := rFrameText_pos rfl h3
      have h6 := of_decide_eq_true h4
      have h7 : (b.extract s.toNat (s + x).toNat).size = x.toNat := by rw [ext_size (by omega) (by omega)]; omega
      have h8 : (v = 1 ∨ v = 2) ∧ 0 ≤ n ∧ n ≤ 1000000000 := by
        by_cases hh : (v = 1 ∨ v = 2) ∧ 0 ≤ n ∧ n ≤ 1000000000
        · exact hh
        · exact absurd (rFrameText_none hh) h3
      exact ⟨h6.1.1, by omega, by omega, by omega, h8.1, h8.2.1, h8.2.2, rfl, h4⟩
    · simp at e
  rcases h1 : rReadFix b p 4 with ⟨x, ok⟩
  rcases h2 : rReadVar b p with ⟨y, s, ok2⟩
  by_cases hv : v = 2
  · rw [rf_new hv h1] at h
    cases ok
    · simp at h
    · have := rReadFix_ok h1
      exact key (by omega) (by omega) h
  · rw [rf_old hv h2] at h
    cases ok2
    · simp at h
    · have := rReadVar_ok h2
      exact key (by omega) (by omega) h
theorem scanL_mark {h : THead} {b : ByteArray} {n : Nat} {p : Int} (hm : rMarkAt h.version_ (h.base_ + n) b p = true) : scanL h b n p = ([], [], p, true) := by rw [scanL, if_pos hm]
theorem scanL_stop {h : THead} {b : ByteArray} {n : Nat} {p : Int} {r : ByteArray} {q : Int} (hm : rMarkAt h.version_ (h.base_ + n) b p = false) (hf : rReadFrame h.version_ (h.base_ + n) b p = (r, q, false)) : scanL h b n p = ([], [], p, false) := by rw [scanL, if_neg (by rw [hm]; simp), hf]
theorem scanL_next {h : THead} {b : ByteArray} {n : Nat} {p : Int} {r : ByteArray} {q : Int} (hm : rMarkAt h.version_ (h.base_ + n) b p = false) (hf : rReadFrame h.version_ (h.base_ + n) b p = (r, q, true)) : scanL h b n p = (r :: (scanL h b (n + 1) q).1, p :: (scanL h b (n + 1) q).2.1, (scanL h b (n + 1) q).2.2) := by
  have := rReadFrame_ok hf
  rw [scanL, if_neg (by rw [hm]; simp), hf]
  simp only []
  rw [if_pos (by omega)]
theorem FiScanText {b : ByteArray} {ook : Bool} {oheaver : Int} {oheastr : Int} {oheabas : Int} {ohealin : Int} {orec : List ByteArray} {xorec : List (List D)} {ooff : List Int} {xooff : List (List D)} {oend : Int} {omar : Bool}  (hs : b.size < 2 ^ 47) (hr : rScanText b = ⟨ook, ⟨oheaver, oheastr, oheabas, ohealin⟩, orec, ooff, oend, omar⟩) (horec : orec.map cS = xorec) (hooff : ooff.map cI = xooff) : Fn Tryz.prog 154 [S b] [] ⟨.agg [B ook, I oheaver, I oheastr, I oheabas, I ohealin, .d (.row 1 xorec), .d (.row 1 xooff), I oend, B omar], [], []⟩ := by
 refine Fn.go su_ch10 Tryz.func154 fun P hP Q hQ => ?_
 conv => cbv
 rcases hr1 : rReadHead b with ⟨⟨r1aver, r1astr, r1abas, r1alin⟩, r1b⟩
 refine .dd hP (FiReadHead (by omega) hr1) ?_
 conv => cbv
 cases r1b
 conv => cbv
 have e : (⟨false, ⟨0, 0, 0, 0⟩, [], [], 0, false⟩ : TScan) = rScanText b := (by unfold rScanText; rw [hr1])
 rw [hr] at e
 simp only [THead.mk.injEq, TScan.mk.injEq] at e
 obtain ⟨rfl, ⟨rfl, rfl, rfl, rfl⟩, rfl, rfl, rfl, rfl⟩ := e
 exact hQ _ _ (.one (.inl rfl) rfl (.agg (.d rfl rfl (.d rfl rfl (.d rfl rfl (.d rfl rfl (.d rfl rfl (.ref rfl rfl (by rw [← horec]; rfl) (.ref rfl rfl (by rw [← hooff]; rfl) (.d rfl rfl (.d rfl rfl (.nil)))))))))) .nil))
 conv => cbv
 refine LoopW.lp (κ := Int × (List (List D)) × Nat × (List (List D)) × Nat) su_ch10 hP [4, 5] [0, 2, 3, 5] (fun (c8h, zw9, nw9, zw10, nw10) => []) (fun (c8h, zw9, nw9, zw10, nw10) => [(8, .box 101 [B true, I r1aver, I r1astr, I r1abas, I r1alin, .ref 9 0 nw9, .ref 10 0 nw10, I c8h, B false]), (9, .row 1 false zw9), (10, .row 1 false zw10)])
   (fun (c8h, zw9, nw9, zw10, nw10) => ∃ (w9 : List ByteArray) (w10 : List Int), w9.map cS = zw9 ∧ nw9 = w9.length ∧ w10.map cI = zw10 ∧ nw10 = w10.length ∧ (24 ≤ c8h ∧ c8h ≤ b.size ∧ w9.length = w10.length ∧ 5 * (w9.length : Int) + 24 ≤ c8h) ∧ scanL ⟨r1aver, r1astr, r1abas, r1alin⟩ b 0 24 = (w9 ++ (scanL ⟨r1aver, r1astr, r1abas, r1alin⟩ b w9.length c8h).1, w10 ++ (scanL ⟨r1aver, r1astr, r1abas, r1alin⟩ b w9.length c8h).2.1, (scanL ⟨r1aver, r1astr, r1abas, r1alin⟩ b w9.length c8h).2.2))
   (fun (c8h, zw9, nw9, zw10, nw10) => (b.size - c8h).toNat) (24, [], 0, [], 0) ⟨[], [], rfl, rfl, rfl, rfl, by have := rReadHead_t hr1; simp; omega, rfl⟩ trivial rfl ?_
 rintro ⟨c8h, zw9, nw9, zw10, nw10⟩ J ⟨w9, w10, hw9, hnw9, hw10, hnw10, hb, hS⟩ hJ
 have hd := rHeadOk_t (rReadHead_t hr1).2.2
 conv => cbv
 refine .go fun v2 hv2 => ?_
 conv => cbv
 refine .add fun v3 hv3 => ?_
 conv => cbv
 have e3 : v3 = r1abas + (w9.length : Int) := by omega
 generalize hr4 : rMarkAt r1aver v3 b c8h = r4
 refine .dd hP (FiMarkAt (by omega) (by omega) hr4) ?_
 cases r4
 conv => cbv
 rcases hr5 : rReadFrame r1aver v3 b c8h with ⟨r5a, r5b, r5c⟩
 refine .dd hP (FiReadFrame (by omega) (by omega) hr5) ?_
 conv => cbv
 cases r5c
 conv => cbv
 have e : (⟨true, ⟨r1aver, r1astr, r1abas, r1alin⟩, w9, w10, c8h, false⟩ : TScan) = rScanText b := (by rw [e3] at hr4 hr5; unfold rScanText; rw [hr1]; simp only []; rw [hS, scanL_stop (h := ⟨r1aver, r1astr, r1abas, r1alin⟩) hr4 hr5]; simp)
 rw [hr] at e
 simp only [THead.mk.injEq, TScan.mk.injEq] at e
 obtain ⟨rfl, ⟨rfl, rfl, rfl, rfl⟩, rfl, rfl, rfl, rfl⟩ := e
 exact hQ _ _ (.one (.inl rfl) rfl (.agg (.d rfl rfl (.d rfl rfl (.d rfl rfl (.d rfl rfl (.d rfl rfl (.ref rfl (by rw [← hw9, List.length_map]; first | omega | (simp; omega)) (by rw [← hw9, ← horec]) (.ref rfl (by rw [← hw10, List.length_map]; first | omega | (simp; omega)) (by rw [← hw10, ← hooff]) (.d rfl rfl (.d rfl rfl (.nil)))))))))) .nil))
 conv => cbv
 have hf := rReadFrame_ok hr5
 refine .one r5a hw9 rfl fun nz6 z6 hnz6 hz6 => ?_
 conv => cbv
 refine .one c8h hw10 rfl fun nz7 z7 hnz7 hz7 => ?_
 conv => cbv
 exact .go [12, 14] (r5b, z6, nz6, z7, nz7) (hJ _ ⟨_, _, hz6, (by first | omega | (simp; omega)), hz7, (by first | omega | (simp; omega)), by simp; omega, by rw [e3] at hr4 hr5; rw [hS, scanL_next (h := ⟨r1aver, r1astr, r1abas, r1alin⟩) hr4 hr5]; simp [List.append_assoc]⟩ (by first | (dsimp only; omega) | omega))
 conv => cbv
 have e : (⟨true, ⟨r1aver, r1astr, r1abas, r1alin⟩, w9, w10, c8h, true⟩ : TScan) = rScanText b := (by rw [e3] at hr4; unfold rScanText; rw [hr1]; simp only []; rw [hS, scanL_mark (h := ⟨r1aver, r1astr, r1abas, r1alin⟩) hr4]; simp)
 rw [hr] at e
 simp only [THead.mk.injEq, TScan.mk.injEq] at e
 obtain ⟨rfl, ⟨rfl, rfl, rfl, rfl⟩, rfl, rfl, rfl, rfl⟩ := e
 exact hQ _ _ (.one (.inl rfl) rfl (.agg (.d rfl rfl (.d rfl rfl (.d rfl rfl (.d rfl rfl (.d rfl rfl (.ref rfl (by rw [← hw9, List.length_map]; first | omega | (simp; omega)) (by rw [← hw9, ← horec]) (.ref rfl (by rw [← hw10, List.length_map]; first | omega | (simp; omega)) (by rw [← hw10, ← hooff]) (.d rfl rfl (.d rfl rfl (.nil)))))))))) .nil))
theorem FsScanText {b : ByteArray} {ook : Bool} {oheaver : Int} {oheastr : Int} {oheabas : Int} {ohealin : Int} {orec : List ByteArray} {xorec : List (List D)} {ooff : List Int} {xooff : List (List D)} {oend : Int} {omar : Bool}  (hs : b.size < 2 ^ 47) (hr : rScanText b = ⟨ook, ⟨oheaver, oheastr, oheabas, ohealin⟩, orec, ooff, oend, omar⟩) (horec : orec.map cS = xorec) (hooff : ooff.map cI = xooff) : Fn Tryz.prog 107 [S b] [] ⟨.agg [B ook, I oheaver, I oheastr, I oheabas, I ohealin, .d (.row 1 xorec), .d (.row 1 xooff), I oend, B omar], [], []⟩ := by
 refine Fn.go su_ch10 Tryz.func107 fun P hP Q hQ => ?_
 conv => cbv
 rcases hr1 : rReadHead b with ⟨⟨r1aver, r1astr, r1abas, r1alin⟩, r1b⟩
 refine .dd hP (FsReadHead (by omega) hr1) ?_
 conv => cbv
 cases r1b
 conv => cbv
 have e : (⟨false, ⟨0, 0, 0, 0⟩, [], [], 0, false⟩ : TScan) = rScanText b := (by unfold rScanText; rw [hr1])
 rw [hr] at e
 simp only [THead.mk.injEq, TScan.mk.injEq] at e
 obtain ⟨rfl, ⟨rfl, rfl, rfl, rfl⟩, rfl, rfl, rfl, rfl⟩ := e
 exact hQ _ _ (.one (.inl rfl) rfl (.agg (.d rfl rfl (.d rfl rfl (.d rfl rfl (.d rfl rfl (.d rfl rfl (.ref rfl rfl (by rw [← horec]; rfl) (.ref rfl rfl (by rw [← hooff]; rfl) (.d rfl rfl (.d rfl rfl (.nil)))))))))) .nil))
 conv => cbv
 refine LoopW.lp (κ := Int × (List (List D)) × Nat × (List (List D)) × Nat) su_ch10 hP [4, 5] [0, 2, 3, 5] (fun (c8h, zw9, nw9, zw10, nw10) => []) (fun (c8h, zw9, nw9, zw10, nw10) => [(8, .box 101 [B true, I r1aver, I r1astr, I r1abas, I r1alin, .ref 9 0 nw9, .ref 10 0 nw10, I c8h, B false]), (9, .row 1 false zw9), (10, .row 1 false zw10)])
   (fun (c8h, zw9, nw9, zw10, nw10) => ∃ (w9 : List ByteArray) (w10 : List Int), w9.map cS = zw9 ∧ nw9 = w9.length ∧ w10.map cI = zw10 ∧ nw10 = w10.length ∧ (24 ≤ c8h ∧ c8h ≤ b.size ∧ w9.length = w10.length ∧ 5 * (w9.length : Int) + 24 ≤ c8h) ∧ scanL ⟨r1aver, r1astr, r1abas, r1alin⟩ b 0 24 = (w9 ++ (scanL ⟨r1aver, r1astr, r1abas, r1alin⟩ b w9.length c8h).1, w10 ++ (scanL ⟨r1aver, r1astr, r1abas, r1alin⟩ b w9.length c8h).2.1, (scanL ⟨r1aver, r1astr, r1abas, r1alin⟩ b w9.length c8h).2.2))
   (fun (c8h, zw9, nw9, zw10, nw10) => (b.size - c8h).toNat) (24, [], 0, [], 0) ⟨[], [], rfl, rfl, rfl, rfl, by have := rReadHead_t hr1; simp; omega, rfl⟩ trivial rfl ?_
 rintro ⟨c8h, zw9, nw9, zw10, nw10⟩ J ⟨w9, w10, hw9, hnw9, hw10, hnw10, hb, hS⟩ hJ
 have hd := rHeadOk_t (rReadHead_t hr1).2.2
 conv => cbv
 refine .go fun v2 hv2 => ?_
 conv => cbv
 refine .add fun v3 hv3 => ?_
 conv => cbv
 have e3 : v3 = r1abas + (w9.length : Int) := by omega
 generalize hr4 : rMarkAt r1aver v3 b c8h = r4
 refine .dd hP (FsMarkAt (by omega) (by omega) hr4) ?_
 cases r4
 conv => cbv
 rcases hr5 : rReadFrame r1aver v3 b c8h with ⟨r5a, r5b, r5c⟩
 refine .dd hP (FsReadFrame (by omega) (by omega) hr5) ?_
 conv => cbv
 cases r5c
 conv => cbv
 have e : (⟨true, ⟨r1aver, r1astr, r1abas, r1alin⟩, w9, w10, c8h, false⟩ : TScan) = rScanText b := (by rw [e3] at hr4 hr5; unfold rScanText; rw [hr1]; simp only []; rw [hS, scanL_stop (h := ⟨r1aver, r1astr, r1abas, r1alin⟩) hr4 hr5]; simp)
 rw [hr] at e
 simp only [THead.mk.injEq, TScan.mk.injEq] at e
 obtain ⟨rfl, ⟨rfl, rfl, rfl, rfl⟩, rfl, rfl, rfl, rfl⟩ := e
 exact hQ _ _ (.one (.inl rfl) rfl (.agg (.d rfl rfl (.d rfl rfl (.d rfl rfl (.d rfl rfl (.d rfl rfl (.ref rfl (by rw [← hw9, List.length_map]; first | omega | (simp; omega)) (by rw [← hw9, ← horec]) (.ref rfl (by rw [← hw10, List.length_map]; first | omega | (simp; omega)) (by rw [← hw10, ← hooff]) (.d rfl rfl (.d rfl rfl (.nil)))))))))) .nil))
 conv => cbv
 have hf := rReadFrame_ok hr5
 refine .one r5a hw9 rfl fun nz6 z6 hnz6 hz6 => ?_
 conv => cbv
 refine .one c8h hw10 rfl fun nz7 z7 hnz7 hz7 => ?_
 conv => cbv
 exact .go [12, 14] (r5b, z6, nz6, z7, nz7) (hJ _ ⟨_, _, hz6, (by first | omega | (simp; omega)), hz7, (by first | omega | (simp; omega)), by simp; omega, by rw [e3] at hr4 hr5; rw [hS, scanL_next (h := ⟨r1aver, r1astr, r1abas, r1alin⟩) hr4 hr5]; simp [List.append_assoc]⟩ (by first | (dsimp only; omega) | omega))
 conv => cbv
 have e : (⟨true, ⟨r1aver, r1astr, r1abas, r1alin⟩, w9, w10, c8h, true⟩ : TScan) = rScanText b := (by rw [e3] at hr4; unfold rScanText; rw [hr1]; simp only []; rw [hS, scanL_mark (h := ⟨r1aver, r1astr, r1abas, r1alin⟩) hr4]; simp)
 rw [hr] at e
 simp only [THead.mk.injEq, TScan.mk.injEq] at e
 obtain ⟨rfl, ⟨rfl, rfl, rfl, rfl⟩, rfl, rfl, rfl, rfl⟩ := e
 exact hQ _ _ (.one (.inl rfl) rfl (.agg (.d rfl rfl (.d rfl rfl (.d rfl rfl (.d rfl rfl (.d rfl rfl (.ref rfl (by rw [← hw9, List.length_map]; first | omega | (simp; omega)) (by rw [← hw9, ← horec]) (.ref rfl (by rw [← hw10, List.length_map]; first | omega | (simp; omega)) (by rw [← hw10, ← hooff]) (.d rfl rfl (.d rfl rfl (.nil)))))))))) .nil))
end Go.Proofs.YtmhinjjgpabkfaaGreatDoor.Ab
