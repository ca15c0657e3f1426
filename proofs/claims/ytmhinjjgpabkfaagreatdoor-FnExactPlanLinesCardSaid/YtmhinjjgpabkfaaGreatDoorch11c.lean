/- What functions of the program come to, for all arguments in the given bounds. -/
import Derived.Test.YtmhinjjgpabkfaaGreatDoorch11b
set_option linter.unusedVariables false
set_option linter.unusedSimpArgs false
namespace Go.Proofs.YtmhinjjgpabkfaaGreatDoor.Ab
open Go Go.Proofs
set_option maxRecDepth 20000
set_option maxHeartbeats 4000000
set_option linter.unusedSimpArgs false
set_option linter.unusedVariables false
def tab_ch11c : List (Nat × TyRow) := [
  (3, ⟨.int .i64, some 1, some false, none, false, [.int .i64], [], some [(.int .i64 0, 0)], none, none, none⟩),
  (9, ⟨.str, some 1, some false, none, false, [.str], [], some [(.string default, 0)], none, none, none⟩),
  (24, ⟨.sl 1, some 1, some false, some (1, 8), false, [.sl 1], [], some [(.slice none 0 0, 1)], some ([.sc (.int .i64 0)], 1, 8), none, none⟩),
  (99, ⟨.other, some 4, some true, none, false, [.int .i64, .int .i64, .int .i64, .int .i64], [some (0, 1, false), some (1, 1, false), some (2, 1, false), some (3, 1, false)], some [(.int .i64 0, 0), (.int .i64 0, 0), (.int .i64 0, 0), (.int .i64 0, 0)], none, some [(0, 1), (1, 1), (2, 1), (3, 1)], some [.int, .int, .int, .int]⟩),
  (234, ⟨.sl 2, some 1, some false, some (2, 16), false, [.sl 2], [], some [(.slice none 0 0, 2)], some ([.sc (.int .i64 0), .sc (.int .i64 0)], 2, 16), none, none⟩)]
theorem tab_ch11c_ok : TabOk Tryz.prog tab_ch11c := TabOk.of (by kernel_rfl)
theorem su_ch11c : Setup Tryz.prog tab_ch11c := ⟨tab_ch11c_ok, mixed⟩
theorem rFootText_b {h : THead} {offs : List Int} {fin : Int} {o : ByteArray} (e : rFootText h offs fin = o) : o.size ≤ 57 + 10 * offs.length := by rw [← e]; exact rFootText_le _ _ _
theorem FiFootText {hver : Int} {hstr : Int} {hbas : Int} {hlin : Int} {offs : List Int} {xoffs : List (List D)} {fin : Int} {o : ByteArray} (hoffs : offs.map cI = xoffs) (hl : offs.length ≤ 1048576) (hwo : ∀ x ∈ offs, wfI x) (hf : fin < 9223372036854775808) (hr : rFootText (⟨hver, hstr, hbas, hlin⟩ : THead) offs fin = o)  : Fn Tryz.prog 192 [.agg [I hver, I hstr, I hbas, I hlin], .d (.row 1 xoffs), I fin] [] ⟨S o, [], []⟩ := by
 refine Fn.go su_ch11c Tryz.func192 fun P hP Q hQ => ?_
 conv => cbv
 generalize hr1 : rHeadOk (⟨hver, hstr, hbas, hlin⟩ : THead) = r1
 refine .dd hP (FiHeadOk hr1) ?_
 cases r1
 conv => cbv
 have e : (tx []) = rFootText (⟨hver, hstr, hbas, hlin⟩ : THead) offs fin := (by unfold rFootText; rw [if_neg]; rintro ⟨q1, q2, q3, q4⟩; simp only [] at q1 q2 q3 q4; rw [hr1] at q1; cases q1)
 rw [hr] at e
 subst e
 exact hQ _ _ (.s rfl rfl)
 conv => cbv
 have hh := rHeadOk_t hr1
 refine .go hoffs fun v2 hv2 => ?_
 conv => cbv
 refine .add fun v3 hv3 => ?_
 conv => cbv
 generalize hr4 : rEndMark hver v3 = r4
 have zr4 := rEndMark_b hr4
 refine .dd hP (FiEndMark hr4) ?_
 conv => cbv
 generalize hr5 : rPlacesOf hstr offs = l5
 generalize hl5 : l5.map ePlace = xl5
 refine .dd hP (FiPlacesOf hoffs (by omega) hr5 hl5) ?_
 conv => cbv
 have zl5 : l5.length ≤ offs.length := hr5 ▸ rPlacesOf_len
 generalize hr6 : rPlacesText l5 = r6
 have zr6 := rPlacesText_b hr6
 refine .dd hP (FiPlacesText hl5 (by omega) (hr5 ▸ rPlacesOf_wf hwo (by omega)) hr6) ?_
 conv => cbv
 refine .go hoffs fun v7 hv7 => ?_
 conv => cbv
 generalize hr8 : rTrailerText fin v7 hstr 0 = r8
 have zr8 := rTrailerText_b hr8
 refine .dd hP (FiTrailerText (by omega) (by omega) (by omega) (by omega) hr8) ?_
 conv => cbv
 refine .eql (fun h9 => ?_) fun h9 => ?_
 conv => cbv
 have e : (tx []) = rFootText (⟨hver, hstr, hbas, hlin⟩ : THead) offs fin := (by unfold rFootText; rw [if_neg]; rintro ⟨q1, q2, q3, q4⟩; simp only [] at q1 q2 q3 q4; rw [← hv2, ← hv3, hr4] at q2; exact q2 h9)
 rw [hr] at e
 subst e
 exact hQ _ _ (.s rfl rfl)
 conv => cbv
 refine .eql (fun h10 => ?_) fun h10 => ?_
 conv => cbv
 have e : (tx []) = rFootText (⟨hver, hstr, hbas, hlin⟩ : THead) offs fin := (by unfold rFootText; rw [if_neg]; rintro ⟨q1, q2, q3, q4⟩; simp only [] at q1 q2 q3 q4; rw [hr5, hr6] at q3; exact q3 h10)
 rw [hr] at e
 subst e
 exact hQ _ _ (.s rfl rfl)
 conv => cbv
 refine .eql (fun h11 => ?_) fun h11 => ?_
 conv => cbv
 have e : (tx []) = rFootText (⟨hver, hstr, hbas, hlin⟩ : THead) offs fin := (by unfold rFootText; rw [if_neg]; rintro ⟨q1, q2, q3, q4⟩; simp only [] at q1 q2 q3 q4; rw [← hv7, hr8] at q4; exact q4 h11)
 rw [hr] at e
 subst e
 exact hQ _ _ (.s rfl rfl)
 conv => cbv
 refine .go fun s12 hs12 zs12 => ?_
 conv => cbv
 have z8 : r8.size = 20 := by rw [← hr8]; exact rTrailerText_20 (by rw [hr8]; exact h11)
 refine .hi fun s13 hs13 => ?_
 conv => cbv
 have z13 : s13.size = 12 := by rw [hs13, ext_size (by omega) (by omega)]; rfl
 refine .go fun s14 hs14 zs14 => ?_
 conv => cbv
 generalize hr15 : rSumOf s14 = r15
 have zr15 := rSumOf_b hr15
 refine .dd hP (FiSumOf (by omega) hr15) ?_
 conv => cbv
 refine .go fun s16 hs16 zs16 => ?_
 conv => cbv
 refine .go hoffs fun v17 hv17 => ?_
 conv => cbv
 generalize hr18 : rTrailerText fin v17 hstr r15 = r18
 have zr18 := rTrailerText_b hr18
 refine .dd hP (FiTrailerText (by omega) (by omega) (by omega) (by omega) hr18) ?_
 conv => cbv
 refine .go fun s19 hs19 zs19 => ?_
 conv => cbv
 have e : s19 = rFootText (⟨hver, hstr, hbas, hlin⟩ : THead) offs fin := (by have q : rFootText ⟨hver, hstr, hbas, hlin⟩ offs fin = _ := if_pos ⟨hr1, by simp only []; rw [← hv2, ← hv3, hr4]; exact h9, by simp only []; rw [hr5, hr6]; exact h10, by simp only []; rw [← hv7, hr8]; exact h11⟩; rw [q]; simp only []; rw [← hv2, ← hv3, hr4, hr5, hr6, show (v2 : Int) = v7 by omega, hr8, ← hs12, hs19, hs16, ← hs12, ← hr18, ← hr15, hs14, hs13, show v17 = v7 by omega]; rfl)
 rw [hr] at e
 subst e
 exact hQ _ _ (.s rfl rfl)
theorem FsFootText {hver : Int} {hstr : Int} {hbas : Int} {hlin : Int} {offs : List Int} {xoffs : List (List D)} {fin : Int} {o : ByteArray} (hoffs : offs.map cI = xoffs) (hl : offs.length ≤ 1048576) (hwo : ∀ x ∈ offs, wfI x) (hf : fin < 9223372036854775808) (hr : rFootText (⟨hver, hstr, hbas, hlin⟩ : THead) offs fin = o)  : Fn Tryz.prog 179 [.agg [I hver, I hstr, I hbas, I hlin], .d (.row 1 xoffs), I fin] [] ⟨S o, [], []⟩ := by
 refine Fn.go su_ch11c Tryz.func179 fun P hP Q hQ => ?_
 conv => cbv
 generalize hr1 : rHeadOk (⟨hver, hstr, hbas, hlin⟩ : THead) = r1
 refine .dd hP (FsHeadOk hr1) ?_
 cases r1
 conv => cbv
 have e : (tx []) = rFootText (⟨hver, hstr, hbas, hlin⟩ : THead) offs fin := (by unfold rFootText; rw [if_neg]; rintro ⟨q1, q2, q3, q4⟩; simp only [] at q1 q2 q3 q4; rw [hr1] at q1; cases q1)
 rw [hr] at e
 subst e
 exact hQ _ _ (.s rfl rfl)
 conv => cbv
 have hh := rHeadOk_t hr1
 refine .go hoffs fun v2 hv2 => ?_
 conv => cbv
 refine .add fun v3 hv3 => ?_
 conv => cbv
 generalize hr4 : rEndMark hver v3 = r4
 have zr4 := rEndMark_b hr4
 refine .dd hP (FsEndMark hr4) ?_
 conv => cbv
 generalize hr5 : rPlacesOf hstr offs = l5
 generalize hl5 : l5.map ePlace = xl5
 refine .dd hP (FsPlacesOf hoffs (by omega) hr5 hl5) ?_
 conv => cbv
 have zl5 : l5.length ≤ offs.length := hr5 ▸ rPlacesOf_len
 generalize hr6 : rPlacesText l5 = r6
 have zr6 := rPlacesText_b hr6
 refine .dd hP (FsPlacesText hl5 (by omega) (hr5 ▸ rPlacesOf_wf hwo (by omega)) hr6) ?_
 conv => cbv
 refine .go hoffs fun v7 hv7 => ?_
 conv => cbv
 generalize hr8 : rTrailerText fin v7 hstr 0 = r8
 have zr8 := rTrailerText_b hr8
 refine .dd hP (FsTrailerText (by omega) (by omega) (by omega) (by omega) hr8) ?_
 conv => cbv
 refine .eql (fun h9 => ?_) fun h9 => ?_
 conv => cbv
 have e : (tx []) = rFootText (⟨hver, hstr, hbas, hlin⟩ : THead) offs fin := (by unfold rFootText; rw [if_neg]; rintro ⟨q1, q2, q3, q4⟩; simp only [] at q1 q2 q3 q4; rw [← hv2, ← hv3, hr4] at q2; exact q2 h9)
 rw [hr] at e
 subst e
 exact hQ _ _ (.s rfl rfl)
 conv => cbv
 refine .eql (fun h10 => ?_) fun h10 => ?_
 conv => cbv
 have e : (tx []) = rFootText (⟨hver, hstr, hbas, hlin⟩ : THead) offs fin := (by unfold rFootText; rw [if_neg]; rintro ⟨q1, q2, q3, q4⟩; simp only [] at q1 q2 q3 q4; rw [hr5, hr6] at q3; exact q3 h10)
 rw [hr] at e
 subst e
 exact hQ _ _ (.s rfl rfl)
 conv => cbv
 refine .eql (fun h11 => ?_) fun h11 => ?_
 conv => cbv
 have e : (tx []) = rFootText (⟨hver, hstr, hbas, hlin⟩ : THead) offs fin := (by unfold rFootText; rw [if_neg]; rintro ⟨q1, q2, q3, q4⟩; simp only [] at q1 q2 q3 q4; rw [← hv7, hr8] at q4; exact q4 h11)
 rw [hr] at e
 subst e
 exact hQ _ _ (.s rfl rfl)
 conv => cbv
 refine .go fun s12 hs12 zs12 => ?_
 conv => cbv
 have z8 : r8.size = 20 := by rw [← hr8]; exact rTrailerText_20 (by rw [hr8]; exact h11)
 refine .hi fun s13 hs13 => ?_
 conv => cbv
 have z13 : s13.size = 12 := by rw [hs13, ext_size (by omega) (by omega)]; rfl
 refine .go fun s14 hs14 zs14 => ?_
 conv => cbv
 generalize hr15 : rSumOf s14 = r15
 have zr15 := rSumOf_b hr15
 refine .dd hP (FsSumOf (by omega) hr15) ?_
 conv => cbv
 refine .go fun s16 hs16 zs16 => ?_
 conv => cbv
 refine .go hoffs fun v17 hv17 => ?_
 conv => cbv
 generalize hr18 : rTrailerText fin v17 hstr r15 = r18
 have zr18 := rTrailerText_b hr18
 refine .dd hP (FsTrailerText (by omega) (by omega) (by omega) (by omega) hr18) ?_
 conv => cbv
 refine .go fun s19 hs19 zs19 => ?_
 conv => cbv
 have e : s19 = rFootText (⟨hver, hstr, hbas, hlin⟩ : THead) offs fin := (by have q : rFootText ⟨hver, hstr, hbas, hlin⟩ offs fin = _ := if_pos ⟨hr1, by simp only []; rw [← hv2, ← hv3, hr4]; exact h9, by simp only []; rw [hr5, hr6]; exact h10, by simp only []; rw [← hv7, hr8]; exact h11⟩; rw [q]; simp only []; rw [← hv2, ← hv3, hr4, hr5, hr6, show (v2 : Int) = v7 by omega, hr8, ← hs12, hs19, hs16, ← hs12, ← hr18, ← hr15, hs14, hs13, show v17 = v7 by omega]; rfl)
 rw [hr] at e
 subst e
 exact hQ _ _ (.s rfl rfl)
end Go.Proofs.YtmhinjjgpabkfaaGreatDoor.Ab
