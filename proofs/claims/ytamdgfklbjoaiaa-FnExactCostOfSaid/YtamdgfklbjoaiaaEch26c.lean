/- What functions of the program come to, for all arguments in the given bounds. -/
import Derived.Test.YtamdgfklbjoaiaaEch11c
set_option linter.unusedVariables false
set_option linter.unusedSimpArgs false
namespace Go.Proofs.Ytamdgfklbjoaiaa.Ab
open Go Go.Proofs
set_option maxRecDepth 20000
set_option maxHeartbeats 4000000
set_option linter.unusedSimpArgs false
set_option linter.unusedVariables false
def tab_ch26c : List (Nat × TyRow) := [
  (3, ⟨.int .i64, some 1, some false, none, false, [.int .i64], [], some [(.int .i64 0, 0)], none, none, none⟩),
  (4, ⟨.bool, some 1, some false, none, false, [.bool], [], some [(.bool false, 0)], none, none, none⟩),
  (9, ⟨.str, some 1, some false, none, false, [.str], [], some [(.string default, 0)], none, none, none⟩),
  (25, ⟨.sl 1, some 1, some false, some (1, 8), false, [.sl 1], [], some [(.slice none 0 0, 1)], some ([.sc (.int .i64 0)], 1, 8), none, none⟩),
  (65, ⟨.other, some 9, some true, none, false, [.int .i64, .int .i64, .int .i64, .int .i64, .int .i64, .sl 1, .int .i64, .bool, .int .i64], [some (0, 1, false), some (1, 1, false), some (2, 1, false), some (3, 1, false), some (4, 1, false), some (5, 1, false), some (6, 1, false), some (7, 1, false), some (8, 1, false)], some [(.int .i64 0, 0), (.int .i64 0, 0), (.int .i64 0, 0), (.int .i64 0, 0), (.int .i64 0, 0), (.slice none 0 0, 1), (.int .i64 0, 0), (.bool false, 0), (.int .i64 0, 0)], none, some [(0, 1), (1, 1), (2, 1), (3, 1), (4, 1), (5, 1), (6, 1), (7, 1), (8, 1)], none⟩),
  (107, ⟨.other, some 4, some true, none, false, [.int .i64, .int .i64, .int .i64, .int .i64], [some (0, 1, false), some (1, 1, false), some (2, 1, false), some (3, 1, false)], some [(.int .i64 0, 0), (.int .i64 0, 0), (.int .i64 0, 0), (.int .i64 0, 0)], none, some [(0, 1), (1, 1), (2, 1), (3, 1)], some [.int, .int, .int, .int]⟩)]
theorem tab_ch26c_ok : TabOk Try.prog tab_ch26c := TabOk.of (by kernel_rfl)
theorem su_ch26c : Setup Try.prog tab_ch26c := ⟨tab_ch26c_ok, mixed⟩
/-! What a record costs. -/
def rl16Head (w : TWriter) : THead := ⟨w.version_, w.stride_, w.base_, w.link_⟩
def rhead (w : TWriter) : THead := ⟨w.version_, w.stride_, w.base_, w.link_⟩
def wPlace (w : TWriter) : Int := if w.open_ = true then IntKind.i64.wrap (w.base_ + w.offsets_.length) else w.base_
def rCostOf (w : TWriter) (s : ByteArray) : Int :=
  if w.code_ ≠ 0 ∨ 60 < s.size then 0 else
  (if w.open_ = true ∧ w.roll_ ≤ w.offsets_.length then ((rFootText ⟨w.version_, w.stride_, w.base_, w.link_⟩ w.offsets_ w.end_).size : Int) else 0)
    + (if w.open_ = false ∨ w.roll_ ≤ w.offsets_.length then ((rHeadText ⟨w.version_, w.stride_, wPlace w, 0⟩).size : Int) else 0)
    + (rFrameText w.version_ (wPlace w) s).size
theorem Fsl16Head {wver : Int} {wstr : Int} {wrol : Int} {wbas : Int} {wlin : Int} {woff : List Int} {xwoff : List (List D)} {wend : Int} {wope : Bool} {wcod : Int} {over : Int} {ostr : Int} {obas : Int} {olin : Int} (hwoff : woff.map cI = xwoff) (hr : rl16Head (⟨wver, wstr, wrol, wbas, wlin, woff, wend, wope, wcod⟩ : TWriter) = ⟨over, ostr, obas, olin⟩)  : Fn Try.prog 77 [.agg [I wver, I wstr, I wrol, I wbas, I wlin, .d (.row 1 xwoff), I wend, B wope, I wcod]] [] ⟨.agg [I over, I ostr, I obas, I olin], [], []⟩ := by
  refine Fn.go su_ch26c Try.func77 fun P hP Q hQ => ?_
  conv => cbv
  have e : (⟨wver, wstr, wbas, wlin⟩ : THead) = rl16Head (⟨wver, wstr, wrol, wbas, wlin, woff, wend, wope, wcod⟩ : TWriter) := (by rfl)
  rw [hr] at e
  simp only [THead.mk.injEq] at e
  obtain ⟨rfl, rfl, rfl, rfl⟩ := e
  exact hQ _ _ (.one (.inl rfl) rfl (.agg (.d rfl rfl (.d rfl rfl (.d rfl rfl (.d rfl rfl (.nil))))) .nil))
theorem FiWriter_head {wver : Int} {wstr : Int} {wrol : Int} {wbas : Int} {wlin : Int} {woff : List Int} {xwoff : List (List D)} {wend : Int} {wope : Bool} {wcod : Int} {over : Int} {ostr : Int} {obas : Int} {olin : Int} (hwoff : woff.map cI = xwoff) (hr : rhead (⟨wver, wstr, wrol, wbas, wlin, woff, wend, wope, wcod⟩ : TWriter) = ⟨over, ostr, obas, olin⟩)  : Fn Try.prog 81 [.agg [I wver, I wstr, I wrol, I wbas, I wlin, .d (.row 1 xwoff), I wend, B wope, I wcod]] [] ⟨.agg [I over, I ostr, I obas, I olin], [], []⟩ := by
  refine Fn.go su_ch26c Try.func81 fun P hP Q hQ => ?_
  conv => cbv
  have e : (⟨wver, wstr, wbas, wlin⟩ : THead) = rhead (⟨wver, wstr, wrol, wbas, wlin, woff, wend, wope, wcod⟩ : TWriter) := (by rfl)
  rw [hr] at e
  simp only [THead.mk.injEq] at e
  obtain ⟨rfl, rfl, rfl, rfl⟩ := e
  exact hQ _ _ (.one (.inl rfl) rfl (.agg (.d rfl rfl (.d rfl rfl (.d rfl rfl (.d rfl rfl (.nil))))) .nil))
theorem FsCostOf {wver : Int} {wstr : Int} {wrol : Int} {wbas : Int} {wlin : Int} {woff : List Int} {xwoff : List (List D)} {wend : Int} {wope : Bool} {wcod : Int} {s : ByteArray} {o : Int} (hwoff : woff.map cI = xwoff) (hl : woff.length ≤ 1048576) (hwo : ∀ x ∈ woff, wfI x) (hf : wend < 9223372036854775808) (hs : s.size < 2 ^ 47) (hr : rCostOf (⟨wver, wstr, wrol, wbas, wlin, woff, wend, wope, wcod⟩ : TWriter) s = o)  : Fn Try.prog 39 [.agg [I wver, I wstr, I wrol, I wbas, I wlin, .d (.row 1 xwoff), I wend, B wope, I wcod], S s] [] ⟨I o, [], []⟩ := by
  refine Fn.go su_ch26c Try.func39 fun P hP Q hQ => ?_
  conv => cbv
  refine .neq (fun h1 => ?_) fun h1 => ?_
  · conv => cbv
    have e : 0 = rCostOf (⟨wver, wstr, wrol, wbas, wlin, woff, wend, wope, wcod⟩ : TWriter) s := (by unfold rCostOf; rw [if_pos (by simp only []; omega)])
    rw [hr] at e
    subst e
    exact hQ _ _ (.i rfl rfl)
  · conv => cbv
    refine .go fun v2 hv2 => ?_
    conv => cbv
    refine .gtr (fun h3 => ?_) fun h3 => ?_
    · conv => cbv
      have e : 0 = rCostOf (⟨wver, wstr, wrol, wbas, wlin, woff, wend, wope, wcod⟩ : TWriter) s := (by unfold rCostOf; rw [if_pos (by simp only []; omega)])
      rw [hr] at e
      subst e
      exact hQ _ _ (.i rfl rfl)
    · conv => cbv
      refine .go hwoff fun v4 hv4 => ?_
      conv => cbv
      refine .addW fun v5 hv5 => ?_
      conv => cbv
      cases wope
      · conv => cbv
        generalize hr6 : rHeadText (⟨wver, wstr, wbas, 0⟩ : THead) = r6
        have zr6 := rHeadText_b hr6
        refine .dd hP (FsHeadText hr6) ?_
        conv => cbv
        refine .go fun v7 hv7 => ?_
        conv => cbv
        refine .add fun v8 hv8 => ?_
        conv => cbv
        generalize hr9 : rFrameText wver wbas s = r9
        have zr9 := rFrameText_b hr9
        refine .dd hP (FsFrameText (by omega) hr9) ?_
        conv => cbv
        refine .go fun v10 hv10 => ?_
        conv => cbv
        refine .add fun v11 hv11 => ?_
        conv => cbv
        have e : v11 = rCostOf (⟨wver, wstr, wrol, wbas, wlin, woff, wend, false, wcod⟩ : TWriter) s := (by unfold rCostOf; rw [if_neg (by simp only []; omega)]; simp only [wPlace]; (try cases hr8); subst_vars; simp (disch := omega) [rl16Head, rhead]; try first | omega | (split <;> first | omega | (split <;> omega)))
        rw [hr] at e
        subst e
        exact hQ _ _ (.i rfl rfl)
      · conv => cbv
        refine .go hwoff fun v6 hv6 => ?_
        conv => cbv
        refine .geq (fun h7 => ?_) fun h7 => ?_
        · conv => cbv
          rcases hr8 : rl16Head (⟨wver, wstr, wrol, wbas, wlin, woff, wend, true, wcod⟩ : TWriter) with ⟨r8ver, r8str, r8bas, r8lin⟩
          refine .dd hP (Fsl16Head hwoff hr8) ?_
          conv => cbv
          generalize hr9 : rFootText (⟨r8ver, r8str, r8bas, r8lin⟩ : THead) woff wend = r9
          have zr9 := rFootText_b hr9
          refine .dd hP (FsFootText hwoff (by omega) hwo (by omega) hr9) ?_
          conv => cbv
          refine .go fun v10 hv10 => ?_
          conv => cbv
          generalize hr11 : rHeadText (⟨wver, wstr, v5, 0⟩ : THead) = r11
          have zr11 := rHeadText_b hr11
          refine .dd hP (FsHeadText hr11) ?_
          conv => cbv
          refine .go fun v12 hv12 => ?_
          conv => cbv
          refine .add fun v13 hv13 => ?_
          conv => cbv
          generalize hr14 : rFrameText wver v5 s = r14
          have zr14 := rFrameText_b hr14
          refine .dd hP (FsFrameText (by omega) hr14) ?_
          conv => cbv
          refine .go fun v15 hv15 => ?_
          conv => cbv
          refine .add fun v16 hv16 => ?_
          conv => cbv
          have e : v16 = rCostOf (⟨wver, wstr, wrol, wbas, wlin, woff, wend, true, wcod⟩ : TWriter) s := (by unfold rCostOf; rw [if_neg (by simp only []; omega)]; simp only [wPlace]; (try cases hr8); subst_vars; simp (disch := omega) [rl16Head, rhead]; try first | omega | (split <;> first | omega | (split <;> omega)))
          rw [hr] at e
          subst e
          exact hQ _ _ (.i rfl rfl)
        · conv => cbv
          generalize hr8 : rFrameText wver v5 s = r8
          have zr8 := rFrameText_b hr8
          refine .dd hP (FsFrameText (by omega) hr8) ?_
          conv => cbv
          refine .go fun v9 hv9 => ?_
          conv => cbv
          refine .add fun v10 hv10 => ?_
          conv => cbv
          have e : v10 = rCostOf (⟨wver, wstr, wrol, wbas, wlin, woff, wend, true, wcod⟩ : TWriter) s := (by unfold rCostOf; rw [if_neg (by simp only []; omega)]; simp only [wPlace]; (try cases hr8); subst_vars; simp (disch := omega) [rl16Head, rhead]; try first | omega | (split <;> first | omega | (split <;> omega)))
          rw [hr] at e
          subst e
          exact hQ _ _ (.i rfl rfl)
theorem FiCostOf {wver : Int} {wstr : Int} {wrol : Int} {wbas : Int} {wlin : Int} {woff : List Int} {xwoff : List (List D)} {wend : Int} {wope : Bool} {wcod : Int} {s : ByteArray} {o : Int} (hwoff : woff.map cI = xwoff) (hl : woff.length ≤ 1048576) (hwo : ∀ x ∈ woff, wfI x) (hf : wend < 9223372036854775808) (hs : s.size < 2 ^ 47) (hr : rCostOf (⟨wver, wstr, wrol, wbas, wlin, woff, wend, wope, wcod⟩ : TWriter) s = o)  : Fn Try.prog 41 [.agg [I wver, I wstr, I wrol, I wbas, I wlin, .d (.row 1 xwoff), I wend, B wope, I wcod], S s] [] ⟨I o, [], []⟩ := by
  refine Fn.go su_ch26c Try.func41 fun P hP Q hQ => ?_
  conv => cbv
  refine .neq (fun h1 => ?_) fun h1 => ?_
  · conv => cbv
    have e : 0 = rCostOf (⟨wver, wstr, wrol, wbas, wlin, woff, wend, wope, wcod⟩ : TWriter) s := (by unfold rCostOf; rw [if_pos (by simp only []; omega)])
    rw [hr] at e
    subst e
    exact hQ _ _ (.i rfl rfl)
  · conv => cbv
    refine .go fun v2 hv2 => ?_
    conv => cbv
    refine .gtr (fun h3 => ?_) fun h3 => ?_
    · conv => cbv
      have e : 0 = rCostOf (⟨wver, wstr, wrol, wbas, wlin, woff, wend, wope, wcod⟩ : TWriter) s := (by unfold rCostOf; rw [if_pos (by simp only []; omega)])
      rw [hr] at e
      subst e
      exact hQ _ _ (.i rfl rfl)
    · conv => cbv
      cases wope
      · conv => cbv
        generalize hr4 : rHeadText (⟨wver, wstr, wbas, 0⟩ : THead) = r4
        have zr4 := rHeadText_b hr4
        refine .dd hP (FiHeadText hr4) ?_
        conv => cbv
        refine .go fun v5 hv5 => ?_
        conv => cbv
        refine .add fun v6 hv6 => ?_
        conv => cbv
        generalize hr7 : rFrameText wver wbas s = r7
        have zr7 := rFrameText_b hr7
        refine .dd hP (FiFrameText (by omega) hr7) ?_
        conv => cbv
        refine .go fun v8 hv8 => ?_
        conv => cbv
        refine .add fun v9 hv9 => ?_
        conv => cbv
        have e : v9 = rCostOf (⟨wver, wstr, wrol, wbas, wlin, woff, wend, false, wcod⟩ : TWriter) s := (by unfold rCostOf; rw [if_neg (by simp only []; omega)]; simp only [wPlace]; (try cases hr8); subst_vars; simp (disch := omega) [rl16Head, rhead]; try first | omega | (split <;> first | omega | (split <;> omega)))
        rw [hr] at e
        subst e
        exact hQ _ _ (.i rfl rfl)
      · conv => cbv
        refine .go hwoff fun v4 hv4 => ?_
        conv => cbv
        refine .geq (fun h5 => ?_) fun h5 => ?_
        · conv => cbv
          refine .go hwoff fun v6 hv6 => ?_
          conv => cbv
          refine .addW fun v7 hv7 => ?_
          conv => cbv
          rcases hr8 : rhead (⟨wver, wstr, wrol, wbas, wlin, woff, wend, true, wcod⟩ : TWriter) with ⟨r8ver, r8str, r8bas, r8lin⟩
          refine .dd hP (FiWriter_head hwoff hr8) ?_
          conv => cbv
          generalize hr9 : rFootText (⟨r8ver, r8str, r8bas, r8lin⟩ : THead) woff wend = r9
          have zr9 := rFootText_b hr9
          refine .dd hP (FiFootText hwoff (by omega) hwo (by omega) hr9) ?_
          conv => cbv
          refine .go fun v10 hv10 => ?_
          conv => cbv
          refine .add fun v11 hv11 => ?_
          conv => cbv
          generalize hr12 : rHeadText (⟨wver, wstr, v7, 0⟩ : THead) = r12
          have zr12 := rHeadText_b hr12
          refine .dd hP (FiHeadText hr12) ?_
          conv => cbv
          refine .go fun v13 hv13 => ?_
          conv => cbv
          refine .add fun v14 hv14 => ?_
          conv => cbv
          generalize hr15 : rFrameText wver v7 s = r15
          have zr15 := rFrameText_b hr15
          refine .dd hP (FiFrameText (by omega) hr15) ?_
          conv => cbv
          refine .go fun v16 hv16 => ?_
          conv => cbv
          refine .add fun v17 hv17 => ?_
          conv => cbv
          have e : v17 = rCostOf (⟨wver, wstr, wrol, wbas, wlin, woff, wend, true, wcod⟩ : TWriter) s := (by unfold rCostOf; rw [if_neg (by simp only []; omega)]; simp only [wPlace]; (try cases hr8); subst_vars; simp (disch := omega) [rl16Head, rhead]; try first | omega | (split <;> first | omega | (split <;> omega)))
          rw [hr] at e
          subst e
          exact hQ _ _ (.i rfl rfl)
        · conv => cbv
          refine .go hwoff fun v6 hv6 => ?_
          conv => cbv
          refine .addW fun v7 hv7 => ?_
          conv => cbv
          generalize hr8 : rFrameText wver v7 s = r8
          have zr8 := rFrameText_b hr8
          refine .dd hP (FiFrameText (by omega) hr8) ?_
          conv => cbv
          refine .go fun v9 hv9 => ?_
          conv => cbv
          refine .add fun v10 hv10 => ?_
          conv => cbv
          have e : v10 = rCostOf (⟨wver, wstr, wrol, wbas, wlin, woff, wend, true, wcod⟩ : TWriter) s := (by unfold rCostOf; rw [if_neg (by simp only []; omega)]; simp only [wPlace]; (try cases hr8); subst_vars; simp (disch := omega) [rl16Head, rhead]; try first | omega | (split <;> first | omega | (split <;> omega)))
          rw [hr] at e
          subst e
          exact hQ _ _ (.i rfl rfl)
end Go.Proofs.Ytamdgfklbjoaiaa.Ab
