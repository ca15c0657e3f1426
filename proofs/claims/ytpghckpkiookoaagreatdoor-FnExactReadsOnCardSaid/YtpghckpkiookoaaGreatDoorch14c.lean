/- What functions of the program come to, for all arguments in the given bounds. -/
import Derived.Test.YtpghckpkiookoaaGreatDoorch14b
set_option linter.unusedVariables false
set_option linter.unusedSimpArgs false
namespace Go.Proofs.YtpghckpkiookoaaGreatDoor.Ab
open Go Go.Proofs
set_option maxRecDepth 20000
set_option maxHeartbeats 4000000
set_option linter.unusedSimpArgs false
set_option linter.unusedVariables false
def tab_ch14c : List (Nat × TyRow) := [
  (3, ⟨.int .i64, some 1, some false, none, false, [.int .i64], [], some [(.int .i64 0, 0)], none, none, none⟩),
  (4, ⟨.bool, some 1, some false, none, false, [.bool], [], some [(.bool false, 0)], none, none, none⟩),
  (9, ⟨.str, some 1, some false, none, false, [.str], [], some [(.string default, 0)], none, none, none⟩),
  (24, ⟨.sl 1, some 1, some false, some (1, 16), false, [.sl 1], [], some [(.slice none 0 0, 1)], some ([.sc (.string default)], 1, 16), none, none⟩),
  (32, ⟨.other, some 6, some true, none, false, [.sl 3, .sl 2, .sl 2, .sl 1, .int .i64, .int .i64], [some (0, 1, false), some (1, 1, false), some (2, 1, false), some (3, 1, false), some (4, 1, false), some (5, 1, false)], some [(.slice none 0 0, 3), (.slice none 0 0, 2), (.slice none 0 0, 2), (.slice none 0 0, 1), (.int .i64 0, 0), (.int .i64 0, 0)], none, some [(0, 1), (1, 1), (2, 1), (3, 1), (4, 1), (5, 1)], none⟩),
  (40, ⟨.sl 1, some 1, some false, some (1, 8), false, [.sl 1], [], some [(.slice none 0 0, 1)], some ([.sc (.int .i64 0)], 1, 8), none, none⟩),
  (65, ⟨.other, some 4, some true, none, false, [.int .i64, .int .i64, .int .i64, .int .i64], [some (0, 1, false), some (1, 1, false), some (2, 1, false), some (3, 1, false)], some [(.int .i64 0, 0), (.int .i64 0, 0), (.int .i64 0, 0), (.int .i64 0, 0)], none, some [(0, 1), (1, 1), (2, 1), (3, 1)], some [.int, .int, .int, .int]⟩),
  (67, ⟨.other, some 9, some true, none, false, [.bool, .int .i64, .int .i64, .int .i64, .int .i64, .sl 1, .sl 1, .int .i64, .bool], [some (0, 1, false), some (1, 4, true), some (5, 1, false), some (6, 1, false), some (7, 1, false), some (8, 1, false)], some [(.bool false, 0), (.int .i64 0, 0), (.int .i64 0, 0), (.int .i64 0, 0), (.int .i64 0, 0), (.slice none 0 0, 1), (.slice none 0 0, 1), (.int .i64 0, 0), (.bool false, 0)], none, some [(0, 1), (1, 4), (5, 1), (6, 1), (7, 1), (8, 1)], none⟩),
  (69, ⟨.other, some 11, some true, none, false, [.int .i64, .str, .bool, .int .i64, .int .i64, .int .i64, .int .i64, .sl 1, .sl 1, .int .i64, .bool], [some (0, 1, false), some (1, 1, false), some (2, 9, true)], some [(.int .i64 0, 0), (.string default, 0), (.bool false, 0), (.int .i64 0, 0), (.int .i64 0, 0), (.int .i64 0, 0), (.int .i64 0, 0), (.slice none 0 0, 1), (.slice none 0 0, 1), (.int .i64 0, 0), (.bool false, 0)], none, some [(0, 1), (1, 1), (2, 9)], none⟩),
  (78, ⟨.sl 11, some 1, some false, some (11, 128), false, [.sl 11], [], some [(.slice none 0 0, 11)], some ([.sc (.int .i64 0), .sc (.string default), .sc (.bool false), .sc (.int .i64 0), .sc (.int .i64 0), .sc (.int .i64 0), .sc (.int .i64 0), .row 1 [], .row 1 [], .sc (.int .i64 0), .sc (.bool false)], 11, 128), none, none⟩),
  (117, ⟨.sl 2, some 1, some false, some (2, 16), false, [.sl 2], [], some [(.slice none 0 0, 2)], some ([.sc (.int .i64 0), .sc (.int .i64 0)], 2, 16), none, none⟩),
  (121, ⟨.other, some 2, some true, none, false, [.int .i64, .int .i64], [some (0, 1, false), some (1, 1, false)], some [(.int .i64 0, 0), (.int .i64 0, 0)], none, some [(0, 1), (1, 1)], some [.int, .int]⟩)]
theorem tab_ch14c_ok : TabOk Tryz.prog tab_ch14c := TabOk.of (by kernel_rfl)
theorem su_ch14c : Setup Tryz.prog tab_ch14c := ⟨tab_ch14c_ok, mixed⟩
def rResealed (b : ByteArray) (v : Int) : ByteArray :=
  if (rScanText b).ok_ = true ∧ (0 ≤ v ∧ v ≤ 2) then (if 0 < v then rSealText ⟨v, (rScanText b).head_.stride_, (rScanText b).head_.base_, (rScanText b).head_.link_⟩ (rScanText b).records_ else rSealText (rScanText b).head_ (rScanText b).records_) else tx []
theorem rResealed_b {b : ByteArray} {v : Int} {o : ByteArray} (e : rResealed b v = o) : o.size ≤ 200000 := by
  rw [← e]
  unfold rResealed
  split
  · split
    · exact rSealText_b rfl
    · exact rSealText_b rfl
  · simp [tx_size]
def rSealedIn_1 (x : Tlink) : Int := if rSealedOk x.text_ = true then 1 else 0
def rsumOver_SealedIn_1 (d : TDisk) : Int := sumL rSealedIn_1 (rlinks d)
def rSealedIn (d : TDisk) : Int := rsumOver_SealedIn_1 d
theorem sealed_chain {d : TDisk} : rSealedIn d = sumL (fun b => if rSealedOk (rTextAt d b) = true then 1 else 0) (rChain d) := sum_chain _ _ fun x h1 h2 => by unfold rSealedIn_1; rw [h1]
def rCarryCost (d : TDisk) : Int := sumL (fun x => ((rResealed x.text_ 2).size : Int) - x.text_.size) (rlinks d)
theorem carry_chain {d : TDisk} : rCarryCost d = sumL (fun b => ((rResealed (rTextAt d b) 2).size : Int) - (rTextAt d b).size) (rChain d) := sum_chain _ _ fun x h1 h2 => by rw [h1]
theorem FiResealed {b : ByteArray} {version : Int} {o : ByteArray}  (hn : b.size < 2 ^ 40) (hr : rResealed b version = o)  : Fn Tryz.prog 61 [S b, I version] [] ⟨S o, [], []⟩ := by
  refine Fn.go su_ch14c Tryz.func61 fun P hP Q hQ => ?_
  conv => cbv
  rcases hr1 : rScanText b with ⟨r1ok, ⟨r1heaver, r1heastr, r1heabas, r1healin⟩, r1rec, r1off, r1end, r1mar⟩
  generalize hr1rec : r1rec.map cS = xr1rec
  generalize hr1off : r1off.map cI = xr1off
  refine .dd hP (FiScanText (by omega) hr1 hr1rec hr1off) ?_
  conv => cbv
  have zl := rScan_recs (b := b)
  rw [hr1] at zl
  simp only [] at zl
  cases r1ok
  · conv => cbv
    have e : (tx []) = rResealed b version := (by unfold rResealed; rw [hr1]; simp only []; rw [if_neg]; rintro ⟨q, _⟩; cases q)
    rw [hr] at e
    subst e
    exact hQ _ _ (.s rfl rfl)
  · conv => cbv
    refine .neq (fun h2 => ?_) fun h2 => ?_
    · conv => cbv
      generalize hr3 : risVersion version = r3
      refine .dd hP (FiisVersion hr3) ?_
      cases r3
      · simp only [risVersion, decide_eq_true_eq, decide_eq_false_iff_not] at hr3
        conv => cbv
        have e : (tx []) = rResealed b version := (by unfold rResealed; rw [hr1]; simp only []; rw [if_neg]; rintro ⟨_, q⟩; omega)
        rw [hr] at e
        subst e
        exact hQ _ _ (.s rfl rfl)
      · simp only [risVersion, decide_eq_true_eq, decide_eq_false_iff_not] at hr3
        conv => cbv
        refine .neq (fun h4 => ?_) fun h4 => ?_
        · conv => cbv
          generalize hr5 : rSealText (⟨version, r1heastr, r1heabas, r1healin⟩ : THead) r1rec = r5
          have zr5 := rSealText_b hr5
          refine .dd hP (FiSealText hr1rec (by omega) hr5) ?_
          conv => cbv
          have e : r5 = rResealed b version := (by unfold rResealed; rw [hr1]; simp only []; rw [if_pos ⟨trivial, by omega⟩, if_pos (by omega)]; exact hr5.symm)
          rw [hr] at e
          subst e
          exact hQ _ _ (.s rfl rfl)
        · conv => cbv
          generalize hr5 : rSealText (⟨r1heaver, r1heastr, r1heabas, r1healin⟩ : THead) r1rec = r5
          have zr5 := rSealText_b hr5
          refine .dd hP (FiSealText hr1rec (by omega) hr5) ?_
          conv => cbv
          have e : r5 = rResealed b version := (by exact absurd h4 h2)
          rw [hr] at e
          subst e
          exact hQ _ _ (.s rfl rfl)
    · conv => cbv
      refine .neq (fun h3 => ?_) fun h3 => ?_
      · conv => cbv
        generalize hr4 : rSealText (⟨version, r1heastr, r1heabas, r1healin⟩ : THead) r1rec = r4
        have zr4 := rSealText_b hr4
        refine .dd hP (FiSealText hr1rec (by omega) hr4) ?_
        conv => cbv
        have e : r4 = rResealed b version := (by exact absurd h2 h3)
        rw [hr] at e
        subst e
        exact hQ _ _ (.s rfl rfl)
      · conv => cbv
        generalize hr4 : rSealText (⟨r1heaver, r1heastr, r1heabas, r1healin⟩ : THead) r1rec = r4
        have zr4 := rSealText_b hr4
        refine .dd hP (FiSealText hr1rec (by omega) hr4) ?_
        conv => cbv
        have e : r4 = rResealed b version := (by unfold rResealed; rw [hr1]; simp only []; rw [if_pos ⟨trivial, by omega⟩, if_neg (by omega)]; exact hr4.symm)
        rw [hr] at e
        subst e
        exact hQ _ _ (.s rfl rfl)
theorem FsResealed {b : ByteArray} {version : Int} {o : ByteArray}  (hn : b.size < 2 ^ 40) (hr : rResealed b version = o)  : Fn Tryz.prog 59 [S b, I version] [] ⟨S o, [], []⟩ := by
  refine Fn.go su_ch14c Tryz.func59 fun P hP Q hQ => ?_
  conv => cbv
  rcases hr1 : rScanText b with ⟨r1ok, ⟨r1heaver, r1heastr, r1heabas, r1healin⟩, r1rec, r1off, r1end, r1mar⟩
  generalize hr1rec : r1rec.map cS = xr1rec
  generalize hr1off : r1off.map cI = xr1off
  refine .dd hP (FsScanText (by omega) hr1 hr1rec hr1off) ?_
  conv => cbv
  have zl := rScan_recs (b := b)
  rw [hr1] at zl
  simp only [] at zl
  cases r1ok
  · conv => cbv
    have e : (tx []) = rResealed b version := (by unfold rResealed; rw [hr1]; simp only []; rw [if_neg]; rintro ⟨q, _⟩; cases q)
    rw [hr] at e
    subst e
    exact hQ _ _ (.s rfl rfl)
  · conv => cbv
    generalize hr2 : rl01In version 0 2 = r2
    refine .dd hP (Fsl01In hr2) ?_
    cases r2
    · simp only [rl01In, decide_eq_true_eq, decide_eq_false_iff_not] at hr2
      conv => cbv
      have e : (tx []) = rResealed b version := (by unfold rResealed; rw [hr1]; simp only []; rw [if_neg]; rintro ⟨_, q⟩; omega)
      rw [hr] at e
      subst e
      exact hQ _ _ (.s rfl rfl)
    · simp only [rl01In, decide_eq_true_eq, decide_eq_false_iff_not] at hr2
      conv => cbv
      refine .gtr (fun h3 => ?_) fun h3 => ?_
      · conv => cbv
        generalize hr4 : rSealText (⟨version, r1heastr, r1heabas, r1healin⟩ : THead) r1rec = r4
        have zr4 := rSealText_b hr4
        refine .dd hP (FsSealText hr1rec (by omega) hr4) ?_
        conv => cbv
        have e : r4 = rResealed b version := (by unfold rResealed; rw [hr1]; simp only []; rw [if_pos ⟨trivial, by omega⟩, if_pos (by omega)]; exact hr4.symm)
        rw [hr] at e
        subst e
        exact hQ _ _ (.s rfl rfl)
      · conv => cbv
        generalize hr4 : rSealText (⟨r1heaver, r1heastr, r1heabas, r1healin⟩ : THead) r1rec = r4
        have zr4 := rSealText_b hr4
        refine .dd hP (FsSealText hr1rec (by omega) hr4) ?_
        conv => cbv
        have e : r4 = rResealed b version := (by unfold rResealed; rw [hr1]; simp only []; rw [if_pos ⟨trivial, by omega⟩, if_neg (by omega)]; exact hr4.symm)
        rw [hr] at e
        subst e
        exact hQ _ _ (.s rfl rfl)
theorem FiSealedIn_1 {xbas : Int} {xtex : ByteArray} {xscaok : Bool} {xscaheaver : Int} {xscaheastr : Int} {xscaheabas : Int} {xscahealin : Int} {xscarec : List ByteArray} {xxscarec : List (List D)} {xscaoff : List Int} {xxscaoff : List (List D)} {xscaend : Int} {xscamar : Bool} {o : Int} (hxscarec : xscarec.map cS = xxscarec) (hxscaoff : xscaoff.map cI = xxscaoff) (hn : xtex.size < 2 ^ 40) (hr : rSealedIn_1 (⟨xbas, xtex, ⟨xscaok, ⟨xscaheaver, xscaheastr, xscaheabas, xscahealin⟩, xscarec, xscaoff, xscaend, xscamar⟩⟩ : Tlink) = o)  : Fn Tryz.prog 70 [.agg [I xbas, S xtex, B xscaok, I xscaheaver, I xscaheastr, I xscaheabas, I xscahealin, .d (.row 1 xxscarec), .d (.row 1 xxscaoff), I xscaend, B xscamar]] [] ⟨I o, [], []⟩ := by
  refine Fn.go su_ch14c Tryz.func70 fun P hP Q hQ => ?_
  conv => cbv
  generalize hr1 : rSealedOk xtex = r1
  refine .dd hP (FiSealedOk (by omega) hr1) ?_
  cases r1
  · conv => cbv
    have e : 0 = rSealedIn_1 (⟨xbas, xtex, ⟨xscaok, ⟨xscaheaver, xscaheastr, xscaheabas, xscahealin⟩, xscarec, xscaoff, xscaend, xscamar⟩⟩ : Tlink) := (by unfold rSealedIn_1; simp [hr1])
    rw [hr] at e
    subst e
    exact hQ _ _ (.i rfl rfl)
  · conv => cbv
    have e : 1 = rSealedIn_1 (⟨xbas, xtex, ⟨xscaok, ⟨xscaheaver, xscaheastr, xscaheabas, xscahealin⟩, xscarec, xscaoff, xscaend, xscamar⟩⟩ : Tlink) := (by unfold rSealedIn_1; simp [hr1])
    rw [hr] at e
    subst e
    exact hQ _ _ (.i rfl rfl)
theorem FisumOver_SealedIn_1 {dnod : List TNode} {xdnod : List (List D)} {dent : List TEntry} {xdent : List (List D)} {dold : List TEntry} {xdold : List (List D)} {dste : List ByteArray} {xdste : List (List D)} {droo : Int} {dnex : Int} {o : Int} (hdnod : dnod.map eNode = xdnod) (hdent : dent.map eEntry = xdent) (hdold : dold.map eEntry = xdold) (hdste : dste.map cS = xdste) (hd : okD ⟨dnod, dent, dold, dste, droo, dnex⟩) (hr : rsumOver_SealedIn_1 (⟨dnod, dent, dold, dste, droo, dnex⟩ : TDisk) = o)  : Fn Tryz.prog 45 [.agg [.d (.row 3 xdnod), .d (.row 2 xdent), .d (.row 2 xdold), .d (.row 1 xdste), I droo, I dnex], .clo 70 []] [] ⟨I o, [], []⟩ := by
  refine Fn.go su_ch14c Tryz.func45 fun P hP Q hQ => ?_
  conv => cbv
  generalize hr1 : rlinks (⟨dnod, dent, dold, dste, droo, dnex⟩ : TDisk) = l1
  generalize hl1 : l1.map elink = xl1
  refine .dd hP (Filinks hdnod hdent hdold hdste hd hr1 hl1) ?_
  conv => cbv
  refine .go hl1 fun v2 hv2 => ?_
  conv => cbv
  refine LoopW.lp (κ := Int × Int) su_ch14c hP [] [1, 9, 10] (fun (i5, i11) => [(5, I i5), (11, I i11)]) (fun (i5, i11) => [])
    (fun (i5, i11) => 0 ≤ i11 ∧ i11 ≤ l1.length ∧ (0 * i11 ≤ i5 ∧ i5 ≤ 1 * i11) ∧ i5 = sumL rSealedIn_1 (l1.take i11.toNat))
    (fun (i5, i11) => (l1.length - i11).toNat) (0, 0) ⟨by omega, by omega, by omega, rfl⟩ ⟨rfl, rfl, trivial⟩ rfl ?_
  rintro ⟨i5, i11⟩ J ⟨h0, h1, hb, hx⟩ hJ
  have hl16 := rlinks_len hr1
  conv => cbv
  refine .lss (fun h3 => ?_) fun h3 => ?_
  · conv => cbv
    refine .goX i11.toNat hl1 fun hje4 ⟨e4bas, e4tex, ⟨e4scaok, ⟨e4scaheaver, e4scaheastr, e4scaheabas, e4scahealin⟩, e4scarec, e4scaoff, e4scaend, e4scamar⟩⟩ fe4 qe4 hfe4 => ?_
    replace hfe4 : [.sc (.int .i64 e4bas), .sc (.string e4tex), .sc (.bool e4scaok), .sc (.int .i64 e4scaheaver), .sc (.int .i64 e4scaheastr), .sc (.int .i64 e4scaheabas), .sc (.int .i64 e4scahealin), .row 1 (e4scarec.map cS), .row 1 (e4scaoff.map cI), .sc (.int .i64 e4scaend), .sc (.bool e4scamar)] = fe4 := hfe4
    generalize he4scarec : e4scarec.map cS = xe4scarec at hfe4
    generalize he4scaoff : e4scaoff.map cI = xe4scaoff at hfe4
    subst hfe4
    conv => cbv
    have hm := rlinks_mem hr1 (x := ⟨e4bas, e4tex, ⟨e4scaok, ⟨e4scaheaver, e4scaheastr, e4scaheabas, e4scahealin⟩, e4scarec, e4scaoff, e4scaend, e4scamar⟩⟩) (by rw [qe4]; exact List.getElem_mem _)
    obtain ⟨hm1, hm2, s9, hm3⟩ := hm
    simp only [] at hm1 hm2 hm3
    have hz := rTextAt_le hd hm1.symm
    
    generalize hr5 : rSealedIn_1 (⟨e4bas, e4tex, ⟨e4scaok, ⟨e4scaheaver, e4scaheastr, e4scaheabas, e4scahealin⟩, e4scarec, e4scaoff, e4scaend, e4scamar⟩⟩ : Tlink) = r5
    refine .dd hP (FiSealedIn_1 he4scarec he4scaoff (by omega) hr5) ?_
    conv => cbv
    have h5 : r5 = (if rSealedOk e4tex = true then 1 else 0) := hr5.symm
    have h5b : 0 ≤ r5 ∧ r5 ≤ 1 := by rw [h5]; split <;> omega
    refine .add fun v6 hv6 => ?_
    conv => cbv
    refine .add fun v7 hv7 => ?_
    conv => cbv
    exact .go [] (v6, v7) (hJ _ ⟨by omega, by omega, by omega, by rw [show v7.toNat = i11.toNat + 1 by omega, sumL_take hje4, ← hx, ← qe4, hr5]; omega⟩ (by first | (dsimp only; omega) | omega))
  · conv => cbv
    have e : i5 = rsumOver_SealedIn_1 (⟨dnod, dent, dold, dste, droo, dnex⟩ : TDisk) := (by unfold rsumOver_SealedIn_1; rw [hr1, hx, List.take_of_length_le (by omega)])
    rw [hr] at e
    subst e
    exact hQ _ _ (.i rfl rfl)
theorem FiSealedIn {dnod : List TNode} {xdnod : List (List D)} {dent : List TEntry} {xdent : List (List D)} {dold : List TEntry} {xdold : List (List D)} {dste : List ByteArray} {xdste : List (List D)} {droo : Int} {dnex : Int} {o : Int} (hdnod : dnod.map eNode = xdnod) (hdent : dent.map eEntry = xdent) (hdold : dold.map eEntry = xdold) (hdste : dste.map cS = xdste) (hd : okD ⟨dnod, dent, dold, dste, droo, dnex⟩) (hr : rSealedIn (⟨dnod, dent, dold, dste, droo, dnex⟩ : TDisk) = o)  : Fn Tryz.prog 33 [.agg [.d (.row 3 xdnod), .d (.row 2 xdent), .d (.row 2 xdold), .d (.row 1 xdste), I droo, I dnex]] [] ⟨I o, [], []⟩ := by
  refine Fn.go su_ch14c Tryz.func33 fun P hP Q hQ => ?_
  conv => cbv
  generalize hr1 : rsumOver_SealedIn_1 (⟨dnod, dent, dold, dste, droo, dnex⟩ : TDisk) = r1
  refine .dd hP (FisumOver_SealedIn_1 hdnod hdent hdold hdste hd hr1) ?_
  conv => cbv
  have e : r1 = rSealedIn (⟨dnod, dent, dold, dste, droo, dnex⟩ : TDisk) := (by unfold rSealedIn; exact hr1.symm)
  rw [hr] at e
  subst e
  exact hQ _ _ (.i rfl rfl)
theorem FsSealedIn {dnod : List TNode} {xdnod : List (List D)} {dent : List TEntry} {xdent : List (List D)} {dold : List TEntry} {xdold : List (List D)} {dste : List ByteArray} {xdste : List (List D)} {droo : Int} {dnex : Int} {o : Int} (hdnod : dnod.map eNode = xdnod) (hdent : dent.map eEntry = xdent) (hdold : dold.map eEntry = xdold) (hdste : dste.map cS = xdste) (hd : okD ⟨dnod, dent, dold, dste, droo, dnex⟩) (hr : rSealedIn (⟨dnod, dent, dold, dste, droo, dnex⟩ : TDisk) = o)  : Fn Tryz.prog 32 [.agg [.d (.row 3 xdnod), .d (.row 2 xdent), .d (.row 2 xdold), .d (.row 1 xdste), I droo, I dnex]] [] ⟨I o, [], []⟩ := by
  refine Fn.go su_ch14c Tryz.func32 fun P hP Q hQ => ?_
  conv => cbv
  generalize hr1 : rChain (⟨dnod, dent, dold, dste, droo, dnex⟩ : TDisk) = l1
  generalize hl1 : l1.map cI = xl1
  refine .dd hP (FsChain hdnod hdent hdold hdste hd hr1 hl1) ?_
  conv => cbv
  refine LoopW.lp (κ := Int × Int) su_ch14c hP [] [1, 4] (fun (i3, i5) => [(3, I i3), (5, I i5)]) (fun (i3, i5) => [])
    (fun (i3, i5) => 0 ≤ i5 ∧ i5 ≤ l1.length ∧ (0 ≤ i3 ∧ i3 ≤ i5) ∧ i3 = sumL (fun b => if rSealedOk (rTextAt (⟨dnod, dent, dold, dste, droo, dnex⟩ : TDisk) b) = true then 1 else 0) (l1.take i5.toNat))
    (fun (i3, i5) => (l1.length - i5).toNat) (0, 0) ⟨by omega, by omega, by omega, rfl⟩ ⟨rfl, rfl, trivial⟩ rfl ?_
  rintro ⟨i3, i5⟩ J ⟨h0, h1, hb, hx⟩ hJ
  have hl16 := rChain_len hr1
  conv => cbv
  refine .go hl1 fun v2 hv2 => ?_
  conv => cbv
  refine .lss (fun h3 => ?_) fun h3 => ?_
  · conv => cbv
    refine .go i5.toNat hl1 fun hje4 e4 qe4 => ?_
    conv => cbv
    generalize hr5 : rTextAt (⟨dnod, dent, dold, dste, droo, dnex⟩ : TDisk) e4 = r5
    refine .dd hP (FsTextAt hdnod hdent hdold hdste hd hr5) ?_
    conv => cbv
    have z5 := rTextAt_le hd hr5
    generalize hr6 : rSealedOk r5 = r6
    refine .dd hP (FsSealedOk (by omega) hr6) ?_
    cases r6
    · conv => cbv
      refine .add fun v7 hv7 => ?_
      conv => cbv
      exact .go [] (i3, v7) (hJ _ ⟨by omega, by omega, by omega, by rw [show v7.toNat = i5.toNat + 1 by omega, sumL_take hje4, ← hx, ← qe4, hr5, hr6]; simp⟩ (by first | (dsimp only; omega) | omega))
    · conv => cbv
      refine .add fun v7 hv7 => ?_
      conv => cbv
      refine .add fun v8 hv8 => ?_
      conv => cbv
      exact .go [] (v7, v8) (hJ _ ⟨by omega, by omega, by omega, by rw [show v8.toNat = i5.toNat + 1 by omega, sumL_take hje4, ← hx, ← qe4, hr5, hr6]; simp; omega⟩ (by first | (dsimp only; omega) | omega))
  · conv => cbv
    have e : i3 = rSealedIn (⟨dnod, dent, dold, dste, droo, dnex⟩ : TDisk) := (by rw [sealed_chain, hr1, hx, List.take_of_length_le (by omega)])
    rw [hr] at e
    subst e
    exact hQ _ _ (.i rfl rfl)
theorem FiCarryCost {dnod : List TNode} {xdnod : List (List D)} {dent : List TEntry} {xdent : List (List D)} {dold : List TEntry} {xdold : List (List D)} {dste : List ByteArray} {xdste : List (List D)} {droo : Int} {dnex : Int} {o : Int} (hdnod : dnod.map eNode = xdnod) (hdent : dent.map eEntry = xdent) (hdold : dold.map eEntry = xdold) (hdste : dste.map cS = xdste) (hd : okD ⟨dnod, dent, dold, dste, droo, dnex⟩) (hr : rCarryCost (⟨dnod, dent, dold, dste, droo, dnex⟩ : TDisk) = o)  : Fn Tryz.prog 26 [.agg [.d (.row 3 xdnod), .d (.row 2 xdent), .d (.row 2 xdold), .d (.row 1 xdste), I droo, I dnex]] [] ⟨I o, [], []⟩ := by
  refine Fn.go su_ch14c Tryz.func26 fun P hP Q hQ => ?_
  conv => cbv
  generalize hr1 : rlinks (⟨dnod, dent, dold, dste, droo, dnex⟩ : TDisk) = l1
  generalize hl1 : l1.map elink = xl1
  refine .dd hP (Filinks hdnod hdent hdold hdste hd hr1 hl1) ?_
  conv => cbv
  refine .go hl1 fun v2 hv2 => ?_
  conv => cbv
  refine LoopW.lp (κ := Int × Int) su_ch14c hP [] [7, 8] (fun (i3, i9) => [(3, I i3), (9, I i9)]) (fun (i3, i9) => [])
    (fun (i3, i9) => 0 ≤ i9 ∧ i9 ≤ l1.length ∧ (-1048576 * i9 ≤ i3 ∧ i3 ≤ 200000 * i9) ∧ i3 = sumL (fun x => ((rResealed x.text_ 2).size : Int) - x.text_.size) (l1.take i9.toNat))
    (fun (i3, i9) => (l1.length - i9).toNat) (0, 0) ⟨by omega, by omega, by omega, rfl⟩ ⟨rfl, rfl, trivial⟩ rfl ?_
  rintro ⟨i3, i9⟩ J ⟨h0, h1, hb, hx⟩ hJ
  have hl16 := rlinks_len hr1
  conv => cbv
  refine .lss (fun h3 => ?_) fun h3 => ?_
  · conv => cbv
    refine .goX i9.toNat hl1 fun hje4 ⟨e4bas, e4tex, ⟨e4scaok, ⟨e4scaheaver, e4scaheastr, e4scaheabas, e4scahealin⟩, e4scarec, e4scaoff, e4scaend, e4scamar⟩⟩ fe4 qe4 hfe4 => ?_
    replace hfe4 : [.sc (.int .i64 e4bas), .sc (.string e4tex), .sc (.bool e4scaok), .sc (.int .i64 e4scaheaver), .sc (.int .i64 e4scaheastr), .sc (.int .i64 e4scaheabas), .sc (.int .i64 e4scahealin), .row 1 (e4scarec.map cS), .row 1 (e4scaoff.map cI), .sc (.int .i64 e4scaend), .sc (.bool e4scamar)] = fe4 := hfe4
    generalize he4scarec : e4scarec.map cS = xe4scarec at hfe4
    generalize he4scaoff : e4scaoff.map cI = xe4scaoff at hfe4
    subst hfe4
    conv => cbv
    have hm := rlinks_mem hr1 (x := ⟨e4bas, e4tex, ⟨e4scaok, ⟨e4scaheaver, e4scaheastr, e4scaheabas, e4scahealin⟩, e4scarec, e4scaoff, e4scaend, e4scamar⟩⟩) (by rw [qe4]; exact List.getElem_mem _)
    obtain ⟨hm1, hm2, s9, hm3⟩ := hm
    simp only [] at hm1 hm2 hm3
    have hz := rTextAt_le hd hm1.symm
    generalize hr5 : rResealed e4tex 2 = r5
    have zr5 := rResealed_b hr5
    refine .dd hP (FiResealed (by omega) hr5) ?_
    conv => cbv
    refine .go fun v6 hv6 => ?_
    conv => cbv
    refine .go fun v7 hv7 => ?_
    conv => cbv
    refine .sub fun v8 hv8 => ?_
    conv => cbv
    refine .add fun v9 hv9 => ?_
    conv => cbv
    refine .add fun v10 hv10 => ?_
    conv => cbv
    exact .go [] (v9, v10) (hJ _ ⟨by omega, by omega, by omega, by rw [show v10.toNat = i9.toNat + 1 by omega, sumL_take hje4, ← hx, ← qe4]; simp only []; rw [hr5]; omega⟩ (by first | (dsimp only; omega) | omega))
  · conv => cbv
    have e : i3 = rCarryCost (⟨dnod, dent, dold, dste, droo, dnex⟩ : TDisk) := (by unfold rCarryCost; rw [hr1, hx, List.take_of_length_le (by omega)])
    rw [hr] at e
    subst e
    exact hQ _ _ (.i rfl rfl)
theorem FsCarryCost {dnod : List TNode} {xdnod : List (List D)} {dent : List TEntry} {xdent : List (List D)} {dold : List TEntry} {xdold : List (List D)} {dste : List ByteArray} {xdste : List (List D)} {droo : Int} {dnex : Int} {o : Int} (hdnod : dnod.map eNode = xdnod) (hdent : dent.map eEntry = xdent) (hdold : dold.map eEntry = xdold) (hdste : dste.map cS = xdste) (hd : okD ⟨dnod, dent, dold, dste, droo, dnex⟩) (hr : rCarryCost (⟨dnod, dent, dold, dste, droo, dnex⟩ : TDisk) = o)  : Fn Tryz.prog 25 [.agg [.d (.row 3 xdnod), .d (.row 2 xdent), .d (.row 2 xdold), .d (.row 1 xdste), I droo, I dnex]] [] ⟨I o, [], []⟩ := by
  refine Fn.go su_ch14c Tryz.func25 fun P hP Q hQ => ?_
  conv => cbv
  generalize hr1 : rChain (⟨dnod, dent, dold, dste, droo, dnex⟩ : TDisk) = l1
  generalize hl1 : l1.map cI = xl1
  refine .dd hP (FsChain hdnod hdent hdold hdste hd hr1 hl1) ?_
  conv => cbv
  refine LoopW.lp (κ := Int × Int) su_ch14c hP [] [1, 4] (fun (i3, i5) => [(3, I i3), (5, I i5)]) (fun (i3, i5) => [])
    (fun (i3, i5) => 0 ≤ i5 ∧ i5 ≤ l1.length ∧ (-1048576 * i5 ≤ i3 ∧ i3 ≤ 200000 * i5) ∧ i3 = sumL (fun b => ((rResealed (rTextAt (⟨dnod, dent, dold, dste, droo, dnex⟩ : TDisk) b) 2).size : Int) - (rTextAt (⟨dnod, dent, dold, dste, droo, dnex⟩ : TDisk) b).size) (l1.take i5.toNat))
    (fun (i3, i5) => (l1.length - i5).toNat) (0, 0) ⟨by omega, by omega, by omega, rfl⟩ ⟨rfl, rfl, trivial⟩ rfl ?_
  rintro ⟨i3, i5⟩ J ⟨h0, h1, hb, hx⟩ hJ
  have hl16 := rChain_len hr1
  conv => cbv
  refine .go hl1 fun v2 hv2 => ?_
  conv => cbv
  refine .lss (fun h3 => ?_) fun h3 => ?_
  · conv => cbv
    refine .go i5.toNat hl1 fun hje4 e4 qe4 => ?_
    conv => cbv
    generalize hr5 : rTextAt (⟨dnod, dent, dold, dste, droo, dnex⟩ : TDisk) e4 = r5
    refine .dd hP (FsTextAt hdnod hdent hdold hdste hd hr5) ?_
    conv => cbv
    have z5 := rTextAt_le hd hr5
    generalize hr6 : rResealed r5 2 = r6
    have zr6 := rResealed_b hr6
    refine .dd hP (FsResealed (by omega) hr6) ?_
    conv => cbv
    refine .go fun v7 hv7 => ?_
    conv => cbv
    refine .add fun v8 hv8 => ?_
    conv => cbv
    refine .go fun v9 hv9 => ?_
    conv => cbv
    refine .sub fun v10 hv10 => ?_
    conv => cbv
    refine .add fun v11 hv11 => ?_
    conv => cbv
    exact .go [] (v10, v11) (hJ _ ⟨by omega, by omega, by omega, by rw [show v11.toNat = i5.toNat + 1 by omega, sumL_take hje4, ← hx, ← qe4, hr5, hr6]; omega⟩ (by first | (dsimp only; omega) | omega))
  · conv => cbv
    have e : i3 = rCarryCost (⟨dnod, dent, dold, dste, droo, dnex⟩ : TDisk) := (by rw [carry_chain, hr1, hx, List.take_of_length_le (by omega)])
    rw [hr] at e
    subst e
    exact hQ _ _ (.i rfl rfl)
theorem rScan_base {b : ByteArray} : 0 ≤ (rScanText b).head_.base_ ∧ (rScanText b).head_.base_ ≤ 1000000000 := by
  unfold rScanText
  split
  · rename_i h e
    have h2 := (rReadHead_t e).2.2
    obtain ⟨v, st, bs, lk⟩ := h
    have := rHeadOk_t h2
    show 0 ≤ bs ∧ bs ≤ 1000000000
    omega
  · exact ⟨Int.le_refl _, by show (0 : Int) ≤ 1000000000; omega⟩
theorem scanL_offs : ∀ (k : Nat) {h : THead} {b : ByteArray} {n : Nat} {p : Int}, (b.size - p).toNat ≤ k → 0 ≤ p ∧ p ≤ b.size → (scanL h b n p).2.1.length = (scanL h b n p).1.length
  | k, h, b, n, p, hk, hp => by
    cases hm : rMarkAt h.version_ (h.base_ + n) b p
    · rcases hf : rReadFrame h.version_ (h.base_ + n) b p with ⟨r, q, ok⟩
      cases ok
      · rw [scanL_stop hm hf]; rfl
      · have h2 := rReadFrame_ok hf
        rw [scanL_next hm hf]
        cases k with
        | zero => omega
        | succ k =>
          have ih := scanL_offs k (h := h) (b := b) (n := n + 1) (p := q) (by omega) (by omega)
          rw [List.length_cons, List.length_cons, ih]
    · rw [scanL_mark hm]; rfl
theorem rScan_offs {b : ByteArray} : (rScanText b).offsets_.length = (rScanText b).records_.length := by
  unfold rScanText
  split
  · rename_i h e
    have h2 := rReadHead_t e
    exact scanL_offs _ (h := h) (b := b) (n := 0) (p := 24) (Nat.le_refl _) (by omega)
  · rfl
theorem chain_goes {d : TDisk} {l : List Int} (e : rChain d = l) {x : Int} (hx : x ∈ l) : 0 ≤ x ∧ x ≤ 1000000000 := by
  rw [← e] at hx
  obtain ⟨y, hy, rfl⟩ := List.mem_map.1 hx
  obtain ⟨_, _, s, h3⟩ := rlinks_mem rfl hy
  obtain ⟨hh, g1, g2, g3, g4, g5⟩ := rGoesOn_t h3
  exact ⟨g4, g5⟩
def rListIn (b : ByteArray) : List TPlace × Bool := if rSealedOk b = true then (rPlacesOf (rScanText b).head_.stride_ (rScanText b).offsets_, true) else ([], false)
def rat (s : TScan) (i : Int) : Int := if s.head_.base_ ≤ i ∧ i ≤ s.head_.base_ + s.records_.length - 1 then i - s.head_.base_ else -1
def plFor (l : List TPlace) (i : Int) : Nat → TPlace × Bool
  | 0 => (⟨0, 0⟩, false)
  | k + 1 => if (l.getD k ⟨0, 0⟩).count_ ≤ i then (l.getD k ⟨0, 0⟩, true) else plFor l i k
def rPlaceFor (l : List TPlace) (i : Int) : TPlace × Bool := plFor l i l.length
def rReadsFor (b : ByteArray) (i : Int) : Int :=
  if rSealedOk b = true ∧ (rScanText b).head_.base_ ≤ i ∧ i - (rScanText b).head_.base_ < (rScanText b).records_.length then
    i - (rScanText b).head_.base_ - (rPlaceFor (rPlacesOf (rScanText b).head_.stride_ (rScanText b).offsets_) (i - (rScanText b).head_.base_)).1.count_ + 1 else 0
def rSeekRecord (b : ByteArray) (i : Int) : ByteArray × Bool :=
  if rSealedOk b = true ∧ (rScanText b).head_.base_ ≤ i ∧ i - (rScanText b).head_.base_ < (rScanText b).records_.length then ((rScanText b).records_.getD (i - (rScanText b).head_.base_).toNat (tx []), true) else (tx [], false)
theorem plFor_b {l : List TPlace} {i : Int} {m : Int} (hm : 0 ≤ m) (h : ∀ p ∈ l, 0 ≤ p.count_ ∧ p.count_ ≤ m) : ∀ k, k ≤ l.length → 0 ≤ (plFor l i k).1.count_ ∧ (plFor l i k).1.count_ ≤ m
  | 0, _ => ⟨Int.le_refl _, hm⟩
  | k + 1, hk => by
    rw [plFor]
    split
    · show 0 ≤ (l.getD k ⟨0, 0⟩).count_ ∧ _
      rw [← gD (show k < l.length by omega)]
      exact h _ (List.getElem_mem _)
    · exact plFor_b hm h k (by omega)
theorem plFor_found {l : List TPlace} {i : Int} (hl : (l.getD 0 ⟨0, 0⟩).count_ ≤ i) : ∀ k, 1 ≤ k → (plFor l i k).2 = true
  | k + 1, _ => by
    rw [plFor]
    split
    · rfl
    · cases k with
      | zero => rename_i h; exact absurd hl h
      | succ k => exact plFor_found hl (k + 1) (by omega)
theorem placesOf_b {s : Int} {offs : List Int} : ∀ p ∈ rPlacesOf s offs, 0 ≤ p.count_ ∧ p.count_ ≤ offs.length := by
  unfold rPlacesOf
  split
  · simp
  · intro p hp
    unfold plOf at hp
    obtain ⟨i, hi, rfl⟩ := List.mem_map.1 hp
    have hi2 := List.mem_range.1 (List.mem_filter.1 hi).1
    exact ⟨by show 0 ≤ (i : Int); omega, by show (i : Int) ≤ _; omega⟩
theorem placesOf_first {s : Int} {offs : List Int} (hs : 1 ≤ s) (ho : 1 ≤ offs.length) : 1 ≤ (rPlacesOf s offs).length ∧ ((rPlacesOf s offs).getD 0 ⟨0, 0⟩).count_ = 0 := by
  unfold rPlacesOf
  rw [if_neg (by omega)]
  obtain ⟨n, hn⟩ : ∃ n, offs.length = n + 1 := ⟨offs.length - 1, by omega⟩
  rw [hn]
  unfold plOf
  rw [List.range_succ_eq_map, List.filter_cons, if_pos (by simp)]
  exact ⟨by simp, rfl⟩
theorem rReadsFor_b {b : ByteArray} {i o : Int} (hs : b.size ≤ 1048576) (e : rReadsFor b i = o) : -2097152 ≤ o ∧ o ≤ 2097152 := by
  rw [← e]
  unfold rReadsFor
  split
  · rename_i h
    have h1 := rScan_recs (b := b)
    have h2 := plFor_b (l := rPlacesOf (rScanText b).head_.stride_ (rScanText b).offsets_) (i := i - (rScanText b).head_.base_) (m := 1048576) (by omega) (fun p hp => by have := placesOf_b p hp; have h3 := rScan_offs (b := b); omega) _ (Nat.le_refl _)
    have h3 : (rPlaceFor (rPlacesOf (rScanText b).head_.stride_ (rScanText b).offsets_) (i - (rScanText b).head_.base_)) = plFor (rPlacesOf (rScanText b).head_.stride_ (rScanText b).offsets_) (i - (rScanText b).head_.base_) (rPlacesOf (rScanText b).head_.stride_ (rScanText b).offsets_).length := rfl
    rw [← h3] at h2
    omega
  · omega
theorem sealed_parts {b : ByteArray} : rReadSealed b = if rSealedOk b = true then ((rScanText b).head_, (rScanText b).records_, true) else (⟨0, 0, 0, 0⟩, [], false) := by
  unfold rSealedOk rReadSealed
  split
  · rfl
  · rfl
theorem sealed_ok {b : ByteArray} (h : rSealedOk b = true) : (rScanText b).ok_ = true ∧ rHeadOk (rScanText b).head_ = true := by
  unfold rSealedOk rReadSealed at h
  split at h
  · rename_i hh
    refine ⟨hh.1, ?_⟩
    have h1 := hh.1
    unfold rScanText at h1 ⊢
    split at h1
    · rename_i h2 e
      exact (rReadHead_t e).2.2
    · cases h1
  · cases h
theorem FiListIn {b : ByteArray} {oa : List TPlace} {xoa : List (List D)} {ob : Bool}  (hn : b.size < 2 ^ 40) (hr : rListIn b = (oa, ob)) (hoa : oa.map ePlace = xoa) : Fn Tryz.prog 104 [S b] [] ⟨.tup [.d (.row 2 xoa), B ob], [], []⟩ := by
  refine Fn.go su_ch14c Tryz.func104 fun P hP Q hQ => ?_
  conv => cbv
  generalize hr1 : rSealedOk b = r1
  refine .dd hP (FiSealedOk (by omega) hr1) ?_
  cases r1
  · conv => cbv
    have e : ([], false) = rListIn b := (by unfold rListIn; rw [hr1]; simp)
    rw [hr] at e
    simp only [Prod.mk.injEq] at e
    obtain ⟨rfl, rfl⟩ := e
    refine hQ _ _ ?_
    exact .many (.inl rfl) rfl rfl (.ref rfl rfl (by rw [← hoa]; rfl) (.d rfl rfl (.nil)))
  · conv => cbv
    rcases hr2 : rScanText b with ⟨r2ok, ⟨r2heaver, r2heastr, r2heabas, r2healin⟩, r2rec, r2off, r2end, r2mar⟩
    generalize hr2rec : r2rec.map cS = xr2rec
    generalize hr2off : r2off.map cI = xr2off
    refine .dd hP (FiScanText (by omega) hr2 hr2rec hr2off) ?_
    conv => cbv
    have zb := rScan_base (b := b)
    have zl := rScan_recs (b := b)
    have zo := rScan_offs (b := b)
    rw [hr2] at zb zl zo
    simp only [] at zb zl zo
    generalize hr3 : rPlacesOf r2heastr r2off = l3
    generalize hl3 : l3.map ePlace = xl3
    refine .dd hP (FiPlacesOf hr2off (by omega) hr3 hl3) ?_
    conv => cbv
    have e : (l3, true) = rListIn b := (by unfold rListIn; rw [hr1, hr2, if_pos rfl, hr3])
    rw [hr] at e
    simp only [Prod.mk.injEq] at e
    obtain ⟨rfl, rfl⟩ := e
    refine hQ _ _ ?_
    exact .many (.inl rfl) rfl rfl (.d rfl (rowEq hl3 hoa) (.d rfl rfl (.nil)))
theorem FsListIn {b : ByteArray} {oa : List TPlace} {xoa : List (List D)} {ob : Bool}  (hn : b.size < 2 ^ 40) (hr : rListIn b = (oa, ob)) (hoa : oa.map ePlace = xoa) : Fn Tryz.prog 102 [S b] [] ⟨.tup [.d (.row 2 xoa), B ob], [], []⟩ := by
  refine Fn.go su_ch14c Tryz.func102 fun P hP Q hQ => ?_
  conv => cbv
  generalize hr1 : rSealedOk b = r1
  refine .dd hP (FsSealedOk (by omega) hr1) ?_
  cases r1
  · conv => cbv
    have e : ([], false) = rListIn b := (by unfold rListIn; rw [hr1]; simp)
    rw [hr] at e
    simp only [Prod.mk.injEq] at e
    obtain ⟨rfl, rfl⟩ := e
    refine hQ _ _ ?_
    exact .many (.inl rfl) rfl rfl (.ref rfl rfl (by rw [← hoa]; rfl) (.d rfl rfl (.nil)))
  · conv => cbv
    rcases hr2 : rScanText b with ⟨r2ok, ⟨r2heaver, r2heastr, r2heabas, r2healin⟩, r2rec, r2off, r2end, r2mar⟩
    generalize hr2rec : r2rec.map cS = xr2rec
    generalize hr2off : r2off.map cI = xr2off
    refine .dd hP (FsScanText (by omega) hr2 hr2rec hr2off) ?_
    conv => cbv
    have zb := rScan_base (b := b)
    have zl := rScan_recs (b := b)
    have zo := rScan_offs (b := b)
    rw [hr2] at zb zl zo
    simp only [] at zb zl zo
    generalize hr3 : rPlacesOf r2heastr r2off = l3
    generalize hl3 : l3.map ePlace = xl3
    refine .dd hP (FsPlacesOf hr2off (by omega) hr3 hl3) ?_
    conv => cbv
    have e : (l3, true) = rListIn b := (by unfold rListIn; rw [hr1, hr2, if_pos rfl, hr3])
    rw [hr] at e
    simp only [Prod.mk.injEq] at e
    obtain ⟨rfl, rfl⟩ := e
    refine hQ _ _ ?_
    exact .many (.inl rfl) rfl rfl (.d rfl (rowEq hl3 hoa) (.d rfl rfl (.nil)))
theorem FiScan_at {sok : Bool} {sheaver : Int} {sheastr : Int} {sheabas : Int} {shealin : Int} {srec : List ByteArray} {xsrec : List (List D)} {soff : List Int} {xsoff : List (List D)} {send : Int} {smar : Bool} {i : Int} {o : Int} (hsrec : srec.map cS = xsrec) (hsoff : soff.map cI = xsoff) (hb : 0 ≤ sheabas ∧ sheabas ≤ 1000000000) (hn : srec.length < 2 ^ 40) (hr : rat (⟨sok, ⟨sheaver, sheastr, sheabas, shealin⟩, srec, soff, send, smar⟩ : TScan) i = o)  : Fn Tryz.prog 105 [.agg [B sok, I sheaver, I sheastr, I sheabas, I shealin, .d (.row 1 xsrec), .d (.row 1 xsoff), I send, B smar], I i] [] ⟨I o, [], []⟩ := by
  refine Fn.go su_ch14c Tryz.func105 fun P hP Q hQ => ?_
  conv => cbv
  refine .go hsrec fun v1 hv1 => ?_
  conv => cbv
  refine .add fun v2 hv2 => ?_
  conv => cbv
  refine .sub fun v3 hv3 => ?_
  conv => cbv
  generalize hr4 : rwithin i sheabas v3 = r4
  refine .dd hP (Fiwithin hr4) ?_
  cases r4
  · simp only [rwithin, decide_eq_true_eq, decide_eq_false_iff_not] at hr4
    conv => cbv
    have e : (-1) = rat (⟨sok, ⟨sheaver, sheastr, sheabas, shealin⟩, srec, soff, send, smar⟩ : TScan) i := (by unfold rat; rw [if_neg (by simp only []; omega)])
    rw [hr] at e
    subst e
    exact hQ _ _ (.i rfl rfl)
  · simp only [rwithin, decide_eq_true_eq, decide_eq_false_iff_not] at hr4
    conv => cbv
    refine .sub fun v5 hv5 => ?_
    conv => cbv
    have e : v5 = rat (⟨sok, ⟨sheaver, sheastr, sheabas, shealin⟩, srec, soff, send, smar⟩ : TScan) i := (by unfold rat; rw [if_pos (by simp only []; omega)]; exact hv5)
    rw [hr] at e
    subst e
    exact hQ _ _ (.i rfl rfl)
theorem FiPlaceFor {l : List TPlace} {xl : List (List D)} {i : Int} {oacou : Int} {oaat : Int} {ob : Bool} (hl : l.map ePlace = xl) (hn : l.length < 2 ^ 40) (hr : rPlaceFor l i = (⟨oacou, oaat⟩, ob))  : Fn Tryz.prog 106 [.d (.row 2 xl), I i] [] ⟨.tup [.agg [I oacou, I oaat], B ob], [], []⟩ := by
  refine Fn.go su_ch14c Tryz.func106 fun P hP Q hQ => ?_
  conv => cbv
  refine .go hl fun v1 hv1 => ?_
  conv => cbv
  refine .sub fun v2 hv2 => ?_
  conv => cbv
  refine LoopW.lp (κ := Int) su_ch14c hP [] [0, 1, 4] (fun i6 => [(6, I i6)]) (fun i6 => [])
    (fun i6 => -1 ≤ i6 ∧ i6 < l.length ∧ rPlaceFor l i = plFor l i (i6 + 1).toNat)
    (fun i6 => (i6 + 1).toNat) (v2) ⟨by omega, by omega, by unfold rPlaceFor; congr 1; omega⟩ ⟨rfl, trivial⟩ rfl ?_
  rintro i6 J ⟨h0, h1, hp⟩ hJ
  conv => cbv
  refine .geq (fun h3 => ?_) fun h3 => ?_
  · conv => cbv
    refine .go i6.toNat hl fun hje4 ⟨e4cou, e4at⟩ qe4 => ?_
    conv => cbv
    refine .leq (fun h5 => ?_) fun h5 => ?_
    · conv => cbv
      refine .go i6.toNat hl fun hje6 ⟨e6cou, e6at⟩ qe6 => ?_
      conv => cbv
      have e : ((⟨e6cou, e6at⟩ : TPlace), true) = rPlaceFor l i := (by rw [hp, show (i6 + 1).toNat = i6.toNat + 1 by omega, plFor, ← gD hje6, ← qe6, if_pos (by have := qe4.trans qe6.symm; simp only [TPlace.mk.injEq] at this; simp only []; omega)])
      rw [hr] at e
      simp only [Prod.mk.injEq, TPlace.mk.injEq] at e
      obtain ⟨⟨rfl, rfl⟩, rfl⟩ := e
      refine hQ _ _ ?_
      exact .many (.inl rfl) rfl rfl (.agg (.d rfl rfl (.d rfl rfl (.nil))) (.d rfl rfl (.nil)))
    · conv => cbv
      refine .sub fun v6 hv6 => ?_
      conv => cbv
      have e6 : (i6 + 1).toNat = i6.toNat + 1 := by omega
      exact .go [] (v6) (hJ _ ⟨by omega, by omega, by rw [hp, e6, plFor, if_neg (by rw [← gD hje4, ← qe4]; simp only []; omega), show (v6 + 1).toNat = i6.toNat by omega]⟩ (by first | (dsimp only; omega) | omega))
  · conv => cbv
    have e : ((⟨0, 0⟩ : TPlace), false) = rPlaceFor l i := (by rw [hp, show (i6 + 1).toNat = 0 by omega]; rfl)
    rw [hr] at e
    simp only [Prod.mk.injEq, TPlace.mk.injEq] at e
    obtain ⟨⟨rfl, rfl⟩, rfl⟩ := e
    refine hQ _ _ ?_
    exact .many (.inl rfl) rfl rfl (.agg (.d rfl rfl (.d rfl rfl (.nil))) (.d rfl rfl (.nil)))
theorem FsPlaceFor {l : List TPlace} {xl : List (List D)} {i : Int} {oacou : Int} {oaat : Int} {ob : Bool} (hl : l.map ePlace = xl) (hn : l.length < 2 ^ 40) (hr : rPlaceFor l i = (⟨oacou, oaat⟩, ob))  : Fn Tryz.prog 103 [.d (.row 2 xl), I i] [] ⟨.tup [.agg [I oacou, I oaat], B ob], [], []⟩ := by
  refine Fn.go su_ch14c Tryz.func103 fun P hP Q hQ => ?_
  conv => cbv
  refine .go hl fun v1 hv1 => ?_
  conv => cbv
  refine .sub fun v2 hv2 => ?_
  conv => cbv
  refine LoopW.lp (κ := Int) su_ch14c hP [] [0, 1, 4] (fun i6 => [(6, I i6)]) (fun i6 => [])
    (fun i6 => -1 ≤ i6 ∧ i6 < l.length ∧ rPlaceFor l i = plFor l i (i6 + 1).toNat)
    (fun i6 => (i6 + 1).toNat) (v2) ⟨by omega, by omega, by unfold rPlaceFor; congr 1; omega⟩ ⟨rfl, trivial⟩ rfl ?_
  rintro i6 J ⟨h0, h1, hp⟩ hJ
  conv => cbv
  refine .geq (fun h3 => ?_) fun h3 => ?_
  · conv => cbv
    refine .go i6.toNat hl fun hje4 ⟨e4cou, e4at⟩ qe4 => ?_
    conv => cbv
    refine .leq (fun h5 => ?_) fun h5 => ?_
    · conv => cbv
      refine .go i6.toNat hl fun hje6 ⟨e6cou, e6at⟩ qe6 => ?_
      conv => cbv
      have e : ((⟨e6cou, e6at⟩ : TPlace), true) = rPlaceFor l i := (by rw [hp, show (i6 + 1).toNat = i6.toNat + 1 by omega, plFor, ← gD hje6, ← qe6, if_pos (by have := qe4.trans qe6.symm; simp only [TPlace.mk.injEq] at this; simp only []; omega)])
      rw [hr] at e
      simp only [Prod.mk.injEq, TPlace.mk.injEq] at e
      obtain ⟨⟨rfl, rfl⟩, rfl⟩ := e
      refine hQ _ _ ?_
      exact .many (.inl rfl) rfl rfl (.agg (.d rfl rfl (.d rfl rfl (.nil))) (.d rfl rfl (.nil)))
    · conv => cbv
      refine .sub fun v6 hv6 => ?_
      conv => cbv
      have e6 : (i6 + 1).toNat = i6.toNat + 1 := by omega
      exact .go [] (v6) (hJ _ ⟨by omega, by omega, by rw [hp, e6, plFor, if_neg (by rw [← gD hje4, ← qe4]; simp only []; omega), show (v6 + 1).toNat = i6.toNat by omega]⟩ (by first | (dsimp only; omega) | omega))
  · conv => cbv
    have e : ((⟨0, 0⟩ : TPlace), false) = rPlaceFor l i := (by rw [hp, show (i6 + 1).toNat = 0 by omega]; rfl)
    rw [hr] at e
    simp only [Prod.mk.injEq, TPlace.mk.injEq] at e
    obtain ⟨⟨rfl, rfl⟩, rfl⟩ := e
    refine hQ _ _ ?_
    exact .many (.inl rfl) rfl rfl (.agg (.d rfl rfl (.d rfl rfl (.nil))) (.d rfl rfl (.nil)))
theorem rListIn_b {b : ByteArray} {l : List TPlace} {ok : Bool} (e : rListIn b = (l, ok)) : l.length ≤ (rScanText b).offsets_.length := by
  unfold rListIn at e
  split at e
  · obtain ⟨rfl, rfl⟩ := Prod.mk.inj e
    exact rPlacesOf_len
  · obtain ⟨rfl, rfl⟩ := Prod.mk.inj e
    simp
theorem rListIn_ok {b : ByteArray} {l : List TPlace} {ok : Bool} (e : rListIn b = (l, ok)) : rSealedOk b = ok := by
  unfold rListIn at e
  split at e
  · obtain ⟨rfl, rfl⟩ := Prod.mk.inj e; assumption
  · rename_i hh; obtain ⟨rfl, rfl⟩ := Prod.mk.inj e; simpa using hh
theorem rListIn_eq {b : ByteArray} {l : List TPlace} (e : rListIn b = (l, true)) : l = rPlacesOf (rScanText b).head_.stride_ (rScanText b).offsets_ := by
  unfold rListIn at e
  split at e
  · exact (Prod.mk.inj e).1.symm
  · cases (Prod.mk.inj e).2
theorem rat_t {s : TScan} {i k : Int} (e : rat s i = k) (hb : 0 ≤ s.head_.base_) : (0 ≤ k ∧ k = i - s.head_.base_ ∧ s.head_.base_ ≤ i ∧ i - s.head_.base_ < s.records_.length) ∨ (k = -1 ∧ ¬ (s.head_.base_ ≤ i ∧ i - s.head_.base_ < s.records_.length)) := by
  unfold rat at e
  split at e
  · exact .inl ⟨by omega, by omega, by omega, by omega⟩
  · exact .inr ⟨by omega, by omega⟩
theorem rReadsFor_no {b : ByteArray} {i : Int} (h : ¬ (rSealedOk b = true ∧ (rScanText b).head_.base_ ≤ i ∧ i - (rScanText b).head_.base_ < (rScanText b).records_.length)) : 0 = rReadsFor b i := (if_neg h).symm
theorem FiReadsFor {b : ByteArray} {i : Int} {o : Int}  (hn : b.size < 2 ^ 40) (hi : i < 9223372036854775808) (hr : rReadsFor b i = o)  : Fn Tryz.prog 75 [S b, I i] [] ⟨I o, [], []⟩ := by
  refine Fn.go su_ch14c Tryz.func75 fun P hP Q hQ => ?_
  conv => cbv
  rcases hr1 : rListIn b with ⟨r1a, r1b⟩
  generalize hr1a : r1a.map ePlace = xr1a
  refine .dd hP (FiListIn (by omega) hr1 hr1a) ?_
  conv => cbv
  rcases hr2 : rScanText b with ⟨r2ok, ⟨r2heaver, r2heastr, r2heabas, r2healin⟩, r2rec, r2off, r2end, r2mar⟩
  generalize hr2rec : r2rec.map cS = xr2rec
  generalize hr2off : r2off.map cI = xr2off
  refine .dd hP (FiScanText (by omega) hr2 hr2rec hr2off) ?_
  conv => cbv
  have zb := rScan_base (b := b)
  have zl := rScan_recs (b := b)
  have zo := rScan_offs (b := b)
  rw [hr2] at zb zl zo
  simp only [] at zb zl zo
  generalize hr3 : rat (⟨r2ok, ⟨r2heaver, r2heastr, r2heabas, r2healin⟩, r2rec, r2off, r2end, r2mar⟩ : TScan) i = r3
  refine .dd hP (FiScan_at hr2rec hr2off zb (by omega) hr3) ?_
  conv => cbv
  have hk := rat_t hr3 zb.1
  simp only [] at hk
  have hso := rListIn_ok hr1
  have hpl := rListIn_b hr1
  rw [hr2] at hpl
  simp only [] at hpl
  rcases hr4 : rPlaceFor r1a r3 with ⟨⟨r4acou, r4aat⟩, r4b⟩
  refine .dd hP (FiPlaceFor hr1a (by omega) hr4) ?_
  conv => cbv
  cases r1b
  · conv => cbv
    have e : 0 = rReadsFor b i := (by refine rReadsFor_no ?_; rw [hso]; rintro ⟨q, _⟩; cases q)
    rw [hr] at e
    subst e
    exact hQ _ _ (.i rfl rfl)
  · conv => cbv
    refine .lss (fun h5 => ?_) fun h5 => ?_
    · conv => cbv
      have e : 0 = rReadsFor b i := (by refine rReadsFor_no ?_; rw [hr2]; simp only []; rintro ⟨_, q⟩; omega)
      rw [hr] at e
      subst e
      exact hQ _ _ (.i rfl rfl)
    · conv => cbv
      cases r4b
      · conv => cbv
        have hle := rListIn_eq hr1
        rw [hr2] at hle
        simp only [] at hle
        have hsl := sealed_ok hso
        rw [hr2] at hsl
        simp only [] at hsl
        have hst := (rHeadOk_t hsl.2).2.1
        have hpf := placesOf_first (s := r2heastr) (offs := r2off) (by omega) (by omega)
        rw [← hle] at hpf
        have hfd := plFor_found (l := r1a) (i := r3) (by omega) r1a.length (by omega)
        have hpe : rPlaceFor r1a r3 = plFor r1a r3 r1a.length := rfl
        rw [← hpe, hr4] at hfd
        have e : 0 = rReadsFor b i := (by cases hfd)
        rw [hr] at e
        subst e
        exact hQ _ _ (.i rfl rfl)
      · conv => cbv
        have hle := rListIn_eq hr1
        rw [hr2] at hle
        simp only [] at hle
        have hpb := plFor_b (l := r1a) (i := r3) (m := r2off.length) (by omega) (fun p hp => by rw [hle] at hp; exact placesOf_b p hp) _ (Nat.le_refl _)
        have hpe : rPlaceFor r1a r3 = plFor r1a r3 r1a.length := rfl
        rw [← hpe, hr4] at hpb
        simp only [] at hpb
        refine .sub fun v6 hv6 => ?_
        conv => cbv
        refine .add fun v7 hv7 => ?_
        conv => cbv
        have e : v7 = rReadsFor b i := (by unfold rReadsFor; rw [hr2, if_pos (by simp only []; exact ⟨hso, by omega⟩)]; simp only []; rw [← hle, show i - r2heabas = r3 by omega, hr4]; simp only []; omega)
        rw [hr] at e
        subst e
        exact hQ _ _ (.i rfl rfl)
theorem FsSeekRecord {b : ByteArray} {i : Int} {oa : ByteArray} {ob : Bool}  (hn : b.size < 2 ^ 40) (hi : i < 9223372036854775808) (hr : rSeekRecord b i = (oa, ob))  : Fn Tryz.prog 101 [S b, I i] [] ⟨.tup [S oa, B ob], [], []⟩ := by
  refine Fn.go su_ch14c Tryz.func101 fun P hP Q hQ => ?_
  conv => cbv
  rcases hr1 : rReadSealed b with ⟨⟨r1aver, r1astr, r1abas, r1alin⟩, r1b, r1c⟩
  generalize hr1b : r1b.map cS = xr1b
  refine .dd hP (FsReadSealed (by omega) hr1 hr1b) ?_
  conv => cbv
  have hq := hr1.symm.trans sealed_parts
  have zb := rScan_base (b := b)
  have zl := rScan_recs (b := b)
  cases r1c
  · conv => cbv
    have hso : rSealedOk b = false := by
      cases hs : rSealedOk b
      · rfl
      · rw [hs, if_pos rfl] at hq; cases (Prod.mk.inj (Prod.mk.inj hq).2).2
    have e : ((tx []), false) = rSeekRecord b i := (by unfold rSeekRecord; rw [if_neg]; rw [hso]; rintro ⟨q, _⟩; cases q)
    rw [hr] at e
    simp only [Prod.mk.injEq] at e
    obtain ⟨rfl, rfl⟩ := e
    refine hQ _ _ ?_
    exact .many (.inl rfl) rfl rfl (.d rfl rfl (.d rfl rfl (.nil)))
  · conv => cbv
    refine .lss (fun h2 => ?_) fun h2 => ?_
    · conv => cbv
      have hso : rSealedOk b = true := by
        cases hs : rSealedOk b
        · rw [hs, if_neg (by simp)] at hq; cases (Prod.mk.inj (Prod.mk.inj hq).2).2
        · rfl
      rw [hso, if_pos rfl] at hq
      obtain ⟨q1, q2⟩ := Prod.mk.inj hq
      have q3 := (Prod.mk.inj q2).1
      have q4 : r1abas = (rScanText b).head_.base_ := congrArg THead.base_ q1
      rw [← q3] at zl
      rw [← q4] at zb
      have e : ((tx []), false) = rSeekRecord b i := (by unfold rSeekRecord; rw [if_neg]; rintro ⟨_, q⟩; omega)
      rw [hr] at e
      simp only [Prod.mk.injEq] at e
      obtain ⟨rfl, rfl⟩ := e
      refine hQ _ _ ?_
      exact .many (.inl rfl) rfl rfl (.d rfl rfl (.d rfl rfl (.nil)))
    · conv => cbv
      have hso : rSealedOk b = true := by
        cases hs : rSealedOk b
        · rw [hs, if_neg (by simp)] at hq; cases (Prod.mk.inj (Prod.mk.inj hq).2).2
        · rfl
      rw [hso, if_pos rfl] at hq
      obtain ⟨q1, q2⟩ := Prod.mk.inj hq
      have q3 := (Prod.mk.inj q2).1
      have q4 : r1abas = (rScanText b).head_.base_ := congrArg THead.base_ q1
      rw [← q3] at zl
      rw [← q4] at zb
      refine .sub fun v3 hv3 => ?_
      conv => cbv
      refine .go hr1b fun v4 hv4 => ?_
      conv => cbv
      refine .geq (fun h5 => ?_) fun h5 => ?_
      · conv => cbv
        have e : ((tx []), false) = rSeekRecord b i := (by unfold rSeekRecord; rw [if_neg]; rw [← q3, ← q4]; rintro ⟨_, q⟩; omega)
        rw [hr] at e
        simp only [Prod.mk.injEq] at e
        obtain ⟨rfl, rfl⟩ := e
        refine hQ _ _ ?_
        exact .many (.inl rfl) rfl rfl (.d rfl rfl (.d rfl rfl (.nil)))
      · conv => cbv
        refine .sub fun v6 hv6 => ?_
        conv => cbv
        refine .go v6.toNat hr1b fun hje7 e7 qe7 => ?_
        conv => cbv
        have e : (e7, true) = rSeekRecord b i := (by unfold rSeekRecord; rw [if_pos (by rw [← q3, ← q4]; exact ⟨hso, by omega⟩), ← q3, ← q4, qe7, gD (d := tx []), show i - r1abas = v6 by omega])
        rw [hr] at e
        simp only [Prod.mk.injEq] at e
        obtain ⟨rfl, rfl⟩ := e
        refine hQ _ _ ?_
        exact .many (.inl rfl) rfl rfl (.d rfl rfl (.d rfl rfl (.nil)))
theorem FsReadsFor {b : ByteArray} {i : Int} {o : Int}  (hn : b.size < 2 ^ 40) (hi : i < 9223372036854775808) (hr : rReadsFor b i = o)  : Fn Tryz.prog 73 [S b, I i] [] ⟨I o, [], []⟩ := by
  refine Fn.go su_ch14c Tryz.func73 fun P hP Q hQ => ?_
  conv => cbv
  rcases hr1 : rSeekRecord b i with ⟨r1a, r1b⟩
  refine .dd hP (FsSeekRecord hn hi hr1) ?_
  conv => cbv
  unfold rSeekRecord at hr1
  cases r1b
  · conv => cbv
    have e : 0 = rReadsFor b i := (by refine rReadsFor_no ?_; intro hc; rw [if_pos hc] at hr1; cases (Prod.mk.inj hr1).2)
    rw [hr] at e
    subst e
    exact hQ _ _ (.i rfl rfl)
  · conv => cbv
    rcases hr2 : rScanText b with ⟨r2ok, ⟨r2heaver, r2heastr, r2heabas, r2healin⟩, r2rec, r2off, r2end, r2mar⟩
    generalize hr2rec : r2rec.map cS = xr2rec
    generalize hr2off : r2off.map cI = xr2off
    refine .dd hP (FsScanText (by omega) hr2 hr2rec hr2off) ?_
    conv => cbv
    have zb := rScan_base (b := b)
    have zl := rScan_recs (b := b)
    have zo := rScan_offs (b := b)
    rw [hr2] at zb zl zo
    simp only [] at zb zl zo
    have hc : rSealedOk b = true ∧ (rScanText b).head_.base_ ≤ i ∧ i - (rScanText b).head_.base_ < (rScanText b).records_.length := by
      split at hr1
      · assumption
      · cases (Prod.mk.inj hr1).2
    have hc2 := hc
    rw [hr2] at hc2
    simp only [] at hc2
    rcases hr3 : rListIn b with ⟨r3a, r3b⟩
    generalize hr3a : r3a.map ePlace = xr3a
    refine .dd hP (FsListIn (by omega) hr3 hr3a) ?_
    conv => cbv
    refine .sub fun v4 hv4 => ?_
    conv => cbv
    have hle : r3a = rPlacesOf r2heastr r2off := by unfold rListIn at hr3; rw [if_pos hc.1, hr2] at hr3; exact (Prod.mk.inj hr3).1.symm
    have hpl : r3a.length ≤ r2off.length := by rw [hle]; exact rPlacesOf_len
    rcases hr5 : rPlaceFor r3a v4 with ⟨⟨r5acou, r5aat⟩, r5b⟩
    refine .dd hP (FsPlaceFor hr3a (by omega) hr5) ?_
    conv => cbv
    have hpb := plFor_b (l := r3a) (i := v4) (m := r2off.length) (by omega) (fun p hp => by rw [hle] at hp; exact placesOf_b p hp) _ (Nat.le_refl _)
    have hpe : rPlaceFor r3a v4 = plFor r3a v4 r3a.length := rfl
    rw [← hpe, hr5] at hpb
    simp only [] at hpb
    refine .sub fun v6 hv6 => ?_
    conv => cbv
    refine .sub fun v7 hv7 => ?_
    conv => cbv
    refine .add fun v8 hv8 => ?_
    conv => cbv
    have e : v8 = rReadsFor b i := (by unfold rReadsFor; rw [if_pos hc, hr2]; simp only []; rw [← hle, show i - r2heabas = v4 by omega, hr5]; simp only []; omega)
    rw [hr] at e
    subst e
    exact hQ _ _ (.i rfl rfl)
def readsN (t : ByteArray) (b : Int) (n : Nat) : Int := sumL (fun k : Nat => rReadsFor t (b + k)) (List.range n)
theorem readsN_add {t : ByteArray} {b : Int} {n : Nat} : readsN t b (n + 1) = readsN t b n + rReadsFor t (b + n) := by
  unfold readsN sumL
  rw [List.range_succ, List.map_append, List.foldl_append]
  rfl
def rReadsOn_1 (x : Tlink) : Int := readsN x.text_ x.base_ x.scan_.records_.length
def rsumOver_ReadsOn_1 (d : TDisk) : Int := sumL rReadsOn_1 (rlinks d)
def rReadsOn (d : TDisk) : Int := rsumOver_ReadsOn_1 d
theorem reads_chain {d : TDisk} : rReadsOn d = sumL (fun b => readsN (rTextAt d b) b (rRecordsIn (rTextAt d b)).length) (rChain d) := sum_chain _ _ fun x h1 h2 => by unfold rReadsOn_1; rw [h1, h2]; rfl
theorem readsN_b {t : ByteArray} {b : Int} (ht : t.size ≤ 1048576) : ∀ n : Nat, -2097152 * (n : Int) ≤ readsN t b n ∧ readsN t b n ≤ 2097152 * (n : Int)
  | 0 => ⟨Int.le_refl _, Int.le_refl _⟩
  | n + 1 => by
    have h1 := readsN_b (b := b) ht n
    have h2 := rReadsFor_b ht (rfl : rReadsFor t (b + n) = _)
    rw [readsN_add]
    omega
theorem FiReadsOn_1 {xbas : Int} {xtex : ByteArray} {xscaok : Bool} {xscaheaver : Int} {xscaheastr : Int} {xscaheabas : Int} {xscahealin : Int} {xscarec : List ByteArray} {xxscarec : List (List D)} {xscaoff : List Int} {xxscaoff : List (List D)} {xscaend : Int} {xscamar : Bool} {o : Int} (hxscarec : xscarec.map cS = xxscarec) (hxscaoff : xscaoff.map cI = xxscaoff) (hb : 0 ≤ xbas ∧ xbas ≤ 1000000000) (hz : xtex.size ≤ 1048576) (hl : xscarec.length ≤ 1048576) (hr : rReadsOn_1 (⟨xbas, xtex, ⟨xscaok, ⟨xscaheaver, xscaheastr, xscaheabas, xscahealin⟩, xscarec, xscaoff, xscaend, xscamar⟩⟩ : Tlink) = o)  : Fn Tryz.prog 74 [.agg [I xbas, S xtex, B xscaok, I xscaheaver, I xscaheastr, I xscaheabas, I xscahealin, .d (.row 1 xxscarec), .d (.row 1 xxscaoff), I xscaend, B xscamar]] [] ⟨I o, [], []⟩ := by
  refine Fn.go su_ch14c Tryz.func74 fun P hP Q hQ => ?_
  conv => cbv
  refine .go hxscarec fun v1 hv1 => ?_
  conv => cbv
  refine LoopW.lp (κ := Int × Int) su_ch14c hP [] [1, 8] (fun (i3, i9) => [(3, I i3), (9, I i9)]) (fun (i3, i9) => [])
    (fun (i3, i9) => ∃ k : Nat, i9 = (k : Int) ∧ k ≤ xscarec.length ∧ i3 = readsN xtex xbas k)
    (fun (i3, i9) => (xscarec.length - i9).toNat) (0, 0) ⟨0, rfl, by omega, rfl⟩ ⟨rfl, rfl, trivial⟩ rfl ?_
  rintro ⟨i3, i9⟩ J ⟨k, hi, hk, hx⟩ hJ
  have hbn := readsN_b (b := xbas) hz k
  conv => cbv
  refine .lss (fun h2 => ?_) fun h2 => ?_
  · conv => cbv
    refine .add fun v3 hv3 => ?_
    conv => cbv
    generalize hr4 : rReadsFor xtex v3 = r4
    refine .dd hP (FiReadsFor (by omega) (by omega) hr4) ?_
    conv => cbv
    have hrb := rReadsFor_b hz hr4
    refine .add fun v5 hv5 => ?_
    conv => cbv
    refine .add fun v6 hv6 => ?_
    conv => cbv
    exact .go [] (v5, v6) (hJ _ ⟨k + 1, by omega, by omega, by rw [readsN_add, ← hx, ← show v3 = xbas + (k : Int) by omega, hr4]; exact hv5⟩ (by first | (dsimp only; omega) | omega))
  · conv => cbv
    have e : i3 = rReadsOn_1 (⟨xbas, xtex, ⟨xscaok, ⟨xscaheaver, xscaheastr, xscaheabas, xscahealin⟩, xscarec, xscaoff, xscaend, xscamar⟩⟩ : Tlink) := (by unfold rReadsOn_1; simp only []; rw [hx, show k = xscarec.length by omega])
    rw [hr] at e
    subst e
    exact hQ _ _ (.i rfl rfl)
theorem FisumOver_ReadsOn_1 {dnod : List TNode} {xdnod : List (List D)} {dent : List TEntry} {xdent : List (List D)} {dold : List TEntry} {xdold : List (List D)} {dste : List ByteArray} {xdste : List (List D)} {droo : Int} {dnex : Int} {o : Int} (hdnod : dnod.map eNode = xdnod) (hdent : dent.map eEntry = xdent) (hdold : dold.map eEntry = xdold) (hdste : dste.map cS = xdste) (hd : okD ⟨dnod, dent, dold, dste, droo, dnex⟩) (hr : rsumOver_ReadsOn_1 (⟨dnod, dent, dold, dste, droo, dnex⟩ : TDisk) = o)  : Fn Tryz.prog 45 [.agg [.d (.row 3 xdnod), .d (.row 2 xdent), .d (.row 2 xdold), .d (.row 1 xdste), I droo, I dnex], .clo 74 []] [] ⟨I o, [], []⟩ := by
  refine Fn.go su_ch14c Tryz.func45 fun P hP Q hQ => ?_
  conv => cbv
  generalize hr1 : rlinks (⟨dnod, dent, dold, dste, droo, dnex⟩ : TDisk) = l1
  generalize hl1 : l1.map elink = xl1
  refine .dd hP (Filinks hdnod hdent hdold hdste hd hr1 hl1) ?_
  conv => cbv
  refine .go hl1 fun v2 hv2 => ?_
  conv => cbv
  refine LoopW.lp (κ := Int × Int) su_ch14c hP [] [1, 9, 10] (fun (i5, i11) => [(5, I i5), (11, I i11)]) (fun (i5, i11) => [])
    (fun (i5, i11) => 0 ≤ i11 ∧ i11 ≤ l1.length ∧ (-4398046511104 * i11 ≤ i5 ∧ i5 ≤ 4398046511104 * i11) ∧ i5 = sumL rReadsOn_1 (l1.take i11.toNat))
    (fun (i5, i11) => (l1.length - i11).toNat) (0, 0) ⟨by omega, by omega, by omega, rfl⟩ ⟨rfl, rfl, trivial⟩ rfl ?_
  rintro ⟨i5, i11⟩ J ⟨h0, h1, hb, hx⟩ hJ
  have hl16 := rlinks_len hr1
  conv => cbv
  refine .lss (fun h3 => ?_) fun h3 => ?_
  · conv => cbv
    refine .goX i11.toNat hl1 fun hje4 ⟨e4bas, e4tex, ⟨e4scaok, ⟨e4scaheaver, e4scaheastr, e4scaheabas, e4scahealin⟩, e4scarec, e4scaoff, e4scaend, e4scamar⟩⟩ fe4 qe4 hfe4 => ?_
    replace hfe4 : [.sc (.int .i64 e4bas), .sc (.string e4tex), .sc (.bool e4scaok), .sc (.int .i64 e4scaheaver), .sc (.int .i64 e4scaheastr), .sc (.int .i64 e4scaheabas), .sc (.int .i64 e4scahealin), .row 1 (e4scarec.map cS), .row 1 (e4scaoff.map cI), .sc (.int .i64 e4scaend), .sc (.bool e4scamar)] = fe4 := hfe4
    generalize he4scarec : e4scarec.map cS = xe4scarec at hfe4
    generalize he4scaoff : e4scaoff.map cI = xe4scaoff at hfe4
    subst hfe4
    conv => cbv
    have hm := rlinks_mem hr1 (x := ⟨e4bas, e4tex, ⟨e4scaok, ⟨e4scaheaver, e4scaheastr, e4scaheabas, e4scahealin⟩, e4scarec, e4scaoff, e4scaend, e4scamar⟩⟩) (by rw [qe4]; exact List.getElem_mem _)
    obtain ⟨hm1, hm2, s9, hm3⟩ := hm
    simp only [] at hm1 hm2 hm3
    have hz := rTextAt_le hd hm1.symm
    have zr := rScan_recs (b := e4tex)
    rw [hm1, ← hm2] at zr
    simp only [] at zr
    rw [← hm1] at zr
    have hg := rGoesOn_t hm3
    obtain ⟨hh, g1, g2, g3, g4, g5⟩ := hg
    generalize hr5 : rReadsOn_1 (⟨e4bas, e4tex, ⟨e4scaok, ⟨e4scaheaver, e4scaheastr, e4scaheabas, e4scahealin⟩, e4scarec, e4scaoff, e4scaend, e4scamar⟩⟩ : Tlink) = r5
    refine .dd hP (FiReadsOn_1 he4scarec he4scaoff ⟨g4, g5⟩ hz (by omega) hr5) ?_
    conv => cbv
    have h5 : r5 = readsN e4tex e4bas e4scarec.length := hr5.symm
    have hbn := readsN_b (b := e4bas) hz e4scarec.length
    rw [← h5] at hbn
    refine .add fun v6 hv6 => ?_
    conv => cbv
    refine .add fun v7 hv7 => ?_
    conv => cbv
    exact .go [] (v6, v7) (hJ _ ⟨by omega, by omega, by omega, by rw [show v7.toNat = i11.toNat + 1 by omega, sumL_take hje4, ← hx, ← qe4, hr5]; omega⟩ (by first | (dsimp only; omega) | omega))
  · conv => cbv
    have e : i5 = rsumOver_ReadsOn_1 (⟨dnod, dent, dold, dste, droo, dnex⟩ : TDisk) := (by unfold rsumOver_ReadsOn_1; rw [hr1, hx, List.take_of_length_le (by omega)])
    rw [hr] at e
    subst e
    exact hQ _ _ (.i rfl rfl)
theorem FiReadsOn {dnod : List TNode} {xdnod : List (List D)} {dent : List TEntry} {xdent : List (List D)} {dold : List TEntry} {xdold : List (List D)} {dste : List ByteArray} {xdste : List (List D)} {droo : Int} {dnex : Int} {o : Int} (hdnod : dnod.map eNode = xdnod) (hdent : dent.map eEntry = xdent) (hdold : dold.map eEntry = xdold) (hdste : dste.map cS = xdste) (hd : okD ⟨dnod, dent, dold, dste, droo, dnex⟩) (hr : rReadsOn (⟨dnod, dent, dold, dste, droo, dnex⟩ : TDisk) = o)  : Fn Tryz.prog 35 [.agg [.d (.row 3 xdnod), .d (.row 2 xdent), .d (.row 2 xdold), .d (.row 1 xdste), I droo, I dnex]] [] ⟨I o, [], []⟩ := by
  refine Fn.go su_ch14c Tryz.func35 fun P hP Q hQ => ?_
  conv => cbv
  generalize hr1 : rsumOver_ReadsOn_1 (⟨dnod, dent, dold, dste, droo, dnex⟩ : TDisk) = r1
  refine .dd hP (FisumOver_ReadsOn_1 hdnod hdent hdold hdste hd hr1) ?_
  conv => cbv
  have e : r1 = rReadsOn (⟨dnod, dent, dold, dste, droo, dnex⟩ : TDisk) := (by unfold rReadsOn; exact hr1.symm)
  rw [hr] at e
  subst e
  exact hQ _ _ (.i rfl rfl)
theorem FsReadsOn {dnod : List TNode} {xdnod : List (List D)} {dent : List TEntry} {xdent : List (List D)} {dold : List TEntry} {xdold : List (List D)} {dste : List ByteArray} {xdste : List (List D)} {droo : Int} {dnex : Int} {o : Int} (hdnod : dnod.map eNode = xdnod) (hdent : dent.map eEntry = xdent) (hdold : dold.map eEntry = xdold) (hdste : dste.map cS = xdste) (hd : okD ⟨dnod, dent, dold, dste, droo, dnex⟩) (hr : rReadsOn (⟨dnod, dent, dold, dste, droo, dnex⟩ : TDisk) = o)  : Fn Tryz.prog 34 [.agg [.d (.row 3 xdnod), .d (.row 2 xdent), .d (.row 2 xdold), .d (.row 1 xdste), I droo, I dnex]] [] ⟨I o, [], []⟩ := by
  refine Fn.go su_ch14c Tryz.func34 fun P hP Q hQ => ?_
  conv => cbv
  generalize hr1 : rChain (⟨dnod, dent, dold, dste, droo, dnex⟩ : TDisk) = l1
  generalize hl1 : l1.map cI = xl1
  refine .dd hP (FsChain hdnod hdent hdold hdste hd hr1 hl1) ?_
  conv => cbv
  refine LoopW.lp (κ := Int × Int) su_ch14c hP [] [1, 4] (fun (i3, i5) => [(3, I i3), (5, I i5)]) (fun (i3, i5) => [])
    (fun (i3, i5) => 0 ≤ i5 ∧ i5 ≤ l1.length ∧ (-4398046511104 * i5 ≤ i3 ∧ i3 ≤ 4398046511104 * i5) ∧ i3 = sumL (fun b => readsN (rTextAt (⟨dnod, dent, dold, dste, droo, dnex⟩ : TDisk) b) b (rRecordsIn (rTextAt (⟨dnod, dent, dold, dste, droo, dnex⟩ : TDisk) b)).length) (l1.take i5.toNat))
    (fun (i3, i5) => (l1.length - i5).toNat) (0, 0) ⟨by omega, by omega, by omega, rfl⟩ ⟨rfl, rfl, trivial⟩ rfl ?_
  rintro ⟨i3, i5⟩ J ⟨h0, h1, hb, hx⟩ hJ
  have hl16 := rChain_len hr1
  conv => cbv
  refine .go hl1 fun v2 hv2 => ?_
  conv => cbv
  refine .lss (fun h3 => ?_) fun h3 => ?_
  · conv => cbv
    refine .go i5.toNat hl1 fun hje4 e4 qe4 => ?_
    conv => cbv
    generalize hr5 : rTextAt (⟨dnod, dent, dold, dste, droo, dnex⟩ : TDisk) e4 = r5
    refine .dd hP (FsTextAt hdnod hdent hdold hdste hd hr5) ?_
    conv => cbv
    have z5 := rTextAt_le hd hr5
    generalize hr6 : rRecordsIn r5 = l6
    generalize hl6 : l6.map cS = xl6
    refine .dd hP (FsRecordsIn (by omega) hr6 hl6) ?_
    conv => cbv
    have zr := rScan_recs (b := r5)
    have rq : (rScanText r5).records_ = l6 := hr6
    rw [rq] at zr
    have hg := chain_goes hr1 (x := e4) (by rw [qe4]; exact List.getElem_mem _)
    obtain ⟨g4, g5⟩ := hg
    refine .go hl6 fun v7 hv7 => ?_
    conv => cbv
    refine LoopW.lp (κ := Int × Int) su_ch14c hP [] [1, 4, 5, 6, 7] (fun (i3, i8) => [(3, I i3), (8, I i8)]) (fun (i3, i8) => [])
      (fun (i3, i8) => ∃ k : Nat, i8 = (k : Int) ∧ k ≤ l6.length ∧ i3 = sumL (fun b => readsN (rTextAt (⟨dnod, dent, dold, dste, droo, dnex⟩ : TDisk) b) b (rRecordsIn (rTextAt (⟨dnod, dent, dold, dste, droo, dnex⟩ : TDisk) b)).length) (l1.take i5.toNat) + readsN r5 e4 k)
      (fun (i3, i8) => (l6.length - i8).toNat) (i3, 0) ⟨0, rfl, by omega, by rw [← hx]; show i3 = i3 + 0; omega⟩ ⟨rfl, rfl, trivial⟩ rfl ?_
    rintro ⟨i3, i8⟩ J1 ⟨k, hi, hk, hy⟩ hJ1
    have hbn := readsN_b (t := r5) (b := e4) (by omega) k
    conv => cbv
    refine .lss (fun h8 => ?_) fun h8 => ?_
    · conv => cbv
      refine .go i5.toNat hl1 fun hje9 e9 qe9 => ?_
      conv => cbv
      have e94 : e9 = e4 := qe9.trans qe4.symm
      refine .add fun v10 hv10 => ?_
      conv => cbv
      generalize hr11 : rReadsFor r5 v10 = r11
      refine .dd hP (FsReadsFor (by omega) (by omega) hr11) ?_
      conv => cbv
      have hrb := rReadsFor_b (by omega) hr11
      refine .add fun v12 hv12 => ?_
      conv => cbv
      refine .add fun v13 hv13 => ?_
      conv => cbv
      exact .go [] (v12, v13) (hJ1 _ ⟨k + 1, by omega, by omega, by rw [readsN_add, ← show v10 = e4 + (k : Int) by omega, hr11]; omega⟩ (by first | (dsimp only; omega) | omega))
    · conv => cbv
      refine .add fun v9 hv9 => ?_
      conv => cbv
      exact .go [] (i3, v9) (hJ _ ⟨by omega, by omega, by omega, by rw [show v9.toNat = i5.toNat + 1 by omega, sumL_take hje4, ← qe4, hr5, hr6, hy, show k = l6.length by omega]⟩ (by first | (dsimp only; omega) | omega))
  · conv => cbv
    have e : i3 = rReadsOn (⟨dnod, dent, dold, dste, droo, dnex⟩ : TDisk) := (by rw [reads_chain, hr1, hx, List.take_of_length_le (by omega)])
    rw [hr] at e
    subst e
    exact hQ _ _ (.i rfl rfl)
end Go.Proofs.YtpghckpkiookoaaGreatDoor.Ab
