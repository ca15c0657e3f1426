/- What functions of the program come to, for all arguments in the given bounds. -/
import Derived.Test.YtmhinjjgpabkfaaGreatDoorch14e
set_option linter.unusedVariables false
set_option linter.unusedSimpArgs false
namespace Go.Proofs.YtmhinjjgpabkfaaGreatDoor.Ab
open Go Go.Proofs
set_option maxRecDepth 20000
set_option maxHeartbeats 4000000
set_option linter.unusedSimpArgs false
set_option linter.unusedVariables false
def tab_ch14f : List (Nat × TyRow) := [
  (3, ⟨.int .i64, some 1, some false, none, false, [.int .i64], [], some [(.int .i64 0, 0)], none, none, none⟩),
  (9, ⟨.str, some 1, some false, none, false, [.str], [], some [(.string default, 0)], none, none, none⟩),
  (24, ⟨.sl 1, some 1, some false, some (1, 8), false, [.sl 1], [], some [(.slice none 0 0, 1)], some ([.sc (.int .i64 0)], 1, 8), none, none⟩),
  (41, ⟨.sl 1, some 1, some false, some (1, 16), false, [.sl 1], [], some [(.slice none 0 0, 1)], some ([.sc (.string default)], 1, 16), none, none⟩),
  (49, ⟨.other, some 6, some true, none, false, [.sl 3, .sl 2, .sl 2, .sl 1, .int .i64, .int .i64], [some (0, 1, false), some (1, 1, false), some (2, 1, false), some (3, 1, false), some (4, 1, false), some (5, 1, false)], some [(.slice none 0 0, 3), (.slice none 0 0, 2), (.slice none 0 0, 2), (.slice none 0 0, 1), (.int .i64 0, 0), (.int .i64 0, 0)], none, some [(0, 1), (1, 1), (2, 1), (3, 1), (4, 1), (5, 1)], none⟩),
  (101, ⟨.other, some 9, some true, none, false, [.bool, .int .i64, .int .i64, .int .i64, .int .i64, .sl 1, .sl 1, .int .i64, .bool], [some (0, 1, false), some (1, 4, true), some (5, 1, false), some (6, 1, false), some (7, 1, false), some (8, 1, false)], some [(.bool false, 0), (.int .i64 0, 0), (.int .i64 0, 0), (.int .i64 0, 0), (.int .i64 0, 0), (.slice none 0 0, 1), (.slice none 0 0, 1), (.int .i64 0, 0), (.bool false, 0)], none, some [(0, 1), (1, 4), (5, 1), (6, 1), (7, 1), (8, 1)], none⟩),
  (103, ⟨.other, some 11, some true, none, false, [.int .i64, .str, .bool, .int .i64, .int .i64, .int .i64, .int .i64, .sl 1, .sl 1, .int .i64, .bool], [some (0, 1, false), some (1, 1, false), some (2, 9, true)], some [(.int .i64 0, 0), (.string default, 0), (.bool false, 0), (.int .i64 0, 0), (.int .i64 0, 0), (.int .i64 0, 0), (.int .i64 0, 0), (.slice none 0 0, 1), (.slice none 0 0, 1), (.int .i64 0, 0), (.bool false, 0)], none, some [(0, 1), (1, 1), (2, 9)], none⟩),
  (154, ⟨.sl 11, some 1, some false, some (11, 128), false, [.sl 11], [], some [(.slice none 0 0, 11)], some ([.sc (.int .i64 0), .sc (.string default), .sc (.bool false), .sc (.int .i64 0), .sc (.int .i64 0), .sc (.int .i64 0), .sc (.int .i64 0), .row 1 [], .row 1 [], .sc (.int .i64 0), .sc (.bool false)], 11, 128), none, none⟩)]
theorem tab_ch14f_ok : TabOk Tryz.prog tab_ch14f := TabOk.of (by kernel_rfl)
theorem su_ch14f : Setup Tryz.prog tab_ch14f := ⟨tab_ch14f_ok, mixed⟩
def rWasteOn_1 (x : Tlink) : Int := if rSealedOk x.text_ = true then 0 else x.text_.size - x.scan_.end_
def rsumOver_WasteOn_1 (d : TDisk) : Int := sumL rWasteOn_1 (rlinks d)
def rWasteOn (d : TDisk) : Int := rsumOver_WasteOn_1 d + sumL (fun n => ((rReadFile d n).1.size : Int)) (rLooseNames d)
theorem waste_chain {d : TDisk} : rsumOver_WasteOn_1 d = sumL (fun b => if rSealedOk (rTextAt d b) = true then 0 else (rTextAt d b).size - rSizeScanned (rTextAt d b)) (rChain d) := sum_chain _ _ fun x h1 h2 => by unfold rWasteOn_1 rSizeScanned; rw [h1, h2]
theorem loose_b {d : TDisk} {l : List ByteArray} (hd : okD d) (e : rLooseNames d = l) : l.length ≤ 1048576 := by
  rw [← e]
  unfold rLooseNames
  have := List.length_filter_le (looseN (rChain d)) (d.entries_.map fun e => e.name_)
  rw [List.length_map] at this
  have := hd.2.2.1
  omega
theorem readFile_le {d : TDisk} (hd : okD d) (n : ByteArray) : (rReadFile d n).1.size ≤ 1048576 := rReadFile_b (name := n) (ok := (rReadFile d n).2) hd rfl
theorem sumLP_add {α : Type} {f : α → Int} {l : List α} {m : Int} (h : ∀ x ∈ l, 0 ≤ f x ∧ f x ≤ m) : ∀ k, k ≤ l.length → 0 ≤ sumL f (l.take k) ∧ sumL f (l.take k) ≤ m * k
  | 0, _ => by simp [sumL]
  | k + 1, hk => by
    have ih := sumLP_add h k (by omega)
    have h2 := h _ (List.getElem_mem (l := l) (n := k) (by omega))
    rw [sumL_take (by omega)]
    have : m * ((k + 1 : Nat) : Int) = m * k + m := by rw [Int.natCast_succ, Int.mul_add, Int.mul_one]
    omega
theorem FiWasteOn_1 {xbas : Int} {xtex : ByteArray} {xscaok : Bool} {xscaheaver : Int} {xscaheastr : Int} {xscaheabas : Int} {xscahealin : Int} {xscarec : List ByteArray} {xxscarec : List (List D)} {xscaoff : List Int} {xxscaoff : List (List D)} {xscaend : Int} {xscamar : Bool} {o : Int} (hxscarec : xscarec.map cS = xxscarec) (hxscaoff : xscaoff.map cI = xxscaoff) (hn : xtex.size < 2 ^ 40) (hb : 0 ≤ xscaend ∧ xscaend ≤ 1048576) (hr : rWasteOn_1 (⟨xbas, xtex, ⟨xscaok, ⟨xscaheaver, xscaheastr, xscaheabas, xscahealin⟩, xscarec, xscaoff, xscaend, xscamar⟩⟩ : Tlink) = o)  : Fn Tryz.prog 68 [.agg [I xbas, S xtex, B xscaok, I xscaheaver, I xscaheastr, I xscaheabas, I xscahealin, .d (.row 1 xxscarec), .d (.row 1 xxscaoff), I xscaend, B xscamar]] [] ⟨I o, [], []⟩ := by
 refine Fn.go su_ch14f Tryz.func68 fun P hP Q hQ => ?_
 conv => cbv
 generalize hr1 : rSealedOk xtex = r1
 refine .dd hP (FiSealedOk (by omega) hr1) ?_
 cases r1
 conv => cbv
 refine .go fun v2 hv2 => ?_
 conv => cbv
 refine .sub fun v3 hv3 => ?_
 conv => cbv
 have e : v3 = rWasteOn_1 (⟨xbas, xtex, ⟨xscaok, ⟨xscaheaver, xscaheastr, xscaheabas, xscahealin⟩, xscarec, xscaoff, xscaend, xscamar⟩⟩ : Tlink) := (by unfold rWasteOn_1; simp [hr1]; omega)
 rw [hr] at e
 subst e
 exact hQ _ _ (.i rfl rfl)
 conv => cbv
 have e : 0 = rWasteOn_1 (⟨xbas, xtex, ⟨xscaok, ⟨xscaheaver, xscaheastr, xscaheabas, xscahealin⟩, xscarec, xscaoff, xscaend, xscamar⟩⟩ : Tlink) := (by unfold rWasteOn_1; simp [hr1])
 rw [hr] at e
 subst e
 exact hQ _ _ (.i rfl rfl)
theorem FisumOver_WasteOn_1 {dnod : List TNode} {xdnod : List (List D)} {dent : List TEntry} {xdent : List (List D)} {dold : List TEntry} {xdold : List (List D)} {dste : List ByteArray} {xdste : List (List D)} {droo : Int} {dnex : Int} {o : Int} (hdnod : dnod.map eNode = xdnod) (hdent : dent.map eEntry = xdent) (hdold : dold.map eEntry = xdold) (hdste : dste.map cS = xdste) (hd : okD ⟨dnod, dent, dold, dste, droo, dnex⟩) (hr : rsumOver_WasteOn_1 (⟨dnod, dent, dold, dste, droo, dnex⟩ : TDisk) = o)  : Fn Tryz.prog 67 [.agg [.d (.row 3 xdnod), .d (.row 2 xdent), .d (.row 2 xdold), .d (.row 1 xdste), I droo, I dnex], .clo 68 []] [] ⟨I o, [], []⟩ := by
 refine Fn.go su_ch14f Tryz.func67 fun P hP Q hQ => ?_
 conv => cbv
 generalize hr1 : rlinks (⟨dnod, dent, dold, dste, droo, dnex⟩ : TDisk) = l1
 generalize hl1 : l1.map elink = xl1
 refine .dd hP (Filinks hdnod hdent hdold hdste hd hr1 hl1) ?_
 conv => cbv
 refine .go hl1 fun v2 hv2 => ?_
 conv => cbv
 refine LoopW.lp (κ := Int × Int) su_ch14f hP [] [1, 9, 10] (fun (i5, i11) => [(5, I i5), (11, I i11)]) (fun (i5, i11) => [])
   (fun (i5, i11) => 0 ≤ i11 ∧ i11 ≤ l1.length ∧ (-1048576 * i11 ≤ i5 ∧ i5 ≤ 1048576 * i11) ∧ i5 = sumL rWasteOn_1 (l1.take i11.toNat))
   (fun (i5, i11) => (l1.length - i11).toNat) (0, 0) ⟨by omega, by omega, by omega, rfl⟩ ⟨rfl, rfl, trivial⟩ rfl ?_
 rintro ⟨i5, i11⟩ J ⟨h0, h1, hb, hx⟩ hJ
 have hl16 := rlinks_len hr1
 conv => cbv
 refine .lss (fun h3 => ?_) fun h3 => ?_
 conv => cbv
 refine .goX i11.toNat hl1 fun hje4 ⟨e4bas, e4tex, ⟨e4scaok, ⟨e4scaheaver, e4scaheastr, e4scaheabas, e4scahealin⟩, e4scarec, e4scaoff, e4scaend, e4scamar⟩⟩ fe4 qe4 hfe4 => ?_
 replace hfe4 : [.sc (.int .i64 e4bas), .sc (.string e4tex), .sc (.bool e4scaok), .sc (.int .i64 e4scaheaver), .sc (.int .i64 e4scaheastr), .sc (.int .i64 e4scaheabas), .sc (.int .i64 e4scahealin), .row 1 (e4scarec.map cS), .row 1 (e4scaoff.map cI), .sc (.int .i64 e4scaend), .sc (.bool e4scamar)] = fe4 := hfe4
 generalize he4scarec : e4scarec.map cS = xe4scarec at hfe4
 generalize he4scaoff : e4scaoff.map cI = xe4scaoff at hfe4
 subst hfe4
 conv => cbv
 have hm := rlinks_mem hr1 (x := ⟨e4bas, e4tex, ⟨e4scaok, ⟨e4scaheaver, e4scaheastr, e4scaheabas, e4scahealin⟩, e4scarec, e4scaoff, e4scaend, e4scamar⟩⟩) (by rw [qe4]; exact List.getElem_mem _)
 obtain ⟨hm1, hm2, s9, hm3⟩ := hm
 simp only [] at hm1 hm2 hm3
 have hz := rTextAt_le hd hm1.symm
 have ze := rScan_end (b := e4tex)
 rw [hm1, ← hm2] at ze
 simp only [] at ze
 rw [← hm1] at ze
 generalize hr5 : rWasteOn_1 (⟨e4bas, e4tex, ⟨e4scaok, ⟨e4scaheaver, e4scaheastr, e4scaheabas, e4scahealin⟩, e4scarec, e4scaoff, e4scaend, e4scamar⟩⟩ : Tlink) = r5
 refine .dd hP (FiWasteOn_1 he4scarec he4scaoff (by omega) (by omega) hr5) ?_
 conv => cbv
 have h5 : r5 = (if rSealedOk e4tex = true then 0 else e4tex.size - e4scaend) := hr5.symm
 have h5b : -1048576 ≤ r5 ∧ r5 ≤ 1048576 := by rw [h5]; split <;> omega
 refine .add fun v6 hv6 => ?_
 conv => cbv
 refine .add fun v7 hv7 => ?_
 conv => cbv
 exact .go [] (v6, v7) (hJ _ ⟨by omega, by omega, by omega, by rw [show v7.toNat = i11.toNat + 1 by omega, sumL_take hje4, ← hx, ← qe4, hr5]; omega⟩ (by first | (dsimp only; omega) | omega))
 conv => cbv
 have e : i5 = rsumOver_WasteOn_1 (⟨dnod, dent, dold, dste, droo, dnex⟩ : TDisk) := (by unfold rsumOver_WasteOn_1; rw [hr1, hx, List.take_of_length_le (by omega)])
 rw [hr] at e
 subst e
 exact hQ _ _ (.i rfl rfl)
theorem waste_b {d : TDisk} {o : Int} (hd : okD d) (e : rsumOver_WasteOn_1 d = o) : -16777216 ≤ o ∧ o ≤ 16777216 := by
  rw [← e, waste_chain]
  have key : ∀ c : List Int, c.length ≤ 16 → ∀ k, k ≤ c.length → -1048576 * (k : Int) ≤ sumL (fun b => if rSealedOk (rTextAt d b) = true then 0 else ((rTextAt d b).size : Int) - rSizeScanned (rTextAt d b)) (c.take k) ∧ sumL (fun b => if rSealedOk (rTextAt d b) = true then 0 else ((rTextAt d b).size : Int) - rSizeScanned (rTextAt d b)) (c.take k) ≤ 1048576 * (k : Int) := by
    intro c hc k
    induction k with
    | zero => intro _; simp [sumL]
    | succ k ih =>
      intro hk
      have h1 := ih (by omega)
      rw [sumL_take (by omega)]
      have h2 := rTextAt_le hd (rfl : rTextAt d c[k] = _)
      have h3 := rScan_end (b := rTextAt d c[k])
      have h4 : rSizeScanned (rTextAt d c[k]) = (rScanText (rTextAt d c[k])).end_ := rfl
      have h5 : -1048576 ≤ (if rSealedOk (rTextAt d c[k]) = true then 0 else ((rTextAt d c[k]).size : Int) - rSizeScanned (rTextAt d c[k])) ∧ (if rSealedOk (rTextAt d c[k]) = true then 0 else ((rTextAt d c[k]).size : Int) - rSizeScanned (rTextAt d c[k])) ≤ 1048576 := by split <;> omega
      omega
  have hl := rChain_len (rfl : rChain d = _)
  have := key (rChain d) hl (rChain d).length (Nat.le_refl _)
  rw [List.take_length] at this
  omega
theorem FiWasteOn {dnod : List TNode} {xdnod : List (List D)} {dent : List TEntry} {xdent : List (List D)} {dold : List TEntry} {xdold : List (List D)} {dste : List ByteArray} {xdste : List (List D)} {droo : Int} {dnex : Int} {o : Int} (hdnod : dnod.map eNode = xdnod) (hdent : dent.map eEntry = xdent) (hdold : dold.map eEntry = xdold) (hdste : dste.map cS = xdste) (hd : okD ⟨dnod, dent, dold, dste, droo, dnex⟩) (hr : rWasteOn (⟨dnod, dent, dold, dste, droo, dnex⟩ : TDisk) = o)  : Fn Tryz.prog 20 [.agg [.d (.row 3 xdnod), .d (.row 2 xdent), .d (.row 2 xdold), .d (.row 1 xdste), I droo, I dnex]] [] ⟨I o, [], []⟩ := by
 refine Fn.go su_ch14f Tryz.func20 fun P hP Q hQ => ?_
 conv => cbv
 generalize hr1 : rsumOver_WasteOn_1 (⟨dnod, dent, dold, dste, droo, dnex⟩ : TDisk) = r1
 refine .dd hP (FisumOver_WasteOn_1 hdnod hdent hdold hdste hd hr1) ?_
 conv => cbv
 generalize hr2 : rLooseNames (⟨dnod, dent, dold, dste, droo, dnex⟩ : TDisk) = l2
 generalize hl2 : l2.map cS = xl2
 refine .dd hP (FiLooseNames hdnod hdent hdold hdste hd hr2 hl2) ?_
 conv => cbv
 refine .go hl2 fun v3 hv3 => ?_
 conv => cbv
 refine LoopW.lp (κ := Int × Int) su_ch14f hP [] [1, 11, 12] (fun (i3, i13) => [(3, I i3), (13, I i13)]) (fun (i3, i13) => [])
   (fun (i3, i13) => 0 ≤ i13 ∧ i13 ≤ l2.length ∧ i3 = r1 + sumL (fun n => ((rReadFile (⟨dnod, dent, dold, dste, droo, dnex⟩ : TDisk) n).1.size : Int)) (l2.take i13.toNat))
   (fun (i3, i13) => (l2.length - i13).toNat) (r1, 0) ⟨by omega, by omega, by show r1 = r1 + 0; omega⟩ ⟨rfl, rfl, trivial⟩ rfl ?_
 rintro ⟨i3, i13⟩ J ⟨h0, h1, hx⟩ hJ
 have hb1 := waste_b hd hr1
 have hl9 := loose_b hd hr2
 have hs := sumLP_add (f := (fun n => ((rReadFile (⟨dnod, dent, dold, dste, droo, dnex⟩ : TDisk) n).1.size : Int))) (l := l2) (m := 1048576) (fun x _ => ⟨Int.natCast_nonneg _, by have := readFile_le hd x; omega⟩) i13.toNat (by omega)
 conv => cbv
 refine .lss (fun h4 => ?_) fun h4 => ?_
 conv => cbv
 refine .go i13.toNat hl2 fun hje5 e5 qe5 => ?_
 conv => cbv
 rcases hr6 : rReadFile (⟨dnod, dent, dold, dste, droo, dnex⟩ : TDisk) e5 with ⟨r6a, r6b⟩
 refine .dd hP (FiReadFile hdnod hdent hdold hdste hd hr6) ?_
 conv => cbv
 have z6 := rReadFile_b hd hr6
 refine .go fun v7 hv7 => ?_
 conv => cbv
 refine .add fun v8 hv8 => ?_
 conv => cbv
 refine .add fun v9 hv9 => ?_
 conv => cbv
 exact .go [] (v8, v9) (hJ _ ⟨by omega, by omega, by rw [show v9.toNat = i13.toNat + 1 by omega, sumL_take hje5, ← qe5, hr6]; simp only []; omega⟩ (by first | (dsimp only; omega) | omega))
 conv => cbv
 have e : i3 = rWasteOn (⟨dnod, dent, dold, dste, droo, dnex⟩ : TDisk) := (by unfold rWasteOn; rw [hr1, hr2, hx, List.take_of_length_le (by omega)])
 rw [hr] at e
 subst e
 exact hQ _ _ (.i rfl rfl)
theorem FsWasteOn {dnod : List TNode} {xdnod : List (List D)} {dent : List TEntry} {xdent : List (List D)} {dold : List TEntry} {xdold : List (List D)} {dste : List ByteArray} {xdste : List (List D)} {droo : Int} {dnex : Int} {o : Int} (hdnod : dnod.map eNode = xdnod) (hdent : dent.map eEntry = xdent) (hdold : dold.map eEntry = xdold) (hdste : dste.map cS = xdste) (hd : okD ⟨dnod, dent, dold, dste, droo, dnex⟩) (hr : rWasteOn (⟨dnod, dent, dold, dste, droo, dnex⟩ : TDisk) = o)  : Fn Tryz.prog 18 [.agg [.d (.row 3 xdnod), .d (.row 2 xdent), .d (.row 2 xdold), .d (.row 1 xdste), I droo, I dnex]] [] ⟨I o, [], []⟩ := by
 refine Fn.go su_ch14f Tryz.func18 fun P hP Q hQ => ?_
 conv => cbv
 generalize hr1 : rChain (⟨dnod, dent, dold, dste, droo, dnex⟩ : TDisk) = l1
 generalize hl1 : l1.map cI = xl1
 refine .dd hP (FsChain hdnod hdent hdold hdste hd hr1 hl1) ?_
 conv => cbv
 refine LoopW.lp (κ := Int × Int) su_ch14f hP [] [1, 4] (fun (i3, i5) => [(3, I i3), (5, I i5)]) (fun (i3, i5) => [])
   (fun (i3, i5) => 0 ≤ i5 ∧ i5 ≤ l1.length ∧ (-1048576 * i5 ≤ i3 ∧ i3 ≤ 1048576 * i5) ∧ i3 = sumL (fun b => if rSealedOk (rTextAt (⟨dnod, dent, dold, dste, droo, dnex⟩ : TDisk) b) = true then 0 else ((rTextAt (⟨dnod, dent, dold, dste, droo, dnex⟩ : TDisk) b).size : Int) - rSizeScanned (rTextAt (⟨dnod, dent, dold, dste, droo, dnex⟩ : TDisk) b)) (l1.take i5.toNat))
   (fun (i3, i5) => (l1.length - i5).toNat) (0, 0) ⟨by omega, by omega, by omega, rfl⟩ ⟨rfl, rfl, trivial⟩ rfl ?_
 rintro ⟨i3, i5⟩ J ⟨h0, h1, hb, hx⟩ hJ
 have hl16 := rChain_len hr1
 conv => cbv
 refine .go hl1 fun v2 hv2 => ?_
 conv => cbv
 refine .lss (fun h3 => ?_) fun h3 => ?_
 conv => cbv
 refine .go i5.toNat hl1 fun hje4 e4 qe4 => ?_
 conv => cbv
 generalize hr5 : rTextAt (⟨dnod, dent, dold, dste, droo, dnex⟩ : TDisk) e4 = r5
 refine .dd hP (FsTextAt hdnod hdent hdold hdste hd hr5) ?_
 conv => cbv
 have z5 := rTextAt_le hd hr5
 generalize hr6 : rSealedOk r5 = r6
 refine .dd hP (FsSealedOk (by omega) hr6) ?_
 cases r6
 conv => cbv
 refine .go fun v7 hv7 => ?_
 conv => cbv
 refine .add fun v8 hv8 => ?_
 conv => cbv
 generalize hr9 : rSizeScanned r5 = r9
 refine .dd hP (FsSizeScanned (by omega) hr9) ?_
 conv => cbv
 have ze := rScan_end (b := r5)
 have z9 : r9 = (rScanText r5).end_ := hr9.symm
 refine .sub fun v10 hv10 => ?_
 conv => cbv
 refine .add fun v11 hv11 => ?_
 conv => cbv
 exact .go [] (v10, v11) (hJ _ ⟨by omega, by omega, by omega, by rw [show v11.toNat = i5.toNat + 1 by omega, sumL_take hje4, ← hx, ← qe4, hr5, hr6, hr9]; simp; omega⟩ (by first | (dsimp only; omega) | omega))
 conv => cbv
 refine .add fun v7 hv7 => ?_
 conv => cbv
 exact .go [] (i3, v7) (hJ _ ⟨by omega, by omega, by omega, by rw [show v7.toNat = i5.toNat + 1 by omega, sumL_take hje4, ← hx, ← qe4, hr5, hr6]; simp⟩ (by first | (dsimp only; omega) | omega))
 conv => cbv
 have hW : rsumOver_WasteOn_1 (⟨dnod, dent, dold, dste, droo, dnex⟩ : TDisk) = i3 := by rw [waste_chain, hr1, hx, List.take_of_length_le (by omega)]
 have hb1 := waste_b hd hW
 generalize hr4 : rLooseNames (⟨dnod, dent, dold, dste, droo, dnex⟩ : TDisk) = l4
 generalize hl4 : l4.map cS = xl4
 refine .dd hP (FsLooseNames hdnod hdent hdold hdste hd hr4 hl4) ?_
 conv => cbv
 refine LoopW.lp (κ := Int × Int) su_ch14f hP [] [1, 7] (fun (i3, i8) => [(3, I i3), (8, I i8)]) (fun (i3, i8) => [])
   (fun (i3, i8) => 0 ≤ i8 ∧ i8 ≤ l4.length ∧ i3 = rsumOver_WasteOn_1 (⟨dnod, dent, dold, dste, droo, dnex⟩ : TDisk) + sumL (fun n => ((rReadFile (⟨dnod, dent, dold, dste, droo, dnex⟩ : TDisk) n).1.size : Int)) (l4.take i8.toNat))
   (fun (i3, i8) => (l4.length - i8).toNat) (i3, 0) ⟨by omega, by omega, by rw [hW]; show i3 = i3 + 0; omega⟩ ⟨rfl, rfl, trivial⟩ rfl ?_
 rintro ⟨i3, i8⟩ J1 ⟨h0, h1, hy⟩ hJ1
 have hl9 := loose_b hd hr4
 have hs := sumLP_add (f := (fun n => ((rReadFile (⟨dnod, dent, dold, dste, droo, dnex⟩ : TDisk) n).1.size : Int))) (l := l4) (m := 1048576) (fun x _ => ⟨Int.natCast_nonneg _, by have := readFile_le hd x; omega⟩) i8.toNat (by omega)
 conv => cbv
 refine .go hl4 fun v5 hv5 => ?_
 conv => cbv
 refine .lss (fun h6 => ?_) fun h6 => ?_
 conv => cbv
 refine .go i8.toNat hl4 fun hje7 e7 qe7 => ?_
 conv => cbv
 rcases hr8 : rReadFile (⟨dnod, dent, dold, dste, droo, dnex⟩ : TDisk) e7 with ⟨r8a, r8b⟩
 refine .dd hP (FsReadFile hdnod hdent hdold hdste hd hr8) ?_
 conv => cbv
 have z8 := rReadFile_b hd hr8
 refine .go fun v9 hv9 => ?_
 conv => cbv
 refine .add fun v10 hv10 => ?_
 conv => cbv
 refine .add fun v11 hv11 => ?_
 conv => cbv
 exact .go [] (v10, v11) (hJ1 _ ⟨by omega, by omega, by rw [show v11.toNat = i8.toNat + 1 by omega, sumL_take hje7, ← qe7, hr8]; simp only []; omega⟩ (by first | (dsimp only; omega) | omega))
 conv => cbv
 have e : i3 = rWasteOn (⟨dnod, dent, dold, dste, droo, dnex⟩ : TDisk) := (by unfold rWasteOn; rw [hr4, hy, List.take_of_length_le (by omega)])
 rw [hr] at e
 subst e
 exact hQ _ _ (.i rfl rfl)
end Go.Proofs.YtmhinjjgpabkfaaGreatDoor.Ab
