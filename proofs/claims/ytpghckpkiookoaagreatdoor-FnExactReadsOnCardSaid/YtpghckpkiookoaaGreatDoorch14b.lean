/- What functions of the program come to, for all arguments in the given bounds. -/
import Derived.Test.YtpghckpkiookoaaGreatDoorch14
set_option linter.unusedVariables false
set_option linter.unusedSimpArgs false
namespace Go.Proofs.YtpghckpkiookoaaGreatDoor.Ab
open Go Go.Proofs
set_option maxRecDepth 20000
set_option maxHeartbeats 4000000
set_option linter.unusedSimpArgs false
set_option linter.unusedVariables false
def tab_ch14b : List (Nat × TyRow) := [
  (3, ⟨.int .i64, some 1, some false, none, false, [.int .i64], [], some [(.int .i64 0, 0)], none, none, none⟩),
  (9, ⟨.str, some 1, some false, none, false, [.str], [], some [(.string default, 0)], none, none, none⟩),
  (24, ⟨.sl 1, some 1, some false, some (1, 16), false, [.sl 1], [], some [(.slice none 0 0, 1)], some ([.sc (.string default)], 1, 16), none, none⟩),
  (32, ⟨.other, some 6, some true, none, false, [.sl 3, .sl 2, .sl 2, .sl 1, .int .i64, .int .i64], [some (0, 1, false), some (1, 1, false), some (2, 1, false), some (3, 1, false), some (4, 1, false), some (5, 1, false)], some [(.slice none 0 0, 3), (.slice none 0 0, 2), (.slice none 0 0, 2), (.slice none 0 0, 1), (.int .i64 0, 0), (.int .i64 0, 0)], none, some [(0, 1), (1, 1), (2, 1), (3, 1), (4, 1), (5, 1)], none⟩),
  (40, ⟨.sl 1, some 1, some false, some (1, 8), false, [.sl 1], [], some [(.slice none 0 0, 1)], some ([.sc (.int .i64 0)], 1, 8), none, none⟩),
  (50, ⟨.other, some 22, some true, none, false, [.int .i64, .int .i64, .int .i64, .int .i64, .sl 3, .sl 2, .sl 2, .sl 1, .int .i64, .int .i64, .int .i64, .int .i64, .int .i64, .int .i64, .int .i64, .sl 1, .int .i64, .bool, .int .i64, .sl 1, .int .i64, .int .i64], [some (0, 4, true), some (4, 6, true), some (10, 9, true), some (19, 1, false), some (20, 1, false), some (21, 1, false)], some [(.int .i64 0, 0), (.int .i64 0, 0), (.int .i64 0, 0), (.int .i64 0, 0), (.slice none 0 0, 3), (.slice none 0 0, 2), (.slice none 0 0, 2), (.slice none 0 0, 1), (.int .i64 0, 0), (.int .i64 0, 0), (.int .i64 0, 0), (.int .i64 0, 0), (.int .i64 0, 0), (.int .i64 0, 0), (.int .i64 0, 0), (.slice none 0 0, 1), (.int .i64 0, 0), (.bool false, 0), (.int .i64 0, 0), (.slice none 0 0, 1), (.int .i64 0, 0), (.int .i64 0, 0)], none, some [(0, 4), (4, 6), (10, 9), (19, 1), (20, 1), (21, 1)], none⟩),
  (65, ⟨.other, some 4, some true, none, false, [.int .i64, .int .i64, .int .i64, .int .i64], [some (0, 1, false), some (1, 1, false), some (2, 1, false), some (3, 1, false)], some [(.int .i64 0, 0), (.int .i64 0, 0), (.int .i64 0, 0), (.int .i64 0, 0)], none, some [(0, 1), (1, 1), (2, 1), (3, 1)], some [.int, .int, .int, .int]⟩),
  (67, ⟨.other, some 9, some true, none, false, [.bool, .int .i64, .int .i64, .int .i64, .int .i64, .sl 1, .sl 1, .int .i64, .bool], [some (0, 1, false), some (1, 4, true), some (5, 1, false), some (6, 1, false), some (7, 1, false), some (8, 1, false)], some [(.bool false, 0), (.int .i64 0, 0), (.int .i64 0, 0), (.int .i64 0, 0), (.int .i64 0, 0), (.slice none 0 0, 1), (.slice none 0 0, 1), (.int .i64 0, 0), (.bool false, 0)], none, some [(0, 1), (1, 4), (5, 1), (6, 1), (7, 1), (8, 1)], none⟩),
  (69, ⟨.other, some 11, some true, none, false, [.int .i64, .str, .bool, .int .i64, .int .i64, .int .i64, .int .i64, .sl 1, .sl 1, .int .i64, .bool], [some (0, 1, false), some (1, 1, false), some (2, 9, true)], some [(.int .i64 0, 0), (.string default, 0), (.bool false, 0), (.int .i64 0, 0), (.int .i64 0, 0), (.int .i64 0, 0), (.int .i64 0, 0), (.slice none 0 0, 1), (.slice none 0 0, 1), (.int .i64 0, 0), (.bool false, 0)], none, some [(0, 1), (1, 1), (2, 9)], none⟩),
  (78, ⟨.sl 11, some 1, some false, some (11, 128), false, [.sl 11], [], some [(.slice none 0 0, 11)], some ([.sc (.int .i64 0), .sc (.string default), .sc (.bool false), .sc (.int .i64 0), .sc (.int .i64 0), .sc (.int .i64 0), .sc (.int .i64 0), .row 1 [], .row 1 [], .sc (.int .i64 0), .sc (.bool false)], 11, 128), none, none⟩)]
theorem tab_ch14b_ok : TabOk Tryz.prog tab_ch14b := TabOk.of (by kernel_rfl)
theorem su_ch14b : Setup Tryz.prog tab_ch14b := ⟨tab_ch14b_ok, mixed⟩
theorem take_fold {α β : Type} {f : β → α → β} {a : β} {l : List α} {k : Nat} (h : k < l.length) : (l.take (k + 1)).foldl f a = f ((l.take k).foldl f a) l[k] := by rw [List.take_succ_eq_append_getElem h, List.foldl_append]; rfl
def maxL (l : List ByteArray) : Int := l.foldl (fun m t => max m (t.size : Int)) 0
theorem maxL_add {l : List ByteArray} {x : ByteArray} : maxL (l ++ [x]) = max (maxL l) x.size := by unfold maxL; rw [List.foldl_append]; rfl
def sumL {α : Type} (f : α → Int) (l : List α) : Int := (l.map f).foldl (· + ·) 0
theorem sumL_nil {α : Type} {f : α → Int} : sumL f [] = 0 := rfl
theorem sumL_take {α : Type} {f : α → Int} {l : List α} {k : Nat} (h : k < l.length) : sumL f (l.take (k + 1)) = sumL f (l.take k) + f l[k] := by unfold sumL; rw [take_map h, List.foldl_append]; rfl
theorem sum_chain {d : TDisk} (f : Tlink → Int) (g : Int → Int) (h : ∀ x, x.text_ = rTextAt d x.base_ → x.scan_ = rScanText (rTextAt d x.base_) → f x = g x.base_) : sumL f (rlinks d) = sumL g (rChain d) := by unfold sumL; rw [chain_map f g h]
def rLargestOn (d : TDisk) : Int := maxL (rChainTexts d)
def rLongestOn (d : TDisk) : Int := maxL (rRowOf d)
def rFrameBytes_1 (x : Tlink) : Int := x.scan_.end_ - 24
def rsumOver_FrameBytes_1 (d : TDisk) : Int := sumL rFrameBytes_1 (rlinks d)
def rFrameBytes (d : TDisk) : Int := rsumOver_FrameBytes_1 d
theorem frames_chain {d : TDisk} : rFrameBytes d = sumL (fun b => rSizeScanned (rTextAt d b) - 24) (rChain d) := sum_chain _ _ fun x h1 h2 => by unfold rFrameBytes_1 rSizeScanned; rw [h2]
def rNewFirst_1 (a b : Int) : Int := b - a
open Classical in
noncomputable def rIsSortedFunc_NewFirst_1 (l : List Int) : Bool := decide (∀ j : Nat, 1 ≤ j → j < l.length → l.getD j 0 ≤ l.getD (j - 1) 0)
open Classical in
theorem sorted_t {l : List Int} (h : ∀ j : Nat, 1 ≤ j → j < l.length → l.getD j 0 ≤ l.getD (j - 1) 0) : true = rIsSortedFunc_NewFirst_1 l := (decide_eq_true h).symm
open Classical in
theorem sorted_f {l : List Int} {k : Nat} (h1 : 1 ≤ k) (h2 : k < l.length) (h3 : ¬ l.getD k 0 ≤ l.getD (k - 1) 0) : false = rIsSortedFunc_NewFirst_1 l := (decide_eq_false fun h => h3 (h k h1 h2)).symm
noncomputable def rNewFirst (d : TDisk) : Bool := rIsSortedFunc_NewFirst_1 (rVersionsOn d)
theorem rVersions_b {d : TDisk} {l : List Int} (e : rVersionsOn d = l) : l.length ≤ 16 ∧ ∀ x ∈ l, 1 ≤ x ∧ x ≤ 2 := by
  rw [← e]
  unfold rVersionsOn
  refine ⟨by rw [List.length_map]; exact linksL_len, ?_⟩
  intro v hv
  obtain ⟨x, hx, rfl⟩ := List.mem_map.1 hv
  obtain ⟨h1, h2, s, h3⟩ := rlinks_mem rfl hx
  obtain ⟨hh, h4, _⟩ := rGoesOn_t h3
  rw [h2, (scan_head h4).1]
  have h5 := (rReadHead_t h4).2.2
  obtain ⟨v, st, bs, lk⟩ := hh
  exact (rHeadOk_t h5).1
theorem rTexts_b {d : TDisk} {l : List ByteArray} (hd : okD d) (e : rChainTexts d = l) : l.length ≤ 16 ∧ ∀ x ∈ l, x.size ≤ 1048576 := by
  rw [← e, texts_chain]
  refine ⟨by rw [List.length_map]; exact rChain_len rfl, ?_⟩
  intro v hv
  obtain ⟨x, hx, rfl⟩ := List.mem_map.1 hv
  exact rTextAt_le hd rfl
theorem rRowOf_b {d : TDisk} {l : List ByteArray} (hd : okD d) (e : rRowOf d = l) : l.length ≤ 16777216 ∧ ∀ x ∈ l, x.size ≤ 60 := by
  rw [← e, rowOf_chain]
  refine ⟨?_, ?_⟩
  · have key : ∀ c : List Int, (c.flatMap fun b => rRecordsIn (rTextAt d b)).length ≤ 1048576 * c.length := by
      intro c
      induction c with
      | nil => simp
      | cons b c ih =>
        rw [List.flatMap_cons, List.length_append, List.length_cons]
        have h1 := rScan_recs (b := rTextAt d b)
        have h2 := rTextAt_le hd (rfl : rTextAt d b = _)
        have h3 : (rRecordsIn (rTextAt d b)).length = (rScanText (rTextAt d b)).records_.length := rfl
        omega
    have h1 := key (rChain d)
    have h2 := rChain_len (rfl : rChain d = _)
    omega
  · intro x hx
    obtain ⟨b, _, hb⟩ := List.mem_flatMap.1 hx
    exact rScan_sz x hb
def rEqual (a b : List ByteArray) : Bool := decide (a = b)
def rl25Same (a b : List ByteArray) : Bool := decide (a = b)
def rSameRow (a b : TDisk) : Bool := decide (rRowOf a = rRowOf b)
def rIsPrefix (a b : List ByteArray) : Bool := decide (a.length ≤ b.length ∧ b.take a.length = a)
theorem list_ext {a b : List ByteArray} (h : a.length = b.length) (h2 : ∀ (j : Nat) (h1 : j < a.length) (h2 : j < b.length), a[j] = b[j]) : a = b := List.ext_getElem h h2
theorem list_pre {a b : List ByteArray} (h : a.length ≤ b.length) (h2 : ∀ (j : Nat) (h1 : j < a.length) (h2 : j < b.length), a[j] = b[j]) : b.take a.length = a := by
  refine List.ext_getElem (by rw [List.length_take]; omega) ?_
  intro j h3 h4
  rw [List.getElem_take]
  exact (h2 j h4 (by omega)).symm
theorem list_pre_at {a b : List ByteArray} (h : b.take a.length = a) {j : Nat} (h1 : j < a.length) (h2 : j < b.length) : a[j] = b[j] := by
  have : (b.take a.length)[j]'(by rw [List.length_take]; omega) = b[j] := List.getElem_take ..
  rw [← this]
  congr 1
  exact h.symm
theorem maxL_take {l : List ByteArray} {k : Nat} (h : k < l.length) : maxL (l.take (k + 1)) = max (maxL (l.take k)) l[k].size := by rw [List.take_succ_eq_append_getElem h, maxL_add]
theorem FiVersionsOn {dnod : List TNode} {xdnod : List (List D)} {dent : List TEntry} {xdent : List (List D)} {dold : List TEntry} {xdold : List (List D)} {dste : List ByteArray} {xdste : List (List D)} {droo : Int} {dnex : Int} {o : List Int} {xo : List (List D)} (hdnod : dnod.map eNode = xdnod) (hdent : dent.map eEntry = xdent) (hdold : dold.map eEntry = xdold) (hdste : dste.map cS = xdste) (hd : okD ⟨dnod, dent, dold, dste, droo, dnex⟩) (hr : rVersionsOn (⟨dnod, dent, dold, dste, droo, dnex⟩ : TDisk) = o) (ho : o.map cI = xo) : Fn Tryz.prog 55 [.agg [.d (.row 3 xdnod), .d (.row 2 xdent), .d (.row 2 xdold), .d (.row 1 xdste), I droo, I dnex]] [] ⟨.d (.row 1 xo), [], []⟩ := by
  refine Fn.go su_ch14b Tryz.func55 fun P hP Q hQ => ?_
  conv => cbv
  generalize hr1 : rlinks (⟨dnod, dent, dold, dste, droo, dnex⟩ : TDisk) = l1
  generalize hl1 : l1.map elink = xl1
  refine .dd hP (Filinks hdnod hdent hdold hdste hd hr1 hl1) ?_
  conv => cbv
  refine .go hl1 fun v2 hv2 => ?_
  conv => cbv
  refine LoopW.lp (κ := Int × (List (List D)) × Nat) su_ch14b hP [2] [8, 9] (fun (i10, zw3, nw3) => [(3, .ref 3 0 nw3), (10, I i10)]) (fun (i10, zw3, nw3) => [(3, .row 1 false zw3)])
    (fun (i10, zw3, nw3) => ∃ (w3 : List Int), w3.map cI = zw3 ∧ nw3 = w3.length ∧ 0 ≤ i10 ∧ i10 ≤ l1.length ∧ w3 = (l1.take i10.toNat).map fun x => x.scan_.head_.version_)
    (fun (i10, zw3, nw3) => (l1.length - i10).toNat) (0, [], 0) ⟨[], rfl, rfl, by omega, by omega, by simp⟩ ⟨rfl, rfl, trivial⟩ rfl ?_
  rintro ⟨i10, zw3, nw3⟩ J ⟨w3, hw3, hnw3, h0, h1, hw⟩ hJ
  have hl16 := rlinks_len hr1
  have hwl : w3.length = i10.toNat := by rw [hw, List.length_map, List.length_take]; omega
  conv => cbv
  refine .lss (fun h3 => ?_) fun h3 => ?_
  · conv => cbv
    refine .goX i10.toNat hl1 fun hje4 ⟨e4bas, e4tex, ⟨e4scaok, ⟨e4scaheaver, e4scaheastr, e4scaheabas, e4scahealin⟩, e4scarec, e4scaoff, e4scaend, e4scamar⟩⟩ fe4 qe4 hfe4 => ?_
    replace hfe4 : [.sc (.int .i64 e4bas), .sc (.string e4tex), .sc (.bool e4scaok), .sc (.int .i64 e4scaheaver), .sc (.int .i64 e4scaheastr), .sc (.int .i64 e4scaheabas), .sc (.int .i64 e4scahealin), .row 1 (e4scarec.map cS), .row 1 (e4scaoff.map cI), .sc (.int .i64 e4scaend), .sc (.bool e4scamar)] = fe4 := hfe4
    generalize he4scarec : e4scarec.map cS = xe4scarec at hfe4
    generalize he4scaoff : e4scaoff.map cI = xe4scaoff at hfe4
    subst hfe4
    conv => cbv
    refine .one e4scaheaver hw3 rfl fun nz5 z5 hnz5 hz5 => ?_
    conv => cbv
    refine .add fun v6 hv6 => ?_
    conv => cbv
    exact .go [8] (v6, z5, nz5) (hJ _ ⟨_, hz5, (by first | omega | (simp; omega)), by omega, by omega, by rw [hw, show v6.toNat = i10.toNat + 1 by omega, take_map hje4, ← qe4]⟩ (by first | (dsimp only; omega) | omega))
  · conv => cbv
    have e : w3 = rVersionsOn (⟨dnod, dent, dold, dste, droo, dnex⟩ : TDisk) := (by unfold rVersionsOn; rw [hr1, hw, List.take_of_length_le (by omega)])
    rw [hr] at e
    subst e
    exact hQ _ _ (.r rfl rfl (by rw [← hw3, List.length_map]; first | omega | (simp; omega)) (by rw [← hw3, ← ho]))
theorem FiChainTexts {dnod : List TNode} {xdnod : List (List D)} {dent : List TEntry} {xdent : List (List D)} {dold : List TEntry} {xdold : List (List D)} {dste : List ByteArray} {xdste : List (List D)} {droo : Int} {dnex : Int} {o : List ByteArray} {xo : List (List D)} (hdnod : dnod.map eNode = xdnod) (hdent : dent.map eEntry = xdent) (hdold : dold.map eEntry = xdold) (hdste : dste.map cS = xdste) (hd : okD ⟨dnod, dent, dold, dste, droo, dnex⟩) (hr : rChainTexts (⟨dnod, dent, dold, dste, droo, dnex⟩ : TDisk) = o) (ho : o.map cS = xo) : Fn Tryz.prog 50 [.agg [.d (.row 3 xdnod), .d (.row 2 xdent), .d (.row 2 xdold), .d (.row 1 xdste), I droo, I dnex]] [] ⟨.d (.row 1 xo), [], []⟩ := by
  refine Fn.go su_ch14b Tryz.func50 fun P hP Q hQ => ?_
  conv => cbv
  generalize hr1 : rlinks (⟨dnod, dent, dold, dste, droo, dnex⟩ : TDisk) = l1
  generalize hl1 : l1.map elink = xl1
  refine .dd hP (Filinks hdnod hdent hdold hdste hd hr1 hl1) ?_
  conv => cbv
  refine .go hl1 fun v2 hv2 => ?_
  conv => cbv
  refine LoopW.lp (κ := Int × (List (List D)) × Nat) su_ch14b hP [2] [8, 9] (fun (i10, zw3, nw3) => [(3, .ref 3 0 nw3), (10, I i10)]) (fun (i10, zw3, nw3) => [(3, .row 1 false zw3)])
    (fun (i10, zw3, nw3) => ∃ (w3 : List ByteArray), w3.map cS = zw3 ∧ nw3 = w3.length ∧ 0 ≤ i10 ∧ i10 ≤ l1.length ∧ w3 = (l1.take i10.toNat).map fun x => x.text_)
    (fun (i10, zw3, nw3) => (l1.length - i10).toNat) (0, [], 0) ⟨[], rfl, rfl, by omega, by omega, by simp⟩ ⟨rfl, rfl, trivial⟩ rfl ?_
  rintro ⟨i10, zw3, nw3⟩ J ⟨w3, hw3, hnw3, h0, h1, hw⟩ hJ
  have hl16 := rlinks_len hr1
  have hwl : w3.length = i10.toNat := by rw [hw, List.length_map, List.length_take]; omega
  conv => cbv
  refine .lss (fun h3 => ?_) fun h3 => ?_
  · conv => cbv
    refine .goX i10.toNat hl1 fun hje4 ⟨e4bas, e4tex, ⟨e4scaok, ⟨e4scaheaver, e4scaheastr, e4scaheabas, e4scahealin⟩, e4scarec, e4scaoff, e4scaend, e4scamar⟩⟩ fe4 qe4 hfe4 => ?_
    replace hfe4 : [.sc (.int .i64 e4bas), .sc (.string e4tex), .sc (.bool e4scaok), .sc (.int .i64 e4scaheaver), .sc (.int .i64 e4scaheastr), .sc (.int .i64 e4scaheabas), .sc (.int .i64 e4scahealin), .row 1 (e4scarec.map cS), .row 1 (e4scaoff.map cI), .sc (.int .i64 e4scaend), .sc (.bool e4scamar)] = fe4 := hfe4
    generalize he4scarec : e4scarec.map cS = xe4scarec at hfe4
    generalize he4scaoff : e4scaoff.map cI = xe4scaoff at hfe4
    subst hfe4
    conv => cbv
    refine .one e4tex hw3 rfl fun nz5 z5 hnz5 hz5 => ?_
    conv => cbv
    refine .add fun v6 hv6 => ?_
    conv => cbv
    exact .go [8] (v6, z5, nz5) (hJ _ ⟨_, hz5, (by first | omega | (simp; omega)), by omega, by omega, by rw [hw, show v6.toNat = i10.toNat + 1 by omega, take_map hje4, ← qe4]⟩ (by first | (dsimp only; omega) | omega))
  · conv => cbv
    have e : w3 = rChainTexts (⟨dnod, dent, dold, dste, droo, dnex⟩ : TDisk) := (by unfold rChainTexts; rw [hr1, hw, List.take_of_length_le (by omega)])
    rw [hr] at e
    subst e
    exact hQ _ _ (.r rfl rfl (by rw [← hw3, List.length_map]; first | omega | (simp; omega)) (by rw [← hw3, ← ho]))
theorem FsVersionsOn {dnod : List TNode} {xdnod : List (List D)} {dent : List TEntry} {xdent : List (List D)} {dold : List TEntry} {xdold : List (List D)} {dste : List ByteArray} {xdste : List (List D)} {droo : Int} {dnex : Int} {o : List Int} {xo : List (List D)} (hdnod : dnod.map eNode = xdnod) (hdent : dent.map eEntry = xdent) (hdold : dold.map eEntry = xdold) (hdste : dste.map cS = xdste) (hd : okD ⟨dnod, dent, dold, dste, droo, dnex⟩) (hr : rVersionsOn (⟨dnod, dent, dold, dste, droo, dnex⟩ : TDisk) = o) (ho : o.map cI = xo) : Fn Tryz.prog 53 [.agg [.d (.row 3 xdnod), .d (.row 2 xdent), .d (.row 2 xdold), .d (.row 1 xdste), I droo, I dnex]] [] ⟨.d (.row 1 xo), [], []⟩ := by
  refine Fn.go su_ch14b Tryz.func53 fun P hP Q hQ => ?_
  conv => cbv
  generalize hr1 : rChain (⟨dnod, dent, dold, dste, droo, dnex⟩ : TDisk) = l1
  generalize hl1 : l1.map cI = xl1
  refine .dd hP (FsChain hdnod hdent hdold hdste hd hr1 hl1) ?_
  conv => cbv
  refine LoopW.lp (κ := Int × (List (List D)) × Nat) su_ch14b hP [2] [1, 4] (fun (i5, zw3, nw3) => [(3, .ref 3 0 nw3), (5, I i5)]) (fun (i5, zw3, nw3) => [(3, .row 1 false zw3)])
    (fun (i5, zw3, nw3) => ∃ (w3 : List Int), w3.map cI = zw3 ∧ nw3 = w3.length ∧ 0 ≤ i5 ∧ i5 ≤ l1.length ∧ w3 = (l1.take i5.toNat).map fun b => (rReadHead (rTextAt (⟨dnod, dent, dold, dste, droo, dnex⟩ : TDisk) b)).1.version_)
    (fun (i5, zw3, nw3) => (l1.length - i5).toNat) (0, [], 0) ⟨[], rfl, rfl, by omega, by omega, by simp⟩ ⟨rfl, rfl, trivial⟩ rfl ?_
  rintro ⟨i5, zw3, nw3⟩ J ⟨w3, hw3, hnw3, h0, h1, hw⟩ hJ
  have hl16 := rChain_len hr1
  have hwl : w3.length = i5.toNat := by rw [hw, List.length_map, List.length_take]; omega
  conv => cbv
  refine .go hl1 fun v2 hv2 => ?_
  conv => cbv
  refine .lss (fun h3 => ?_) fun h3 => ?_
  · conv => cbv
    refine .go i5.toNat hl1 fun hje4 e4 qe4 => ?_
    conv => cbv
    generalize hr5 : rTextAt (⟨dnod, dent, dold, dste, droo, dnex⟩ : TDisk) e4 = r5
    refine .dd hP (FsTextAt hdnod hdent hdold hdste hd hr5) ?_
    conv => cbv
    have z5 := rTextAt_le hd hr5
    rcases hr6 : rReadHead r5 with ⟨⟨r6aver, r6astr, r6abas, r6alin⟩, r6b⟩
    refine .dd hP (FsReadHead (by omega) hr6) ?_
    conv => cbv
    refine .one r6aver hw3 rfl fun nz7 z7 hnz7 hz7 => ?_
    conv => cbv
    refine .add fun v8 hv8 => ?_
    conv => cbv
    exact .go [6] (v8, z7, nz7) (hJ _ ⟨_, hz7, (by first | omega | (simp; omega)), by omega, by omega, by rw [hw, show v8.toNat = i5.toNat + 1 by omega, take_map hje4, ← qe4, hr5, hr6]⟩ (by first | (dsimp only; omega) | omega))
  · conv => cbv
    have e : w3 = rVersionsOn (⟨dnod, dent, dold, dste, droo, dnex⟩ : TDisk) := (by rw [versions_chain, hr1, hw, List.take_of_length_le (by omega)])
    rw [hr] at e
    subst e
    exact hQ _ _ (.r rfl rfl (by rw [← hw3, List.length_map]; first | omega | (simp; omega)) (by rw [← hw3, ← ho]))
theorem FsLargestOn {dnod : List TNode} {xdnod : List (List D)} {dent : List TEntry} {xdent : List (List D)} {dold : List TEntry} {xdold : List (List D)} {dste : List ByteArray} {xdste : List (List D)} {droo : Int} {dnex : Int} {o : Int} (hdnod : dnod.map eNode = xdnod) (hdent : dent.map eEntry = xdent) (hdold : dold.map eEntry = xdold) (hdste : dste.map cS = xdste) (hd : okD ⟨dnod, dent, dold, dste, droo, dnex⟩) (hr : rLargestOn (⟨dnod, dent, dold, dste, droo, dnex⟩ : TDisk) = o)  : Fn Tryz.prog 17 [.agg [.d (.row 3 xdnod), .d (.row 2 xdent), .d (.row 2 xdold), .d (.row 1 xdste), I droo, I dnex]] [] ⟨I o, [], []⟩ := by
  refine Fn.go su_ch14b Tryz.func17 fun P hP Q hQ => ?_
  conv => cbv
  generalize hr1 : rChain (⟨dnod, dent, dold, dste, droo, dnex⟩ : TDisk) = l1
  generalize hl1 : l1.map cI = xl1
  refine .dd hP (FsChain hdnod hdent hdold hdste hd hr1 hl1) ?_
  conv => cbv
  refine LoopW.lp (κ := Int × Int) su_ch14b hP [] [1, 4] (fun (i3, i5) => [(3, I i3), (5, I i5)]) (fun (i3, i5) => [])
    (fun (i3, i5) => 0 ≤ i5 ∧ i5 ≤ l1.length ∧ i3 = maxL ((l1.take i5.toNat).map fun b => rTextAt (⟨dnod, dent, dold, dste, droo, dnex⟩ : TDisk) b))
    (fun (i3, i5) => (l1.length - i5).toNat) (0, 0) ⟨by omega, by omega, rfl⟩ ⟨rfl, rfl, trivial⟩ rfl ?_
  rintro ⟨i3, i5⟩ J ⟨h0, h1, hx⟩ hJ
  have hl16 := rChain_len hr1
  conv => cbv
  refine .go hl1 fun v2 hv2 => ?_
  conv => cbv
  refine .lss (fun h3 => ?_) fun h3 => ?_
  · conv => cbv
    refine .go i5.toNat hl1 fun hje4 e4 qe4 => ?_
    conv => cbv
    generalize hr5 : rTextAt (⟨dnod, dent, dold, dste, droo, dnex⟩ : TDisk) e4 = r5
    refine .dd hP (FsTextAt hdnod hdent hdold hdste hd hr5) ?_
    conv => cbv
    have z5 := rTextAt_le hd hr5
    refine .go fun v6 hv6 => ?_
    conv => cbv
    refine .gtr (fun h7 => ?_) fun h7 => ?_
    · conv => cbv
      refine .go i5.toNat hl1 fun hje8 e8 qe8 => ?_
      conv => cbv
      have e8e : e8 = e4 := qe8.trans qe4.symm
      subst e8e
      generalize hr9 : rTextAt (⟨dnod, dent, dold, dste, droo, dnex⟩ : TDisk) e8 = r9
      refine .dd hP (FsTextAt hdnod hdent hdold hdste hd hr9) ?_
      conv => cbv
      have r95 : r9 = r5 := hr9.symm.trans hr5
      refine .go fun v10 hv10 => ?_
      conv => cbv
      refine .add fun v11 hv11 => ?_
      conv => cbv
      have v6e : v6 = v10 := by rw [hv6, hv10, r95]
      exact .go [] (v10, v11) (hJ _ ⟨by omega, by omega, by rw [show v11.toNat = i5.toNat + 1 by omega, take_map hje4, maxL_add, ← hx, ← qe4, hr5]; omega⟩ (by first | (dsimp only; omega) | omega))
    · conv => cbv
      refine .add fun v8 hv8 => ?_
      conv => cbv
      exact .go [] (i3, v8) (hJ _ ⟨by omega, by omega, by rw [show v8.toNat = i5.toNat + 1 by omega, take_map hje4, maxL_add, ← hx, ← qe4, hr5]; omega⟩ (by first | (dsimp only; omega) | omega))
  · conv => cbv
    have e : i3 = rLargestOn (⟨dnod, dent, dold, dste, droo, dnex⟩ : TDisk) := (by unfold rLargestOn; rw [texts_chain, hr1, hx, List.take_of_length_le (by omega)])
    rw [hr] at e
    subst e
    exact hQ _ _ (.i rfl rfl)
theorem FiLargestOn {dnod : List TNode} {xdnod : List (List D)} {dent : List TEntry} {xdent : List (List D)} {dold : List TEntry} {xdold : List (List D)} {dste : List ByteArray} {xdste : List (List D)} {droo : Int} {dnex : Int} {o : Int} (hdnod : dnod.map eNode = xdnod) (hdent : dent.map eEntry = xdent) (hdold : dold.map eEntry = xdold) (hdste : dste.map cS = xdste) (hd : okD ⟨dnod, dent, dold, dste, droo, dnex⟩) (hr : rLargestOn (⟨dnod, dent, dold, dste, droo, dnex⟩ : TDisk) = o)  : Fn Tryz.prog 18 [.agg [.d (.row 3 xdnod), .d (.row 2 xdent), .d (.row 2 xdold), .d (.row 1 xdste), I droo, I dnex]] [] ⟨I o, [], []⟩ := by
  refine Fn.go su_ch14b Tryz.func18 fun P hP Q hQ => ?_
  conv => cbv
  generalize hr1 : rChainTexts (⟨dnod, dent, dold, dste, droo, dnex⟩ : TDisk) = l1
  generalize hl1 : l1.map cS = xl1
  refine .dd hP (FiChainTexts hdnod hdent hdold hdste hd hr1 hl1) ?_
  conv => cbv
  refine .go hl1 fun v2 hv2 => ?_
  conv => cbv
  refine LoopW.lp (κ := Int × Int) su_ch14b hP [] [7, 8] (fun (i3, i9) => [(3, I i3), (9, I i9)]) (fun (i3, i9) => [])
    (fun (i3, i9) => 0 ≤ i9 ∧ i9 ≤ l1.length ∧ i3 = maxL (l1.take i9.toNat))
    (fun (i3, i9) => (l1.length - i9).toNat) (0, 0) ⟨by omega, by omega, rfl⟩ ⟨rfl, rfl, trivial⟩ rfl ?_
  rintro ⟨i3, i9⟩ J ⟨h0, h1, hx⟩ hJ
  have hb := rTexts_b hd hr1
  conv => cbv
  refine .lss (fun h3 => ?_) fun h3 => ?_
  · conv => cbv
    refine .go i9.toNat hl1 fun hje4 e4 qe4 => ?_
    conv => cbv
    have z4 := hb.2 e4 (qe4 ▸ List.getElem_mem _)
    refine .go fun v5 hv5 => ?_
    conv => cbv
    refine .go fun v6 hv6 => ?_
    conv => cbv
    refine .add fun v7 hv7 => ?_
    conv => cbv
    exact .go [] (v6, v7) (hJ _ ⟨by omega, by omega, by rw [show v7.toNat = i9.toNat + 1 by omega, maxL_take hje4, ← hx, ← qe4]; omega⟩ (by first | (dsimp only; omega) | omega))
  · conv => cbv
    have e : i3 = rLargestOn (⟨dnod, dent, dold, dste, droo, dnex⟩ : TDisk) := (by unfold rLargestOn; rw [hr1, hx, List.take_of_length_le (by omega)])
    rw [hr] at e
    subst e
    exact hQ _ _ (.i rfl rfl)
theorem FiLongestOn {dnod : List TNode} {xdnod : List (List D)} {dent : List TEntry} {xdent : List (List D)} {dold : List TEntry} {xdold : List (List D)} {dste : List ByteArray} {xdste : List (List D)} {droo : Int} {dnex : Int} {o : Int} (hdnod : dnod.map eNode = xdnod) (hdent : dent.map eEntry = xdent) (hdold : dold.map eEntry = xdold) (hdste : dste.map cS = xdste) (hd : okD ⟨dnod, dent, dold, dste, droo, dnex⟩) (hr : rLongestOn (⟨dnod, dent, dold, dste, droo, dnex⟩ : TDisk) = o)  : Fn Tryz.prog 20 [.agg [.d (.row 3 xdnod), .d (.row 2 xdent), .d (.row 2 xdold), .d (.row 1 xdste), I droo, I dnex]] [] ⟨I o, [], []⟩ := by
  refine Fn.go su_ch14b Tryz.func20 fun P hP Q hQ => ?_
  conv => cbv
  generalize hr1 : rRowOf (⟨dnod, dent, dold, dste, droo, dnex⟩ : TDisk) = l1
  generalize hl1 : l1.map cS = xl1
  refine .dd hP (FiRowOf hdnod hdent hdold hdste hd hr1 hl1) ?_
  conv => cbv
  refine .go hl1 fun v2 hv2 => ?_
  conv => cbv
  refine LoopW.lp (κ := Int × Int) su_ch14b hP [] [7, 8] (fun (i3, i9) => [(3, I i3), (9, I i9)]) (fun (i3, i9) => [])
    (fun (i3, i9) => 0 ≤ i9 ∧ i9 ≤ l1.length ∧ i3 = maxL (l1.take i9.toNat))
    (fun (i3, i9) => (l1.length - i9).toNat) (0, 0) ⟨by omega, by omega, rfl⟩ ⟨rfl, rfl, trivial⟩ rfl ?_
  rintro ⟨i3, i9⟩ J ⟨h0, h1, hx⟩ hJ
  have hb := rRowOf_b hd hr1
  conv => cbv
  refine .lss (fun h3 => ?_) fun h3 => ?_
  · conv => cbv
    refine .go i9.toNat hl1 fun hje4 e4 qe4 => ?_
    conv => cbv
    have z4 := hb.2 e4 (qe4 ▸ List.getElem_mem _)
    refine .go fun v5 hv5 => ?_
    conv => cbv
    refine .go fun v6 hv6 => ?_
    conv => cbv
    refine .add fun v7 hv7 => ?_
    conv => cbv
    exact .go [] (v6, v7) (hJ _ ⟨by omega, by omega, by rw [show v7.toNat = i9.toNat + 1 by omega, maxL_take hje4, ← hx, ← qe4]; omega⟩ (by first | (dsimp only; omega) | omega))
  · conv => cbv
    have e : i3 = rLongestOn (⟨dnod, dent, dold, dste, droo, dnex⟩ : TDisk) := (by unfold rLongestOn; rw [hr1, hx, List.take_of_length_le (by omega)])
    rw [hr] at e
    subst e
    exact hQ _ _ (.i rfl rfl)
theorem FsLongestOn {dnod : List TNode} {xdnod : List (List D)} {dent : List TEntry} {xdent : List (List D)} {dold : List TEntry} {xdold : List (List D)} {dste : List ByteArray} {xdste : List (List D)} {droo : Int} {dnex : Int} {o : Int} (hdnod : dnod.map eNode = xdnod) (hdent : dent.map eEntry = xdent) (hdold : dold.map eEntry = xdold) (hdste : dste.map cS = xdste) (hd : okD ⟨dnod, dent, dold, dste, droo, dnex⟩) (hr : rLongestOn (⟨dnod, dent, dold, dste, droo, dnex⟩ : TDisk) = o)  : Fn Tryz.prog 19 [.agg [.d (.row 3 xdnod), .d (.row 2 xdent), .d (.row 2 xdold), .d (.row 1 xdste), I droo, I dnex]] [] ⟨I o, [], []⟩ := by
  refine Fn.go su_ch14b Tryz.func19 fun P hP Q hQ => ?_
  conv => cbv
  generalize hr1 : rRowOf (⟨dnod, dent, dold, dste, droo, dnex⟩ : TDisk) = l1
  generalize hl1 : l1.map cS = xl1
  refine .dd hP (FsRowOf hdnod hdent hdold hdste hd hr1 hl1) ?_
  conv => cbv
  refine LoopW.lp (κ := Int × Int) su_ch14b hP [] [4] (fun (i3, i5) => [(3, I i3), (5, I i5)]) (fun (i3, i5) => [])
    (fun (i3, i5) => 0 ≤ i5 ∧ i5 ≤ l1.length ∧ i3 = maxL (l1.take i5.toNat))
    (fun (i3, i5) => (l1.length - i5).toNat) (0, 0) ⟨by omega, by omega, rfl⟩ ⟨rfl, rfl, trivial⟩ rfl ?_
  rintro ⟨i3, i5⟩ J ⟨h0, h1, hx⟩ hJ
  have hb := rRowOf_b hd hr1
  conv => cbv
  refine .go hl1 fun v2 hv2 => ?_
  conv => cbv
  refine .lss (fun h3 => ?_) fun h3 => ?_
  · conv => cbv
    refine .go i5.toNat hl1 fun hje4 e4 qe4 => ?_
    conv => cbv
    have z4 := hb.2 e4 (qe4 ▸ List.getElem_mem _)
    refine .go fun v5 hv5 => ?_
    conv => cbv
    refine .gtr (fun h6 => ?_) fun h6 => ?_
    · conv => cbv
      refine .go i5.toNat hl1 fun hje7 e7 qe7 => ?_
      conv => cbv
      have e7e : e7 = e4 := qe7.trans qe4.symm
      subst e7e
      refine .go fun v8 hv8 => ?_
      conv => cbv
      refine .add fun v9 hv9 => ?_
      conv => cbv
      exact .go [] (v8, v9) (hJ _ ⟨by omega, by omega, by rw [show v9.toNat = i5.toNat + 1 by omega, maxL_take hje4, ← hx, ← qe4]; omega⟩ (by first | (dsimp only; omega) | omega))
    · conv => cbv
      refine .add fun v7 hv7 => ?_
      conv => cbv
      exact .go [] (i3, v7) (hJ _ ⟨by omega, by omega, by rw [show v7.toNat = i5.toNat + 1 by omega, maxL_take hje4, ← hx, ← qe4]; omega⟩ (by first | (dsimp only; omega) | omega))
  · conv => cbv
    have e : i3 = rLongestOn (⟨dnod, dent, dold, dste, droo, dnex⟩ : TDisk) := (by unfold rLongestOn; rw [hr1, hx, List.take_of_length_le (by omega)])
    rw [hr] at e
    subst e
    exact hQ _ _ (.i rfl rfl)
theorem FsFrameBytes {dnod : List TNode} {xdnod : List (List D)} {dent : List TEntry} {xdent : List (List D)} {dold : List TEntry} {xdold : List (List D)} {dste : List ByteArray} {xdste : List (List D)} {droo : Int} {dnex : Int} {o : Int} (hdnod : dnod.map eNode = xdnod) (hdent : dent.map eEntry = xdent) (hdold : dold.map eEntry = xdold) (hdste : dste.map cS = xdste) (hd : okD ⟨dnod, dent, dold, dste, droo, dnex⟩) (hr : rFrameBytes (⟨dnod, dent, dold, dste, droo, dnex⟩ : TDisk) = o)  : Fn Tryz.prog 13 [.agg [.d (.row 3 xdnod), .d (.row 2 xdent), .d (.row 2 xdold), .d (.row 1 xdste), I droo, I dnex]] [] ⟨I o, [], []⟩ := by
  refine Fn.go su_ch14b Tryz.func13 fun P hP Q hQ => ?_
  conv => cbv
  generalize hr1 : rChain (⟨dnod, dent, dold, dste, droo, dnex⟩ : TDisk) = l1
  generalize hl1 : l1.map cI = xl1
  refine .dd hP (FsChain hdnod hdent hdold hdste hd hr1 hl1) ?_
  conv => cbv
  refine LoopW.lp (κ := Int × Int) su_ch14b hP [] [1, 4] (fun (i3, i5) => [(3, I i3), (5, I i5)]) (fun (i3, i5) => [])
    (fun (i3, i5) => 0 ≤ i5 ∧ i5 ≤ l1.length ∧ (-24 * i5 ≤ i3 ∧ i3 ≤ 1048576 * i5) ∧ i3 = sumL (fun b => rSizeScanned (rTextAt (⟨dnod, dent, dold, dste, droo, dnex⟩ : TDisk) b) - 24) (l1.take i5.toNat))
    (fun (i3, i5) => (l1.length - i5).toNat) (0, 0) ⟨by omega, by omega, by omega, rfl⟩ ⟨rfl, rfl, trivial⟩ rfl ?_
  rintro ⟨i3, i5⟩ J ⟨h0, h1, hb, hx⟩ hJ
  have hl16 := rChain_len hr1
  conv => cbv
  refine .go hl1 fun v2 hv2 => ?_
  conv => cbv
  refine .lss (fun h3 => ?_) fun h3 => ?_
  · conv => cbv
    refine .go i5.toNat hl1 fun hje4 e4 qe4 => ?_
    conv => cbv
    generalize hr5 : rTextAt (⟨dnod, dent, dold, dste, droo, dnex⟩ : TDisk) e4 = r5
    refine .dd hP (FsTextAt hdnod hdent hdold hdste hd hr5) ?_
    conv => cbv
    have z5 := rTextAt_le hd hr5
    generalize hr6 : rSizeScanned r5 = r6
    refine .dd hP (FsSizeScanned (by omega) hr6) ?_
    conv => cbv
    have ze := rScan_end (b := r5)
    have z6 : r6 = (rScanText r5).end_ := hr6.symm
    refine .add fun v7 hv7 => ?_
    conv => cbv
    refine .sub fun v8 hv8 => ?_
    conv => cbv
    refine .add fun v9 hv9 => ?_
    conv => cbv
    exact .go [] (v8, v9) (hJ _ ⟨by omega, by omega, by omega, by rw [show v9.toNat = i5.toNat + 1 by omega, sumL_take hje4, ← hx, ← qe4, hr5, hr6]; omega⟩ (by first | (dsimp only; omega) | omega))
  · conv => cbv
    have e : i3 = rFrameBytes (⟨dnod, dent, dold, dste, droo, dnex⟩ : TDisk) := (by rw [frames_chain, hr1, hx, List.take_of_length_le (by omega)])
    rw [hr] at e
    subst e
    exact hQ _ _ (.i rfl rfl)
theorem FiFrameBytes_1 {xbas : Int} {xtex : ByteArray} {xscaok : Bool} {xscaheaver : Int} {xscaheastr : Int} {xscaheabas : Int} {xscahealin : Int} {xscarec : List ByteArray} {xxscarec : List (List D)} {xscaoff : List Int} {xxscaoff : List (List D)} {xscaend : Int} {xscamar : Bool} {o : Int} (hxscarec : xscarec.map cS = xxscarec) (hxscaoff : xscaoff.map cI = xxscaoff) (hb : 0 ≤ xscaend ∧ xscaend ≤ 1048576) (hr : rFrameBytes_1 (⟨xbas, xtex, ⟨xscaok, ⟨xscaheaver, xscaheastr, xscaheabas, xscahealin⟩, xscarec, xscaoff, xscaend, xscamar⟩⟩ : Tlink) = o)  : Fn Tryz.prog 46 [.agg [I xbas, S xtex, B xscaok, I xscaheaver, I xscaheastr, I xscaheabas, I xscahealin, .d (.row 1 xxscarec), .d (.row 1 xxscaoff), I xscaend, B xscamar]] [] ⟨I o, [], []⟩ := by
  refine Fn.go su_ch14b Tryz.func46 fun P hP Q hQ => ?_
  conv => cbv
  refine .sub fun v1 hv1 => ?_
  conv => cbv
  have e : v1 = rFrameBytes_1 (⟨xbas, xtex, ⟨xscaok, ⟨xscaheaver, xscaheastr, xscaheabas, xscahealin⟩, xscarec, xscaoff, xscaend, xscamar⟩⟩ : Tlink) := (by exact hv1)
  rw [hr] at e
  subst e
  exact hQ _ _ (.i rfl rfl)
theorem FisumOver_FrameBytes_1 {dnod : List TNode} {xdnod : List (List D)} {dent : List TEntry} {xdent : List (List D)} {dold : List TEntry} {xdold : List (List D)} {dste : List ByteArray} {xdste : List (List D)} {droo : Int} {dnex : Int} {o : Int} (hdnod : dnod.map eNode = xdnod) (hdent : dent.map eEntry = xdent) (hdold : dold.map eEntry = xdold) (hdste : dste.map cS = xdste) (hd : okD ⟨dnod, dent, dold, dste, droo, dnex⟩) (hr : rsumOver_FrameBytes_1 (⟨dnod, dent, dold, dste, droo, dnex⟩ : TDisk) = o)  : Fn Tryz.prog 45 [.agg [.d (.row 3 xdnod), .d (.row 2 xdent), .d (.row 2 xdold), .d (.row 1 xdste), I droo, I dnex], .clo 46 []] [] ⟨I o, [], []⟩ := by
  refine Fn.go su_ch14b Tryz.func45 fun P hP Q hQ => ?_
  conv => cbv
  generalize hr1 : rlinks (⟨dnod, dent, dold, dste, droo, dnex⟩ : TDisk) = l1
  generalize hl1 : l1.map elink = xl1
  refine .dd hP (Filinks hdnod hdent hdold hdste hd hr1 hl1) ?_
  conv => cbv
  refine .go hl1 fun v2 hv2 => ?_
  conv => cbv
  refine LoopW.lp (κ := Int × Int) su_ch14b hP [] [1, 9, 10] (fun (i5, i11) => [(5, I i5), (11, I i11)]) (fun (i5, i11) => [])
    (fun (i5, i11) => 0 ≤ i11 ∧ i11 ≤ l1.length ∧ (-24 * i11 ≤ i5 ∧ i5 ≤ 1048576 * i11) ∧ i5 = sumL rFrameBytes_1 (l1.take i11.toNat))
    (fun (i5, i11) => (l1.length - i11).toNat) (0, 0) ⟨by omega, by omega, by omega, rfl⟩ ⟨rfl, rfl, trivial⟩ rfl ?_
  rintro ⟨i5, i11⟩ J ⟨h0, h1, hb, hx⟩ hJ
  have hl16 := rlinks_len hr1
  conv => cbv
  refine .lss (fun h3 => ?_) fun h3 => ?_
  · conv => cbv
    refine .goX i11.toNat hl1 fun hje4 ⟨e4bas, e4tex, ⟨e4scaok, ⟨e4scaheaver, e4scaheastr, e4scaheabas, e4scahealin⟩, e4scarec, e4scaoff, e4scaend, e4scamar⟩⟩ fe4 qe4 hfe4 => ?_
    replace hfe4 : [.sc (.int .i64 e4bas), .sc (.string e4tex), .sc (.bool e4scaok), .sc (.int .i64 e4scaheaver), .sc (.int .i64 e4scaheastr), .sc (.int .i64 e4scaheabas), .sc (.int .i64 e4scahealin), .row 1 (e4scarec.map cS), .row 1 (e4scaoff.map cI), .sc (.int .i64 e4scaend), .sc (.bool e4scamar)] = fe4 := hfe4
    generalize he4scarec : e4scarec.map cS = xe4scarec at hfe4
    generalize he4scaoff : e4scaoff.map cI = xe4scaoff at hfe4
    subst hfe4
    conv => cbv
    have hm := rlinks_mem hr1 (x := ⟨e4bas, e4tex, ⟨e4scaok, ⟨e4scaheaver, e4scaheastr, e4scaheabas, e4scahealin⟩, e4scarec, e4scaoff, e4scaend, e4scamar⟩⟩) (by rw [qe4]; exact List.getElem_mem _)
    obtain ⟨hm1, hm2, s9, hm3⟩ := hm
    simp only [] at hm1 hm2 hm3
    have hz := rTextAt_le hd hm1.symm
    have ze := rScan_end (b := e4tex)
    rw [hm1, ← hm2] at ze
    simp only [] at ze
    rw [← hm1] at ze
    generalize hr5 : rFrameBytes_1 (⟨e4bas, e4tex, ⟨e4scaok, ⟨e4scaheaver, e4scaheastr, e4scaheabas, e4scahealin⟩, e4scarec, e4scaoff, e4scaend, e4scamar⟩⟩ : Tlink) = r5
    refine .dd hP (FiFrameBytes_1 he4scarec he4scaoff (by omega) hr5) ?_
    conv => cbv
    have h5 : r5 = e4scaend - 24 := hr5.symm
    refine .add fun v6 hv6 => ?_
    conv => cbv
    refine .add fun v7 hv7 => ?_
    conv => cbv
    exact .go [] (v6, v7) (hJ _ ⟨by omega, by omega, by omega, by rw [show v7.toNat = i11.toNat + 1 by omega, sumL_take hje4, ← hx, ← qe4, hr5]; omega⟩ (by first | (dsimp only; omega) | omega))
  · conv => cbv
    have e : i5 = rsumOver_FrameBytes_1 (⟨dnod, dent, dold, dste, droo, dnex⟩ : TDisk) := (by unfold rsumOver_FrameBytes_1; rw [hr1, hx, List.take_of_length_le (by omega)])
    rw [hr] at e
    subst e
    exact hQ _ _ (.i rfl rfl)
theorem FiFrameBytes {dnod : List TNode} {xdnod : List (List D)} {dent : List TEntry} {xdent : List (List D)} {dold : List TEntry} {xdold : List (List D)} {dste : List ByteArray} {xdste : List (List D)} {droo : Int} {dnex : Int} {o : Int} (hdnod : dnod.map eNode = xdnod) (hdent : dent.map eEntry = xdent) (hdold : dold.map eEntry = xdold) (hdste : dste.map cS = xdste) (hd : okD ⟨dnod, dent, dold, dste, droo, dnex⟩) (hr : rFrameBytes (⟨dnod, dent, dold, dste, droo, dnex⟩ : TDisk) = o)  : Fn Tryz.prog 15 [.agg [.d (.row 3 xdnod), .d (.row 2 xdent), .d (.row 2 xdold), .d (.row 1 xdste), I droo, I dnex]] [] ⟨I o, [], []⟩ := by
  refine Fn.go su_ch14b Tryz.func15 fun P hP Q hQ => ?_
  conv => cbv
  generalize hr1 : rsumOver_FrameBytes_1 (⟨dnod, dent, dold, dste, droo, dnex⟩ : TDisk) = r1
  refine .dd hP (FisumOver_FrameBytes_1 hdnod hdent hdold hdste hd hr1) ?_
  conv => cbv
  have e : r1 = rFrameBytes (⟨dnod, dent, dold, dste, droo, dnex⟩ : TDisk) := (by unfold rFrameBytes; exact hr1.symm)
  rw [hr] at e
  subst e
  exact hQ _ _ (.i rfl rfl)
theorem FiNewFirst_1 {a : Int} {b : Int} {o : Int}  (hab : (1 ≤ a ∧ a ≤ 2) ∧ 1 ≤ b ∧ b ≤ 2) (hr : rNewFirst_1 a b = o)  : Fn Tryz.prog 56 [I a, I b] [] ⟨I o, [], []⟩ := by
  refine Fn.go su_ch14b Tryz.func56 fun P hP Q hQ => ?_
  conv => cbv
  refine .sub fun v1 hv1 => ?_
  conv => cbv
  have e : v1 = rNewFirst_1 a b := (by exact hv1)
  rw [hr] at e
  subst e
  exact hQ _ _ (.i rfl rfl)
theorem FlIsSortedFunc_NewFirst_1 {l : List Int} {xl : List (List D)} {o : Bool} (hl : l.map cI = xl) (hn : l.length < 2 ^ 40) (hv : ∀ x ∈ l, 1 ≤ x ∧ x ≤ 2) (hr : rIsSortedFunc_NewFirst_1 l = o)  : Fn Tryz.prog 54 [.d (.row 1 xl), .clo 56 []] [] ⟨B o, [], []⟩ := by
  refine Fn.go su_ch14b Tryz.func54 fun P hP Q hQ => ?_
  conv => cbv
  refine .go hl fun v1 hv1 => ?_
  conv => cbv
  refine .sub fun v2 hv2 => ?_
  conv => cbv
  refine LoopW.lp (κ := Int) su_ch14b hP [] [0, 1] (fun i5 => [(5, I i5)]) (fun i5 => [])
    (fun i5 => -1 ≤ i5 ∧ i5 < l.length ∧ ∀ j : Nat, i5 < (j : Int) → 1 ≤ j → j < l.length → l.getD j 0 ≤ l.getD (j - 1) 0)
    (fun i5 => i5.toNat) (v2) ⟨by omega, by omega, fun j a b c => by omega⟩ ⟨rfl, trivial⟩ rfl ?_
  rintro i5 J ⟨h0, h1, hs⟩ hJ
  conv => cbv
  refine .gtr (fun h3 => ?_) fun h3 => ?_
  · conv => cbv
    refine .go i5.toNat hl fun hje4 e4 qe4 => ?_
    conv => cbv
    refine .sub fun v5 hv5 => ?_
    conv => cbv
    refine .go v5.toNat hl fun hje6 e6 qe6 => ?_
    conv => cbv
    generalize hr7 : rNewFirst_1 e4 e6 = r7
    refine .dd hP (FiNewFirst_1 ⟨hv e4 (qe4 ▸ List.getElem_mem _), hv e6 (qe6 ▸ List.getElem_mem _)⟩ hr7) ?_
    conv => cbv
    refine .lss (fun h8 => ?_) fun h8 => ?_
    · conv => cbv
      have h7 : r7 = e6 - e4 := hr7.symm
      have q4 : e4 = l.getD i5.toNat 0 := by rw [qe4, gD]
      have q6 : e6 = l.getD (i5.toNat - 1) 0 := by rw [qe6, gD (d := 0), show v5.toNat = i5.toNat - 1 by omega]
      have e : false = rIsSortedFunc_NewFirst_1 l := (by exact sorted_f (k := i5.toNat) (by omega) (by omega) (by omega))
      rw [hr] at e
      subst e
      exact hQ _ _ (.b rfl rfl)
    · conv => cbv
      refine .sub fun v9 hv9 => ?_
      conv => cbv
      have h7 : r7 = e6 - e4 := hr7.symm
      have q4 : e4 = l.getD i5.toNat 0 := by rw [qe4, gD]
      have q6 : e6 = l.getD (i5.toNat - 1) 0 := by rw [qe6, gD (d := 0), show v5.toNat = i5.toNat - 1 by omega]
      exact .go [] (v9) (hJ _ ⟨by omega, by omega, fun j a b c => if e : j = i5.toNat then by subst e; omega else hs j (by omega) b c⟩ (by first | (dsimp only; omega) | omega))
  · conv => cbv
    have e : true = rIsSortedFunc_NewFirst_1 l := (by exact sorted_t fun j a b => hs j (by omega) a b)
    rw [hr] at e
    subst e
    exact hQ _ _ (.b rfl rfl)
theorem FiNewFirst {dnod : List TNode} {xdnod : List (List D)} {dent : List TEntry} {xdent : List (List D)} {dold : List TEntry} {xdold : List (List D)} {dste : List ByteArray} {xdste : List (List D)} {droo : Int} {dnex : Int} {o : Bool} (hdnod : dnod.map eNode = xdnod) (hdent : dent.map eEntry = xdent) (hdold : dold.map eEntry = xdold) (hdste : dste.map cS = xdste) (hd : okD ⟨dnod, dent, dold, dste, droo, dnex⟩) (hr : rNewFirst (⟨dnod, dent, dold, dste, droo, dnex⟩ : TDisk) = o)  : Fn Tryz.prog 22 [.agg [.d (.row 3 xdnod), .d (.row 2 xdent), .d (.row 2 xdold), .d (.row 1 xdste), I droo, I dnex]] [] ⟨B o, [], []⟩ := by
  refine Fn.go su_ch14b Tryz.func22 fun P hP Q hQ => ?_
  conv => cbv
  generalize hr1 : rVersionsOn (⟨dnod, dent, dold, dste, droo, dnex⟩ : TDisk) = l1
  generalize hl1 : l1.map cI = xl1
  refine .dd hP (FiVersionsOn hdnod hdent hdold hdste hd hr1 hl1) ?_
  conv => cbv
  have hb := rVersions_b hr1
  generalize hr2 : rIsSortedFunc_NewFirst_1 l1 = r2
  refine .dd hP (FlIsSortedFunc_NewFirst_1 hl1 (by omega) hb.2 hr2) ?_
  cases r2
  · conv => cbv
    have e : false = rNewFirst (⟨dnod, dent, dold, dste, droo, dnex⟩ : TDisk) := (by unfold rNewFirst; rw [hr1, hr2])
    rw [hr] at e
    subst e
    exact hQ _ _ (.b rfl rfl)
  · conv => cbv
    have e : true = rNewFirst (⟨dnod, dent, dold, dste, droo, dnex⟩ : TDisk) := (by unfold rNewFirst; rw [hr1, hr2])
    rw [hr] at e
    subst e
    exact hQ _ _ (.b rfl rfl)
theorem FsNewFirst {dnod : List TNode} {xdnod : List (List D)} {dent : List TEntry} {xdent : List (List D)} {dold : List TEntry} {xdold : List (List D)} {dste : List ByteArray} {xdste : List (List D)} {droo : Int} {dnex : Int} {o : Bool} (hdnod : dnod.map eNode = xdnod) (hdent : dent.map eEntry = xdent) (hdold : dold.map eEntry = xdold) (hdste : dste.map cS = xdste) (hd : okD ⟨dnod, dent, dold, dste, droo, dnex⟩) (hr : rNewFirst (⟨dnod, dent, dold, dste, droo, dnex⟩ : TDisk) = o)  : Fn Tryz.prog 21 [.agg [.d (.row 3 xdnod), .d (.row 2 xdent), .d (.row 2 xdold), .d (.row 1 xdste), I droo, I dnex]] [] ⟨B o, [], []⟩ := by
  refine Fn.go su_ch14b Tryz.func21 fun P hP Q hQ => ?_
  conv => cbv
  generalize hr1 : rVersionsOn (⟨dnod, dent, dold, dste, droo, dnex⟩ : TDisk) = l1
  generalize hl1 : l1.map cI = xl1
  refine .dd hP (FsVersionsOn hdnod hdent hdold hdste hd hr1 hl1) ?_
  conv => cbv
  refine LoopW.lp (κ := Int) su_ch14b hP [] [3] (fun i4 => [(4, I i4)]) (fun i4 => [])
    (fun i4 => 1 ≤ i4 ∧ ∀ j : Nat, 1 ≤ j → (j : Int) < i4 → j < l1.length → l1.getD j 0 ≤ l1.getD (j - 1) 0)
    (fun i4 => (l1.length - i4).toNat) (1) ⟨by omega, fun j a b c => by omega⟩ ⟨rfl, trivial⟩ rfl ?_
  rintro i4 J ⟨h0, hs⟩ hJ
  have hb := rVersions_b hr1
  conv => cbv
  refine .go hl1 fun v2 hv2 => ?_
  conv => cbv
  refine .lss (fun h3 => ?_) fun h3 => ?_
  · conv => cbv
    refine .sub fun v4 hv4 => ?_
    conv => cbv
    refine .go v4.toNat hl1 fun hje5 e5 qe5 => ?_
    conv => cbv
    refine .eql (fun h6 => ?_) fun h6 => ?_
    · conv => cbv
      refine .go i4.toNat hl1 fun hje7 e7 qe7 => ?_
      conv => cbv
      refine .eql (fun h8 => ?_) fun h8 => ?_
      · conv => cbv
        have q5 : e5 = l1.getD (i4.toNat - 1) 0 := by rw [qe5, gD (d := 0), show v4.toNat = i4.toNat - 1 by omega]
        have b5 := hb.2 e5 (qe5 ▸ List.getElem_mem _)
        have q7 : l1.getD i4.toNat 0 = l1[i4.toNat]'(by omega) := (gD _).symm
        have b7 := hb.2 _ (List.getElem_mem (l := l1) (n := i4.toNat) (by omega))
        have q8 : e7 = l1[i4.toNat]'(by omega) := qe7
        have e : false = rNewFirst (⟨dnod, dent, dold, dste, droo, dnex⟩ : TDisk) := (by unfold rNewFirst; rw [hr1]; exact sorted_f (k := i4.toNat) (by omega) (by omega) (by omega))
        rw [hr] at e
        subst e
        exact hQ _ _ (.b rfl rfl)
      · conv => cbv
        refine .add fun v9 hv9 => ?_
        conv => cbv
        have q5 : e5 = l1.getD (i4.toNat - 1) 0 := by rw [qe5, gD (d := 0), show v4.toNat = i4.toNat - 1 by omega]
        have b5 := hb.2 e5 (qe5 ▸ List.getElem_mem _)
        have q7 : l1.getD i4.toNat 0 = l1[i4.toNat]'(by omega) := (gD _).symm
        have b7 := hb.2 _ (List.getElem_mem (l := l1) (n := i4.toNat) (by omega))
        have q8 : e7 = l1[i4.toNat]'(by omega) := qe7
        exact .go [] (v9) (hJ _ ⟨by omega, fun j a b c => if e : j = i4.toNat then by subst e; omega else hs j a (by omega) c⟩ (by first | (dsimp only; omega) | omega))
    · conv => cbv
      refine .add fun v7 hv7 => ?_
      conv => cbv
      have q5 : e5 = l1.getD (i4.toNat - 1) 0 := by rw [qe5, gD (d := 0), show v4.toNat = i4.toNat - 1 by omega]
      have b5 := hb.2 e5 (qe5 ▸ List.getElem_mem _)
      have q7 : l1.getD i4.toNat 0 = l1[i4.toNat]'(by omega) := (gD _).symm
      have b7 := hb.2 _ (List.getElem_mem (l := l1) (n := i4.toNat) (by omega))
      exact .go [] (v7) (hJ _ ⟨by omega, fun j a b c => if e : j = i4.toNat then by subst e; omega else hs j a (by omega) c⟩ (by first | (dsimp only; omega) | omega))
  · conv => cbv
    have e : true = rNewFirst (⟨dnod, dent, dold, dste, droo, dnex⟩ : TDisk) := (by unfold rNewFirst; rw [hr1]; exact sorted_t fun j a b => hs j a (by omega) b)
    rw [hr] at e
    subst e
    exact hQ _ _ (.b rfl rfl)
theorem Flslices_Equal_string_string {a : List ByteArray} {xa : List (List D)} {b : List ByteArray} {xb : List (List D)} {o : Bool} (ha : a.map cS = xa) (hb : b.map cS = xb) (ha2 : a.length < 2 ^ 40) (hr : rEqual a b = o)  : Fn Tryz.prog 58 [.d (.row 1 xa), .d (.row 1 xb)] [] ⟨B o, [], []⟩ := by
  refine Fn.go su_ch14b Tryz.func58 fun P hP Q hQ => ?_
  conv => cbv
  refine .go ha fun v1 hv1 => ?_
  conv => cbv
  refine .go hb fun v2 hv2 => ?_
  conv => cbv
  refine .neq (fun h3 => ?_) fun h3 => ?_
  · conv => cbv
    have e : false = rEqual a b := (by unfold rEqual; symm; rw [decide_eq_false_iff_not]; intro h; subst h; omega)
    rw [hr] at e
    subst e
    exact hQ _ _ (.b rfl rfl)
  · conv => cbv
    refine .go ha fun v4 hv4 => ?_
    conv => cbv
    refine LoopW.lp (κ := Int) su_ch14b hP [] [0, 1, 12] (fun i13 => [(13, I i13)]) (fun i13 => [])
      (fun i13 => 0 ≤ i13 ∧ i13 ≤ a.length ∧ ∀ (j : Nat) (h1 : j < a.length) (h2 : j < b.length), j < i13.toNat → a[j] = b[j])
      (fun i13 => (a.length - i13).toNat) (0) ⟨by omega, by omega, fun j _ _ h => by simp at h⟩ ⟨rfl, trivial⟩ rfl ?_
    rintro i13 J ⟨h0, h1, hs⟩ hJ
    conv => cbv
    refine .lss (fun h5 => ?_) fun h5 => ?_
    · conv => cbv
      refine .go i13.toNat ha fun hje6 e6 qe6 => ?_
      conv => cbv
      refine .go i13.toNat hb fun hje7 e7 qe7 => ?_
      conv => cbv
      refine .neq (fun h8 => ?_) fun h8 => ?_
      · conv => cbv
        have e : false = rEqual a b := (by unfold rEqual; symm; rw [decide_eq_false_iff_not]; intro h; subst h; exact h8 (qe6.trans qe7.symm))
        rw [hr] at e
        subst e
        exact hQ _ _ (.b rfl rfl)
      · conv => cbv
        refine .add fun v9 hv9 => ?_
        conv => cbv
        exact .go [] (v9) (hJ _ ⟨by omega, by omega, fun j p q h => if e : j = i13.toNat then by subst e; rw [← qe6, ← qe7]; exact h8 else hs j p q (by omega)⟩ (by first | (dsimp only; omega) | omega))
    · conv => cbv
      have e : true = rEqual a b := (by unfold rEqual; symm; rw [decide_eq_true_eq]; exact list_ext (by omega) fun j p q => hs j p q (by omega))
      rw [hr] at e
      subst e
      exact hQ _ _ (.b rfl rfl)
theorem FiIsPrefix {a : List ByteArray} {xa : List (List D)} {b : List ByteArray} {xb : List (List D)} {o : Bool} (ha : a.map cS = xa) (hb : b.map cS = xb) (ha2 : a.length < 2 ^ 40) (hr : rIsPrefix a b = o)  : Fn Tryz.prog 66 [.d (.row 1 xa), .d (.row 1 xb)] [] ⟨B o, [], []⟩ := by
  refine Fn.go su_ch14b Tryz.func66 fun P hP Q hQ => ?_
  conv => cbv
  refine .go ha fun v1 hv1 => ?_
  conv => cbv
  refine .go hb fun v2 hv2 => ?_
  conv => cbv
  refine .leq (fun h3 => ?_) fun h3 => ?_
  · conv => cbv
    refine .go ha fun v4 hv4 => ?_
    conv => cbv
    refine .hi hb fun x5 hx5 => ?_
    conv => cbv
    generalize hr6 : rEqual a (b.take v4.toNat) = r6
    refine .dd hP (Flslices_Equal_string_string ha hx5 (by omega) hr6) ?_
    have e4 : v4.toNat = a.length := by omega
    rw [e4] at hr6
    unfold rEqual at hr6
    cases r6
    · conv => cbv
      have e : false = rIsPrefix a b := (by unfold rIsPrefix; symm; rw [decide_eq_false_iff_not]; intro h; exact of_decide_eq_false hr6 h.2.symm)
      rw [hr] at e
      subst e
      exact hQ _ _ (.b rfl rfl)
    · conv => cbv
      have e : true = rIsPrefix a b := (by unfold rIsPrefix; symm; rw [decide_eq_true_eq]; exact ⟨by omega, (of_decide_eq_true hr6).symm⟩)
      rw [hr] at e
      subst e
      exact hQ _ _ (.b rfl rfl)
  · conv => cbv
    have e : false = rIsPrefix a b := (by unfold rIsPrefix; symm; rw [decide_eq_false_iff_not]; intro h; omega)
    rw [hr] at e
    subst e
    exact hQ _ _ (.b rfl rfl)
theorem FsIsPrefix {a : List ByteArray} {xa : List (List D)} {b : List ByteArray} {xb : List (List D)} {o : Bool} (ha : a.map cS = xa) (hb : b.map cS = xb) (ha2 : a.length < 2 ^ 40) (hr : rIsPrefix a b = o)  : Fn Tryz.prog 63 [.d (.row 1 xa), .d (.row 1 xb)] [] ⟨B o, [], []⟩ := by
  refine Fn.go su_ch14b Tryz.func63 fun P hP Q hQ => ?_
  conv => cbv
  refine .go ha fun v1 hv1 => ?_
  conv => cbv
  refine .go hb fun v2 hv2 => ?_
  conv => cbv
  refine .gtr (fun h3 => ?_) fun h3 => ?_
  · conv => cbv
    have e : false = rIsPrefix a b := (by unfold rIsPrefix; symm; rw [decide_eq_false_iff_not]; intro h; omega)
    rw [hr] at e
    subst e
    exact hQ _ _ (.b rfl rfl)
  · conv => cbv
    refine LoopW.lp (κ := Int) su_ch14b hP [] [0, 1] (fun i5 => [(5, I i5)]) (fun i5 => [])
      (fun i5 => 0 ≤ i5 ∧ i5 ≤ a.length ∧ ∀ (j : Nat) (h1 : j < a.length) (h2 : j < b.length), j < i5.toNat → a[j] = b[j])
      (fun i5 => (a.length - i5).toNat) (0) ⟨by omega, by omega, fun j _ _ h => by simp at h⟩ ⟨rfl, trivial⟩ rfl ?_
    rintro i5 J ⟨h0, h1, hs⟩ hJ
    conv => cbv
    refine .go ha fun v4 hv4 => ?_
    conv => cbv
    refine .lss (fun h5 => ?_) fun h5 => ?_
    · conv => cbv
      refine .go i5.toNat ha fun hje6 e6 qe6 => ?_
      conv => cbv
      refine .go i5.toNat hb fun hje7 e7 qe7 => ?_
      conv => cbv
      refine .neq (fun h8 => ?_) fun h8 => ?_
      · conv => cbv
        have e : false = rIsPrefix a b := (by unfold rIsPrefix; symm; rw [decide_eq_false_iff_not]; intro h; have := list_pre_at h.2 hje6 hje7; rw [← qe6, ← qe7] at this; exact h8 this)
        rw [hr] at e
        subst e
        exact hQ _ _ (.b rfl rfl)
      · conv => cbv
        refine .add fun v9 hv9 => ?_
        conv => cbv
        exact .go [] (v9) (hJ _ ⟨by omega, by omega, fun j p q h => if e : j = i5.toNat then by subst e; rw [← qe6, ← qe7]; exact h8 else hs j p q (by omega)⟩ (by first | (dsimp only; omega) | omega))
    · conv => cbv
      have e : true = rIsPrefix a b := (by unfold rIsPrefix; symm; rw [decide_eq_true_eq]; exact ⟨by omega, list_pre (by omega) fun j p q => hs j p q (by omega)⟩)
      rw [hr] at e
      subst e
      exact hQ _ _ (.b rfl rfl)
theorem Fsl25Same {a : List ByteArray} {xa : List (List D)} {b : List ByteArray} {xb : List (List D)} {o : Bool} (ha : a.map cS = xa) (hb : b.map cS = xb) (ha2 : a.length < 2 ^ 40) (hr : rl25Same a b = o)  : Fn Tryz.prog 57 [.d (.row 1 xa), .d (.row 1 xb)] [] ⟨B o, [], []⟩ := by
  refine Fn.go su_ch14b Tryz.func57 fun P hP Q hQ => ?_
  conv => cbv
  refine .go ha fun v1 hv1 => ?_
  conv => cbv
  refine .go hb fun v2 hv2 => ?_
  conv => cbv
  refine .eql (fun h3 => ?_) fun h3 => ?_
  · conv => cbv
    generalize hr4 : rIsPrefix a b = r4
    refine .dd hP (FsIsPrefix ha hb ha2 hr4) ?_
    unfold rIsPrefix at hr4
    cases r4
    · conv => cbv
      have e : false = rl25Same a b := (by unfold rl25Same; symm; rw [decide_eq_false_iff_not]; rintro rfl; exact of_decide_eq_false hr4 ⟨Nat.le_refl _, List.take_length⟩)
      rw [hr] at e
      subst e
      exact hQ _ _ (.b rfl rfl)
    · conv => cbv
      have e : true = rl25Same a b := (by unfold rl25Same; symm; rw [decide_eq_true_eq]; have := (of_decide_eq_true hr4).2; rw [List.take_of_length_le (by omega)] at this; exact this.symm)
      rw [hr] at e
      subst e
      exact hQ _ _ (.b rfl rfl)
  · conv => cbv
    have e : false = rl25Same a b := (by unfold rl25Same; symm; rw [decide_eq_false_iff_not]; rintro rfl; omega)
    rw [hr] at e
    subst e
    exact hQ _ _ (.b rfl rfl)
theorem FiSameRow {anod : List TNode} {xanod : List (List D)} {aent : List TEntry} {xaent : List (List D)} {aold : List TEntry} {xaold : List (List D)} {aste : List ByteArray} {xaste : List (List D)} {aroo : Int} {anex : Int} {bnod : List TNode} {xbnod : List (List D)} {bent : List TEntry} {xbent : List (List D)} {bold : List TEntry} {xbold : List (List D)} {bste : List ByteArray} {xbste : List (List D)} {broo : Int} {bnex : Int} {o : Bool} (hanod : anod.map eNode = xanod) (haent : aent.map eEntry = xaent) (haold : aold.map eEntry = xaold) (haste : aste.map cS = xaste) (hbnod : bnod.map eNode = xbnod) (hbent : bent.map eEntry = xbent) (hbold : bold.map eEntry = xbold) (hbste : bste.map cS = xbste) (hda : okD ⟨anod, aent, aold, aste, aroo, anex⟩) (hdb : okD ⟨bnod, bent, bold, bste, broo, bnex⟩) (hr : rSameRow (⟨anod, aent, aold, aste, aroo, anex⟩ : TDisk) (⟨bnod, bent, bold, bste, broo, bnex⟩ : TDisk) = o)  : Fn Tryz.prog 24 [.agg [.d (.row 3 xanod), .d (.row 2 xaent), .d (.row 2 xaold), .d (.row 1 xaste), I aroo, I anex], .agg [.d (.row 3 xbnod), .d (.row 2 xbent), .d (.row 2 xbold), .d (.row 1 xbste), I broo, I bnex]] [] ⟨B o, [], []⟩ := by
  refine Fn.go su_ch14b Tryz.func24 fun P hP Q hQ => ?_
  conv => cbv
  generalize hr1 : rRowOf (⟨anod, aent, aold, aste, aroo, anex⟩ : TDisk) = l1
  generalize hl1 : l1.map cS = xl1
  refine .dd hP (FiRowOf hanod haent haold haste hda hr1 hl1) ?_
  conv => cbv
  generalize hr2 : rRowOf (⟨bnod, bent, bold, bste, broo, bnex⟩ : TDisk) = l2
  generalize hl2 : l2.map cS = xl2
  refine .dd hP (FiRowOf hbnod hbent hbold hbste hdb hr2 hl2) ?_
  conv => cbv
  have hb1 := rRowOf_b hda hr1
  generalize hr3 : rEqual l1 l2 = r3
  refine .dd hP (Flslices_Equal_string_string hl1 hl2 (by omega) hr3) ?_
  cases r3
  · conv => cbv
    have e : false = rSameRow (⟨anod, aent, aold, aste, aroo, anex⟩ : TDisk) (⟨bnod, bent, bold, bste, broo, bnex⟩ : TDisk) := (by unfold rSameRow; rw [hr1, hr2]; exact hr3.symm)
    rw [hr] at e
    subst e
    exact hQ _ _ (.b rfl rfl)
  · conv => cbv
    have e : true = rSameRow (⟨anod, aent, aold, aste, aroo, anex⟩ : TDisk) (⟨bnod, bent, bold, bste, broo, bnex⟩ : TDisk) := (by unfold rSameRow; rw [hr1, hr2]; exact hr3.symm)
    rw [hr] at e
    subst e
    exact hQ _ _ (.b rfl rfl)
theorem FsSameRow {anod : List TNode} {xanod : List (List D)} {aent : List TEntry} {xaent : List (List D)} {aold : List TEntry} {xaold : List (List D)} {aste : List ByteArray} {xaste : List (List D)} {aroo : Int} {anex : Int} {bnod : List TNode} {xbnod : List (List D)} {bent : List TEntry} {xbent : List (List D)} {bold : List TEntry} {xbold : List (List D)} {bste : List ByteArray} {xbste : List (List D)} {broo : Int} {bnex : Int} {o : Bool} (hanod : anod.map eNode = xanod) (haent : aent.map eEntry = xaent) (haold : aold.map eEntry = xaold) (haste : aste.map cS = xaste) (hbnod : bnod.map eNode = xbnod) (hbent : bent.map eEntry = xbent) (hbold : bold.map eEntry = xbold) (hbste : bste.map cS = xbste) (hda : okD ⟨anod, aent, aold, aste, aroo, anex⟩) (hdb : okD ⟨bnod, bent, bold, bste, broo, bnex⟩) (hr : rSameRow (⟨anod, aent, aold, aste, aroo, anex⟩ : TDisk) (⟨bnod, bent, bold, bste, broo, bnex⟩ : TDisk) = o)  : Fn Tryz.prog 23 [.agg [.d (.row 3 xanod), .d (.row 2 xaent), .d (.row 2 xaold), .d (.row 1 xaste), I aroo, I anex], .agg [.d (.row 3 xbnod), .d (.row 2 xbent), .d (.row 2 xbold), .d (.row 1 xbste), I broo, I bnex]] [] ⟨B o, [], []⟩ := by
  refine Fn.go su_ch14b Tryz.func23 fun P hP Q hQ => ?_
  conv => cbv
  generalize hr1 : rRowOf (⟨anod, aent, aold, aste, aroo, anex⟩ : TDisk) = l1
  generalize hl1 : l1.map cS = xl1
  refine .dd hP (FsRowOf hanod haent haold haste hda hr1 hl1) ?_
  conv => cbv
  generalize hr2 : rRowOf (⟨bnod, bent, bold, bste, broo, bnex⟩ : TDisk) = l2
  generalize hl2 : l2.map cS = xl2
  refine .dd hP (FsRowOf hbnod hbent hbold hbste hdb hr2 hl2) ?_
  conv => cbv
  have hb1 := rRowOf_b hda hr1
  generalize hr3 : rl25Same l1 l2 = r3
  refine .dd hP (Fsl25Same hl1 hl2 (by omega) hr3) ?_
  cases r3
  · conv => cbv
    have e : false = rSameRow (⟨anod, aent, aold, aste, aroo, anex⟩ : TDisk) (⟨bnod, bent, bold, bste, broo, bnex⟩ : TDisk) := (by unfold rSameRow; rw [hr1, hr2]; exact hr3.symm)
    rw [hr] at e
    subst e
    exact hQ _ _ (.b rfl rfl)
  · conv => cbv
    have e : true = rSameRow (⟨anod, aent, aold, aste, aroo, anex⟩ : TDisk) (⟨bnod, bent, bold, bste, broo, bnex⟩ : TDisk) := (by unfold rSameRow; rw [hr1, hr2]; exact hr3.symm)
    rw [hr] at e
    subst e
    exact hQ _ _ (.b rfl rfl)
def rRowWithin (w : TWorld) : Bool := rIsPrefix (rRowOf w.disk_) w.told_ && decide (w.sure_ ≤ (rRowOf w.disk_).length)
theorem FiRowWithin {wsetroo : Int} {wsetver : Int} {wsetstr : Int} {wsetrol : Int} {wdisnod : List TNode} {xwdisnod : List (List D)} {wdisent : List TEntry} {xwdisent : List (List D)} {wdisold : List TEntry} {xwdisold : List (List D)} {wdisste : List ByteArray} {xwdisste : List (List D)} {wdisroo : Int} {wdisnex : Int} {wwriver : Int} {wwristr : Int} {wwrirol : Int} {wwribas : Int} {wwrilin : Int} {wwrioff : List Int} {xwwrioff : List (List D)} {wwriend : Int} {wwriope : Bool} {wwricod : Int} {wtol : List ByteArray} {xwtol : List (List D)} {wsur : Int} {wfal : Int} {o : Bool} (hwdisnod : wdisnod.map eNode = xwdisnod) (hwdisent : wdisent.map eEntry = xwdisent) (hwdisold : wdisold.map eEntry = xwdisold) (hwdisste : wdisste.map cS = xwdisste) (hwwrioff : wwrioff.map cI = xwwrioff) (hwtol : wtol.map cS = xwtol) (hd : okD ⟨wdisnod, wdisent, wdisold, wdisste, wdisroo, wdisnex⟩) (hr : rRowWithin (⟨⟨wsetroo, wsetver, wsetstr, wsetrol⟩, ⟨wdisnod, wdisent, wdisold, wdisste, wdisroo, wdisnex⟩, ⟨wwriver, wwristr, wwrirol, wwribas, wwrilin, wwrioff, wwriend, wwriope, wwricod⟩, wtol, wsur, wfal⟩ : TWorld) = o)  : Fn Tryz.prog 30 [.agg [I wsetroo, I wsetver, I wsetstr, I wsetrol, .d (.row 3 xwdisnod), .d (.row 2 xwdisent), .d (.row 2 xwdisold), .d (.row 1 xwdisste), I wdisroo, I wdisnex, I wwriver, I wwristr, I wwrirol, I wwribas, I wwrilin, .d (.row 1 xwwrioff), I wwriend, B wwriope, I wwricod, .d (.row 1 xwtol), I wsur, I wfal]] [] ⟨B o, [], []⟩ := by
  refine Fn.go su_ch14b Tryz.func30 fun P hP Q hQ => ?_
  conv => cbv
  generalize hr1 : rRowOf (⟨wdisnod, wdisent, wdisold, wdisste, wdisroo, wdisnex⟩ : TDisk) = l1
  generalize hl1 : l1.map cS = xl1
  refine .dd hP (FiRowOf hwdisnod hwdisent hwdisold hwdisste hd hr1 hl1) ?_
  conv => cbv
  have hb1 := rRowOf_b hd hr1
  generalize hr2 : rIsPrefix l1 wtol = r2
  refine .dd hP (FiIsPrefix hl1 hwtol (by omega) hr2) ?_
  cases r2
  · conv => cbv
    have e : false = rRowWithin (⟨⟨wsetroo, wsetver, wsetstr, wsetrol⟩, ⟨wdisnod, wdisent, wdisold, wdisste, wdisroo, wdisnex⟩, ⟨wwriver, wwristr, wwrirol, wwribas, wwrilin, wwrioff, wwriend, wwriope, wwricod⟩, wtol, wsur, wfal⟩ : TWorld) := (by unfold rRowWithin; simp only []; rw [hr1, hr2]; rfl)
    rw [hr] at e
    subst e
    exact hQ _ _ (.b rfl rfl)
  · conv => cbv
    refine .go hl1 fun v3 hv3 => ?_
    conv => cbv
    refine .geq (fun h4 => ?_) fun h4 => ?_
    · conv => cbv
      have e : true = rRowWithin (⟨⟨wsetroo, wsetver, wsetstr, wsetrol⟩, ⟨wdisnod, wdisent, wdisold, wdisste, wdisroo, wdisnex⟩, ⟨wwriver, wwristr, wwrirol, wwribas, wwrilin, wwrioff, wwriend, wwriope, wwricod⟩, wtol, wsur, wfal⟩ : TWorld) := (by unfold rRowWithin; simp only []; rw [hr1, hr2]; symm; simp; omega)
      rw [hr] at e
      subst e
      exact hQ _ _ (.b rfl rfl)
    · conv => cbv
      have e : false = rRowWithin (⟨⟨wsetroo, wsetver, wsetstr, wsetrol⟩, ⟨wdisnod, wdisent, wdisold, wdisste, wdisroo, wdisnex⟩, ⟨wwriver, wwristr, wwrirol, wwribas, wwrilin, wwrioff, wwriend, wwriope, wwricod⟩, wtol, wsur, wfal⟩ : TWorld) := (by unfold rRowWithin; simp only []; rw [hr1, hr2]; symm; simp; omega)
      rw [hr] at e
      subst e
      exact hQ _ _ (.b rfl rfl)
theorem FsRowWithin {wsetroo : Int} {wsetver : Int} {wsetstr : Int} {wsetrol : Int} {wdisnod : List TNode} {xwdisnod : List (List D)} {wdisent : List TEntry} {xwdisent : List (List D)} {wdisold : List TEntry} {xwdisold : List (List D)} {wdisste : List ByteArray} {xwdisste : List (List D)} {wdisroo : Int} {wdisnex : Int} {wwriver : Int} {wwristr : Int} {wwrirol : Int} {wwribas : Int} {wwrilin : Int} {wwrioff : List Int} {xwwrioff : List (List D)} {wwriend : Int} {wwriope : Bool} {wwricod : Int} {wtol : List ByteArray} {xwtol : List (List D)} {wsur : Int} {wfal : Int} {o : Bool} (hwdisnod : wdisnod.map eNode = xwdisnod) (hwdisent : wdisent.map eEntry = xwdisent) (hwdisold : wdisold.map eEntry = xwdisold) (hwdisste : wdisste.map cS = xwdisste) (hwwrioff : wwrioff.map cI = xwwrioff) (hwtol : wtol.map cS = xwtol) (hd : okD ⟨wdisnod, wdisent, wdisold, wdisste, wdisroo, wdisnex⟩) (hr : rRowWithin (⟨⟨wsetroo, wsetver, wsetstr, wsetrol⟩, ⟨wdisnod, wdisent, wdisold, wdisste, wdisroo, wdisnex⟩, ⟨wwriver, wwristr, wwrirol, wwribas, wwrilin, wwrioff, wwriend, wwriope, wwricod⟩, wtol, wsur, wfal⟩ : TWorld) = o)  : Fn Tryz.prog 28 [.agg [I wsetroo, I wsetver, I wsetstr, I wsetrol, .d (.row 3 xwdisnod), .d (.row 2 xwdisent), .d (.row 2 xwdisold), .d (.row 1 xwdisste), I wdisroo, I wdisnex, I wwriver, I wwristr, I wwrirol, I wwribas, I wwrilin, .d (.row 1 xwwrioff), I wwriend, B wwriope, I wwricod, .d (.row 1 xwtol), I wsur, I wfal]] [] ⟨B o, [], []⟩ := by
  refine Fn.go su_ch14b Tryz.func28 fun P hP Q hQ => ?_
  conv => cbv
  generalize hr1 : rRowOf (⟨wdisnod, wdisent, wdisold, wdisste, wdisroo, wdisnex⟩ : TDisk) = l1
  generalize hl1 : l1.map cS = xl1
  refine .dd hP (FsRowOf hwdisnod hwdisent hwdisold hwdisste hd hr1 hl1) ?_
  conv => cbv
  have hb1 := rRowOf_b hd hr1
  generalize hr2 : rIsPrefix l1 wtol = r2
  refine .dd hP (FsIsPrefix hl1 hwtol (by omega) hr2) ?_
  cases r2
  · conv => cbv
    have e : false = rRowWithin (⟨⟨wsetroo, wsetver, wsetstr, wsetrol⟩, ⟨wdisnod, wdisent, wdisold, wdisste, wdisroo, wdisnex⟩, ⟨wwriver, wwristr, wwrirol, wwribas, wwrilin, wwrioff, wwriend, wwriope, wwricod⟩, wtol, wsur, wfal⟩ : TWorld) := (by unfold rRowWithin; simp only []; rw [hr1, hr2]; rfl)
    rw [hr] at e
    subst e
    exact hQ _ _ (.b rfl rfl)
  · conv => cbv
    refine .go hl1 fun v3 hv3 => ?_
    conv => cbv
    refine .geq (fun h4 => ?_) fun h4 => ?_
    · conv => cbv
      have e : true = rRowWithin (⟨⟨wsetroo, wsetver, wsetstr, wsetrol⟩, ⟨wdisnod, wdisent, wdisold, wdisste, wdisroo, wdisnex⟩, ⟨wwriver, wwristr, wwrirol, wwribas, wwrilin, wwrioff, wwriend, wwriope, wwricod⟩, wtol, wsur, wfal⟩ : TWorld) := (by unfold rRowWithin; simp only []; rw [hr1, hr2]; symm; simp; omega)
      rw [hr] at e
      subst e
      exact hQ _ _ (.b rfl rfl)
    · conv => cbv
      have e : false = rRowWithin (⟨⟨wsetroo, wsetver, wsetstr, wsetrol⟩, ⟨wdisnod, wdisent, wdisold, wdisste, wdisroo, wdisnex⟩, ⟨wwriver, wwristr, wwrirol, wwribas, wwrilin, wwrioff, wwriend, wwriope, wwricod⟩, wtol, wsur, wfal⟩ : TWorld) := (by unfold rRowWithin; simp only []; rw [hr1, hr2]; symm; simp; omega)
      rw [hr] at e
      subst e
      exact hQ _ _ (.b rfl rfl)
end Go.Proofs.YtpghckpkiookoaaGreatDoor.Ab
