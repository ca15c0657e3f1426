/- What functions of the program come to, for all arguments in the given bounds. -/
import Derived.Test.YtamdgfklbjoaiaaDoorch05
set_option linter.unusedVariables false
set_option linter.unusedSimpArgs false
namespace Go.Proofs.YtamdgfklbjoaiaaDoor.Ab
open Go Go.Proofs
set_option maxRecDepth 20000
set_option maxHeartbeats 4000000
set_option linter.unusedSimpArgs false
set_option linter.unusedVariables false
def tab_ch30 : List (Nat × TyRow) := [
  (3, ⟨.int .i64, some 1, some false, none, false, [.int .i64], [], some [(.int .i64 0, 0)], none, none, none⟩),
  (9, ⟨.str, some 1, some false, none, false, [.str], [], some [(.string default, 0)], none, none, none⟩),
  (35, ⟨.sl 1, some 1, some false, some (1, 8), false, [.sl 1], [], some [(.slice none 0 0, 1)], some ([.sc (.int .i64 0)], 1, 8), none, none⟩),
  (46, ⟨.sl 1, some 1, some false, some (1, 16), false, [.sl 1], [], some [(.slice none 0 0, 1)], some ([.sc (.string default)], 1, 16), none, none⟩),
  (52, ⟨.sl 2, some 1, some false, some (2, 24), false, [.sl 2], [], some [(.slice none 0 0, 2)], some ([.sc (.string default), .sc (.int .i64 0)], 2, 24), none, none⟩),
  (54, ⟨.other, some 6, some true, none, false, [.sl 3, .sl 2, .sl 2, .sl 1, .int .i64, .int .i64], [some (0, 1, false), some (1, 1, false), some (2, 1, false), some (3, 1, false), some (4, 1, false), some (5, 1, false)], some [(.slice none 0 0, 3), (.slice none 0 0, 2), (.slice none 0 0, 2), (.slice none 0 0, 1), (.int .i64 0, 0), (.int .i64 0, 0)], none, some [(0, 1), (1, 1), (2, 1), (3, 1), (4, 1), (5, 1)], none⟩),
  (79, ⟨.other, some 3, some true, none, false, [.int .i64, .str, .int .i64], [some (0, 1, false), some (1, 1, false), some (2, 1, false)], some [(.int .i64 0, 0), (.string default, 0), (.int .i64 0, 0)], none, some [(0, 1), (1, 1), (2, 1)], some [.int, .str, .int]⟩),
  (83, ⟨.other, some 2, some true, none, false, [.str, .int .i64], [some (0, 1, false), some (1, 1, false)], some [(.string default, 0), (.int .i64 0, 0)], none, some [(0, 1), (1, 1)], some [.str, .int]⟩)]
theorem tab_ch30_ok : TabOk Tryd.prog tab_ch30 := TabOk.of (by kernel_rfl)
theorem su_ch30 : Setup Tryd.prog tab_ch30 := ⟨tab_ch30_ok, mixed⟩
def rFileNames (d : TDisk) : List ByteArray := d.entries_.map fun e => e.name_
def diskLine (d : TDisk) (name : ByteArray) : ByteArray := name ++ rfigures [((rNodeAt d name).1.text_.size : Int), (rNodeAt d name).1.sure_]
def rDiskLines (d : TDisk) : List ByteArray := d.entries_.map fun e => diskLine d e.name_
def okS (d : TDisk) : Prop := ∀ n ∈ d.nodes_, in64 n.sure_
theorem nodeAt_b {d : TDisk} {name : ByteArray} {n : TNode} {b : Bool} (hd : okD d) (hw : okS d) (e : rNodeAt d name = (n, b)) : n.text_.size ≤ 1048576 ∧ in64 n.sure_ := by
  have e1 : (rNodeAt d name).1 = n := congrArg Prod.fst e
  rw [← e1]
  unfold rNodeAt
  split
  · exact ⟨by simp [tx_size], by show in64 0; unfold in64; omega⟩
  · rename_i h
    have h2 := rnodeAt_lt (rfl : rnodeAt d name = _)
    have h3 : (rnodeAt d name).toNat < d.nodes_.length := by omega
    rw [← gD h3]
    exact ⟨hd.2.1 _ (List.getElem_mem h3), hw _ (List.getElem_mem h3)⟩
theorem diskLine_b {d : TDisk} (hd : okD d) (hw : okS d) (name : ByteArray) : (diskLine d name).size ≤ name.size + 42 := by
  have hb := nodeAt_b hd hw (rfl : rNodeAt d name = ((rNodeAt d name).1, (rNodeAt d name).2))
  have h1 : (rNodeAt d name).1.text_.size ≤ 1048576 := hb.1
  have h2 : in64 (rNodeAt d name).1.sure_ := hb.2
  clear hb
  unfold diskLine
  have := rfigures_b (l := [((rNodeAt d name).1.text_.size : Int), (rNodeAt d name).1.sure_]) rfl (by
    intro n hn
    simp only [List.mem_cons, List.not_mem_nil, or_false] at hn
    rcases hn with rfl | rfl
    · unfold in64; omega
    · exact h2)
  rw [ByteArray.size_append]
  simp only [List.length_cons, List.length_nil] at this
  omega
theorem FiFileNames {dnod : List TNode} {xdnod : List (List D)} {dent : List TEntry} {xdent : List (List D)} {dold : List TEntry} {xdold : List (List D)} {dste : List ByteArray} {xdste : List (List D)} {droo : Int} {dnex : Int} {o : List ByteArray} {xo : List (List D)} (hdnod : dnod.map eNode = xdnod) (hdent : dent.map eEntry = xdent) (hdold : dold.map eEntry = xdold) (hdste : dste.map cS = xdste) (hd3 : dent.length ≤ 1048576) (hr : rFileNames (⟨dnod, dent, dold, dste, droo, dnex⟩ : TDisk) = o) (ho : o.map cS = xo) : Fn Tryd.prog 55 [.agg [.d (.row 3 xdnod), .d (.row 2 xdent), .d (.row 2 xdold), .d (.row 1 xdste), I droo, I dnex]] [] ⟨.d (.row 1 xo), [], []⟩ := by
  refine Fn.go su_ch30 Tryd.func55 fun P hP Q hQ => ?_
  conv => cbv
  refine .go hdent fun v1 hv1 => ?_
  conv => cbv
  refine LoopW.lp (κ := Int × (List (List D)) × Nat) su_ch30 hP [2] [8, 9] (fun (i10, zw3, nw3) => [(3, .ref 3 0 nw3), (10, I i10)]) (fun (i10, zw3, nw3) => [(3, .row 1 false zw3)])
    (fun (i10, zw3, nw3) => ∃ (w3 : List ByteArray), w3.map cS = zw3 ∧ nw3 = w3.length ∧ 0 ≤ i10 ∧ i10 ≤ dent.length ∧ w3 = (dent.take i10.toNat).map (fun e => e.name_) ∧ w3.length = i10.toNat)
    (fun (i10, zw3, nw3) => dent.length - i10.toNat) (0, [], 0) ⟨[], rfl, rfl, by omega, by omega, rfl, rfl⟩ ⟨rfl, rfl, trivial⟩ rfl ?_
  rintro ⟨i10, zw3, nw3⟩ J ⟨w3, hw3, hnw3, h0, hle, hw, hwl⟩ hJ
  conv => cbv
  refine .lss (fun h2 => ?_) fun h2 => ?_
  · conv => cbv
    refine .go i10.toNat hdent fun hje3 ⟨e3nam, e3id⟩ qe3 => ?_
    conv => cbv
    refine .one e3nam hw3 rfl fun nz4 z4 hnz4 hz4 => ?_
    conv => cbv
    refine .add fun v5 hv5 => ?_
    conv => cbv
    exact .go [6] (v5, z4, nz4) (hJ _ ⟨_, hz4, (by first | omega | (simp; omega)), by omega, by omega, by rw [hw, show v5.toNat = i10.toNat + 1 by omega, List.take_succ_eq_append_getElem hje3, List.map_append, ← qe3]; rfl, by rw [List.length_append, hwl]; simp; omega⟩ (by first | (dsimp only; omega) | omega))
  · conv => cbv
    have e : w3 = rFileNames (⟨dnod, dent, dold, dste, droo, dnex⟩ : TDisk) := (by unfold rFileNames; rw [hw, List.take_of_length_le (by omega)])
    rw [hr] at e
    subst e
    exact hQ _ _ (.r rfl rfl (by rw [← hw3, List.length_map]; first | omega | (simp; omega)) (by rw [← hw3, ← ho]))
theorem FiDiskLines {dnod : List TNode} {xdnod : List (List D)} {dent : List TEntry} {xdent : List (List D)} {dold : List TEntry} {xdold : List (List D)} {dste : List ByteArray} {xdste : List (List D)} {droo : Int} {dnex : Int} {o : List ByteArray} {xo : List (List D)} (hdnod : dnod.map eNode = xdnod) (hdent : dent.map eEntry = xdent) (hdold : dold.map eEntry = xdold) (hdste : dste.map cS = xdste) (hd : okD ⟨dnod, dent, dold, dste, droo, dnex⟩) (hw_ : okS ⟨dnod, dent, dold, dste, droo, dnex⟩) (hr : rDiskLines (⟨dnod, dent, dold, dste, droo, dnex⟩ : TDisk) = o) (ho : o.map cS = xo) : Fn Tryd.prog 22 [.agg [.d (.row 3 xdnod), .d (.row 2 xdent), .d (.row 2 xdold), .d (.row 1 xdste), I droo, I dnex]] [] ⟨.d (.row 1 xo), [], []⟩ := by
  refine Fn.go su_ch30 Tryd.func22 fun P hP Q hQ => ?_
  conv => cbv
  have hd3 : dent.length ≤ 1048576 := hd.2.2.1
  have hd4 : ∀ e ∈ dent, e.name_.size ≤ 1048576 := hd.2.2.2.1
  generalize hr1 : rFileNames (⟨dnod, dent, dold, dste, droo, dnex⟩ : TDisk) = l1
  generalize hl1 : l1.map cS = xl1
  refine .dd hP (FiFileNames hdnod hdent hdold hdste hd3 hr1 hl1) ?_
  conv => cbv
  have hl1e : l1 = dent.map (fun e => e.name_) := hr1.symm
  have hl1n : l1.length = dent.length := by rw [hl1e, List.length_map]
  have hall : ∀ x ∈ l1, x.size ≤ 1048576 := by rw [hl1e]; intro x hx; obtain ⟨y, hy, rfl⟩ := List.mem_map.1 hx; exact hd4 y hy
  refine .go hl1 fun v2 hv2 => ?_
  conv => cbv
  refine LoopW.lp (κ := Int × (List (List D)) × Nat) su_ch30 hP [2] [1, 10, 11] (fun (i12, zw3, nw3) => [(3, .ref 3 0 nw3), (12, I i12)]) (fun (i12, zw3, nw3) => [(3, .row 1 false zw3)])
    (fun (i12, zw3, nw3) => ∃ (w3 : List ByteArray), w3.map cS = zw3 ∧ nw3 = w3.length ∧ 0 ≤ i12 ∧ i12 ≤ l1.length ∧ w3 = (l1.take i12.toNat).map (diskLine (⟨dnod, dent, dold, dste, droo, dnex⟩ : TDisk)) ∧ w3.length = i12.toNat)
    (fun (i12, zw3, nw3) => l1.length - i12.toNat) (0, [], 0) ⟨[], rfl, rfl, by omega, by omega, rfl, rfl⟩ ⟨rfl, rfl, trivial⟩ rfl ?_
  rintro ⟨i12, zw3, nw3⟩ J ⟨w3, hw3, hnw3, h0, hle, hw, hwl⟩ hJ
  conv => cbv
  refine .lss (fun h3 => ?_) fun h3 => ?_
  · conv => cbv
    refine .go i12.toNat hl1 fun hje4 e4 qe4 => ?_
    conv => cbv
    rcases hr5 : rNodeAt (⟨dnod, dent, dold, dste, droo, dnex⟩ : TDisk) e4 with ⟨⟨r5aid, r5atex, r5asur⟩, r5b⟩
    refine .dd hP (FiNodeAt hdnod hdent hdold hdste hd hr5) ?_
    conv => cbv
    obtain ⟨hb5, hb6⟩ := nodeAt_b hd hw_ hr5
    simp only [] at hb5 hb6
    have hb4 : e4.size ≤ 1048576 := by rw [qe4]; exact hall _ (List.getElem_mem hje4)
    refine .go fun v6 hv6 => ?_
    conv => cbv
    have hf : (∀ n ∈ [v6, r5asur], in64 n) ∧ [v6, r5asur].length ≤ 100 := ⟨by intro n hn; simp only [List.mem_cons, List.not_mem_nil, or_false] at hn; rcases hn with rfl | rfl; (unfold in64; omega); exact hb6, by simp⟩
    generalize hr7 : rfigures [v6, r5asur] = r7
    refine .lnt hP (Fifigures rfl hf hr7) (.ref rfl rfl .nil) ?_
    conv => cbv
    have hb7 := rfigures_b hr7 hf.1
    simp only [List.length_cons, List.length_nil] at hb7
    refine .go fun s8 hs8 zs8 => ?_
    conv => cbv
    have hs8e : s8 = diskLine (⟨dnod, dent, dold, dste, droo, dnex⟩ : TDisk) e4 := by rw [hs8, ← hr7, hv6]; unfold diskLine; rw [hr5]
    refine .one s8 hw3 rfl fun nz9 z9 hnz9 hz9 => ?_
    conv => cbv
    refine .add fun v10 hv10 => ?_
    conv => cbv
    exact .go [7] (v10, z9, nz9) (hJ _ ⟨_, hz9, (by first | omega | (simp; omega)), by omega, by omega, by rw [hw, show v10.toNat = i12.toNat + 1 by omega, List.take_succ_eq_append_getElem hje4, List.map_append, ← qe4, hs8e]; rfl, by rw [List.length_append, hwl]; simp; omega⟩ (by first | (dsimp only; omega) | omega))
  · conv => cbv
    have e : w3 = rDiskLines (⟨dnod, dent, dold, dste, droo, dnex⟩ : TDisk) := (by unfold rDiskLines; rw [hw, List.take_of_length_le (by omega), hl1e, List.map_map]; rfl)
    rw [hr] at e
    subst e
    exact hQ _ _ (.r rfl rfl (by rw [← hw3, List.length_map]; first | omega | (simp; omega)) (by rw [← hw3, ← ho]))
theorem FiDiskLinesR {dnod : List TNode} {xdnod : List (List D)} {dent : List TEntry} {xdent : List (List D)} {dold : List TEntry} {xdold : List (List D)} {dste : List ByteArray} {xdste : List (List D)} {droo : Int} {dnex : Int} {o : List ByteArray} {xo : List (List D)} (hdnod : dnod.map eNode = xdnod) (hdent : dent.map eEntry = xdent) (hdold : dold.map eEntry = xdold) (hdste : dste.map cS = xdste) (hd : okD ⟨dnod, dent, dold, dste, droo, dnex⟩) (hw_ : okS ⟨dnod, dent, dold, dste, droo, dnex⟩) (hr : rDiskLines (⟨dnod, dent, dold, dste, droo, dnex⟩ : TDisk) = o) (ho : o.map cS = xo) : Fn Tryd.prog 22 [.agg [.d (.row 3 xdnod), .d (.row 2 xdent), .d (.row 2 xdold), .d (.row 1 xdste), I droo, I dnex]] [] ⟨.ref 0 0 o.length, [.row 1 false xo], []⟩ := by
  refine Fn.goR su_ch30 Tryd.func22 fun P hP Q hQ => ?_
  conv => cbv
  have hd3 : dent.length ≤ 1048576 := hd.2.2.1
  have hd4 : ∀ e ∈ dent, e.name_.size ≤ 1048576 := hd.2.2.2.1
  generalize hr1 : rFileNames (⟨dnod, dent, dold, dste, droo, dnex⟩ : TDisk) = l1
  generalize hl1 : l1.map cS = xl1
  refine .dd hP (FiFileNames hdnod hdent hdold hdste hd3 hr1 hl1) ?_
  conv => cbv
  have hl1e : l1 = dent.map (fun e => e.name_) := hr1.symm
  have hl1n : l1.length = dent.length := by rw [hl1e, List.length_map]
  have hall : ∀ x ∈ l1, x.size ≤ 1048576 := by rw [hl1e]; intro x hx; obtain ⟨y, hy, rfl⟩ := List.mem_map.1 hx; exact hd4 y hy
  refine .go hl1 fun v2 hv2 => ?_
  conv => cbv
  refine LoopW.lp (κ := Int × (List (List D)) × Nat) su_ch30 hP [2] [1, 10, 11] (fun (i12, zw3, nw3) => [(3, .ref 3 0 nw3), (12, I i12)]) (fun (i12, zw3, nw3) => [(3, .row 1 false zw3)])
    (fun (i12, zw3, nw3) => ∃ (w3 : List ByteArray), w3.map cS = zw3 ∧ nw3 = w3.length ∧ 0 ≤ i12 ∧ i12 ≤ l1.length ∧ w3 = (l1.take i12.toNat).map (diskLine (⟨dnod, dent, dold, dste, droo, dnex⟩ : TDisk)) ∧ w3.length = i12.toNat)
    (fun (i12, zw3, nw3) => l1.length - i12.toNat) (0, [], 0) ⟨[], rfl, rfl, by omega, by omega, rfl, rfl⟩ ⟨rfl, rfl, trivial⟩ rfl ?_
  rintro ⟨i12, zw3, nw3⟩ J ⟨w3, hw3, hnw3, h0, hle, hw, hwl⟩ hJ
  conv => cbv
  refine .lss (fun h3 => ?_) fun h3 => ?_
  · conv => cbv
    refine .go i12.toNat hl1 fun hje4 e4 qe4 => ?_
    conv => cbv
    rcases hr5 : rNodeAt (⟨dnod, dent, dold, dste, droo, dnex⟩ : TDisk) e4 with ⟨⟨r5aid, r5atex, r5asur⟩, r5b⟩
    refine .dd hP (FiNodeAt hdnod hdent hdold hdste hd hr5) ?_
    conv => cbv
    obtain ⟨hb5, hb6⟩ := nodeAt_b hd hw_ hr5
    simp only [] at hb5 hb6
    have hb4 : e4.size ≤ 1048576 := by rw [qe4]; exact hall _ (List.getElem_mem hje4)
    refine .go fun v6 hv6 => ?_
    conv => cbv
    have hf : (∀ n ∈ [v6, r5asur], in64 n) ∧ [v6, r5asur].length ≤ 100 := ⟨by intro n hn; simp only [List.mem_cons, List.not_mem_nil, or_false] at hn; rcases hn with rfl | rfl; (unfold in64; omega); exact hb6, by simp⟩
    generalize hr7 : rfigures [v6, r5asur] = r7
    refine .lnt hP (Fifigures rfl hf hr7) (.ref rfl rfl .nil) ?_
    conv => cbv
    have hb7 := rfigures_b hr7 hf.1
    simp only [List.length_cons, List.length_nil] at hb7
    refine .go fun s8 hs8 zs8 => ?_
    conv => cbv
    have hs8e : s8 = diskLine (⟨dnod, dent, dold, dste, droo, dnex⟩ : TDisk) e4 := by rw [hs8, ← hr7, hv6]; unfold diskLine; rw [hr5]
    refine .one s8 hw3 rfl fun nz9 z9 hnz9 hz9 => ?_
    conv => cbv
    refine .add fun v10 hv10 => ?_
    conv => cbv
    exact .go [7] (v10, z9, nz9) (hJ _ ⟨_, hz9, (by first | omega | (simp; omega)), by omega, by omega, by rw [hw, show v10.toNat = i12.toNat + 1 by omega, List.take_succ_eq_append_getElem hje4, List.map_append, ← qe4, hs8e]; rfl, by rw [List.length_append, hwl]; simp; omega⟩ (by first | (dsimp only; omega) | omega))
  · conv => cbv
    have e : w3 = rDiskLines (⟨dnod, dent, dold, dste, droo, dnex⟩ : TDisk) := (by unfold rDiskLines; rw [hw, List.take_of_length_le (by omega), hl1e, List.map_map]; rfl)
    rw [hr] at e
    subst e
    subst hw3 hnw3 ho; exact hQ _ _ (.of [3] (.inl rfl) rfl rfl rfl rfl)
theorem FsDiskLines {dnod : List TNode} {xdnod : List (List D)} {dent : List TEntry} {xdent : List (List D)} {dold : List TEntry} {xdold : List (List D)} {dste : List ByteArray} {xdste : List (List D)} {droo : Int} {dnex : Int} {o : List ByteArray} {xo : List (List D)} (hdnod : dnod.map eNode = xdnod) (hdent : dent.map eEntry = xdent) (hdold : dold.map eEntry = xdold) (hdste : dste.map cS = xdste) (hd : okD ⟨dnod, dent, dold, dste, droo, dnex⟩) (hw_ : okS ⟨dnod, dent, dold, dste, droo, dnex⟩) (hr : rDiskLines (⟨dnod, dent, dold, dste, droo, dnex⟩ : TDisk) = o) (ho : o.map cS = xo) : Fn Tryd.prog 20 [.agg [.d (.row 3 xdnod), .d (.row 2 xdent), .d (.row 2 xdold), .d (.row 1 xdste), I droo, I dnex]] [] ⟨.d (.row 1 xo), [], []⟩ := by
  refine Fn.go su_ch30 Tryd.func20 fun P hP Q hQ => ?_
  conv => cbv
  have hd3 : dent.length ≤ 1048576 := hd.2.2.1
  have hd4 : ∀ e ∈ dent, e.name_.size ≤ 1048576 := hd.2.2.2.1
  refine LoopW.lp (κ := Int × (List (List D)) × Nat) su_ch30 hP [2] [1] (fun (i4, zw3, nw3) => [(3, .ref 3 0 nw3), (4, I i4)]) (fun (i4, zw3, nw3) => [(3, .row 1 false zw3)])
    (fun (i4, zw3, nw3) => ∃ (w3 : List ByteArray), w3.map cS = zw3 ∧ nw3 = w3.length ∧ 0 ≤ i4 ∧ i4 ≤ dent.length ∧ w3 = (dent.take i4.toNat).map (fun e => diskLine (⟨dnod, dent, dold, dste, droo, dnex⟩ : TDisk) e.name_) ∧ w3.length = i4.toNat)
    (fun (i4, zw3, nw3) => dent.length - i4.toNat) (0, [], 0) ⟨[], rfl, rfl, by omega, by omega, rfl, rfl⟩ ⟨rfl, rfl, trivial⟩ rfl ?_
  rintro ⟨i4, zw3, nw3⟩ J ⟨w3, hw3, hnw3, h0, hle, hw, hwl⟩ hJ
  conv => cbv
  refine .go hdent fun v1 hv1 => ?_
  conv => cbv
  refine .lss (fun h2 => ?_) fun h2 => ?_
  · conv => cbv
    refine .go i4.toNat hdent fun hje3 ⟨e3nam, e3id⟩ qe3 => ?_
    conv => cbv
    rcases hr4 : rNodeAt (⟨dnod, dent, dold, dste, droo, dnex⟩ : TDisk) e3nam with ⟨⟨r4aid, r4atex, r4asur⟩, r4b⟩
    refine .dd hP (FsNodeAt hdnod hdent hdold hdste hd hr4) ?_
    conv => cbv
    refine .go i4.toNat hdent fun hje5 ⟨e5nam, e5id⟩ qe5 => ?_
    conv => cbv
    obtain ⟨hb5, hb6⟩ := nodeAt_b hd hw_ hr4
    simp only [] at hb5 hb6
    have qn3 : e3nam = dent[i4.toNat].name_ := by rw [← qe3]
    have qn5 : e5nam = e3nam := by rw [qn3, ← qe5]
    have hb4 : e5nam.size ≤ 1048576 := by rw [qn5, qn3]; exact hd4 _ (List.getElem_mem hje3)
    refine .litR 1 fun s6 hs6 zs6 => ?_
    conv => cbv
    refine .go fun v7 hv7 => ?_
    conv => cbv
    have hn8 : in64 v7 := by unfold in64; omega
    generalize hr8 : rDecimal v7 = r8
    refine .dd hP (FsDecimal hn8 hr8) ?_
    conv => cbv
    have hb8 := rDecimal_b hr8 hn8
    refine .go fun s9 hs9 zs9 => ?_
    conv => cbv
    refine .litR 1 fun s10 hs10 zs10 => ?_
    conv => cbv
    generalize hr11 : rDecimal r4asur = r11
    refine .dd hP (FsDecimal hb6 hr11) ?_
    conv => cbv
    have hb11 := rDecimal_b hr11 hb6
    refine .go fun s12 hs12 zs12 => ?_
    conv => cbv
    have hs12e : s12 = diskLine (⟨dnod, dent, dold, dste, droo, dnex⟩ : TDisk) e3nam := by unfold diskLine; rw [hr4, hs12, hs10, hs9, hs6, ← hr8, ← hr11, hv7, qn5, bytes_tx e3nam]; simp only []; unfold rDecimal rfigures; simp only [lit_tx, tx_append]; simp
    refine .one s12 hw3 rfl fun nz13 z13 hnz13 hz13 => ?_
    conv => cbv
    refine .add fun v14 hv14 => ?_
    conv => cbv
    exact .go [6] (v14, z13, nz13) (hJ _ ⟨_, hz13, (by first | omega | (simp; omega)), by omega, by omega, by rw [hw, show v14.toNat = i4.toNat + 1 by omega, List.take_succ_eq_append_getElem hje3, List.map_append, hs12e, qn3]; rfl, by rw [List.length_append, hwl]; simp; omega⟩ (by first | (dsimp only; omega) | omega))
  · conv => cbv
    have e : w3 = rDiskLines (⟨dnod, dent, dold, dste, droo, dnex⟩ : TDisk) := (by unfold rDiskLines; rw [hw, List.take_of_length_le (by omega)])
    rw [hr] at e
    subst e
    exact hQ _ _ (.r rfl rfl (by rw [← hw3, List.length_map]; first | omega | (simp; omega)) (by rw [← hw3, ← ho]))
end Go.Proofs.YtamdgfklbjoaiaaDoor.Ab
