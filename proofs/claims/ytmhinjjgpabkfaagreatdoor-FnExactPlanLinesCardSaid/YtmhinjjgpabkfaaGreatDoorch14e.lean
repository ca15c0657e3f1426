/- What functions of the program come to, for all arguments in the given bounds. -/
import Derived.Test.YtmhinjjgpabkfaaGreatDoorch14d
import Derived.Test.YtmhinjjgpabkfaaGreatDoorZ11
set_option linter.unusedVariables false
set_option linter.unusedSimpArgs false
namespace Go.Proofs.YtmhinjjgpabkfaaGreatDoor.Ab
open Go Go.Proofs
set_option maxRecDepth 20000
set_option maxHeartbeats 4000000
set_option linter.unusedSimpArgs false
set_option linter.unusedVariables false
def tab_ch14e : List (Nat × TyRow) := [
  (3, ⟨.int .i64, some 1, some false, none, false, [.int .i64], [], some [(.int .i64 0, 0)], none, none, none⟩),
  (9, ⟨.str, some 1, some false, none, false, [.str], [], some [(.string default, 0)], none, none, none⟩),
  (24, ⟨.sl 1, some 1, some false, some (1, 8), false, [.sl 1], [], some [(.slice none 0 0, 1)], some ([.sc (.int .i64 0)], 1, 8), none, none⟩),
  (41, ⟨.sl 1, some 1, some false, some (1, 16), false, [.sl 1], [], some [(.slice none 0 0, 1)], some ([.sc (.string default)], 1, 16), none, none⟩),
  (47, ⟨.sl 2, some 1, some false, some (2, 24), false, [.sl 2], [], some [(.slice none 0 0, 2)], some ([.sc (.string default), .sc (.int .i64 0)], 2, 24), none, none⟩),
  (49, ⟨.other, some 6, some true, none, false, [.sl 3, .sl 2, .sl 2, .sl 1, .int .i64, .int .i64], [some (0, 1, false), some (1, 1, false), some (2, 1, false), some (3, 1, false), some (4, 1, false), some (5, 1, false)], some [(.slice none 0 0, 3), (.slice none 0 0, 2), (.slice none 0 0, 2), (.slice none 0 0, 1), (.int .i64 0, 0), (.int .i64 0, 0)], none, some [(0, 1), (1, 1), (2, 1), (3, 1), (4, 1), (5, 1)], none⟩),
  (103, ⟨.other, some 11, some true, none, false, [.int .i64, .str, .bool, .int .i64, .int .i64, .int .i64, .int .i64, .sl 1, .sl 1, .int .i64, .bool], [some (0, 1, false), some (1, 1, false), some (2, 9, true)], some [(.int .i64 0, 0), (.string default, 0), (.bool false, 0), (.int .i64 0, 0), (.int .i64 0, 0), (.int .i64 0, 0), (.int .i64 0, 0), (.slice none 0 0, 1), (.slice none 0 0, 1), (.int .i64 0, 0), (.bool false, 0)], none, some [(0, 1), (1, 1), (2, 9)], none⟩),
  (147, ⟨.other, some 2, some true, none, false, [.str, .int .i64], [some (0, 1, false), some (1, 1, false)], some [(.string default, 0), (.int .i64 0, 0)], none, some [(0, 1), (1, 1)], some [.str, .int]⟩),
  (154, ⟨.sl 11, some 1, some false, some (11, 128), false, [.sl 11], [], some [(.slice none 0 0, 11)], some ([.sc (.int .i64 0), .sc (.string default), .sc (.bool false), .sc (.int .i64 0), .sc (.int .i64 0), .sc (.int .i64 0), .sc (.int .i64 0), .row 1 [], .row 1 [], .sc (.int .i64 0), .sc (.bool false)], 11, 128), none, none⟩)]
theorem tab_ch14e_ok : TabOk Tryz.prog tab_ch14e := TabOk.of (by kernel_rfl)
theorem su_ch14e : Setup Tryz.prog tab_ch14e := ⟨tab_ch14e_ok, mixed⟩
theorem df_init {α : Type} {p : α → Bool} {l : List α} {i : Int} (e : idxI p l = i) (h : i ≠ -1) : 0 ≤ i ∧ i < l.length ∧ l.take i.toNat = (l.take (i + 1).toNat).filter (fun x => !p x) := by
  have hb := idxI_b e
  have h0 : 0 ≤ i := by omega
  obtain ⟨hi, hp⟩ := idxI_get e h0
  refine ⟨h0, hb.2, ?_⟩
  rw [show (i + 1).toNat = i.toNat + 1 by omega, List.take_succ_eq_append_getElem hi, List.filter_append]
  have h1 : (l.take i.toNat).filter (fun x => !p x) = l.take i.toNat := by
    rw [List.filter_eq_self]
    intro x hx
    obtain ⟨j, hj, rfl⟩ := List.getElem_of_mem hx
    have hj2 : j < i.toNat := by have := hj; rw [List.length_take] at this; omega
    rw [List.getElem_take]
    have e2 : l.findIdx p = i.toNat := by
      unfold idxI at e
      split at e <;> omega
    have := List.not_of_lt_findIdx (p := p) (xs := l) (i := j) (by omega)
    simpa using this
  rw [h1]
  simp [hp]
theorem df_keep {α : Type} {p : α → Bool} {l w : List α} {i j : Nat} (hj : j < l.length) (hij : i < j) (hl : w.length = l.length) (h1 : w.take i = (l.take j).filter (fun x => !p x)) (h2 : w.drop j = l.drop j) (hp : p l[j] = false) :
    (w.set i l[j]).take (i + 1) = (l.take (j + 1)).filter (fun x => !p x) ∧ (w.set i l[j]).drop (j + 1) = l.drop (j + 1) := by
  constructor
  · rw [List.take_succ_eq_append_getElem (by rw [List.length_set]; omega), List.take_set_of_le (Nat.le_refl i), h1, List.take_succ_eq_append_getElem hj, List.filter_append]
    simp [hp]
  · rw [List.drop_set_of_lt (by omega), ← List.drop_drop, ← List.drop_drop, h2]
theorem df_drop {α : Type} {p : α → Bool} {l w : List α} {i j : Nat} (hj : j < l.length) (h1 : w.take i = (l.take j).filter (fun x => !p x)) (h2 : w.drop j = l.drop j) (hp : p l[j] = true) :
    w.take i = (l.take (j + 1)).filter (fun x => !p x) ∧ w.drop (j + 1) = l.drop (j + 1) := by
  constructor
  · rw [List.take_succ_eq_append_getElem hj, List.filter_append, h1]
    simp [hp]
  · rw [← List.drop_drop, ← List.drop_drop, h2]
theorem df_at {α : Type} {l w : List α} {j : Nat} (hj : j < w.length) (hj2 : j < l.length) (h2 : w.drop j = l.drop j) : w[j] = l[j] := by
  have := congrArg (·[0]?) h2
  simpa [hj, hj2] using this
theorem df_end {α : Type} {c : α → List D} {w o : List α} {z : α} {i n : Nat} {x : List (List D)} (hn : n = w.length - i) (hi : i ≤ w.length) (ho : w.take i = o) (h : (w.take i ++ (List.replicate n z ++ w.drop (i + n))).map c = x) : i = o.length ∧ (o ++ List.replicate (w.length - o.length) z).map c = x := by
  have h1 : i = o.length := by rw [← ho, List.length_take]; omega
  refine ⟨h1, ?_⟩
  rw [← h, ho, List.drop_of_length_le (by omega), List.append_nil, hn, h1]
def rIndexFunc_LooseNames_1 (l : List ByteArray) (chain : List Int) : Int := idxI (fun x => rLooseNames_1 x chain) l
theorem FlIndexFunc_LooseNames_1 {l : List ByteArray} {xl : List (List D)} {nl : Nat} {chain : List Int} {xchain : List (List D)} {o : Int} (hl : l.map cS = xl) (hnl : nl = l.length) (hchain : chain.map cI = xchain) (hn : l.length < 2 ^ 40) (hc : chain.length < 2 ^ 40) (hel : ∀ x ∈ l, x.size ≤ 1048576) (hr : rIndexFunc_LooseNames_1 l chain = o)  : Fn Tryz.prog 158 [.ref 0 0 nl, .clo 118 [.ptr 1 0 0]] [.row 1 false xl, .box 24 [.d (.row 1 xchain)]] ⟨I o, [], []⟩ := by
 refine Fn.goR su_ch14e Tryz.func158 fun P hP Q hQ => ?_
 conv => cbv
 refine .go fun v1 hv1 => ?_
 conv => cbv
 refine LoopW.lp (κ := Int) su_ch14e hP [] [0, 1, 7] (fun i8 => [(8, I i8)]) (fun i8 => [])
   (fun i8 => 0 ≤ i8 ∧ i8 ≤ l.length ∧ ∀ (j : Nat) (hj : j < l.length), j < i8.toNat → rLooseNames_1 l[j] chain = false)
   (fun i8 => (l.length - i8).toNat) (0) ⟨by omega, by omega, fun j _ h => by simp at h⟩ ⟨rfl, trivial⟩ rfl ?_
 rintro i8 J ⟨h0, h1, hb⟩ hJ
 conv => cbv
 refine .lss (fun h2 => ?_) fun h2 => ?_
 conv => cbv
 refine .go i8.toNat fun p3 hp3 hjp3 => ?_
 conv => cbv
 refine .go hl fun hje4 e4 qe4 => ?_
 conv => cbv
 subst hp3
 generalize hr5 : rLooseNames_1 e4 chain = r5
 refine .bx [1] [] hP (FiLooseNames_1 hchain (hel e4 (qe4 ▸ List.getElem_mem _)) hc hr5) rfl rfl rfl rfl ?_
 cases r5
 conv => cbv
 refine .add fun v6 hv6 => ?_
 conv => cbv
 exact .go [] (v6) (hJ _ ⟨by omega, by omega, fun j hj h => if e : j = i8.toNat then by subst e; rw [← qe4]; exact hr5 else hb j hj (by omega)⟩ (by first | (dsimp only; omega) | omega))
 conv => cbv
 have e : i8 = rIndexFunc_LooseNames_1 l chain := (by exact idxI_at (p := fun x => rLooseNames_1 x chain) h0 (by omega) (by rw [← qe4]; exact hr5) hb)
 rw [hr] at e
 subst e
 exact hQ _ _ (.of [] (.inl rfl) rfl rfl rfl rfl)
 conv => cbv
 have e : (-1) = rIndexFunc_LooseNames_1 l chain := (by exact idxI_none (p := fun x => rLooseNames_1 x chain) fun j hj => hb j hj (by omega))
 rw [hr] at e
 subst e
 exact hQ _ _ (.of [] (.inl rfl) rfl rfl rfl rfl)
def rDeleteFunc_LooseNames_1 (l : List ByteArray) (chain : List Int) : List ByteArray := l.filter (fun x => !rLooseNames_1 x chain)
theorem FlDeleteFunc_LooseNames_1 {l : List ByteArray} {xl : List (List D)} {nl : Nat} {chain : List Int} {xchain : List (List D)} {o : List ByteArray} {xf : List (List D)} {no : Nat} (hl : l.map cS = xl) (hnl : nl = l.length) (hchain : chain.map cI = xchain) (hn : l.length < 2 ^ 40) (hc : chain.length < 2 ^ 40) (hel : ∀ x ∈ l, x.size ≤ 1048576) (hr : rDeleteFunc_LooseNames_1 l chain = o)  (hf : (o ++ List.replicate (l.length - o.length) (tx [])).map cS = xf) (hno : no = o.length) : Fn Tryz.prog 116 [.ref 0 0 nl, .clo 118 [.ptr 1 0 0]] [.row 1 false xl, .box 24 [.d (.row 1 xchain)]] ⟨.ref 0 0 no, [], [(0, .row 1 false xf)]⟩ := by
 refine Fn.goR su_ch14e Tryz.func116 fun P hP Q hQ => ?_
 conv => cbv
 generalize hr1 : rIndexFunc_LooseNames_1 l chain = r1
 refine .bx [0, 1] [] hP (FlIndexFunc_LooseNames_1 hl (by first | rfl | omega | (simp; omega)) hchain hn hc hel hr1) rfl rfl rfl rfl ?_
 conv => cbv
 refine .eql (fun h2 => ?_) fun h2 => ?_
 conv => cbv
 have e : l = o := by rw [← hr]; unfold rDeleteFunc_LooseNames_1; symm; rw [List.filter_eq_self]; intro x hx; rw [idxI_ne (p := fun x => rLooseNames_1 x chain) hr1 (by omega) x hx]; rfl
 subst e
 obtain rfl : xl = xf := by rw [← hl, ← hf]; simp
 obtain rfl : nl = no := by omega
 exact hQ _ _ (.of [] (.inl rfl) rfl rfl rfl rfl)
 conv => cbv
 have hd := df_init (p := fun x => rLooseNames_1 x chain) hr1 h2
 refine .add fun v3 hv3 => ?_
 conv => cbv
 refine LoopW.lp (κ := Int × Int × (List (List D))) su_ch14e hP [] [0, 1] (fun (i5, i6, zw0) => [(5, I i5), (6, I i6)]) (fun (i5, i6, zw0) => [(0, .row 1 false zw0)])
   (fun (i5, i6, zw0) => ∃ (w0 : List ByteArray), w0.map cS = zw0 ∧ (0 ≤ i5 ∧ i5 < i6 ∧ i6 ≤ l.length) ∧ w0.length = l.length ∧ w0.take i5.toNat = (l.take i6.toNat).filter (fun x => !rLooseNames_1 x chain) ∧ w0.drop i6.toNat = l.drop i6.toNat)
   (fun (i5, i6, zw0) => (l.length - i6).toNat) (r1, v3, xl) ⟨l, hl, by omega, rfl, by rw [hd.2.2, hv3], rfl⟩ ⟨rfl, rfl, trivial⟩ rfl ?_
 rintro ⟨i5, i6, zw0⟩ J ⟨w0, hw0, hb, hwl, hwt, hwd⟩ hJ
 conv => cbv
 refine .go fun v4 hv4 => ?_
 conv => cbv
 refine .lss (fun h5 => ?_) fun h5 => ?_
 conv => cbv
 refine .go i6.toNat fun p6 hp6 hjp6 => ?_
 conv => cbv
 refine .go hw0 fun hje7 e7 qe7 => ?_
 conv => cbv
 subst hp6
 have ha7 : e7 = l[i6.toNat] := qe7.trans (df_at hje7 (by omega) hwd)
 generalize hr8 : rLooseNames_1 e7 chain = r8
 refine .bx [1] [] hP (FiLooseNames_1 hchain (hel e7 (by rw [ha7]; exact List.getElem_mem _)) hc hr8) rfl rfl rfl rfl ?_
 cases r8
 conv => cbv
 refine .go i5.toNat fun p9 hp9 hjp9 => ?_
 conv => cbv
 refine .all (e7) hw0 rfl fun z10 hz10 => ?_
 conv => cbv
 refine .add fun v11 hv11 => ?_
 conv => cbv
 refine .add fun v12 hv12 => ?_
 conv => cbv
 have hk := df_keep (i := i5.toNat) (p := fun x => rLooseNames_1 x chain) (show i6.toNat < l.length by omega) (by omega) hwl hwt hwd (by rw [← ha7]; exact hr8)
 rw [← ha7] at hk
 subst hp9
 exact .go [] (v11, v12, z10) (hJ _ ⟨_, hz10, by omega, by rw [List.length_set]; exact hwl, by rw [show v11.toNat = i5.toNat + 1 by omega, show v12.toNat = i6.toNat + 1 by omega]; exact hk.1, by rw [show v12.toNat = i6.toNat + 1 by omega]; exact hk.2⟩ (by first | (dsimp only; omega) | omega))
 conv => cbv
 refine .add fun v9 hv9 => ?_
 conv => cbv
 have hk := df_drop (p := fun x => rLooseNames_1 x chain) (show i6.toNat < l.length by omega) hwt hwd (by rw [← ha7]; exact hr8)
 exact .go [] (i5, v9, zw0) (hJ _ ⟨_, hw0, by omega, hwl, by rw [show v9.toNat = i6.toNat + 1 by omega]; exact hk.1, by rw [show v9.toNat = i6.toNat + 1 by omega]; exact hk.2⟩ (by first | (dsimp only; omega) | omega))
 conv => cbv
 refine .lo fun on6 n6 hon6 hn6 => ?_
 conv => cbv
 refine .go (tx []) hP hw0 Tryz.underlying41 (by kernel_rfl) rfl fun z7 hz7 => ?_
 conv => cbv
 refine .hi fun on8 n8 hon8 hn8 => ?_
 conv => cbv
 have e : w0.take on6 = o := by rw [hon6, Nat.zero_add, hwt, List.take_of_length_le (by omega), ← hr]; rfl
 obtain ⟨e1, e2⟩ := df_end (by omega) (by omega) e hz7
 rw [hwl, hf] at e2
 subst e2
 obtain rfl : n8 = no := by omega
 subst hon8
 exact hQ _ _ (.of [] (.inl rfl) rfl rfl rfl rfl)
def rFileNames (d : TDisk) : List ByteArray := d.entries_.map fun e => e.name_
theorem FiChain {dnod : List TNode} {xdnod : List (List D)} {dent : List TEntry} {xdent : List (List D)} {dold : List TEntry} {xdold : List (List D)} {dste : List ByteArray} {xdste : List (List D)} {droo : Int} {dnex : Int} {o : List Int} {xo : List (List D)} (hdnod : dnod.map eNode = xdnod) (hdent : dent.map eEntry = xdent) (hdold : dold.map eEntry = xdold) (hdste : dste.map cS = xdste) (hd : okD ⟨dnod, dent, dold, dste, droo, dnex⟩) (hr : rChain (⟨dnod, dent, dold, dste, droo, dnex⟩ : TDisk) = o) (ho : o.map cI = xo) : Fn Tryz.prog 115 [.agg [.d (.row 3 xdnod), .d (.row 2 xdent), .d (.row 2 xdold), .d (.row 1 xdste), I droo, I dnex]] [] ⟨.d (.row 1 xo), [], []⟩ := by
 refine Fn.go su_ch14e Tryz.func115 fun P hP Q hQ => ?_
 conv => cbv
 generalize hr1 : rlinks (⟨dnod, dent, dold, dste, droo, dnex⟩ : TDisk) = l1
 generalize hl1 : l1.map elink = xl1
 refine .dd hP (Filinks hdnod hdent hdold hdste hd hr1 hl1) ?_
 conv => cbv
 refine .go hl1 fun v2 hv2 => ?_
 conv => cbv
 refine LoopW.lp (κ := Int × (List (List D)) × Nat) su_ch14e hP [2] [8, 9] (fun (i10, zw3, nw3) => [(3, .ref 3 0 nw3), (10, I i10)]) (fun (i10, zw3, nw3) => [(3, .row 1 false zw3)])
   (fun (i10, zw3, nw3) => ∃ (w3 : List Int), w3.map cI = zw3 ∧ nw3 = w3.length ∧ 0 ≤ i10 ∧ i10 ≤ l1.length ∧ w3 = (l1.take i10.toNat).map fun x => x.base_)
   (fun (i10, zw3, nw3) => (l1.length - i10).toNat) (0, [], 0) ⟨[], rfl, rfl, by omega, by omega, by simp⟩ ⟨rfl, rfl, trivial⟩ rfl ?_
 rintro ⟨i10, zw3, nw3⟩ J ⟨w3, hw3, hnw3, h0, h1, hw⟩ hJ
 have hl16 := rlinks_len hr1
 have hwl : w3.length = i10.toNat := by rw [hw, List.length_map, List.length_take]; omega
 conv => cbv
 refine .lss (fun h3 => ?_) fun h3 => ?_
 conv => cbv
 refine .goX i10.toNat hl1 fun hje4 ⟨e4bas, e4tex, ⟨e4scaok, ⟨e4scaheaver, e4scaheastr, e4scaheabas, e4scahealin⟩, e4scarec, e4scaoff, e4scaend, e4scamar⟩⟩ fe4 qe4 hfe4 => ?_
 replace hfe4 : [.sc (.int .i64 e4bas), .sc (.string e4tex), .sc (.bool e4scaok), .sc (.int .i64 e4scaheaver), .sc (.int .i64 e4scaheastr), .sc (.int .i64 e4scaheabas), .sc (.int .i64 e4scahealin), .row 1 (e4scarec.map cS), .row 1 (e4scaoff.map cI), .sc (.int .i64 e4scaend), .sc (.bool e4scamar)] = fe4 := hfe4
 generalize he4scarec : e4scarec.map cS = xe4scarec at hfe4
 generalize he4scaoff : e4scaoff.map cI = xe4scaoff at hfe4
 subst hfe4
 conv => cbv
 refine .one e4bas hw3 rfl fun nz5 z5 hnz5 hz5 => ?_
 conv => cbv
 refine .add fun v6 hv6 => ?_
 conv => cbv
 exact .go [8] (v6, z5, nz5) (hJ _ ⟨_, hz5, (by first | omega | (simp; omega)), by omega, by omega, by rw [hw, show v6.toNat = i10.toNat + 1 by omega, take_map hje4, ← qe4]⟩ (by first | (dsimp only; omega) | omega))
 conv => cbv
 have e : w3 = rChain (⟨dnod, dent, dold, dste, droo, dnex⟩ : TDisk) := (by unfold rChain; rw [hr1, hw, List.take_of_length_le (by omega)])
 rw [hr] at e
 subst e
 exact hQ _ _ (.r rfl rfl (by rw [← hw3, List.length_map]; first | omega | (simp; omega)) (by rw [← hw3, ← ho]))
theorem FiFileNamesR {dnod : List TNode} {xdnod : List (List D)} {dent : List TEntry} {xdent : List (List D)} {dold : List TEntry} {xdold : List (List D)} {dste : List ByteArray} {xdste : List (List D)} {droo : Int} {dnex : Int} {o : List ByteArray} {xo : List (List D)} {no : Nat}  (hdnod : dnod.map eNode = xdnod) (hdent : dent.map eEntry = xdent) (hdold : dold.map eEntry = xdold) (hdste : dste.map cS = xdste) (hd3 : dent.length ≤ 1048576) (hr : rFileNames (⟨dnod, dent, dold, dste, droo, dnex⟩ : TDisk) = o) (ho : o.map cS = xo) (hno : no = o.length)  : Fn Tryz.prog 117 [.agg [.d (.row 3 xdnod), .d (.row 2 xdent), .d (.row 2 xdold), .d (.row 1 xdste), I droo, I dnex]] [] ⟨.ref 0 0 no, [.row 1 false xo], []⟩ := by
 refine Fn.goR su_ch14e Tryz.func117 fun P hP Q hQ => ?_
 conv => cbv
 refine .go hdent fun v1 hv1 => ?_
 conv => cbv
 refine LoopW.lp (κ := Int × (List (List D)) × Nat) su_ch14e hP [2] [8, 9] (fun (i10, zw3, nw3) => [(3, .ref 3 0 nw3), (10, I i10)]) (fun (i10, zw3, nw3) => [(3, .row 1 false zw3)])
   (fun (i10, zw3, nw3) => ∃ (w3 : List ByteArray), w3.map cS = zw3 ∧ nw3 = w3.length ∧ 0 ≤ i10 ∧ i10 ≤ dent.length ∧ w3 = (dent.take i10.toNat).map (fun e => e.name_) ∧ w3.length = i10.toNat)
   (fun (i10, zw3, nw3) => dent.length - i10.toNat) (0, [], 0) ⟨[], rfl, rfl, by omega, by omega, rfl, rfl⟩ ⟨rfl, rfl, trivial⟩ rfl ?_
 rintro ⟨i10, zw3, nw3⟩ J ⟨w3, hw3, hnw3, h0, hle, hw, hwl⟩ hJ
 conv => cbv
 refine .lss (fun h2 => ?_) fun h2 => ?_
 conv => cbv
 refine .go i10.toNat hdent fun hje3 ⟨e3nam, e3id⟩ qe3 => ?_
 conv => cbv
 refine .one e3nam hw3 rfl fun nz4 z4 hnz4 hz4 => ?_
 conv => cbv
 refine .add fun v5 hv5 => ?_
 conv => cbv
 exact .go [6] (v5, z4, nz4) (hJ _ ⟨_, hz4, (by first | omega | (simp; omega)), by omega, by omega, by rw [hw, show v5.toNat = i10.toNat + 1 by omega, List.take_succ_eq_append_getElem hje3, List.map_append, ← qe3]; rfl, by rw [List.length_append, hwl]; simp; omega⟩ (by first | (dsimp only; omega) | omega))
 conv => cbv
 have e : w3 = rFileNames (⟨dnod, dent, dold, dste, droo, dnex⟩ : TDisk) := (by unfold rFileNames; rw [hw, List.take_of_length_le (by omega)])
 rw [hr] at e
 subst e
 obtain rfl : zw3 = xo := by rw [← hw3, ← ho]
 obtain rfl : nw3 = no := by first | omega | (rw [hno]; simp; omega)
 exact hQ _ _ (.of [3] (.inl rfl) rfl rfl rfl rfl)
theorem FiLooseNames {dnod : List TNode} {xdnod : List (List D)} {dent : List TEntry} {xdent : List (List D)} {dold : List TEntry} {xdold : List (List D)} {dste : List ByteArray} {xdste : List (List D)} {droo : Int} {dnex : Int} {o : List ByteArray} {xo : List (List D)} (hdnod : dnod.map eNode = xdnod) (hdent : dent.map eEntry = xdent) (hdold : dold.map eEntry = xdold) (hdste : dste.map cS = xdste) (hd : okD ⟨dnod, dent, dold, dste, droo, dnex⟩) (hr : rLooseNames (⟨dnod, dent, dold, dste, droo, dnex⟩ : TDisk) = o) (ho : o.map cS = xo) : Fn Tryz.prog 70 [.agg [.d (.row 3 xdnod), .d (.row 2 xdent), .d (.row 2 xdold), .d (.row 1 xdste), I droo, I dnex]] [] ⟨.d (.row 1 xo), [], []⟩ := by
 refine Fn.go su_ch14e Tryz.func70 fun P hP Q hQ => ?_
 conv => cbv
 have hd3 : dent.length ≤ 1048576 := hd.2.2.1
 have hd4 : ∀ e ∈ dent, e.name_.size ≤ 1048576 := hd.2.2.2.1
 generalize hr1 : rChain (⟨dnod, dent, dold, dste, droo, dnex⟩ : TDisk) = l1
 generalize hl1 : l1.map cI = xl1
 refine .dd hP (FiChain hdnod hdent hdold hdste hd hr1 hl1) ?_
 conv => cbv
 generalize hr2 : rFileNames (⟨dnod, dent, dold, dste, droo, dnex⟩ : TDisk) = l2
 generalize hl2 : l2.map cS = xl2
 obtain ⟨nl2, hnl2⟩ : ∃ m, m = l2.length := ⟨_, rfl⟩
 refine .ddA hP (FiFileNamesR hdnod hdent hdold hdste hd3 hr2 hl2 hnl2) rfl rfl rfl (hl2 ▸ flat_map (fun _ => rfl) l2) ?_
 conv => cbv
 have hl16 := rChain_len hr1
 have hl2e : l2 = dent.map (fun e => e.name_) := hr2.symm
 have hl2n : l2.length = dent.length := by rw [hl2e, List.length_map]
 have hel : ∀ x ∈ l2, x.size ≤ 1048576 := by rw [hl2e]; intro x hx; obtain ⟨y, hy, rfl⟩ := List.mem_map.1 hx; exact hd4 y hy
 generalize hr3 : rDeleteFunc_LooseNames_1 l2 l1 = l3
 generalize hl3 : (l3 ++ List.replicate (l2.length - l3.length) (tx [])).map cS = xl3
 obtain ⟨nl3, hnl3⟩ : ∃ m, m = l3.length := ⟨_, rfl⟩
 refine .bx [4, 3] [] hP (FlDeleteFunc_LooseNames_1 hl2 (by first | rfl | omega | (simp; omega)) hl1 (by omega) (by omega) hel hr3 hl3 hnl3) rfl rfl rfl rfl ?_
 conv => cbv
 have e : l3 = rLooseNames (⟨dnod, dent, dold, dste, droo, dnex⟩ : TDisk) := by
   rw [← hr3, hl2e]
   unfold rLooseNames rDeleteFunc_LooseNames_1 rLooseNames_1
   rw [hr1]
   simp only [Bool.not_not]
 rw [hr] at e
 subst e
 exact hQ _ _ (.rs rfl rfl (by rw [← hl3, hnl3]; simp) (by rw [← hl3, ← ho, hnl3]; simp))
end Go.Proofs.YtmhinjjgpabkfaaGreatDoor.Ab
