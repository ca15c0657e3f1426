/- What functions of the program come to, for all arguments in the given bounds. -/
import Derived.Test.YtmhinjjgpabkfaaGreatDoorch12c
import Derived.Test.YtmhinjjgpabkfaaGreatDoorZ11
set_option linter.unusedVariables false
set_option linter.unusedSimpArgs false
namespace Go.Proofs.YtmhinjjgpabkfaaGreatDoor.Ab
open Go Go.Proofs
set_option maxRecDepth 20000
set_option maxHeartbeats 4000000
set_option linter.unusedSimpArgs false
set_option linter.unusedVariables false
def tab_ch19 : List (Nat × TyRow) := [
  (3, ⟨.int .i64, some 1, some false, none, false, [.int .i64], [], some [(.int .i64 0, 0)], none, none, none⟩),
  (9, ⟨.str, some 1, some false, none, false, [.str], [], some [(.string default, 0)], none, none, none⟩),
  (24, ⟨.sl 1, some 1, some false, some (1, 8), false, [.sl 1], [], some [(.slice none 0 0, 1)], some ([.sc (.int .i64 0)], 1, 8), none, none⟩),
  (41, ⟨.sl 1, some 1, some false, some (1, 16), false, [.sl 1], [], some [(.slice none 0 0, 1)], some ([.sc (.string default)], 1, 16), none, none⟩),
  (49, ⟨.other, some 6, some true, none, false, [.sl 3, .sl 2, .sl 2, .sl 1, .int .i64, .int .i64], [some (0, 1, false), some (1, 1, false), some (2, 1, false), some (3, 1, false), some (4, 1, false), some (5, 1, false)], some [(.slice none 0 0, 3), (.slice none 0 0, 2), (.slice none 0 0, 2), (.slice none 0 0, 1), (.int .i64 0, 0), (.int .i64 0, 0)], none, some [(0, 1), (1, 1), (2, 1), (3, 1), (4, 1), (5, 1)], none⟩),
  (103, ⟨.other, some 11, some true, none, false, [.int .i64, .str, .bool, .int .i64, .int .i64, .int .i64, .int .i64, .sl 1, .sl 1, .int .i64, .bool], [some (0, 1, false), some (1, 1, false), some (2, 9, true)], some [(.int .i64 0, 0), (.string default, 0), (.bool false, 0), (.int .i64 0, 0), (.int .i64 0, 0), (.int .i64 0, 0), (.int .i64 0, 0), (.slice none 0 0, 1), (.slice none 0 0, 1), (.int .i64 0, 0), (.bool false, 0)], none, some [(0, 1), (1, 1), (2, 9)], none⟩),
  (107, ⟨.sl 4, some 1, some false, some (4, 56), false, [.sl 4], [], some [(.slice none 0 0, 4)], some ([.sc (.int .i64 0), .sc (.string default), .sc (.string default), .sc (.string default)], 4, 56), none, none⟩),
  (110, ⟨.other, some 4, some true, none, false, [.int .i64, .str, .str, .str], [some (0, 1, false), some (1, 1, false), some (2, 1, false), some (3, 1, false)], some [(.int .i64 0, 0), (.string default, 0), (.string default, 0), (.string default, 0)], none, some [(0, 1), (1, 1), (2, 1), (3, 1)], some [.int, .str, .str, .str]⟩),
  (149, ⟨.other, some 3, some true, none, false, [.int .i64, .str, .int .i64], [some (0, 1, false), some (1, 1, false), some (2, 1, false)], some [(.int .i64 0, 0), (.string default, 0), (.int .i64 0, 0)], none, some [(0, 1), (1, 1), (2, 1)], some [.int, .str, .int]⟩),
  (154, ⟨.sl 11, some 1, some false, some (11, 128), false, [.sl 11], [], some [(.slice none 0 0, 11)], some ([.sc (.int .i64 0), .sc (.string default), .sc (.bool false), .sc (.int .i64 0), .sc (.int .i64 0), .sc (.int .i64 0), .sc (.int .i64 0), .row 1 [], .row 1 [], .sc (.int .i64 0), .sc (.bool false)], 11, 128), none, none⟩)]
theorem tab_ch19_ok : TabOk Tryz.prog tab_ch19 := TabOk.of (by kernel_rfl)
theorem su_ch19 : Setup Tryz.prog tab_ch19 := ⟨tab_ch19_ok, mixed⟩
def rFreshOps (base : Int) (text : ByteArray) : List TOp := [⟨2, rTempName base, tx [], tx []⟩, ⟨3, rTempName base, tx [], text⟩, ⟨4, rTempName base, tx [], tx []⟩, ⟨5, rTempName base, rSegmentName base, tx []⟩, ⟨6, tx [], tx [], tx []⟩]
def removeOp (n : ByteArray) : TOp := ⟨1, n, tx [], tx []⟩
def rremoval (names : List ByteArray) : List TOp := if names = [] then [] else names.map removeOp ++ [⟨6, tx [], tx [], tx []⟩]
def syncOps (d : TDisk) (b : Int) : List TOp := if (rNodeAt d (rSegmentName b)).1.sure_ = (rNodeAt d (rSegmentName b)).1.text_.size then [] else [⟨4, rSegmentName b, tx [], tx []⟩]
def freshFor (d : TDisk) (v : Int) (b : Int) : List TOp := if rResealed (rTextAt d b) v = rTextAt d b then [] else rFreshOps b (rResealed (rTextAt d b) v)
def tempN (n : ByteArray) : Bool := decide ((rReadName n).1 = 2)
def planV (v : Int) : Int := if v = 1 ∨ v = 2 then v else 0
def planA (d : TDisk) : List TOp := (rChain d).flatMap (syncOps d) ++ (if d.steps_ = [] then [] else [⟨6, tx [], tx [], tx []⟩])
def planB (d : TDisk) : List TOp := rremoval ((rLooseNames d).filter tempN)
def rPlanOf (d : TDisk) (v : Int) : List TOp := planA d ++ planB d ++ (rChain d).flatMap (freshFor d (planV v)) ++ rremoval ((rLooseNames d).filter (fun n => !tempN n)).reverse
theorem rev_step {α : Type} {l w : List α} {i j : Int} {a b : α} (hl : w.length = l.length) (h0 : 0 ≤ i) (hij : i + j = l.length - 1) (hlt : i < j) (h : ∀ k : Nat, k < l.length → w[k]? = if (k : Int) < i ∨ j < k then l[l.length - 1 - k]? else l[k]?)
    (ha : w[j.toNat]? = some a) (hb : w[i.toNat]? = some b) : ∀ k : Nat, k < l.length → ((w.set i.toNat a).set j.toNat b)[k]? = if (k : Int) < i + 1 ∨ j - 1 < k then l[l.length - 1 - k]? else l[k]? := by
  intro k hk
  have hj := h j.toNat (by omega)
  have hi := h i.toNat (by omega)
  rw [if_neg (by omega), ha] at hj
  rw [if_neg (by omega), hb] at hi
  by_cases e1 : k = j.toNat
  · subst e1
    rw [List.getElem?_set_self (by rw [List.length_set]; omega), if_pos (by omega), show l.length - 1 - j.toNat = i.toNat by omega, ← hi]
  · rw [List.getElem?_set_ne (fun e => e1 e.symm)]
    by_cases e2 : k = i.toNat
    · subst e2
      rw [List.getElem?_set_self (by omega), if_pos (by omega), show l.length - 1 - i.toNat = j.toNat by omega, ← hj]
    · rw [List.getElem?_set_ne (fun e => e2 e.symm), h k hk]
      by_cases e3 : (k : Int) < i ∨ j < k
      · rw [if_pos e3, if_pos (by omega)]
      · rw [if_neg e3, if_neg (by omega)]
theorem rev_end {α : Type} {l w : List α} {i j : Int} (hl : w.length = l.length) (hij : i + j = l.length - 1) (hlt : j ≤ i) (h : ∀ k : Nat, k < l.length → w[k]? = if (k : Int) < i ∨ j < k then l[l.length - 1 - k]? else l[k]?) : w = l.reverse := by
  refine List.ext_getElem? fun k => ?_
  by_cases hk : k < l.length
  · rw [h k hk, List.getElem?_reverse hk]
    split
    · rfl
    · rw [show l.length - 1 - k = k by omega]
  · rw [List.getElem?_eq_none (by omega), List.getElem?_eq_none (by rw [List.length_reverse]; omega)]
theorem flatMap_chain {d : TDisk} {α : Type} (f : Tlink → List α) (g : Int → List α) (h : ∀ x, x.text_ = rTextAt d x.base_ → x.scan_ = rScanText (rTextAt d x.base_) → f x = g x.base_) : (rlinks d).flatMap f = (rChain d).flatMap g := by
  rw [List.flatMap_def, List.flatMap_def, chain_map f g h]
theorem filter_take {α : Type} {p : α → Bool} {l : List α} {k : Nat} (h : k < l.length) : (l.take (k + 1)).filter p = (l.take k).filter p ++ (if p l[k] then [l[k]] else []) := by
  rw [List.take_succ_eq_append_getElem h, List.filter_append, List.filter_cons, List.filter_nil]
theorem loose_kind {d : TDisk} {l : List ByteArray} (e : rLooseNames d = l) : ∀ n ∈ l, (rReadName n).1 = 2 ∨ (rReadName n).1 = 1 := by
  intro n hn
  rw [← e] at hn
  unfold rLooseNames at hn
  have h := (List.mem_filter.1 hn).2
  unfold looseN at h
  rw [decide_eq_true_eq] at h
  rcases h with h | ⟨h, _⟩
  · exact .inl h
  · exact .inr h
theorem loose_sz {d : TDisk} {l : List ByteArray} (hd : okD d) (e : rLooseNames d = l) : ∀ n ∈ l, n.size ≤ 1048576 := by
  intro n hn
  rw [← e] at hn
  unfold rLooseNames at hn
  obtain ⟨x, hx, rfl⟩ := List.mem_map.1 (List.mem_filter.1 hn).1
  exact hd.2.2.2.1 x hx
theorem removal_len {l : List ByteArray} : (rremoval l).length ≤ l.length + 1 := by
  unfold rremoval
  split
  · simp
  · simp
theorem fm_len {α β : Type} {f : α → List β} {m : Nat} (h : ∀ x, (f x).length ≤ m) : ∀ l : List α, (l.flatMap f).length ≤ m * l.length
  | [] => by simp
  | x :: l => by
    have := fm_len h l
    have h2 := h x
    rw [List.flatMap_cons, List.length_append, List.length_cons, Nat.mul_succ]
    omega
theorem sync_len {d : TDisk} (b : Int) : (syncOps d b).length ≤ 1 := by unfold syncOps; split <;> simp
theorem fresh_len {d : TDisk} {v : Int} (b : Int) : (freshFor d v b).length ≤ 5 := by unfold freshFor; split <;> simp [rFreshOps]
theorem fm_le {α β : Type} {f : α → List β} {m : Nat} (h : ∀ x, (f x).length ≤ m) {l : List α} {k : Nat} {w : List β} (e : w = (l.take k).flatMap f) : w.length ≤ m * l.length := by
  rw [e]
  have := fm_len h (l.take k)
  have h2 : (l.take k).length ≤ l.length := by rw [List.length_take]; omega
  exact Nat.le_trans this (Nat.mul_le_mul_left m h2)
theorem FiFreshOps {base : Int} {text : ByteArray} {o : List TOp} {xo : List (List D)}  (hr : rFreshOps base text = o) (ho : o.map eOp = xo) : Fn Tryz.prog 130 [I base, S text] [] ⟨.d (.row 4 xo), [], []⟩ := by
 refine Fn.go su_ch19 Tryz.func130 fun P hP Q hQ => ?_
 conv => cbv
 generalize hr1 : rTempName base = r1
 refine .dd hP (FiTempName hr1) ?_
 conv => cbv
 generalize hr2 : rSegmentName base = r2
 refine .dd hP (FiSegmentName hr2) ?_
 conv => cbv
 have e : [(⟨2, r1, tx [], tx []⟩ : TOp), (⟨3, r1, tx [], text⟩ : TOp), (⟨4, r1, tx [], tx []⟩ : TOp), (⟨5, r1, r2, tx []⟩ : TOp), (⟨6, tx [], tx [], tx []⟩ : TOp)] = rFreshOps base text := (by unfold rFreshOps; rw [hr1, hr2])
 rw [hr] at e
 subst e
 exact hQ _ _ (.r rfl rfl rfl (by rw [← ho]; rfl))
theorem FsFreshOps {base : Int} {text : ByteArray} {o : List TOp} {xo : List (List D)}  (hr : rFreshOps base text = o) (ho : o.map eOp = xo) : Fn Tryz.prog 125 [I base, S text] [] ⟨.d (.row 4 xo), [], []⟩ := by
 refine Fn.go su_ch19 Tryz.func125 fun P hP Q hQ => ?_
 conv => cbv
 generalize hr1 : rTempName base = r1
 refine .dd hP (FsTempName hr1) ?_
 conv => cbv
 generalize hr2 : rSegmentName base = r2
 refine .dd hP (FsSegmentName hr2) ?_
 conv => cbv
 have e : [(⟨2, r1, tx [], tx []⟩ : TOp), (⟨3, r1, tx [], text⟩ : TOp), (⟨4, r1, tx [], tx []⟩ : TOp), (⟨5, r1, r2, tx []⟩ : TOp), (⟨6, tx [], tx [], tx []⟩ : TOp)] = rFreshOps base text := (by unfold rFreshOps; rw [hr1, hr2])
 rw [hr] at e
 subst e
 exact hQ _ _ (.r rfl rfl rfl (by rw [← ho]; rfl))
theorem FiremovalR {names : List ByteArray} {xnames : List (List D)} {o : List TOp} {xo : List (List D)} {no : Nat}  (hnames : names.map cS = xnames) (hn : names.length < 2 ^ 40) (hr : rremoval names = o) (ho : o.map eOp = xo) (hno : no = o.length)  : Fn Tryz.prog 127 [.d (.row 1 xnames)] [] ⟨.ref 0 0 no, [.row 4 false xo], []⟩ := by
 refine Fn.goR su_ch19 Tryz.func127 fun P hP Q hQ => ?_
 conv => cbv
 refine .go hnames fun v1 hv1 => ?_
 conv => cbv
 refine LoopW.lp (κ := Int × (List (List D)) × Nat) su_ch19 hP [1] [7, 8] (fun (i9, zw2, nw2) => [(3, .ref 2 0 nw2), (9, I i9)]) (fun (i9, zw2, nw2) => [(2, .row 4 false zw2)])
   (fun (i9, zw2, nw2) => ∃ (w2 : List TOp), w2.map eOp = zw2 ∧ nw2 = w2.length ∧ 0 ≤ i9 ∧ i9 ≤ names.length ∧ w2 = (names.take i9.toNat).map removeOp ∧ w2.length = i9.toNat)
   (fun (i9, zw2, nw2) => (names.length - i9).toNat) (0, [], 0) ⟨[], rfl, rfl, by omega, by omega, by simp, rfl⟩ ⟨rfl, rfl, trivial⟩ rfl ?_
 rintro ⟨i9, zw2, nw2⟩ J ⟨w2, hw2, hnw2, h0, h1, hw, hwl⟩ hJ
 conv => cbv
 refine .lss (fun h2 => ?_) fun h2 => ?_
 conv => cbv
 refine .go i9.toNat hnames fun hje3 e3 qe3 => ?_
 conv => cbv
 refine .one (⟨1, e3, tx [], tx []⟩ : TOp) hw2 rfl fun nz4 z4 hnz4 hz4 => ?_
 conv => cbv
 refine .add fun v5 hv5 => ?_
 conv => cbv
 exact .go [4] (v5, z4, nz4) (hJ _ ⟨_, hz4, (by first | omega | (simp; omega)), by omega, by omega, by rw [hw, show v5.toNat = i9.toNat + 1 by omega, take_map hje3, ← qe3]; rfl, by rw [List.length_append, List.length_singleton]; omega⟩ (by first | (dsimp only; omega) | omega))
 conv => cbv
 refine .go fun v3 hv3 => ?_
 conv => cbv
 refine .gtr (fun h4 => ?_) fun h4 => ?_
 conv => cbv
 refine .one (⟨6, tx [], tx [], tx []⟩ : TOp) hw2 rfl fun nz5 z5 hnz5 hz5 => ?_
 conv => cbv
 have e : (w2 ++ [(⟨6, tx [], tx [], tx []⟩ : TOp)]) = rremoval names := (by unfold rremoval; rw [if_neg (by intro e; subst e; simp at h1; omega), hw, List.take_of_length_le (by omega)])
 rw [hr] at e
 subst e
 obtain rfl : z5 = xo := by rw [← hz5, ← ho]
 obtain rfl : nz5 = no := by first | omega | (rw [hno]; simp; omega)
 exact hQ _ _ (.of [4] (.inl rfl) rfl rfl rfl rfl)
 conv => cbv
 have e : w2 = rremoval names := (by unfold rremoval; rw [if_pos (List.eq_nil_of_length_eq_zero (by omega))]; exact List.eq_nil_of_length_eq_zero (by omega))
 rw [hr] at e
 subst e
 obtain rfl : zw2 = xo := by rw [← hw2, ← ho]
 obtain rfl : nw2 = no := by first | omega | (rw [hno]; simp; omega)
 exact hQ _ _ (.of [2] (.inl rfl) rfl rfl rfl rfl)
theorem suj_Flslices_Reverse_string_string : Setup Tryz.prog ((3000003, rowOf Tryz.prog 3000003) :: tab_ch19) := (Setup.mark 3000003 su_ch19)
theorem Flslices_Reverse_string_string {l : List ByteArray} {xl : List (List D)} {nl : Nat} {xf : List (List D)} (hl : l.map cS = xl) (hnl : nl = l.length) (hn : l.length < 2 ^ 40)   (hf : l.reverse.map cS = xf) : Fn Tryz.prog 131 [.ref 0 0 nl] [.row 1 false xl] ⟨.tup [], [], [(0, .row 1 false xf)]⟩ := by
 refine Fn.goR suj_Flslices_Reverse_string_string Tryz.func131 fun P hP Q hQ => ?_
 conv => cbv
 refine .go fun v1 hv1 => ?_
 conv => cbv
 refine .sub fun v2 hv2 => ?_
 conv => cbv
 refine LoopW.lp (κ := Int × Int × (List (List D))) suj_Flslices_Reverse_string_string hP [] [0] (fun (i2, i3, zw0) => [(2, I i2), (3, I i3)]) (fun (i2, i3, zw0) => [(0, .row 1 false zw0)])
   (fun (i2, i3, zw0) => ∃ (w0 : List ByteArray), w0.map cS = zw0 ∧ (w0.length = l.length ∧ 0 ≤ i2 ∧ i2 + i3 = l.length - 1 ∧ i2 ≤ i3 + 1) ∧ ∀ k : Nat, k < l.length → w0[k]? = if (k : Int) < i2 ∨ i3 < k then l[l.length - 1 - k]? else l[k]?)
   (fun (i2, i3, zw0) => (i3 - i2 + 1).toNat) (0, v2, xl) ⟨l, hl, ⟨rfl, by omega, by omega, by omega⟩, fun k hk => by rw [if_neg (by omega)]⟩ ⟨rfl, rfl, trivial⟩ rfl ?_
 rintro ⟨i2, i3, zw0⟩ J ⟨w0, hw0, hb, hw⟩ hJ
 conv => cbv
 refine .lss (fun h3 => ?_) fun h3 => ?_
 conv => cbv
 refine .go i3.toNat fun p4 hp4 hjp4 => ?_
 conv => cbv
 refine .go hw0 fun hje5 e5 qe5 => ?_
 conv => cbv
 refine .go i2.toNat fun p6 hp6 hjp6 => ?_
 conv => cbv
 refine .go hw0 fun hje7 e7 qe7 => ?_
 conv => cbv
 refine .go i2.toNat fun p8 hp8 hjp8 => ?_
 conv => cbv
 refine .all (e5) hw0 rfl fun z9 hz9 => ?_
 conv => cbv
 refine .go i3.toNat fun p10 hp10 hjp10 => ?_
 conv => cbv
 have hls : (w0.set p8 e5).length = w0.length := List.length_set
 refine .all (e7) hz9 rfl fun z11 hz11 => ?_
 conv => cbv
 refine .go2 (by kernel_rfl) ?_
 conv => cbv
 refine .add fun v12 hv12 => ?_
 conv => cbv
 refine .sub fun v13 hv13 => ?_
 conv => cbv
 subst hp8 hp10
 exact .go [] (v12, v13, z11) (hJ _ ⟨_, hz11, ⟨by rw [List.length_set, List.length_set]; exact hb.1, by omega, by omega, by omega⟩, by have := rev_step hb.1 (by omega) hb.2.2.1 h3 hw (a := e5) (b := e7) (by subst hp4; rw [qe5]; exact List.getElem?_eq_getElem _) (by subst hp6; rw [qe7]; exact List.getElem?_eq_getElem _); rw [show v12 = i2 + 1 by omega, show v13 = i3 - 1 by omega]; exact this⟩ (by first | (dsimp only; omega) | omega))
 conv => cbv
 have e := rev_end hb.1 hb.2.2.1 (by omega) hw
 subst e
 obtain rfl : zw0 = xf := by rw [← hw0, ← hf]
 exact hQ _ _ (.of [] (.inr rfl) rfl rfl rfl rfl)
theorem suj_FiPlanOf : Setup Tryz.prog ((1000090, rowOf Tryz.prog 1000090) :: ((1000054, rowOf Tryz.prog 1000054) :: tab_ch19)) := (Setup.mark 1000090 (Setup.mark 1000054 su_ch19))
theorem FiPlanOf {dnod : List TNode} {xdnod : List (List D)} {dent : List TEntry} {xdent : List (List D)} {dold : List TEntry} {xdold : List (List D)} {dste : List ByteArray} {xdste : List (List D)} {droo : Int} {dnex : Int} {version : Int} {o : List TOp} {xo : List (List D)} (hdnod : dnod.map eNode = xdnod) (hdent : dent.map eEntry = xdent) (hdold : dold.map eEntry = xdold) (hdste : dste.map cS = xdste) (hd : okD ⟨dnod, dent, dold, dste, droo, dnex⟩) (hr : rPlanOf (⟨dnod, dent, dold, dste, droo, dnex⟩ : TDisk) version = o) (ho : o.map eOp = xo) : Fn Tryz.prog 75 [.agg [.d (.row 3 xdnod), .d (.row 2 xdent), .d (.row 2 xdold), .d (.row 1 xdste), I droo, I dnex], I version] [] ⟨.d (.row 4 xo), [], []⟩ := by
 refine Fn.go suj_FiPlanOf Tryz.func75 fun P hP Q hQ => ?_
 conv => cbv
 generalize hr1 : rlinks (⟨dnod, dent, dold, dste, droo, dnex⟩ : TDisk) = l1
 generalize hl1 : l1.map elink = xl1
 refine .dd hP (Filinks hdnod hdent hdold hdste hd hr1 hl1) ?_
 conv => cbv
 refine .go hl1 fun v2 hv2 => ?_
 conv => cbv
 refine LoopW.lp (κ := Int × (List (List D)) × Nat) suj_FiPlanOf hP [2] [1, 2, 6, 23, 24] (fun (i25, zw3, nw3) => [(5, .ref 3 0 nw3), (25, I i25)]) (fun (i25, zw3, nw3) => [(3, .row 4 false zw3)])
   (fun (i25, zw3, nw3) => ∃ (w3 : List TOp), w3.map eOp = zw3 ∧ nw3 = w3.length ∧ 0 ≤ i25 ∧ i25 ≤ l1.length ∧ w3 = (l1.take i25.toNat).flatMap fun x => syncOps (⟨dnod, dent, dold, dste, droo, dnex⟩ : TDisk) x.base_)
   (fun (i25, zw3, nw3) => (l1.length - i25).toNat) (0, [], 0) ⟨[], rfl, rfl, by omega, by omega, by simp⟩ ⟨rfl, rfl, trivial⟩ rfl ?_
 rintro ⟨i25, zw3, nw3⟩ J ⟨w3, hw3, hnw3, h0, h1, hx⟩ hJ
 have hl16 := rlinks_len hr1
 have hwb := fm_le (fun x : Tlink => sync_len x.base_) hx
 conv => cbv
 refine .lss (fun h3 => ?_) fun h3 => ?_
 conv => cbv
 refine .goX i25.toNat hl1 fun hje4 ⟨e4bas, e4tex, ⟨e4scaok, ⟨e4scaheaver, e4scaheastr, e4scaheabas, e4scahealin⟩, e4scarec, e4scaoff, e4scaend, e4scamar⟩⟩ fe4 qe4 hfe4 => ?_
 replace hfe4 : [.sc (.int .i64 e4bas), .sc (.string e4tex), .sc (.bool e4scaok), .sc (.int .i64 e4scaheaver), .sc (.int .i64 e4scaheastr), .sc (.int .i64 e4scaheabas), .sc (.int .i64 e4scahealin), .row 1 (e4scarec.map cS), .row 1 (e4scaoff.map cI), .sc (.int .i64 e4scaend), .sc (.bool e4scamar)] = fe4 := hfe4
 generalize he4scarec : e4scarec.map cS = xe4scarec at hfe4
 generalize he4scaoff : e4scaoff.map cI = xe4scaoff at hfe4
 subst hfe4
 conv => cbv
 generalize hr5 : rSegmentName e4bas = r5
 refine .dd hP (FiSegmentName hr5) ?_
 conv => cbv
 rcases hr6 : rNodeAt (⟨dnod, dent, dold, dste, droo, dnex⟩ : TDisk) r5 with ⟨⟨r6aid, r6atex, r6asur⟩, r6b⟩
 refine .dd hP (FiNodeAt hdnod hdent hdold hdste hd hr6) ?_
 conv => cbv
 refine .go fun v7 hv7 => ?_
 conv => cbv
 refine .neq (fun h8 => ?_) fun h8 => ?_
 conv => cbv
 generalize hr9 : rSegmentName e4bas = r9
 refine .dd hP (FiSegmentName hr9) ?_
 conv => cbv
 refine .one (⟨4, r9, tx [], tx []⟩ : TOp) hw3 rfl fun nz10 z10 hnz10 hz10 => ?_
 conv => cbv
 refine .add fun v11 hv11 => ?_
 conv => cbv
 have hso : syncOps (⟨dnod, dent, dold, dste, droo, dnex⟩ : TDisk) e4bas = [⟨4, r9, tx [], tx []⟩] := by unfold syncOps; rw [hr5, hr6, ← hr9, hr5, if_neg (by rw [← hv7]; exact h8)]
 exact .go [9] (v11, z10, nz10) (hJ _ ⟨_, hz10, (by first | omega | (simp; omega)), by omega, by omega, by rw [show v11.toNat = i25.toNat + 1 by omega, take_fm hje4, ← hx, ← qe4]; simp only []; rw [hso]⟩ (by first | (dsimp only; omega) | omega))
 conv => cbv
 refine .add fun v9 hv9 => ?_
 conv => cbv
 have hso : syncOps (⟨dnod, dent, dold, dste, droo, dnex⟩ : TDisk) e4bas = [] := by unfold syncOps; rw [hr5, hr6, if_pos (by rw [← hv7]; exact h8)]
 exact .go [3] (v9, zw3, nw3) (hJ _ ⟨_, hw3, (by first | omega | (simp; omega)), by omega, by omega, by rw [show v9.toNat = i25.toNat + 1 by omega, take_fm hje4, ← hx, ← qe4]; simp only []; rw [hso, List.append_nil]⟩ (by first | (dsimp only; omega) | omega))
 conv => cbv
 have hS : w3 = (rChain (⟨dnod, dent, dold, dste, droo, dnex⟩ : TDisk)).flatMap (syncOps (⟨dnod, dent, dold, dste, droo, dnex⟩ : TDisk)) := by rw [hx, List.take_of_length_le (by omega), ← flatMap_chain (fun x => syncOps (⟨dnod, dent, dold, dste, droo, dnex⟩ : TDisk) x.base_) _ fun x _ _ => rfl, hr1]
 have hb3 := fm_le (fun x : Tlink => sync_len x.base_) hx
 refine JoinW.jn (κ := (List (List D)) × Nat) suj_FiPlanOf hP [3] [1, 2, 6] (fun (zw4, nw4) => [(5, .ref 4 0 nw4)]) (fun (zw4, nw4) => [(4, .row 4 false zw4)])
   (fun (zw4, nw4) => ∃ (w4 : List TOp), w4.map eOp = zw4 ∧ nw4 = w4.length ∧ w4 = planA (⟨dnod, dent, dold, dste, droo, dnex⟩ : TDisk) ∧ w4.length ≤ 17) (fun Jj1 hJj1 => ?_) ?_
 conv => cbv
 refine .go hdste fun v4 hv4 => ?_
 conv => cbv
 refine .gtr (fun h5 => ?_) fun h5 => ?_
 conv => cbv
 refine .one (⟨6, tx [], tx [], tx []⟩ : TOp) hw3 rfl fun nz6 z6 hnz6 hz6 => ?_
 conv => cbv
 exact .go [6] (z6, nz6) (hJj1 _ ⟨_, hz6, (by first | omega | (simp; omega)), by unfold planA; rw [← hS, if_neg (by intro e; rw [show dste = [] from e] at hv4; simp at hv4; omega)], by simp; omega⟩)
 conv => cbv
 exact .go [4] (zw3, nw3) (hJj1 _ ⟨_, hw3, (by first | omega | (simp; omega)), by unfold planA; rw [← hS, if_pos (List.eq_nil_of_length_eq_zero (show dste.length = 0 by omega)), List.append_nil], by omega⟩)
 rintro ⟨zw4, nw4⟩ ⟨w4, hw4, hnw4, hA, hAl⟩
 conv => cbv
 have hl16b := hl16
 generalize hr4 : rLooseNames (⟨dnod, dent, dold, dste, droo, dnex⟩ : TDisk) = l4
 generalize hl4 : l4.map cS = xl4
 refine .dd hP (FiLooseNames hdnod hdent hdold hdste hd hr4 hl4) ?_
 conv => cbv
 refine .go hl4 fun v5 hv5 => ?_
 conv => cbv
 refine LoopW.lp (κ := Int × (List (List D)) × Nat × (List (List D)) × Nat) suj_FiPlanOf hP [5, 6] [1, 5, 6, 62, 63] (fun (i64, zw7, nw7, zw8, nw8) => [(11, .ref 7 0 nw7), (12, .ref 8 0 nw8), (64, I i64)]) (fun (i64, zw7, nw7, zw8, nw8) => [(7, .row 1 false zw7), (8, .row 1 false zw8)])
   (fun (i64, zw7, nw7, zw8, nw8) => ∃ (w7 : List ByteArray) (w8 : List ByteArray), w7.map cS = zw7 ∧ nw7 = w7.length ∧ w8.map cS = zw8 ∧ nw8 = w8.length ∧ (0 ≤ i64 ∧ i64 ≤ l4.length) ∧ w7 = (l4.take i64.toNat).filter tempN ∧ w8 = (l4.take i64.toNat).filter (fun n => !tempN n) ∧ w7.length + w8.length ≤ i64)
   (fun (i64, zw7, nw7, zw8, nw8) => (l4.length - i64).toNat) (0, [], 0, [], 0) ⟨[], [], rfl, rfl, rfl, rfl, by omega, rfl, rfl, by simp⟩ ⟨rfl, rfl, rfl, trivial⟩ rfl ?_
 rintro ⟨i64, zw7, nw7, zw8, nw8⟩ J2 ⟨w7, w8, hw7, hnw7, hw8, hnw8, h0, hwt, hwu, hwl⟩ hJ2
 have hl9 := loose_b hd hr4
 conv => cbv
 refine .lss (fun h6 => ?_) fun h6 => ?_
 conv => cbv
 refine .go i64.toNat hl4 fun hje7 e7 qe7 => ?_
 conv => cbv
 have hsz7 := loose_sz hd hr4 e7 (qe7 ▸ List.getElem_mem _)
 rcases hr8 : rReadName e7 with ⟨r8a, r8b⟩
 refine .dd hP (FiReadName (by omega) hr8) ?_
 conv => cbv
 refine .eql (fun h9 => ?_) fun h9 => ?_
 conv => cbv
 refine .one e7 hw7 rfl fun nz10 z10 hnz10 hz10 => ?_
 conv => cbv
 refine .add fun v11 hv11 => ?_
 conv => cbv
 have hte : tempN e7 = true := by unfold tempN; rw [hr8]; exact decide_eq_true h9
 exact .go [10, 8] (v11, z10, nz10, zw8, nw8) (hJ2 _ ⟨_, _, hz10, (by first | omega | (simp; omega)), hw8, (by first | omega | (simp; omega)), by omega, by rw [show v11.toNat = i64.toNat + 1 by omega, filter_take hje7, ← hwt, ← qe7, hte]; simp, by rw [show v11.toNat = i64.toNat + 1 by omega, filter_take hje7, ← hwu, ← qe7, hte]; simp, by simp; omega⟩ (by first | (dsimp only; omega) | omega))
 conv => cbv
 refine .one e7 hw8 rfl fun nz10 z10 hnz10 hz10 => ?_
 conv => cbv
 refine .add fun v11 hv11 => ?_
 conv => cbv
 have hte : tempN e7 = false := by unfold tempN; rw [hr8]; exact decide_eq_false h9
 exact .go [7, 10] (v11, zw7, nw7, z10, nz10) (hJ2 _ ⟨_, _, hw7, (by first | omega | (simp; omega)), hz10, (by first | omega | (simp; omega)), by omega, by rw [show v11.toNat = i64.toNat + 1 by omega, filter_take hje7, ← hwt, ← qe7, hte]; simp, by rw [show v11.toNat = i64.toNat + 1 by omega, filter_take hje7, ← hwu, ← qe7, hte]; simp, by simp; omega⟩ (by first | (dsimp only; omega) | omega))
 conv => cbv
 have hT : w7 = l4.filter tempN := by rw [hwt, List.take_of_length_le (by omega)]
 have hU : w8 = l4.filter (fun n => !tempN n) := by rw [hwu, List.take_of_length_le (by omega)]
 have hTl := List.length_filter_le tempN l4
 have hUl := List.length_filter_le (fun n => !tempN n) l4
 rw [← hT] at hTl
 rw [← hU] at hUl
 generalize hr7 : rremoval w7 = l7
 generalize hl7 : l7.map eOp = xl7
 obtain ⟨nl7, hnl7⟩ : ∃ m, m = l7.length := ⟨_, rfl⟩
 refine .lntR hP (FiremovalR hw7 (by omega) hr7 hl7 hnl7) (.ref rfl (by rw [← hw7, List.length_map]; first | omega | (simp; omega)) .nil) (hl7 ▸ flat_map (fun _ => rfl) l7) ?_
 conv => cbv
 have hrl7 : l7.length ≤ w7.length + 1 := by rw [← hr7]; exact removal_len
 refine .sub (m := l7) hw4 hl7 fun nz8 z8 hnz8 hz8 => ?_
 conv => cbv
 refine JoinW.jn (κ := Int) suj_FiPlanOf hP [] [5, 6, 12] (fun i1 => [(1, I i1)]) (fun i1 => [])
   (fun i1 => i1 = planV version ∧ 0 ≤ i1 ∧ i1 ≤ 2) (fun Jj3 hJj3 => ?_) ?_
 conv => cbv
 generalize hr9 : risVersion version = r9
 refine .dd hP (FiisVersion hr9) ?_
 cases r9
 simp only [risVersion, decide_eq_true_eq, decide_eq_false_iff_not] at hr9
 conv => cbv
 exact .go [] (0) (hJj3 _ ⟨by unfold planV; rw [if_neg hr9], by omega, by omega⟩)
 simp only [risVersion, decide_eq_true_eq, decide_eq_false_iff_not] at hr9
 conv => cbv
 exact .go [] (version) (hJj3 _ ⟨by unfold planV; rw [if_pos hr9], by omega, by omega⟩)
 rintro i1 ⟨hV, hV0, hV2⟩
 conv => cbv
 refine .go hl1 fun v9 hv9 => ?_
 conv => cbv
 refine LoopW.lp (κ := Int × (List (List D)) × Nat) suj_FiPlanOf hP [10] [1, 12, 91, 92] (fun (i93, zw11, nw11) => [(5, .ref 11 0 nw11), (93, I i93)]) (fun (i93, zw11, nw11) => [(11, .row 4 false zw11)])
   (fun (i93, zw11, nw11) => ∃ (w11 : List TOp), w11.map eOp = zw11 ∧ nw11 = w11.length ∧ (0 ≤ i93 ∧ i93 ≤ l1.length) ∧ w11 = w4 ++ l7 ++ ((l1.take i93.toNat).flatMap fun x => freshFor (⟨dnod, dent, dold, dste, droo, dnex⟩ : TDisk) i1 x.base_) ∧ w11.length ≤ w4.length + l7.length + 5 * i93)
   (fun (i93, zw11, nw11) => (l1.length - i93).toNat) (0, z8, nz8) ⟨(w4 ++ l7), hz8, (by first | omega | (simp; omega)), by omega, by simp, by simp⟩ ⟨rfl, rfl, trivial⟩ rfl ?_
 rintro ⟨i93, zw11, nw11⟩ J4 ⟨w11, hw11, hnw11, h0, hx, hxl⟩ hJ4
 have hl16 := rlinks_len hr1
 have hl9 := loose_b hd hr4
 conv => cbv
 refine .lss (fun h10 => ?_) fun h10 => ?_
 conv => cbv
 refine .goX i93.toNat hl1 fun hje11 ⟨e11bas, e11tex, ⟨e11scaok, ⟨e11scaheaver, e11scaheastr, e11scaheabas, e11scahealin⟩, e11scarec, e11scaoff, e11scaend, e11scamar⟩⟩ fe11 qe11 hfe11 => ?_
 replace hfe11 : [.sc (.int .i64 e11bas), .sc (.string e11tex), .sc (.bool e11scaok), .sc (.int .i64 e11scaheaver), .sc (.int .i64 e11scaheastr), .sc (.int .i64 e11scaheabas), .sc (.int .i64 e11scahealin), .row 1 (e11scarec.map cS), .row 1 (e11scaoff.map cI), .sc (.int .i64 e11scaend), .sc (.bool e11scamar)] = fe11 := hfe11
 generalize he11scarec : e11scarec.map cS = xe11scarec at hfe11
 generalize he11scaoff : e11scaoff.map cI = xe11scaoff at hfe11
 subst hfe11
 conv => cbv
 have hm := rlinks_mem hr1 (x := ⟨e11bas, e11tex, ⟨e11scaok, ⟨e11scaheaver, e11scaheastr, e11scaheabas, e11scahealin⟩, e11scarec, e11scaoff, e11scaend, e11scamar⟩⟩) (by rw [qe11]; exact List.getElem_mem _)
 obtain ⟨hm1, hm2, s9, hm3⟩ := hm
 simp only [] at hm1 hm2 hm3
 have hz := rTextAt_le hd hm1.symm
 generalize hr12 : rResealed e11tex i1 = r12
 have zr12 := rResealed_b hr12
 refine .dd hP (FiResealed (by omega) hr12) ?_
 conv => cbv
 refine .neq (fun h13 => ?_) fun h13 => ?_
 conv => cbv
 generalize hr14 : rFreshOps e11bas r12 = l14
 generalize hl14 : l14.map eOp = xl14
 refine .dd hP (FiFreshOps hr14 hl14) ?_
 conv => cbv
 have hr14l : l14.length = 5 := by rw [← hr14]; rfl
 refine .row hw11 hl14 fun nz15 z15 hnz15 hz15 => ?_
 conv => cbv
 refine .add fun v16 hv16 => ?_
 conv => cbv
 have hfo : freshFor (⟨dnod, dent, dold, dste, droo, dnex⟩ : TDisk) i1 e11bas = l14 := by unfold freshFor; rw [← hm1, hr12, if_neg h13, hr14]
 exact .go [15] (v16, z15, nz15) (hJ4 _ ⟨_, hz15, (by first | omega | (simp; omega)), by omega, by rw [show v16.toNat = i93.toNat + 1 by omega, take_fm hje11, ← List.append_assoc, ← hx, ← qe11]; simp only []; rw [hfo], by rw [List.length_append]; omega⟩ (by first | (dsimp only; omega) | omega))
 conv => cbv
 refine .add fun v14 hv14 => ?_
 conv => cbv
 have hfo : freshFor (⟨dnod, dent, dold, dste, droo, dnex⟩ : TDisk) i1 e11bas = [] := by unfold freshFor; rw [← hm1, hr12, if_pos h13]
 exact .go [11] (v14, zw11, nw11) (hJ4 _ ⟨_, hw11, (by first | omega | (simp; omega)), by omega, by rw [show v14.toNat = i93.toNat + 1 by omega, take_fm hje11, ← List.append_assoc, ← hx, ← qe11]; simp only []; rw [hfo, List.append_nil], by omega⟩ (by first | (dsimp only; omega) | omega))
 conv => cbv
 have hrv : w8.reverse.length = w8.length := List.length_reverse
 generalize hxf12 : (w8.reverse).map cS = xf12
 refine .bx [8] [] hP (Flslices_Reverse_string_string hw8 (by first | rfl | omega | (simp; omega)) (by omega) hxf12) rfl rfl rfl rfl ?_
 conv => cbv
 generalize hr13 : rremoval (w8.reverse) = l13
 generalize hl13 : l13.map eOp = xl13
 obtain ⟨nl13, hnl13⟩ : ∃ m, m = l13.length := ⟨_, rfl⟩
 refine .lntR hP (FiremovalR hxf12 (by omega) hr13 hl13 hnl13) (.ref rfl (by rw [← hxf12, List.length_map]; first | omega | (simp; omega)) .nil) (hl13 ▸ flat_map (fun _ => rfl) l13) ?_
 conv => cbv
 have hrl13 : l13.length ≤ w8.length + 1 := by rw [← hr13]; have := removal_len (l := w8.reverse); rw [List.length_reverse] at this; exact this
 have hF : w11 = w4 ++ l7 ++ (rChain (⟨dnod, dent, dold, dste, droo, dnex⟩ : TDisk)).flatMap (freshFor (⟨dnod, dent, dold, dste, droo, dnex⟩ : TDisk) i1) := by rw [hx, List.take_of_length_le (by omega), ← flatMap_chain (fun x => freshFor (⟨dnod, dent, dold, dste, droo, dnex⟩ : TDisk) i1 x.base_) _ fun x _ _ => rfl, hr1]
 refine .sub (m := l13) hw11 hl13 fun nz14 z14 hnz14 hz14 => ?_
 conv => cbv
 have e : (w11 ++ l13) = rPlanOf (⟨dnod, dent, dold, dste, droo, dnex⟩ : TDisk) version := (by unfold rPlanOf planB; rw [hF, hA, ← hr7, ← hr13, hT, hU, hV, hr4])
 rw [hr] at e
 subst e
 exact hQ _ _ (.r rfl rfl (by rw [← hz14, List.length_map]; first | omega | (simp; omega)) (by rw [← hz14, ← ho]))
theorem rdrop_step {α : Type} {p : α → Bool} {l : List α} {i : Int} (h0 : 0 ≤ i) (hi : i.toNat < l.length) : (l.drop (i - 1 + 1).toNat).reverse.filter p = (l.drop (i + 1).toNat).reverse.filter p ++ (if p l[i.toNat] then [l[i.toNat]] else []) := by
  rw [show (i - 1 + 1).toNat = i.toNat by omega, show (i + 1).toNat = i.toNat + 1 by omega, List.drop_eq_getElem_cons hi, List.reverse_cons, List.filter_append, List.filter_cons, List.filter_nil]
theorem removal_nil {l : List ByteArray} (h : false = !l.isEmpty) : rremoval l = l.map removeOp := by
  have : l = [] := by cases l with
    | nil => rfl
    | cons => cases h
  subst this
  rfl
theorem removal_cons {l : List ByteArray} (h : true = !l.isEmpty) : rremoval l = l.map removeOp ++ [⟨6, tx [], tx [], tx []⟩] := by
  unfold rremoval
  rw [if_neg]
  rintro rfl
  cases h
theorem loose_not {d : TDisk} {l : List ByteArray} {n : ByteArray} (e : rLooseNames d = l) (hn : n ∈ l) : (rReadName n).1 = 1 ↔ tempN n = false := by
  have := loose_kind e n hn
  unfold tempN
  rw [decide_eq_false_iff_not]
  omega
theorem suj_FsPlanOf : Setup Tryz.prog ((1000095, rowOf Tryz.prog 1000095) :: ((1000088, rowOf Tryz.prog 1000088) :: ((1000057, rowOf Tryz.prog 1000057) :: tab_ch19))) := (Setup.mark 1000095 (Setup.mark 1000088 (Setup.mark 1000057 su_ch19)))
theorem FsPlanOf {dnod : List TNode} {xdnod : List (List D)} {dent : List TEntry} {xdent : List (List D)} {dold : List TEntry} {xdold : List (List D)} {dste : List ByteArray} {xdste : List (List D)} {droo : Int} {dnex : Int} {version : Int} {o : List TOp} {xo : List (List D)} (hdnod : dnod.map eNode = xdnod) (hdent : dent.map eEntry = xdent) (hdold : dold.map eEntry = xdold) (hdste : dste.map cS = xdste) (hd : okD ⟨dnod, dent, dold, dste, droo, dnex⟩) (hr : rPlanOf (⟨dnod, dent, dold, dste, droo, dnex⟩ : TDisk) version = o) (ho : o.map eOp = xo) : Fn Tryz.prog 74 [.agg [.d (.row 3 xdnod), .d (.row 2 xdent), .d (.row 2 xdold), .d (.row 1 xdste), I droo, I dnex], I version] [] ⟨.d (.row 4 xo), [], []⟩ := by
 refine Fn.go suj_FsPlanOf Tryz.func74 fun P hP Q hQ => ?_
 conv => cbv
 generalize hr1 : rChain (⟨dnod, dent, dold, dste, droo, dnex⟩ : TDisk) = l1
 generalize hl1 : l1.map cI = xl1
 refine .dd hP (FsChain hdnod hdent hdold hdste hd hr1 hl1) ?_
 conv => cbv
 refine LoopW.lp (κ := Int × (List (List D)) × Nat) suj_FsPlanOf hP [2] [1, 2, 6] (fun (i7, zw3, nw3) => [(5, .ref 3 0 nw3), (7, I i7)]) (fun (i7, zw3, nw3) => [(3, .row 4 false zw3)])
   (fun (i7, zw3, nw3) => ∃ (w3 : List TOp), w3.map eOp = zw3 ∧ nw3 = w3.length ∧ 0 ≤ i7 ∧ i7 ≤ l1.length ∧ w3 = (l1.take i7.toNat).flatMap (syncOps (⟨dnod, dent, dold, dste, droo, dnex⟩ : TDisk)))
   (fun (i7, zw3, nw3) => (l1.length - i7).toNat) (0, [], 0) ⟨[], rfl, rfl, by omega, by omega, by simp⟩ ⟨rfl, rfl, trivial⟩ rfl ?_
 rintro ⟨i7, zw3, nw3⟩ J ⟨w3, hw3, hnw3, h0, h1, hx⟩ hJ
 have hl16 := rChain_len hr1
 have hwb := fm_le (fun x => sync_len x) hx
 conv => cbv
 refine .go hl1 fun v2 hv2 => ?_
 conv => cbv
 refine .lss (fun h3 => ?_) fun h3 => ?_
 conv => cbv
 refine .go i7.toNat hl1 fun hje4 e4 qe4 => ?_
 conv => cbv
 generalize hr5 : rSegmentName e4 = r5
 refine .dd hP (FsSegmentName hr5) ?_
 conv => cbv
 rcases hr6 : rNodeAt (⟨dnod, dent, dold, dste, droo, dnex⟩ : TDisk) r5 with ⟨⟨r6aid, r6atex, r6asur⟩, r6b⟩
 refine .dd hP (FsNodeAt hdnod hdent hdold hdste hd hr6) ?_
 conv => cbv
 refine .go fun v7 hv7 => ?_
 conv => cbv
 refine .neq (fun h8 => ?_) fun h8 => ?_
 conv => cbv
 refine .one (⟨4, r5, tx [], tx []⟩ : TOp) hw3 rfl fun nz9 z9 hnz9 hz9 => ?_
 conv => cbv
 refine .add fun v10 hv10 => ?_
 conv => cbv
 have hso : syncOps (⟨dnod, dent, dold, dste, droo, dnex⟩ : TDisk) e4 = [⟨4, r5, tx [], tx []⟩] := by unfold syncOps; rw [hr5, hr6, if_neg (by rw [← hv7]; exact h8)]
 exact .go [6] (v10, z9, nz9) (hJ _ ⟨_, hz9, (by first | omega | (simp; omega)), by omega, by omega, by rw [show v10.toNat = i7.toNat + 1 by omega, take_fm hje4, ← hx, ← qe4, hso]⟩ (by first | (dsimp only; omega) | omega))
 conv => cbv
 refine .add fun v9 hv9 => ?_
 conv => cbv
 have hso : syncOps (⟨dnod, dent, dold, dste, droo, dnex⟩ : TDisk) e4 = [] := by unfold syncOps; rw [hr5, hr6, if_pos (by rw [← hv7]; exact h8)]
 exact .go [3] (v9, zw3, nw3) (hJ _ ⟨_, hw3, (by first | omega | (simp; omega)), by omega, by omega, by rw [show v9.toNat = i7.toNat + 1 by omega, take_fm hje4, ← hx, ← qe4, hso, List.append_nil]⟩ (by first | (dsimp only; omega) | omega))
 conv => cbv
 have hS : w3 = (rChain (⟨dnod, dent, dold, dste, droo, dnex⟩ : TDisk)).flatMap (syncOps (⟨dnod, dent, dold, dste, droo, dnex⟩ : TDisk)) := by rw [hx, List.take_of_length_le (by omega), hr1]
 have hb3 := fm_le (fun x => sync_len x) hx
 refine JoinW.jn (κ := (List (List D)) × Nat) suj_FsPlanOf hP [3] [1, 2, 6] (fun (zw4, nw4) => [(5, .ref 4 0 nw4)]) (fun (zw4, nw4) => [(4, .row 4 false zw4)])
   (fun (zw4, nw4) => ∃ (w4 : List TOp), w4.map eOp = zw4 ∧ nw4 = w4.length ∧ w4 = planA (⟨dnod, dent, dold, dste, droo, dnex⟩ : TDisk) ∧ w4.length ≤ 17) (fun Jj1 hJj1 => ?_) ?_
 conv => cbv
 refine .go hdste fun v4 hv4 => ?_
 conv => cbv
 refine .gtr (fun h5 => ?_) fun h5 => ?_
 conv => cbv
 refine .one (⟨6, tx [], tx [], tx []⟩ : TOp) hw3 rfl fun nz6 z6 hnz6 hz6 => ?_
 conv => cbv
 exact .go [6] (z6, nz6) (hJj1 _ ⟨_, hz6, (by first | omega | (simp; omega)), by unfold planA; rw [← hS, if_neg (by intro e; rw [show dste = [] from e] at hv4; simp at hv4; omega)], by simp; omega⟩)
 conv => cbv
 exact .go [4] (zw3, nw3) (hJj1 _ ⟨_, hw3, (by first | omega | (simp; omega)), by unfold planA; rw [← hS, if_pos (List.eq_nil_of_length_eq_zero (show dste.length = 0 by omega)), List.append_nil], by omega⟩)
 rintro ⟨zw4, nw4⟩ ⟨w4, hw4, hnw4, hA, hAl⟩
 conv => cbv
 have hl16b := hl16
 generalize hr4 : rLooseNames (⟨dnod, dent, dold, dste, droo, dnex⟩ : TDisk) = l4
 generalize hl4 : l4.map cS = xl4
 refine .dd hP (FsLooseNames hdnod hdent hdold hdste hd hr4 hl4) ?_
 conv => cbv
 refine LoopW.lp (κ := Bool × Int × (List (List D)) × Nat) suj_FsPlanOf hP [4] [1, 2, 6, 11] (fun (b12, i13, zw5, nw5) => [(5, .ref 5 0 nw5), (12, B b12), (13, I i13)]) (fun (b12, i13, zw5, nw5) => [(5, .row 4 false zw5)])
   (fun (b12, i13, zw5, nw5) => ∃ (w5 : List TOp), w5.map eOp = zw5 ∧ nw5 = w5.length ∧ (0 ≤ i13 ∧ i13 ≤ l4.length) ∧ w5 = w4 ++ ((l4.take i13.toNat).filter tempN).map removeOp ∧ b12 = !((l4.take i13.toNat).filter tempN).isEmpty ∧ w5.length ≤ w4.length + i13)
   (fun (b12, i13, zw5, nw5) => (l4.length - i13).toNat) (false, 0, zw4, nw4) ⟨w4, hw4, (by first | omega | (simp; omega)), by omega, by simp, rfl, by simp⟩ ⟨rfl, rfl, rfl, trivial⟩ rfl ?_
 rintro ⟨b12, i13, zw5, nw5⟩ J2 ⟨w5, hw5, hnw5, h0, hwt, hwb, hwl⟩ hJ2
 have hl9 := loose_b hd hr4
 conv => cbv
 refine .go hl4 fun v5 hv5 => ?_
 conv => cbv
 refine .lss (fun h6 => ?_) fun h6 => ?_
 conv => cbv
 refine .go i13.toNat hl4 fun hje7 e7 qe7 => ?_
 conv => cbv
 have hsz7 := loose_sz hd hr4 e7 (qe7 ▸ List.getElem_mem _)
 rcases hr8 : rReadName e7 with ⟨r8a, r8b⟩
 refine .dd hP (FsReadName (by omega) hr8) ?_
 conv => cbv
 refine .eql (fun h9 => ?_) fun h9 => ?_
 conv => cbv
 refine .go i13.toNat hl4 fun hje10 e10 qe10 => ?_
 conv => cbv
 have e107 : e10 = e7 := qe10.trans qe7.symm
 subst e107
 refine .one (⟨1, e10, tx [], tx []⟩ : TOp) hw5 rfl fun nz11 z11 hnz11 hz11 => ?_
 conv => cbv
 refine .add fun v12 hv12 => ?_
 conv => cbv
 have hte : tempN e10 = true := by unfold tempN; rw [hr8]; exact decide_eq_true h9
 exact .go [7] (true, v12, z11, nz11) (hJ2 _ ⟨_, hz11, (by first | omega | (simp; omega)), by omega, by rw [show v12.toNat = i13.toNat + 1 by omega, filter_take hje7, ← qe7, hte, hwt]; simp; rfl, by rw [show v12.toNat = i13.toNat + 1 by omega, filter_take hje7, ← qe7, hte]; simp, by simp; omega⟩ (by first | (dsimp only; omega) | omega))
 conv => cbv
 refine .add fun v10 hv10 => ?_
 conv => cbv
 have hte : tempN e7 = false := by unfold tempN; rw [hr8]; exact decide_eq_false h9
 exact .go [5] (b12, v10, zw5, nw5) (hJ2 _ ⟨_, hw5, (by first | omega | (simp; omega)), by omega, by rw [show v10.toNat = i13.toNat + 1 by omega, filter_take hje7, ← qe7, hte, hwt]; simp, by rw [show v10.toNat = i13.toNat + 1 by omega, filter_take hje7, ← qe7, hte, hwb]; simp, by omega⟩ (by first | (dsimp only; omega) | omega))
 conv => cbv
 have hT : w5 = w4 ++ (l4.filter tempN).map removeOp := by rw [hwt, List.take_of_length_le (by omega)]
 have hT2 : b12 = !(l4.filter tempN).isEmpty := by rw [hwb, List.take_of_length_le (by omega)]
 have hl9b := hl9
 refine JoinW.jn (κ := (List (List D)) × Nat) suj_FsPlanOf hP [5] [1, 2, 6, 11] (fun (zw6, nw6) => [(5, .ref 6 0 nw6)]) (fun (zw6, nw6) => [(6, .row 4 false zw6)])
   (fun (zw6, nw6) => ∃ (w6 : List TOp), w6.map eOp = zw6 ∧ nw6 = w6.length ∧ w6 = w4 ++ planB (⟨dnod, dent, dold, dste, droo, dnex⟩ : TDisk) ∧ w6.length ≤ 1048600) (fun Jj3 hJj3 => ?_) ?_
 conv => cbv
 cases b12
 conv => cbv
 exact .go [6] (zw5, nw5) (hJj3 _ ⟨_, hw5, (by first | omega | (simp; omega)), by unfold planB; rw [hr4, removal_nil hT2]; exact hT, by omega⟩)
 conv => cbv
 refine .one (⟨6, tx [], tx [], tx []⟩ : TOp) hw5 rfl fun nz7 z7 hnz7 hz7 => ?_
 conv => cbv
 exact .go [8] (z7, nz7) (hJj3 _ ⟨_, hz7, (by first | omega | (simp; omega)), by unfold planB; rw [hr4, removal_cons hT2, ← List.append_assoc, ← hT], by simp; omega⟩)
 rintro ⟨zw6, nw6⟩ ⟨w6, hw6, hnw6, hB, hBl⟩
 conv => cbv
 refine JoinW.jn (κ := Int) suj_FsPlanOf hP [] [2, 5, 6, 11] (fun i1 => [(1, I i1)]) (fun i1 => [])
   (fun i1 => i1 = planV version ∧ 0 ≤ i1 ∧ i1 ≤ 2) (fun Jj4 hJj4 => ?_) ?_
 conv => cbv
 generalize hr7 : rl01In version 1 2 = r7
 refine .dd hP (Fsl01In hr7) ?_
 cases r7
 simp only [rl01In, decide_eq_true_eq, decide_eq_false_iff_not] at hr7
 conv => cbv
 exact .go [] (0) (hJj4 _ ⟨by unfold planV; rw [if_neg (by omega)], by omega, by omega⟩)
 simp only [rl01In, decide_eq_true_eq, decide_eq_false_iff_not] at hr7
 conv => cbv
 exact .go [] (version) (hJj4 _ ⟨by unfold planV; rw [if_pos (by omega)], by omega, by omega⟩)
 rintro i1 ⟨hV, hV0, hV2⟩
 conv => cbv
 refine LoopW.lp (κ := Int × (List (List D)) × Nat) suj_FsPlanOf hP [6] [1, 2, 6, 11] (fun (i16, zw7, nw7) => [(5, .ref 7 0 nw7), (16, I i16)]) (fun (i16, zw7, nw7) => [(7, .row 4 false zw7)])
   (fun (i16, zw7, nw7) => ∃ (w7 : List TOp), w7.map eOp = zw7 ∧ nw7 = w7.length ∧ (0 ≤ i16 ∧ i16 ≤ l1.length) ∧ w7 = w6 ++ (l1.take i16.toNat).flatMap (freshFor (⟨dnod, dent, dold, dste, droo, dnex⟩ : TDisk) i1) ∧ w7.length ≤ w6.length + 5 * i16)
   (fun (i16, zw7, nw7) => (l1.length - i16).toNat) (0, zw6, nw6) ⟨w6, hw6, (by first | omega | (simp; omega)), by omega, by simp, by simp⟩ ⟨rfl, rfl, trivial⟩ rfl ?_
 rintro ⟨i16, zw7, nw7⟩ J5 ⟨w7, hw7, hnw7, h0, hx, hxl⟩ hJ5
 have hl16 := rChain_len hr1
 conv => cbv
 refine .go hl1 fun v7 hv7 => ?_
 conv => cbv
 refine .lss (fun h8 => ?_) fun h8 => ?_
 conv => cbv
 refine .go i16.toNat hl1 fun hje9 e9 qe9 => ?_
 conv => cbv
 generalize hr10 : rTextAt (⟨dnod, dent, dold, dste, droo, dnex⟩ : TDisk) e9 = r10
 refine .dd hP (FsTextAt hdnod hdent hdold hdste hd hr10) ?_
 conv => cbv
 have z10 := rTextAt_le hd hr10
 generalize hr11 : rResealed r10 i1 = r11
 have zr11 := rResealed_b hr11
 refine .dd hP (FsResealed (by omega) hr11) ?_
 conv => cbv
 refine .neq (fun h12 => ?_) fun h12 => ?_
 conv => cbv
 refine .go i16.toNat hl1 fun hje13 e13 qe13 => ?_
 conv => cbv
 have e139 : e13 = e9 := qe13.trans qe9.symm
 subst e139
 generalize hr14 : rFreshOps e13 r11 = l14
 generalize hl14 : l14.map eOp = xl14
 refine .dd hP (FsFreshOps hr14 hl14) ?_
 conv => cbv
 have hr14l : l14.length = 5 := by rw [← hr14]; rfl
 refine .row hw7 hl14 fun nz15 z15 hnz15 hz15 => ?_
 conv => cbv
 refine .add fun v16 hv16 => ?_
 conv => cbv
 have hfo : freshFor (⟨dnod, dent, dold, dste, droo, dnex⟩ : TDisk) i1 e13 = l14 := by unfold freshFor; rw [hr10, hr11, if_neg h12, hr14]
 exact .go [8] (v16, z15, nz15) (hJ5 _ ⟨_, hz15, (by first | omega | (simp; omega)), by omega, by rw [show v16.toNat = i16.toNat + 1 by omega, take_fm hje9, ← List.append_assoc, ← hx, ← qe9, hfo], by rw [List.length_append]; omega⟩ (by first | (dsimp only; omega) | omega))
 conv => cbv
 refine .add fun v13 hv13 => ?_
 conv => cbv
 have hfo : freshFor (⟨dnod, dent, dold, dste, droo, dnex⟩ : TDisk) i1 e9 = [] := by unfold freshFor; rw [hr10, hr11, if_pos h12]
 exact .go [7] (v13, zw7, nw7) (hJ5 _ ⟨_, hw7, (by first | omega | (simp; omega)), by omega, by rw [show v13.toNat = i16.toNat + 1 by omega, take_fm hje9, ← List.append_assoc, ← hx, ← qe9, hfo, List.append_nil], by omega⟩ (by first | (dsimp only; omega) | omega))
 conv => cbv
 refine .go hl4 fun v9 hv9 => ?_
 conv => cbv
 refine .sub fun v10 hv10 => ?_
 conv => cbv
 refine LoopW.lp (κ := Bool × Int × (List (List D)) × Nat) suj_FsPlanOf hP [7] [11] (fun (b19, i20, zw8, nw8) => [(5, .ref 8 0 nw8), (19, B b19), (20, I i20)]) (fun (b19, i20, zw8, nw8) => [(8, .row 4 false zw8)])
   (fun (b19, i20, zw8, nw8) => ∃ (w8 : List TOp), w8.map eOp = zw8 ∧ nw8 = w8.length ∧ (-1 ≤ i20 ∧ i20 < l4.length) ∧ w8 = w7 ++ ((l4.drop (i20 + 1).toNat).reverse.filter (fun n => !tempN n)).map removeOp ∧ b19 = !((l4.drop (i20 + 1).toNat).reverse.filter (fun n => !tempN n)).isEmpty ∧ w8.length ≤ w7.length + (l4.length - 1 - i20))
   (fun (b19, i20, zw8, nw8) => (i20 + 1).toNat) (false, v10, zw7, nw7) ⟨w7, hw7, (by first | omega | (simp; omega)), by omega, by rw [List.drop_of_length_le (by omega)]; simp, by rw [List.drop_of_length_le (by omega)]; rfl, by omega⟩ ⟨rfl, rfl, rfl, trivial⟩ rfl ?_
 rintro ⟨b19, i20, zw8, nw8⟩ J6 ⟨w8, hw8, hnw8, h0, hwv, hwc, hwl2⟩ hJ6
 have hl9 := loose_b hd hr4
 conv => cbv
 refine .geq (fun h11 => ?_) fun h11 => ?_
 conv => cbv
 refine .go i20.toNat hl4 fun hje12 e12 qe12 => ?_
 conv => cbv
 have hm12 : e12 ∈ l4 := qe12 ▸ List.getElem_mem _
 have hsz12 := loose_sz hd hr4 e12 hm12
 have hnt := loose_not hr4 hm12
 have hrs := rdrop_step (p := (fun n => !tempN n)) (l := l4) (i := i20) (by omega) (by omega)
 rw [← qe12] at hrs
 rcases hr13 : rReadName e12 with ⟨r13a, r13b⟩
 refine .dd hP (FsReadName (by omega) hr13) ?_
 conv => cbv
 refine .eql (fun h14 => ?_) fun h14 => ?_
 conv => cbv
 refine .go i20.toNat hl4 fun hje15 e15 qe15 => ?_
 conv => cbv
 have e1512 : e15 = e12 := qe15.trans qe12.symm
 subst e1512
 refine .one (⟨1, e15, tx [], tx []⟩ : TOp) hw8 rfl fun nz16 z16 hnz16 hz16 => ?_
 conv => cbv
 refine .sub fun v17 hv17 => ?_
 conv => cbv
 have hte : (!tempN e15) = true := by rw [hr13] at hnt; rw [hnt.1 h14]; rfl
 rw [hte, if_pos rfl] at hrs
 have hv17e : v17 = i20 - 1 := by omega
 exact .go [10] (true, v17, z16, nz16) (hJ6 _ ⟨_, hz16, (by first | omega | (simp; omega)), by omega, by rw [hv17e, hrs, hwv]; simp; rfl, by rw [hv17e, hrs]; simp, by simp; omega⟩ (by first | (dsimp only; omega) | omega))
 conv => cbv
 refine .sub fun v15 hv15 => ?_
 conv => cbv
 have hte : ¬ ((!tempN e12) = true) := by intro hh; rw [hr13] at hnt; exact h14 (hnt.2 (by simpa using hh))
 rw [if_neg hte, List.append_nil] at hrs
 have hv15e : v15 = i20 - 1 := by omega
 exact .go [8] (b19, v15, zw8, nw8) (hJ6 _ ⟨_, hw8, (by first | omega | (simp; omega)), by omega, by rw [hv15e, hrs, hwv], by rw [hv15e, hrs, hwc], by omega⟩ (by first | (dsimp only; omega) | omega))
 conv => cbv
 have hE : (l4.drop (i20 + 1).toNat).reverse.filter (fun n => !tempN n) = (l4.filter (fun n => !tempN n)).reverse := by rw [show (i20 + 1).toNat = 0 by omega, List.drop_zero, List.filter_reverse]
 rw [hE] at hwv hwc
 cases b19
 conv => cbv
 have hF : w7 = w4 ++ planB (⟨dnod, dent, dold, dste, droo, dnex⟩ : TDisk) ++ (rChain (⟨dnod, dent, dold, dste, droo, dnex⟩ : TDisk)).flatMap (freshFor (⟨dnod, dent, dold, dste, droo, dnex⟩ : TDisk) (planV version)) := by rw [hx, List.take_of_length_le (by omega), hr1, ← hV, ← hB]
 have e : w8 = rPlanOf (⟨dnod, dent, dold, dste, droo, dnex⟩ : TDisk) version := (by unfold rPlanOf; rw [hr4, removal_nil hwc, ← hA, ← hF, hwv])
 rw [hr] at e
 subst e
 exact hQ _ _ (.r rfl rfl (by rw [← hw8, List.length_map]; first | omega | (simp; omega)) (by rw [← hw8, ← ho]))
 conv => cbv
 refine .one (⟨6, tx [], tx [], tx []⟩ : TOp) hw8 rfl fun nz12 z12 hnz12 hz12 => ?_
 conv => cbv
 have hF : w7 = w4 ++ planB (⟨dnod, dent, dold, dste, droo, dnex⟩ : TDisk) ++ (rChain (⟨dnod, dent, dold, dste, droo, dnex⟩ : TDisk)).flatMap (freshFor (⟨dnod, dent, dold, dste, droo, dnex⟩ : TDisk) (planV version)) := by rw [hx, List.take_of_length_le (by omega), hr1, ← hV, ← hB]
 have e : (w8 ++ [(⟨6, tx [], tx [], tx []⟩ : TOp)]) = rPlanOf (⟨dnod, dent, dold, dste, droo, dnex⟩ : TDisk) version := (by unfold rPlanOf; rw [hr4, removal_cons hwc, ← hA, ← hF, hwv, List.append_assoc])
 rw [hr] at e
 subst e
 exact hQ _ _ (.r rfl rfl (by rw [← hz12, List.length_map]; first | omega | (simp; omega)) (by rw [← hz12, ← ho]))
theorem plan_len {d : TDisk} {v : Int} {l : List TOp} (hd : okD d) (e : rPlanOf d v = l) : l.length ≤ 4194304 := by
  rw [← e]
  unfold rPlanOf planA planB
  have h1 := rChain_len (rfl : rChain d = _)
  have h2 := loose_b hd (rfl : rLooseNames d = _)
  have h3 := fm_len (fun x => sync_len (d := d) x) (rChain d)
  have h4 := fm_len (fun x => fresh_len (d := d) (v := planV v) x) (rChain d)
  have h5 := removal_len (l := (rLooseNames d).filter tempN)
  have h6 := removal_len (l := ((rLooseNames d).filter (fun n => !tempN n)).reverse)
  have h7 := List.length_filter_le tempN (rLooseNames d)
  have h8 := List.length_filter_le (fun n => !tempN n) (rLooseNames d)
  rw [List.length_reverse] at h6
  have h9 : (if d.steps_ = [] then [] else [(⟨6, tx [], tx [], tx []⟩ : TOp)]).length ≤ 1 := by split <;> simp
  simp only [List.length_append]
  omega
end Go.Proofs.YtmhinjjgpabkfaaGreatDoor.Ab
