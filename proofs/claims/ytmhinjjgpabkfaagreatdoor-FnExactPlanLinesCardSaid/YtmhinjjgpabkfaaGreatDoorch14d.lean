/- What functions of the program come to, for all arguments in the given bounds. -/
import Derived.Test.YtmhinjjgpabkfaaGreatDoorch14b
set_option linter.unusedVariables false
set_option linter.unusedSimpArgs false
namespace Go.Proofs.YtmhinjjgpabkfaaGreatDoor.Ab
open Go Go.Proofs
set_option maxRecDepth 20000
set_option maxHeartbeats 4000000
set_option linter.unusedSimpArgs false
set_option linter.unusedVariables false
def tab_ch14d : List (Nat × TyRow) := [
  (3, ⟨.int .i64, some 1, some false, none, false, [.int .i64], [], some [(.int .i64 0, 0)], none, none, none⟩),
  (9, ⟨.str, some 1, some false, none, false, [.str], [], some [(.string default, 0)], none, none, none⟩),
  (24, ⟨.sl 1, some 1, some false, some (1, 8), false, [.sl 1], [], some [(.slice none 0 0, 1)], some ([.sc (.int .i64 0)], 1, 8), none, none⟩),
  (41, ⟨.sl 1, some 1, some false, some (1, 16), false, [.sl 1], [], some [(.slice none 0 0, 1)], some ([.sc (.string default)], 1, 16), none, none⟩),
  (47, ⟨.sl 2, some 1, some false, some (2, 24), false, [.sl 2], [], some [(.slice none 0 0, 2)], some ([.sc (.string default), .sc (.int .i64 0)], 2, 24), none, none⟩),
  (49, ⟨.other, some 6, some true, none, false, [.sl 3, .sl 2, .sl 2, .sl 1, .int .i64, .int .i64], [some (0, 1, false), some (1, 1, false), some (2, 1, false), some (3, 1, false), some (4, 1, false), some (5, 1, false)], some [(.slice none 0 0, 3), (.slice none 0 0, 2), (.slice none 0 0, 2), (.slice none 0 0, 1), (.int .i64 0, 0), (.int .i64 0, 0)], none, some [(0, 1), (1, 1), (2, 1), (3, 1), (4, 1), (5, 1)], none⟩),
  (147, ⟨.other, some 2, some true, none, false, [.str, .int .i64], [some (0, 1, false), some (1, 1, false)], some [(.string default, 0), (.int .i64 0, 0)], none, some [(0, 1), (1, 1)], some [.str, .int]⟩)]
theorem tab_ch14d_ok : TabOk Tryz.prog tab_ch14d := TabOk.of (by kernel_rfl)
theorem su_ch14d : Setup Tryz.prog tab_ch14d := ⟨tab_ch14d_ok, mixed⟩
def rIndex (l : List Int) (x : Int) : Int := idxI (fun y => decide (y = x)) l
def rContains (l : List Int) (x : Int) : Bool := decide (x ∈ l)
def looseN (chain : List Int) (name : ByteArray) : Bool := decide ((rReadName name).1 = 2 ∨ ((rReadName name).1 = 1 ∧ (rReadName name).2 ∉ chain))
def rLooseNames (d : TDisk) : List ByteArray := (d.entries_.map fun e => e.name_).filter (looseN (rChain d))
def rLooseNames_1 (name : ByteArray) (chain : List Int) : Bool := !looseN chain name
theorem read_kind (name : ByteArray) : (rReadName name).1 = 0 ∨ (rReadName name).1 = 1 ∨ (rReadName name).1 = 2 := by
  unfold rReadName
  split
  · split
    · exact .inr (.inl rfl)
    · split
      · exact .inr (.inr rfl)
      · exact .inl rfl
  · exact .inl rfl
theorem Flslices_Index_int_int {l : List Int} {xl : List (List D)} {x : Int} {o : Int} (hl : l.map cI = xl) (hn : l.length < 2 ^ 40) (hr : rIndex l x = o)  : Fn Tryz.prog 161 [.d (.row 1 xl), I x] [] ⟨I o, [], []⟩ := by
 refine Fn.go su_ch14d Tryz.func161 fun P hP Q hQ => ?_
 conv => cbv
 refine .go hl fun v1 hv1 => ?_
 conv => cbv
 refine LoopW.lp (κ := Int) su_ch14d hP [] [0, 1, 7] (fun i8 => [(8, I i8)]) (fun i8 => [])
   (fun i8 => 0 ≤ i8 ∧ i8 ≤ l.length ∧ ∀ (j : Nat) (hj : j < l.length), j < i8.toNat → decide (l[j] = x) = false)
   (fun i8 => (l.length - i8).toNat) (0) ⟨by omega, by omega, fun j _ h => by simp at h⟩ ⟨rfl, trivial⟩ rfl ?_
 rintro i8 J ⟨h0, h1, hb⟩ hJ
 conv => cbv
 refine .lss (fun h2 => ?_) fun h2 => ?_
 conv => cbv
 refine .go i8.toNat hl fun hje3 e3 qe3 => ?_
 conv => cbv
 refine .eql (fun h4 => ?_) fun h4 => ?_
 conv => cbv
 have e : i8 = rIndex l x := (by exact idxI_at (p := fun y => decide (y = x)) h0 (by omega) (by rw [← qe3]; exact decide_eq_true h4.symm) hb)
 rw [hr] at e
 subst e
 exact hQ _ _ (.i rfl rfl)
 conv => cbv
 refine .add fun v5 hv5 => ?_
 conv => cbv
 exact .go [] (v5) (hJ _ ⟨by omega, by omega, fun j hj h => if e : j = i8.toNat then by subst e; rw [← qe3]; exact decide_eq_false (Ne.symm h4) else hb j hj (by omega)⟩ (by first | (dsimp only; omega) | omega))
 conv => cbv
 have e : (-1) = rIndex l x := (by exact idxI_none (p := fun y => decide (y = x)) fun j hj => hb j hj (by omega))
 rw [hr] at e
 subst e
 exact hQ _ _ (.i rfl rfl)
theorem Flslices_Contains_int_int {l : List Int} {xl : List (List D)} {x : Int} {o : Bool} (hl : l.map cI = xl) (hn : l.length < 2 ^ 40) (hr : rContains l x = o)  : Fn Tryz.prog 120 [.d (.row 1 xl), I x] [] ⟨B o, [], []⟩ := by
 refine Fn.go su_ch14d Tryz.func120 fun P hP Q hQ => ?_
 conv => cbv
 generalize hr1 : rIndex l x = r1
 refine .dd hP (Flslices_Index_int_int hl (by omega) hr1) ?_
 conv => cbv
 refine .geq (fun h2 => ?_) fun h2 => ?_
 conv => cbv
 have e : true = rContains l x := (by unfold rContains; symm; rw [decide_eq_true_eq]; obtain ⟨hi, hp⟩ := idxI_get (p := fun y => decide (y = x)) hr1 h2; have hp := of_decide_eq_true hp; rw [← hp]; exact List.getElem_mem hi)
 rw [hr] at e
 subst e
 exact hQ _ _ (.b rfl rfl)
 conv => cbv
 have e : false = rContains l x := (by unfold rContains; symm; rw [decide_eq_false_iff_not]; intro hm; have := idxI_ne (p := fun y => decide (y = x)) hr1 (by omega) x hm; simp at this)
 rw [hr] at e
 subst e
 exact hQ _ _ (.b rfl rfl)
theorem FiLooseNames_1 {name : ByteArray} {chain : List Int} {xchain : List (List D)} {o : Bool} (hchain : chain.map cI = xchain) (hs : name.size ≤ 1048576) (hc : chain.length < 2 ^ 40) (hr : rLooseNames_1 name chain = o)  : Fn Tryz.prog 118 [S name, .ptr 0 0 0] [.box 24 [.d (.row 1 xchain)]] ⟨B o, [], []⟩ := by
 refine Fn.goR su_ch14d Tryz.func118 fun P hP Q hQ => ?_
 conv => cbv
 rcases hr1 : rReadName name with ⟨r1a, r1b⟩
 refine .dd hP (FiReadName (by omega) hr1) ?_
 conv => cbv
 refine .eql (fun h2 => ?_) fun h2 => ?_
 conv => cbv
 have e : true = rLooseNames_1 name chain := (by unfold rLooseNames_1 looseN; rw [hr1]; dsimp only; rw [decide_eq_false (by omega)]; rfl)
 rw [hr] at e
 subst e
 exact hQ _ _ (.of [] (.inl rfl) rfl rfl rfl rfl)
 conv => cbv
 refine .eql (fun h3 => ?_) fun h3 => ?_
 conv => cbv
 generalize hr4 : rContains chain r1b = r4
 refine .dd hP (Flslices_Contains_int_int hchain (by omega) hr4) ?_
 cases r4
 conv => cbv
 have e : false = rLooseNames_1 name chain := (by unfold rLooseNames_1 looseN; rw [hr1]; dsimp only; rw [decide_eq_true (.inr ⟨h3, of_decide_eq_false hr4⟩)]; rfl)
 rw [hr] at e
 subst e
 exact hQ _ _ (.of [] (.inl rfl) rfl rfl rfl rfl)
 conv => cbv
 have e : true = rLooseNames_1 name chain := (by unfold rLooseNames_1 looseN; rw [hr1]; dsimp only; rw [decide_eq_false (by rintro (h | ⟨_, h⟩); omega; exact h (of_decide_eq_true hr4))]; rfl)
 rw [hr] at e
 subst e
 exact hQ _ _ (.of [] (.inl rfl) rfl rfl rfl rfl)
 conv => cbv
 have e : false = rLooseNames_1 name chain := (by have hk := read_kind name; rw [hr1] at hk; dsimp only at hk; unfold rLooseNames_1 looseN; rw [hr1]; dsimp only; rw [decide_eq_true (.inl (by omega))]; rfl)
 rw [hr] at e
 subst e
 exact hQ _ _ (.of [] (.inl rfl) rfl rfl rfl rfl)
theorem FsLooseNames {dnod : List TNode} {xdnod : List (List D)} {dent : List TEntry} {xdent : List (List D)} {dold : List TEntry} {xdold : List (List D)} {dste : List ByteArray} {xdste : List (List D)} {droo : Int} {dnex : Int} {o : List ByteArray} {xo : List (List D)} (hdnod : dnod.map eNode = xdnod) (hdent : dent.map eEntry = xdent) (hdold : dold.map eEntry = xdold) (hdste : dste.map cS = xdste) (hd : okD ⟨dnod, dent, dold, dste, droo, dnex⟩) (hr : rLooseNames (⟨dnod, dent, dold, dste, droo, dnex⟩ : TDisk) = o) (ho : o.map cS = xo) : Fn Tryz.prog 62 [.agg [.d (.row 3 xdnod), .d (.row 2 xdent), .d (.row 2 xdold), .d (.row 1 xdste), I droo, I dnex]] [] ⟨.d (.row 1 xo), [], []⟩ := by
 refine Fn.go su_ch14d Tryz.func62 fun P hP Q hQ => ?_
 conv => cbv
 have hd3 : dent.length ≤ 1048576 := hd.2.2.1
 have hd4 : ∀ e ∈ dent, e.name_.size ≤ 1048576 := hd.2.2.2.1
 generalize hr1 : rChain (⟨dnod, dent, dold, dste, droo, dnex⟩ : TDisk) = l1
 generalize hl1 : l1.map cI = xl1
 refine .dd hP (FsChain hdnod hdent hdold hdste hd hr1 hl1) ?_
 conv => cbv
 refine LoopW.lp (κ := Int × (List (List D)) × Nat) su_ch14d hP [2] [1, 4] (fun (i5, zw3, nw3) => [(3, .ref 3 0 nw3), (5, I i5)]) (fun (i5, zw3, nw3) => [(3, .row 1 false zw3)])
   (fun (i5, zw3, nw3) => ∃ (w3 : List ByteArray), w3.map cS = zw3 ∧ nw3 = w3.length ∧ 0 ≤ i5 ∧ i5 ≤ dent.length ∧ w3 = ((dent.take i5.toNat).map fun e => e.name_).filter (looseN l1) ∧ w3.length ≤ i5.toNat)
   (fun (i5, zw3, nw3) => dent.length - i5.toNat) (0, [], 0) ⟨[], rfl, rfl, by omega, by omega, rfl, by simp⟩ ⟨rfl, rfl, trivial⟩ rfl ?_
 rintro ⟨i5, zw3, nw3⟩ J ⟨w3, hw3, hnw3, h0, hle, hw, hwl⟩ hJ
 conv => cbv
 refine .go hdent fun v2 hv2 => ?_
 conv => cbv
 refine .lss (fun h3 => ?_) fun h3 => ?_
 conv => cbv
 refine .go i5.toNat hdent fun hje4 ⟨e4nam, e4id⟩ qe4 => ?_
 conv => cbv
 have hsz4 : e4nam.size ≤ 1048576 := by have := hd4 _ (List.getElem_mem hje4); rw [← qe4] at this; exact this
 have hle1 := rChain_len hr1
 rcases hr5 : rReadName e4nam with ⟨r5a, r5b⟩
 refine .dd hP (FsReadName (by omega) hr5) ?_
 conv => cbv
 have hl : looseN l1 e4nam = decide (r5a = 2 ∨ (r5a = 1 ∧ r5b ∉ l1)) := by unfold looseN; rw [hr5]
 refine .eql (fun h6 => ?_) fun h6 => ?_
 conv => cbv
 refine .go i5.toNat hdent fun hje7 ⟨e7nam, e7id⟩ qe7 => ?_
 conv => cbv
 refine .one e7nam hw3 rfl fun nz8 z8 hnz8 hz8 => ?_
 conv => cbv
 refine .add fun v9 hv9 => ?_
 conv => cbv
 exact .go [5] (v9, z8, nz8) (hJ _ ⟨_, hz8, (by first | omega | (simp; omega)), by omega, by omega, by (first | rw [show v9.toNat = i5.toNat + 1 by omega] | rw [show v11.toNat = i5.toNat + 1 by omega] | rw [show v8.toNat = i5.toNat + 1 by omega]); rw [hw, List.take_succ_eq_append_getElem hje4, List.map_append, List.filter_append, ← qe4]; simp only [List.map_cons, List.map_nil, List.filter_cons, List.filter_nil, hl]; first | (guard_hyp h6 : r5a = 2; rw [decide_eq_true (.inl h6)]; try rw [if_pos rfl, show e7nam = e4nam from congrArg TEntry.name_ (qe7.trans qe4.symm)]) | (guard_hyp h7 : r5a = 1; guard_hyp hr8 : rl14Has l1 r5b = false; rw [decide_eq_true (.inr ⟨h7, of_decide_eq_false hr8⟩), if_pos rfl, show e9nam = e4nam from congrArg TEntry.name_ (qe9.trans qe4.symm)]) | (guard_hyp h7 : r5a = 1; rw [decide_eq_false (by rintro (h | ⟨_, h⟩); exact h6 h; exact h (of_decide_eq_true hr8))]; simp) | (rw [decide_eq_false (by rintro (h | ⟨h, _⟩); exact h6 h; exact h7 h)]; simp), by first | omega | (rw [List.length_append, List.length_singleton]; omega)⟩ (by first | (dsimp only; omega) | omega))
 conv => cbv
 refine .eql (fun h7 => ?_) fun h7 => ?_
 conv => cbv
 generalize hr8 : rl14Has l1 r5b = r8
 refine .dd hP (Fsl14Has hl1 (by omega) hr8) ?_
 cases r8
 conv => cbv
 refine .go i5.toNat hdent fun hje9 ⟨e9nam, e9id⟩ qe9 => ?_
 conv => cbv
 refine .one e9nam hw3 rfl fun nz10 z10 hnz10 hz10 => ?_
 conv => cbv
 refine .add fun v11 hv11 => ?_
 conv => cbv
 exact .go [5] (v11, z10, nz10) (hJ _ ⟨_, hz10, (by first | omega | (simp; omega)), by omega, by omega, by (first | rw [show v9.toNat = i5.toNat + 1 by omega] | rw [show v11.toNat = i5.toNat + 1 by omega] | rw [show v8.toNat = i5.toNat + 1 by omega]); rw [hw, List.take_succ_eq_append_getElem hje4, List.map_append, List.filter_append, ← qe4]; simp only [List.map_cons, List.map_nil, List.filter_cons, List.filter_nil, hl]; first | (guard_hyp h6 : r5a = 2; rw [decide_eq_true (.inl h6)]; try rw [if_pos rfl, show e7nam = e4nam from congrArg TEntry.name_ (qe7.trans qe4.symm)]) | (guard_hyp h7 : r5a = 1; guard_hyp hr8 : rl14Has l1 r5b = false; rw [decide_eq_true (.inr ⟨h7, of_decide_eq_false hr8⟩), if_pos rfl, show e9nam = e4nam from congrArg TEntry.name_ (qe9.trans qe4.symm)]) | (guard_hyp h7 : r5a = 1; rw [decide_eq_false (by rintro (h | ⟨_, h⟩); exact h6 h; exact h (of_decide_eq_true hr8))]; simp) | (rw [decide_eq_false (by rintro (h | ⟨h, _⟩); exact h6 h; exact h7 h)]; simp), by first | omega | (rw [List.length_append, List.length_singleton]; omega)⟩ (by first | (dsimp only; omega) | omega))
 conv => cbv
 refine .add fun v9 hv9 => ?_
 conv => cbv
 exact .go [3] (v9, zw3, nw3) (hJ _ ⟨_, hw3, (by first | omega | (simp; omega)), by omega, by omega, by (first | rw [show v9.toNat = i5.toNat + 1 by omega] | rw [show v11.toNat = i5.toNat + 1 by omega] | rw [show v8.toNat = i5.toNat + 1 by omega]); rw [hw, List.take_succ_eq_append_getElem hje4, List.map_append, List.filter_append, ← qe4]; simp only [List.map_cons, List.map_nil, List.filter_cons, List.filter_nil, hl]; first | (guard_hyp h6 : r5a = 2; rw [decide_eq_true (.inl h6)]; try rw [if_pos rfl, show e7nam = e4nam from congrArg TEntry.name_ (qe7.trans qe4.symm)]) | (guard_hyp h7 : r5a = 1; guard_hyp hr8 : rl14Has l1 r5b = false; rw [decide_eq_true (.inr ⟨h7, of_decide_eq_false hr8⟩), if_pos rfl, show e9nam = e4nam from congrArg TEntry.name_ (qe9.trans qe4.symm)]) | (guard_hyp h7 : r5a = 1; rw [decide_eq_false (by rintro (h | ⟨_, h⟩); exact h6 h; exact h (of_decide_eq_true hr8))]; simp) | (rw [decide_eq_false (by rintro (h | ⟨h, _⟩); exact h6 h; exact h7 h)]; simp), by first | omega | (rw [List.length_append, List.length_singleton]; omega)⟩ (by first | (dsimp only; omega) | omega))
 conv => cbv
 refine .add fun v8 hv8 => ?_
 conv => cbv
 exact .go [3] (v8, zw3, nw3) (hJ _ ⟨_, hw3, (by first | omega | (simp; omega)), by omega, by omega, by (first | rw [show v9.toNat = i5.toNat + 1 by omega] | rw [show v11.toNat = i5.toNat + 1 by omega] | rw [show v8.toNat = i5.toNat + 1 by omega]); rw [hw, List.take_succ_eq_append_getElem hje4, List.map_append, List.filter_append, ← qe4]; simp only [List.map_cons, List.map_nil, List.filter_cons, List.filter_nil, hl]; first | (guard_hyp h6 : r5a = 2; rw [decide_eq_true (.inl h6)]; try rw [if_pos rfl, show e7nam = e4nam from congrArg TEntry.name_ (qe7.trans qe4.symm)]) | (guard_hyp h7 : r5a = 1; guard_hyp hr8 : rl14Has l1 r5b = false; rw [decide_eq_true (.inr ⟨h7, of_decide_eq_false hr8⟩), if_pos rfl, show e9nam = e4nam from congrArg TEntry.name_ (qe9.trans qe4.symm)]) | (guard_hyp h7 : r5a = 1; rw [decide_eq_false (by rintro (h | ⟨_, h⟩); exact h6 h; exact h (of_decide_eq_true hr8))]; simp) | (rw [decide_eq_false (by rintro (h | ⟨h, _⟩); exact h6 h; exact h7 h)]; simp), by first | omega | (rw [List.length_append, List.length_singleton]; omega)⟩ (by first | (dsimp only; omega) | omega))
 conv => cbv
 have e : w3 = rLooseNames (⟨dnod, dent, dold, dste, droo, dnex⟩ : TDisk) := (by unfold rLooseNames; rw [hr1, hw, List.take_of_length_le (by omega)])
 rw [hr] at e
 subst e
 exact hQ _ _ (.r rfl rfl (by rw [← hw3, List.length_map]; first | omega | (simp; omega)) (by rw [← hw3, ← ho]))
end Go.Proofs.YtmhinjjgpabkfaaGreatDoor.Ab
