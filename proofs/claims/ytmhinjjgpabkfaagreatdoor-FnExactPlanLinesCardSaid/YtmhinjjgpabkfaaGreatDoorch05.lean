/- What functions of the program come to, for all arguments in the given bounds. -/
import Derived.Test.YtmhinjjgpabkfaaGreatDoorch12b
set_option linter.unusedVariables false
set_option linter.unusedSimpArgs false
namespace Go.Proofs.YtmhinjjgpabkfaaGreatDoor.Ab
open Go Go.Proofs
set_option maxRecDepth 20000
set_option maxHeartbeats 4000000
set_option linter.unusedSimpArgs false
set_option linter.unusedVariables false
def tab_ch05 : List (Nat × TyRow) := [
  (3, ⟨.int .i64, some 1, some false, none, false, [.int .i64], [], some [(.int .i64 0, 0)], none, none, none⟩),
  (9, ⟨.str, some 1, some false, none, false, [.str], [], some [(.string default, 0)], none, none, none⟩),
  (46, ⟨.sl 3, some 1, some false, some (3, 32), false, [.sl 3], [], some [(.slice none 0 0, 3)], some ([.sc (.int .i64 0), .sc (.string default), .sc (.int .i64 0)], 3, 32), none, none⟩),
  (47, ⟨.sl 2, some 1, some false, some (2, 24), false, [.sl 2], [], some [(.slice none 0 0, 2)], some ([.sc (.string default), .sc (.int .i64 0)], 2, 24), none, none⟩),
  (49, ⟨.other, some 6, some true, none, false, [.sl 3, .sl 2, .sl 2, .sl 1, .int .i64, .int .i64], [some (0, 1, false), some (1, 1, false), some (2, 1, false), some (3, 1, false), some (4, 1, false), some (5, 1, false)], some [(.slice none 0 0, 3), (.slice none 0 0, 2), (.slice none 0 0, 2), (.slice none 0 0, 1), (.int .i64 0, 0), (.int .i64 0, 0)], none, some [(0, 1), (1, 1), (2, 1), (3, 1), (4, 1), (5, 1)], none⟩),
  (147, ⟨.other, some 2, some true, none, false, [.str, .int .i64], [some (0, 1, false), some (1, 1, false)], some [(.string default, 0), (.int .i64 0, 0)], none, some [(0, 1), (1, 1)], some [.str, .int]⟩),
  (149, ⟨.other, some 3, some true, none, false, [.int .i64, .str, .int .i64], [some (0, 1, false), some (1, 1, false), some (2, 1, false)], some [(.int .i64 0, 0), (.string default, 0), (.int .i64 0, 0)], none, some [(0, 1), (1, 1), (2, 1)], some [.int, .str, .int]⟩)]
theorem tab_ch05_ok : TabOk Tryz.prog tab_ch05 := TabOk.of (by kernel_rfl)
theorem su_ch05 : Setup Tryz.prog tab_ch05 := ⟨tab_ch05_ok, mixed⟩
def idxI {α : Type} (p : α → Bool) (l : List α) : Int := if l.findIdx p < l.length then (l.findIdx p : Int) else -1
section
variable {α : Type} {p : α → Bool} {l : List α} {i : Int}
theorem idxI_at (h0 : 0 ≤ i) (hi : i.toNat < l.length) (h : p l[i.toNat] = true) (hb : ∀ (j : Nat) (hj : j < l.length), j < i.toNat → p l[j] = false) : i = idxI p l := by
  have e : l.findIdx p = i.toNat := (List.findIdx_eq hi).2 ⟨h, fun j hji => hb j (by omega) hji⟩
  unfold idxI
  rw [e, if_pos hi]
  omega
theorem idxI_none (hb : ∀ (j : Nat) (hj : j < l.length), p l[j] = false) : -1 = idxI p l := by
  unfold idxI
  rw [if_neg]
  intro hlt
  have := List.findIdx_getElem (w := hlt)
  rw [hb _ hlt] at this
  cases this
theorem idxI_b (e : idxI p l = i) : -1 ≤ i ∧ i < l.length := by
  rw [← e]
  unfold idxI
  split <;> omega
theorem idxI_get (e : idxI p l = i) (h : 0 ≤ i) : ∃ hi : i.toNat < l.length, p l[i.toNat] = true := by
  unfold idxI at e
  split at e
  · rename_i hlt
    have e2 : i.toNat = l.findIdx p := by omega
    refine ⟨by omega, ?_⟩
    have := List.findIdx_getElem (w := hlt)
    simpa only [e2] using this
  · omega
theorem idxI_ne (e : idxI p l = i) (h : i < 0) : ∀ x ∈ l, p x = false := by
  unfold idxI at e
  split at e
  · omega
  · rename_i hlt
    intro x hx
    cases hp : p x
    · rfl
    · exact absurd (List.findIdx_lt_length_of_exists ⟨x, hx, hp⟩) hlt
end
def rplaceOf_1 (e : TEntry) (name : ByteArray) : Bool := decide (e.name_ = name)
def rIndexFunc_placeOf_1 (l : List TEntry) (name : ByteArray) : Int := idxI (fun e => rplaceOf_1 e name) l
def rplaceOf (l : List TEntry) (name : ByteArray) : Int := rIndexFunc_placeOf_1 l name
def rnodeOf_1 (n : TNode) (id : Int) : Bool := decide (n.id_ = id)
def rIndexFunc_nodeOf_1 (l : List TNode) (id : Int) : Int := idxI (fun n => rnodeOf_1 n id) l
def rnodeOf (d : TDisk) (id : Int) : Int := rIndexFunc_nodeOf_1 d.nodes_ id
def rl05Node (d : TDisk) (id : Int) : Int := rnodeOf d id
def rEntryAt (l : List TEntry) (name : ByteArray) : Int := if rplaceOf l name < 0 then 0 else (l.getD (rplaceOf l name).toNat ⟨tx [], 0⟩).id_
def rl06Has (l : List TEntry) (name : ByteArray) : Bool := decide (0 ≤ rplaceOf l name)
def rnodeAt (d : TDisk) (name : ByteArray) : Int := if rplaceOf d.entries_ name < 0 then -1 else rnodeOf d (rEntryAt d.entries_ name)
def rNodeAt (d : TDisk) (name : ByteArray) : TNode × Bool := if rnodeAt d name < 0 then (⟨0, tx [], 0⟩, false) else (d.nodes_.getD (rnodeAt d name).toNat ⟨0, tx [], 0⟩, true)
def rReadFile (d : TDisk) (name : ByteArray) : ByteArray × Bool := ((rNodeAt d name).1.text_, (rNodeAt d name).2)
def okD (d : TDisk) : Prop := d.nodes_.length ≤ 1048576 ∧ (∀ n ∈ d.nodes_, n.text_.size ≤ 1048576) ∧ d.entries_.length ≤ 1048576 ∧ (∀ e ∈ d.entries_, e.name_.size ≤ 1048576) ∧ d.old_.length ≤ 1048576 ∧ d.steps_.length ≤ 1048576
theorem gD {α : Type} {l : List α} {k : Nat} {d : α} (h : k < l.length) : l[k] = l.getD k d := by rw [List.getD_eq_getElem?_getD, List.getElem?_eq_getElem h]; rfl
theorem rplaceOf_lt {l : List TEntry} {name : ByteArray} {i : Int} (e : rplaceOf l name = i) : -1 ≤ i ∧ i < l.length := idxI_b e
theorem rnodeOf_lt {d : TDisk} {id i : Int} (e : rnodeOf d id = i) : -1 ≤ i ∧ i < d.nodes_.length := idxI_b e
theorem rnodeAt_lt {d : TDisk} {name : ByteArray} {i : Int} (e : rnodeAt d name = i) : -1 ≤ i ∧ i < d.nodes_.length := by
  unfold rnodeAt at e
  split at e
  · omega
  · exact rnodeOf_lt e
theorem rReadFile_b {d : TDisk} {name t : ByteArray} {ok : Bool} (hd : okD d) (e : rReadFile d name = (t, ok)) : t.size ≤ 1048576 := by
  have e1 : (rNodeAt d name).1.text_ = t := congrArg Prod.fst e
  rw [← e1]
  unfold rNodeAt
  split
  · simp [tx_size]
  · rename_i h
    have h2 := rnodeAt_lt (rfl : rnodeAt d name = _)
    have h3 : (rnodeAt d name).toNat < d.nodes_.length := by omega
    rw [← gD h3]
    exact hd.2.1 _ (List.getElem_mem h3)
theorem nodeAt_spec {d : TDisk} {name : ByteArray} : rNodeAt d name = if rl05Node d (rEntryAt d.entries_ name) < 0 ∨ rl06Has d.entries_ name = false then (⟨0, tx [], 0⟩, false) else (d.nodes_.getD (rl05Node d (rEntryAt d.entries_ name)).toNat ⟨0, tx [], 0⟩, true) := by
  unfold rNodeAt rnodeAt rl05Node rl06Has
  by_cases h : rplaceOf d.entries_ name < 0
  · rw [if_pos h, if_pos (by omega), if_pos (.inr (by simp; omega))]
  · rw [if_neg h]
    by_cases h2 : rnodeOf d (rEntryAt d.entries_ name) < 0
    · rw [if_pos h2, if_pos (.inl h2)]
    · rw [if_neg h2, if_neg]
      rintro (h3 | h3)
      · exact h2 h3
      · simp at h3; omega
theorem FiplaceOf_1 {enam : ByteArray} {eid : Int} {name : ByteArray} {o : Bool}  (hr : rplaceOf_1 (⟨enam, eid⟩ : TEntry) name = o)  : Fn Tryz.prog 228 [.agg [S enam, I eid], .ptr 0 0 0] [.box 9 [S name]] ⟨B o, [], []⟩ := by
 refine Fn.goR su_ch05 Tryz.func228 fun P hP Q hQ => ?_
 conv => cbv
 refine .eql (fun h1 => ?_) fun h1 => ?_
 conv => cbv
 have e : true = rplaceOf_1 (⟨enam, eid⟩ : TEntry) name := (by unfold rplaceOf_1; symm; rw [decide_eq_true_eq]; exact h1)
 rw [hr] at e
 subst e
 exact hQ _ _ (.of [] (.inl rfl) rfl rfl rfl rfl)
 conv => cbv
 have e : false = rplaceOf_1 (⟨enam, eid⟩ : TEntry) name := (by unfold rplaceOf_1; symm; rw [decide_eq_false_iff_not]; exact h1)
 rw [hr] at e
 subst e
 exact hQ _ _ (.of [] (.inl rfl) rfl rfl rfl rfl)
theorem FiDisk_nodeOf_1 {nid : Int} {ntex : ByteArray} {nsur : Int} {id : Int} {o : Bool}  (hr : rnodeOf_1 (⟨nid, ntex, nsur⟩ : TNode) id = o)  : Fn Tryz.prog 230 [.agg [I nid, S ntex, I nsur], .ptr 0 0 0] [.box 3 [I id]] ⟨B o, [], []⟩ := by
 refine Fn.goR su_ch05 Tryz.func230 fun P hP Q hQ => ?_
 conv => cbv
 refine .eql (fun h1 => ?_) fun h1 => ?_
 conv => cbv
 have e : true = rnodeOf_1 (⟨nid, ntex, nsur⟩ : TNode) id := (by unfold rnodeOf_1; symm; rw [decide_eq_true_eq]; exact h1)
 rw [hr] at e
 subst e
 exact hQ _ _ (.of [] (.inl rfl) rfl rfl rfl rfl)
 conv => cbv
 have e : false = rnodeOf_1 (⟨nid, ntex, nsur⟩ : TNode) id := (by unfold rnodeOf_1; symm; rw [decide_eq_false_iff_not]; exact h1)
 rw [hr] at e
 subst e
 exact hQ _ _ (.of [] (.inl rfl) rfl rfl rfl rfl)
theorem FlIndexFunc_placeOf_1 {l : List TEntry} {xl : List (List D)} {name : ByteArray} {o : Int} (hl : l.map eEntry = xl) (hn : l.length < 2 ^ 40) (hr : rIndexFunc_placeOf_1 l name = o)  : Fn Tryz.prog 227 [.d (.row 2 xl), .clo 228 [.ptr 0 0 0]] [.box 9 [S name]] ⟨I o, [], []⟩ := by
 refine Fn.goR su_ch05 Tryz.func227 fun P hP Q hQ => ?_
 conv => cbv
 refine .go hl fun v1 hv1 => ?_
 conv => cbv
 refine LoopW.lp (κ := Int) su_ch05 hP [] [0, 1, 7] (fun i8 => [(8, I i8)]) (fun i8 => [])
   (fun i8 => 0 ≤ i8 ∧ i8 ≤ l.length ∧ ∀ (j : Nat) (hj : j < l.length), j < i8.toNat → rplaceOf_1 l[j] name = false)
   (fun i8 => (l.length - i8).toNat) (0) ⟨by omega, by omega, fun j _ h => by simp at h⟩ ⟨rfl, trivial⟩ rfl ?_
 rintro i8 J ⟨h0, h1, hb⟩ hJ
 conv => cbv
 refine .lss (fun h2 => ?_) fun h2 => ?_
 conv => cbv
 refine .go i8.toNat hl fun hje3 ⟨e3nam, e3id⟩ qe3 => ?_
 conv => cbv
 generalize hr4 : rplaceOf_1 (⟨e3nam, e3id⟩ : TEntry) name = r4
 refine .bx [0] [] hP (FiplaceOf_1 hr4) rfl rfl rfl rfl ?_
 cases r4
 conv => cbv
 refine .add fun v5 hv5 => ?_
 conv => cbv
 exact .go [] (v5) (hJ _ ⟨by omega, by omega, fun j hj h => if e : j = i8.toNat then by subst e; rw [← qe3]; exact hr4 else hb j hj (by omega)⟩ (by first | (dsimp only; omega) | omega))
 conv => cbv
 have e : i8 = rIndexFunc_placeOf_1 l name := (by exact idxI_at (p := fun x => rplaceOf_1 x name) h0 (by omega) (qe3 ▸ hr4) hb)
 rw [hr] at e
 subst e
 exact hQ _ _ (.of [] (.inl rfl) rfl rfl rfl rfl)
 conv => cbv
 have e : (-1) = rIndexFunc_placeOf_1 l name := (by exact idxI_none (p := fun x => rplaceOf_1 x name) fun j hj => hb j hj (by omega))
 rw [hr] at e
 subst e
 exact hQ _ _ (.of [] (.inl rfl) rfl rfl rfl rfl)
theorem FlIndexFunc_nodeOf_1 {l : List TNode} {xl : List (List D)} {id : Int} {o : Int} (hl : l.map eNode = xl) (hn : l.length < 2 ^ 40) (hr : rIndexFunc_nodeOf_1 l id = o)  : Fn Tryz.prog 229 [.d (.row 3 xl), .clo 230 [.ptr 0 0 0]] [.box 3 [I id]] ⟨I o, [], []⟩ := by
 refine Fn.goR su_ch05 Tryz.func229 fun P hP Q hQ => ?_
 conv => cbv
 refine .go hl fun v1 hv1 => ?_
 conv => cbv
 refine LoopW.lp (κ := Int) su_ch05 hP [] [0, 1, 7] (fun i8 => [(8, I i8)]) (fun i8 => [])
   (fun i8 => 0 ≤ i8 ∧ i8 ≤ l.length ∧ ∀ (j : Nat) (hj : j < l.length), j < i8.toNat → rnodeOf_1 l[j] id = false)
   (fun i8 => (l.length - i8).toNat) (0) ⟨by omega, by omega, fun j _ h => by simp at h⟩ ⟨rfl, trivial⟩ rfl ?_
 rintro i8 J ⟨h0, h1, hb⟩ hJ
 conv => cbv
 refine .lss (fun h2 => ?_) fun h2 => ?_
 conv => cbv
 refine .go i8.toNat hl fun hje3 ⟨e3id, e3tex, e3sur⟩ qe3 => ?_
 conv => cbv
 generalize hr4 : rnodeOf_1 (⟨e3id, e3tex, e3sur⟩ : TNode) id = r4
 refine .bx [0] [] hP (FiDisk_nodeOf_1 hr4) rfl rfl rfl rfl ?_
 cases r4
 conv => cbv
 refine .add fun v5 hv5 => ?_
 conv => cbv
 exact .go [] (v5) (hJ _ ⟨by omega, by omega, fun j hj h => if e : j = i8.toNat then by subst e; rw [← qe3]; exact hr4 else hb j hj (by omega)⟩ (by first | (dsimp only; omega) | omega))
 conv => cbv
 have e : i8 = rIndexFunc_nodeOf_1 l id := (by exact idxI_at (p := fun x => rnodeOf_1 x id) h0 (by omega) (qe3 ▸ hr4) hb)
 rw [hr] at e
 subst e
 exact hQ _ _ (.of [] (.inl rfl) rfl rfl rfl rfl)
 conv => cbv
 have e : (-1) = rIndexFunc_nodeOf_1 l id := (by exact idxI_none (p := fun x => rnodeOf_1 x id) fun j hj => hb j hj (by omega))
 rw [hr] at e
 subst e
 exact hQ _ _ (.of [] (.inl rfl) rfl rfl rfl rfl)
theorem FiplaceOf {l : List TEntry} {xl : List (List D)} {name : ByteArray} {o : Int} (hl : l.map eEntry = xl) (hn : l.length < 2 ^ 40) (hr : rplaceOf l name = o)  : Fn Tryz.prog 194 [.d (.row 2 xl), S name] [] ⟨I o, [], []⟩ := by
 refine Fn.go su_ch05 Tryz.func194 fun P hP Q hQ => ?_
 conv => cbv
 generalize hr1 : rIndexFunc_placeOf_1 l name = r1
 refine .bx [0] [] hP (FlIndexFunc_placeOf_1 hl (by omega) hr1) rfl rfl rfl rfl ?_
 conv => cbv
 have e : r1 = rplaceOf l name := (by unfold rplaceOf; exact hr1.symm)
 rw [hr] at e
 subst e
 exact hQ _ _ (.i rfl rfl)
theorem FiDisk_nodeOf {dnod : List TNode} {xdnod : List (List D)} {dent : List TEntry} {xdent : List (List D)} {dold : List TEntry} {xdold : List (List D)} {dste : List ByteArray} {xdste : List (List D)} {droo : Int} {dnex : Int} {id : Int} {o : Int} (hdnod : dnod.map eNode = xdnod) (hdent : dent.map eEntry = xdent) (hdold : dold.map eEntry = xdold) (hdste : dste.map cS = xdste) (hn : dnod.length < 2 ^ 40) (hr : rnodeOf (⟨dnod, dent, dold, dste, droo, dnex⟩ : TDisk) id = o)  : Fn Tryz.prog 195 [.agg [.d (.row 3 xdnod), .d (.row 2 xdent), .d (.row 2 xdold), .d (.row 1 xdste), I droo, I dnex], I id] [] ⟨I o, [], []⟩ := by
 refine Fn.go su_ch05 Tryz.func195 fun P hP Q hQ => ?_
 conv => cbv
 generalize hr1 : rIndexFunc_nodeOf_1 dnod id = r1
 refine .bx [1] [] hP (FlIndexFunc_nodeOf_1 hdnod (by omega) hr1) rfl rfl rfl rfl ?_
 conv => cbv
 have e : r1 = rnodeOf (⟨dnod, dent, dold, dste, droo, dnex⟩ : TDisk) id := (by unfold rnodeOf; exact hr1.symm)
 rw [hr] at e
 subst e
 exact hQ _ _ (.i rfl rfl)
theorem FiDisk_nodeAt {dnod : List TNode} {xdnod : List (List D)} {dent : List TEntry} {xdent : List (List D)} {dold : List TEntry} {xdold : List (List D)} {dste : List ByteArray} {xdste : List (List D)} {droo : Int} {dnex : Int} {name : ByteArray} {o : Int} (hdnod : dnod.map eNode = xdnod) (hdent : dent.map eEntry = xdent) (hdold : dold.map eEntry = xdold) (hdste : dste.map cS = xdste) (hd : okD ⟨dnod, dent, dold, dste, droo, dnex⟩) (hr : rnodeAt (⟨dnod, dent, dold, dste, droo, dnex⟩ : TDisk) name = o)  : Fn Tryz.prog 162 [.agg [.d (.row 3 xdnod), .d (.row 2 xdent), .d (.row 2 xdold), .d (.row 1 xdste), I droo, I dnex], S name] [] ⟨I o, [], []⟩ := by
 refine Fn.go su_ch05 Tryz.func162 fun P hP Q hQ => ?_
 conv => cbv
 obtain ⟨d1, d2, d3, d4, d5, d6⟩ := hd
 simp only [] at d1 d2 d3 d4 d5 d6
 generalize hr1 : rplaceOf dent name = r1
 refine .dd hP (FiplaceOf hdent (by omega) hr1) ?_
 conv => cbv
 have hb := rplaceOf_lt hr1
 refine .lss (fun h2 => ?_) fun h2 => ?_
 conv => cbv
 have e : (-1) = rnodeAt (⟨dnod, dent, dold, dste, droo, dnex⟩ : TDisk) name := (by unfold rnodeAt; rw [if_pos (by simp only []; omega)])
 rw [hr] at e
 subst e
 exact hQ _ _ (.i rfl rfl)
 conv => cbv
 refine .go r1.toNat hdent fun hje3 ⟨e3nam, e3id⟩ qe3 => ?_
 conv => cbv
 generalize hr4 : rnodeOf (⟨dnod, dent, dold, dste, droo, dnex⟩ : TDisk) e3id = r4
 refine .dd hP (FiDisk_nodeOf hdnod hdent hdold hdste (by omega) hr4) ?_
 conv => cbv
 have e : r4 = rnodeAt (⟨dnod, dent, dold, dste, droo, dnex⟩ : TDisk) name := (by unfold rnodeAt rEntryAt; simp only []; rw [hr1, if_neg (by omega), if_neg (by omega), ← gD hje3, ← qe3]; exact hr4.symm)
 rw [hr] at e
 subst e
 exact hQ _ _ (.i rfl rfl)
theorem FiNodeAt {dnod : List TNode} {xdnod : List (List D)} {dent : List TEntry} {xdent : List (List D)} {dold : List TEntry} {xdold : List (List D)} {dste : List ByteArray} {xdste : List (List D)} {droo : Int} {dnex : Int} {name : ByteArray} {oaid : Int} {oatex : ByteArray} {oasur : Int} {ob : Bool} (hdnod : dnod.map eNode = xdnod) (hdent : dent.map eEntry = xdent) (hdold : dold.map eEntry = xdold) (hdste : dste.map cS = xdste) (hd : okD ⟨dnod, dent, dold, dste, droo, dnex⟩) (hr : rNodeAt (⟨dnod, dent, dold, dste, droo, dnex⟩ : TDisk) name = (⟨oaid, oatex, oasur⟩, ob))  : Fn Tryz.prog 121 [.agg [.d (.row 3 xdnod), .d (.row 2 xdent), .d (.row 2 xdold), .d (.row 1 xdste), I droo, I dnex], S name] [] ⟨.tup [.agg [I oaid, S oatex, I oasur], B ob], [], []⟩ := by
 refine Fn.go su_ch05 Tryz.func121 fun P hP Q hQ => ?_
 conv => cbv
 generalize hr1 : rnodeAt (⟨dnod, dent, dold, dste, droo, dnex⟩ : TDisk) name = r1
 refine .dd hP (FiDisk_nodeAt hdnod hdent hdold hdste hd hr1) ?_
 conv => cbv
 have hb := rnodeAt_lt hr1
 simp only [] at hb
 refine .lss (fun h2 => ?_) fun h2 => ?_
 conv => cbv
 have e : ((⟨0, tx [], 0⟩ : TNode), false) = rNodeAt (⟨dnod, dent, dold, dste, droo, dnex⟩ : TDisk) name := (by unfold rNodeAt; rw [if_pos (by rw [hr1]; omega)])
 rw [hr] at e
 simp only [Prod.mk.injEq, TNode.mk.injEq] at e
 obtain ⟨⟨rfl, rfl, rfl⟩, rfl⟩ := e
 refine hQ _ _ ?_
 exact .many (.inl rfl) rfl rfl (.agg (.d rfl rfl (.d rfl rfl (.d rfl rfl (.nil)))) (.d rfl rfl (.nil)))
 conv => cbv
 refine .go r1.toNat hdnod fun hje3 ⟨e3id, e3tex, e3sur⟩ qe3 => ?_
 conv => cbv
 have e : ((⟨e3id, e3tex, e3sur⟩ : TNode), true) = rNodeAt (⟨dnod, dent, dold, dste, droo, dnex⟩ : TDisk) name := (by unfold rNodeAt; rw [hr1, if_neg (by omega)]; simp only []; rw [← gD (show r1.toNat < dnod.length by omega)]; rw [← qe3])
 rw [hr] at e
 simp only [Prod.mk.injEq, TNode.mk.injEq] at e
 obtain ⟨⟨rfl, rfl, rfl⟩, rfl⟩ := e
 refine hQ _ _ ?_
 exact .many (.inl rfl) rfl rfl (.agg (.d rfl rfl (.d rfl rfl (.d rfl rfl (.nil)))) (.d rfl rfl (.nil)))
theorem FiReadFile {dnod : List TNode} {xdnod : List (List D)} {dent : List TEntry} {xdent : List (List D)} {dold : List TEntry} {xdold : List (List D)} {dste : List ByteArray} {xdste : List (List D)} {droo : Int} {dnex : Int} {name : ByteArray} {oa : ByteArray} {ob : Bool} (hdnod : dnod.map eNode = xdnod) (hdent : dent.map eEntry = xdent) (hdold : dold.map eEntry = xdold) (hdste : dste.map cS = xdste) (hd : okD ⟨dnod, dent, dold, dste, droo, dnex⟩) (hr : rReadFile (⟨dnod, dent, dold, dste, droo, dnex⟩ : TDisk) name = (oa, ob))  : Fn Tryz.prog 71 [.agg [.d (.row 3 xdnod), .d (.row 2 xdent), .d (.row 2 xdold), .d (.row 1 xdste), I droo, I dnex], S name] [] ⟨.tup [S oa, B ob], [], []⟩ := by
 refine Fn.go su_ch05 Tryz.func71 fun P hP Q hQ => ?_
 conv => cbv
 rcases hr1 : rNodeAt (⟨dnod, dent, dold, dste, droo, dnex⟩ : TDisk) name with ⟨⟨r1aid, r1atex, r1asur⟩, r1b⟩
 refine .dd hP (FiNodeAt hdnod hdent hdold hdste hd hr1) ?_
 conv => cbv
 have e : (r1atex, r1b) = rReadFile (⟨dnod, dent, dold, dste, droo, dnex⟩ : TDisk) name := (by unfold rReadFile; rw [hr1])
 rw [hr] at e
 simp only [Prod.mk.injEq] at e
 obtain ⟨rfl, rfl⟩ := e
 refine hQ _ _ ?_
 exact .many (.inl rfl) rfl rfl (.d rfl rfl (.d rfl rfl (.nil)))
theorem FsEntryAt {l : List TEntry} {xl : List (List D)} {name : ByteArray} {o : Int} (hl : l.map eEntry = xl) (hn : l.length < 2 ^ 40) (hr : rEntryAt l name = o)  : Fn Tryz.prog 151 [.d (.row 2 xl), S name] [] ⟨I o, [], []⟩ := by
 refine Fn.go su_ch05 Tryz.func151 fun P hP Q hQ => ?_
 conv => cbv
 refine LoopW.lp (κ := Int) su_ch05 hP [] [0, 1] (fun i5 => [(5, I i5)]) (fun i5 => [])
   (fun i5 => 0 ≤ i5 ∧ i5 ≤ l.length ∧ ∀ (j : Nat) (hj : j < l.length), j < i5.toNat → rplaceOf_1 l[j] name = false)
   (fun i5 => (l.length - i5).toNat) (0) ⟨by omega, by omega, fun j _ h => by simp at h⟩ ⟨rfl, trivial⟩ rfl ?_
 rintro i5 J ⟨h0, h1, hb⟩ hJ
 conv => cbv
 refine .go hl fun v1 hv1 => ?_
 conv => cbv
 refine .lss (fun h2 => ?_) fun h2 => ?_
 conv => cbv
 refine .go i5.toNat hl fun hje3 ⟨e3nam, e3id⟩ qe3 => ?_
 conv => cbv
 refine .eql (fun h4 => ?_) fun h4 => ?_
 conv => cbv
 refine .go i5.toNat hl fun hje5 ⟨e5nam, e5id⟩ qe5 => ?_
 conv => cbv
 have e : e5id = rEntryAt l name := (by have e2 : rplaceOf l name = i5 := (idxI_at (p := fun x => rplaceOf_1 x name) (l := l) h0 (by omega) (by rw [← qe3]; unfold rplaceOf_1; rw [decide_eq_true_eq]; exact h4) hb).symm; unfold rEntryAt; rw [e2, if_neg (by omega), ← gD hje5, ← qe5])
 rw [hr] at e
 subst e
 exact hQ _ _ (.i rfl rfl)
 conv => cbv
 refine .add fun v5 hv5 => ?_
 conv => cbv
 exact .go [] (v5) (hJ _ ⟨by omega, by omega, fun j hj h => if e : j = i5.toNat then by subst e; rw [← qe3]; unfold rplaceOf_1; rw [decide_eq_false_iff_not]; exact h4 else hb j hj (by omega)⟩ (by first | (dsimp only; omega) | omega))
 conv => cbv
 have e : 0 = rEntryAt l name := (by have e2 : rplaceOf l name = -1 := (idxI_none (p := fun x => rplaceOf_1 x name) fun j hj => hb j hj (by omega)).symm; unfold rEntryAt; rw [e2, if_pos (by omega)])
 rw [hr] at e
 subst e
 exact hQ _ _ (.i rfl rfl)
theorem Fsl05Node {dnod : List TNode} {xdnod : List (List D)} {dent : List TEntry} {xdent : List (List D)} {dold : List TEntry} {xdold : List (List D)} {dste : List ByteArray} {xdste : List (List D)} {droo : Int} {dnex : Int} {id : Int} {o : Int} (hdnod : dnod.map eNode = xdnod) (hdent : dent.map eEntry = xdent) (hdold : dold.map eEntry = xdold) (hdste : dste.map cS = xdste) (hn : dnod.length < 2 ^ 40) (hr : rl05Node (⟨dnod, dent, dold, dste, droo, dnex⟩ : TDisk) id = o)  : Fn Tryz.prog 150 [.agg [.d (.row 3 xdnod), .d (.row 2 xdent), .d (.row 2 xdold), .d (.row 1 xdste), I droo, I dnex], I id] [] ⟨I o, [], []⟩ := by
 refine Fn.go su_ch05 Tryz.func150 fun P hP Q hQ => ?_
 conv => cbv
 refine LoopW.lp (κ := Int) su_ch05 hP [] [1, 2] (fun i5 => [(5, I i5)]) (fun i5 => [])
   (fun i5 => 0 ≤ i5 ∧ i5 ≤ dnod.length ∧ ∀ (j : Nat) (hj : j < dnod.length), j < i5.toNat → rnodeOf_1 dnod[j] id = false)
   (fun i5 => (dnod.length - i5).toNat) (0) ⟨by omega, by omega, fun j _ h => by simp at h⟩ ⟨rfl, trivial⟩ rfl ?_
 rintro i5 J ⟨h0, h1, hb⟩ hJ
 conv => cbv
 refine .go hdnod fun v1 hv1 => ?_
 conv => cbv
 refine .lss (fun h2 => ?_) fun h2 => ?_
 conv => cbv
 refine .go i5.toNat hdnod fun hje3 ⟨e3id, e3tex, e3sur⟩ qe3 => ?_
 conv => cbv
 refine .eql (fun h4 => ?_) fun h4 => ?_
 conv => cbv
 have e : i5 = rl05Node (⟨dnod, dent, dold, dste, droo, dnex⟩ : TDisk) id := (by exact idxI_at (p := fun x => rnodeOf_1 x id) (l := dnod) h0 (by omega) (by rw [← qe3]; unfold rnodeOf_1; rw [decide_eq_true_eq]; exact h4) hb)
 rw [hr] at e
 subst e
 exact hQ _ _ (.i rfl rfl)
 conv => cbv
 refine .add fun v5 hv5 => ?_
 conv => cbv
 exact .go [] (v5) (hJ _ ⟨by omega, by omega, fun j hj h => if e : j = i5.toNat then by subst e; rw [← qe3]; unfold rnodeOf_1; rw [decide_eq_false_iff_not]; exact h4 else hb j hj (by omega)⟩ (by first | (dsimp only; omega) | omega))
 conv => cbv
 have e : (-1) = rl05Node (⟨dnod, dent, dold, dste, droo, dnex⟩ : TDisk) id := (by exact idxI_none (p := fun x => rnodeOf_1 x id) (l := dnod) fun j hj => hb j hj (by omega))
 rw [hr] at e
 subst e
 exact hQ _ _ (.i rfl rfl)
theorem Fsl06Has {l : List TEntry} {xl : List (List D)} {name : ByteArray} {o : Bool} (hl : l.map eEntry = xl) (hn : l.length < 2 ^ 40) (hr : rl06Has l name = o)  : Fn Tryz.prog 152 [.d (.row 2 xl), S name] [] ⟨B o, [], []⟩ := by
 refine Fn.go su_ch05 Tryz.func152 fun P hP Q hQ => ?_
 conv => cbv
 refine LoopW.lp (κ := Int) su_ch05 hP [] [0, 1] (fun i5 => [(5, I i5)]) (fun i5 => [])
   (fun i5 => 0 ≤ i5 ∧ i5 ≤ l.length ∧ ∀ (j : Nat) (hj : j < l.length), j < i5.toNat → rplaceOf_1 l[j] name = false)
   (fun i5 => (l.length - i5).toNat) (0) ⟨by omega, by omega, fun j _ h => by simp at h⟩ ⟨rfl, trivial⟩ rfl ?_
 rintro i5 J ⟨h0, h1, hb⟩ hJ
 conv => cbv
 refine .go hl fun v1 hv1 => ?_
 conv => cbv
 refine .lss (fun h2 => ?_) fun h2 => ?_
 conv => cbv
 refine .go i5.toNat hl fun hje3 ⟨e3nam, e3id⟩ qe3 => ?_
 conv => cbv
 refine .eql (fun h4 => ?_) fun h4 => ?_
 conv => cbv
 have e : true = rl06Has l name := (by have e2 : rplaceOf l name = i5 := (idxI_at (p := fun x => rplaceOf_1 x name) (l := l) h0 (by omega) (by rw [← qe3]; unfold rplaceOf_1; rw [decide_eq_true_eq]; exact h4) hb).symm; unfold rl06Has; rw [e2]; symm; rw [decide_eq_true_eq]; omega)
 rw [hr] at e
 subst e
 exact hQ _ _ (.b rfl rfl)
 conv => cbv
 refine .add fun v5 hv5 => ?_
 conv => cbv
 exact .go [] (v5) (hJ _ ⟨by omega, by omega, fun j hj h => if e : j = i5.toNat then by subst e; rw [← qe3]; unfold rplaceOf_1; rw [decide_eq_false_iff_not]; exact h4 else hb j hj (by omega)⟩ (by first | (dsimp only; omega) | omega))
 conv => cbv
 have e : false = rl06Has l name := (by have e2 : rplaceOf l name = -1 := (idxI_none (p := fun x => rplaceOf_1 x name) fun j hj => hb j hj (by omega)).symm; unfold rl06Has; rw [e2]; rfl)
 rw [hr] at e
 subst e
 exact hQ _ _ (.b rfl rfl)
theorem FsNodeAt {dnod : List TNode} {xdnod : List (List D)} {dent : List TEntry} {xdent : List (List D)} {dold : List TEntry} {xdold : List (List D)} {dste : List ByteArray} {xdste : List (List D)} {droo : Int} {dnex : Int} {name : ByteArray} {oaid : Int} {oatex : ByteArray} {oasur : Int} {ob : Bool} (hdnod : dnod.map eNode = xdnod) (hdent : dent.map eEntry = xdent) (hdold : dold.map eEntry = xdold) (hdste : dste.map cS = xdste) (hd : okD ⟨dnod, dent, dold, dste, droo, dnex⟩) (hr : rNodeAt (⟨dnod, dent, dold, dste, droo, dnex⟩ : TDisk) name = (⟨oaid, oatex, oasur⟩, ob))  : Fn Tryz.prog 110 [.agg [.d (.row 3 xdnod), .d (.row 2 xdent), .d (.row 2 xdold), .d (.row 1 xdste), I droo, I dnex], S name] [] ⟨.tup [.agg [I oaid, S oatex, I oasur], B ob], [], []⟩ := by
 refine Fn.go su_ch05 Tryz.func110 fun P hP Q hQ => ?_
 conv => cbv
 obtain ⟨d1, d2, d3, d4, d5, d6⟩ := hd
 simp only [] at d1 d2 d3 d4 d5 d6
 generalize hr1 : rEntryAt dent name = r1
 refine .dd hP (FsEntryAt hdent (by omega) hr1) ?_
 conv => cbv
 generalize hr2 : rl05Node (⟨dnod, dent, dold, dste, droo, dnex⟩ : TDisk) r1 = r2
 refine .dd hP (Fsl05Node hdnod hdent hdold hdste (by omega) hr2) ?_
 conv => cbv
 have hb := rnodeOf_lt (d := ⟨dnod, dent, dold, dste, droo, dnex⟩) (id := r1) hr2
 simp only [] at hb
 refine .lss (fun h3 => ?_) fun h3 => ?_
 conv => cbv
 have e : ((⟨0, tx [], 0⟩ : TNode), false) = rNodeAt (⟨dnod, dent, dold, dste, droo, dnex⟩ : TDisk) name := (by rw [nodeAt_spec, if_pos (.inl (by simp only []; rw [hr1, hr2]; omega))])
 rw [hr] at e
 simp only [Prod.mk.injEq, TNode.mk.injEq] at e
 obtain ⟨⟨rfl, rfl, rfl⟩, rfl⟩ := e
 refine hQ _ _ ?_
 exact .many (.inl rfl) rfl rfl (.agg (.d rfl rfl (.d rfl rfl (.d rfl rfl (.nil)))) (.d rfl rfl (.nil)))
 conv => cbv
 generalize hr4 : rl06Has dent name = r4
 refine .dd hP (Fsl06Has hdent (by omega) hr4) ?_
 cases r4
 conv => cbv
 have e : ((⟨0, tx [], 0⟩ : TNode), false) = rNodeAt (⟨dnod, dent, dold, dste, droo, dnex⟩ : TDisk) name := (by rw [nodeAt_spec, if_pos (.inr hr4)])
 rw [hr] at e
 simp only [Prod.mk.injEq, TNode.mk.injEq] at e
 obtain ⟨⟨rfl, rfl, rfl⟩, rfl⟩ := e
 refine hQ _ _ ?_
 exact .many (.inl rfl) rfl rfl (.agg (.d rfl rfl (.d rfl rfl (.d rfl rfl (.nil)))) (.d rfl rfl (.nil)))
 conv => cbv
 refine .go r2.toNat hdnod fun hje5 ⟨e5id, e5tex, e5sur⟩ qe5 => ?_
 conv => cbv
 have e : ((⟨e5id, e5tex, e5sur⟩ : TNode), true) = rNodeAt (⟨dnod, dent, dold, dste, droo, dnex⟩ : TDisk) name := (by rw [nodeAt_spec, if_neg (by simp only []; rw [hr1, hr2, hr4]; rintro (h | h); omega; cases h)]; simp only []; rw [hr1, hr2, ← gD (show r2.toNat < dnod.length by omega), ← qe5])
 rw [hr] at e
 simp only [Prod.mk.injEq, TNode.mk.injEq] at e
 obtain ⟨⟨rfl, rfl, rfl⟩, rfl⟩ := e
 refine hQ _ _ ?_
 exact .many (.inl rfl) rfl rfl (.agg (.d rfl rfl (.d rfl rfl (.d rfl rfl (.nil)))) (.d rfl rfl (.nil)))
theorem FsReadFile {dnod : List TNode} {xdnod : List (List D)} {dent : List TEntry} {xdent : List (List D)} {dold : List TEntry} {xdold : List (List D)} {dste : List ByteArray} {xdste : List (List D)} {droo : Int} {dnex : Int} {name : ByteArray} {oa : ByteArray} {ob : Bool} (hdnod : dnod.map eNode = xdnod) (hdent : dent.map eEntry = xdent) (hdold : dold.map eEntry = xdold) (hdste : dste.map cS = xdste) (hd : okD ⟨dnod, dent, dold, dste, droo, dnex⟩) (hr : rReadFile (⟨dnod, dent, dold, dste, droo, dnex⟩ : TDisk) name = (oa, ob))  : Fn Tryz.prog 63 [.agg [.d (.row 3 xdnod), .d (.row 2 xdent), .d (.row 2 xdold), .d (.row 1 xdste), I droo, I dnex], S name] [] ⟨.tup [S oa, B ob], [], []⟩ := by
 refine Fn.go su_ch05 Tryz.func63 fun P hP Q hQ => ?_
 conv => cbv
 rcases hr1 : rNodeAt (⟨dnod, dent, dold, dste, droo, dnex⟩ : TDisk) name with ⟨⟨r1aid, r1atex, r1asur⟩, r1b⟩
 refine .dd hP (FsNodeAt hdnod hdent hdold hdste hd hr1) ?_
 conv => cbv
 have e : (r1atex, r1b) = rReadFile (⟨dnod, dent, dold, dste, droo, dnex⟩ : TDisk) name := (by unfold rReadFile; rw [hr1])
 rw [hr] at e
 simp only [Prod.mk.injEq] at e
 obtain ⟨rfl, rfl⟩ := e
 refine hQ _ _ ?_
 exact .many (.inl rfl) rfl rfl (.d rfl rfl (.d rfl rfl (.nil)))
end Go.Proofs.YtmhinjjgpabkfaaGreatDoor.Ab
