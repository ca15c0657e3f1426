/- What functions of the program come to, for all arguments in the given bounds. -/
import Derived.Test.YtamdgfklbjoaiaaEch11
import Derived.Test.YtamdgfklbjoaiaaSH
import Derived.Below
import Derived.Lib.OthersKept
import Derived.Deep.RegionHeld3
import Derived.ProofKit
set_option linter.unusedVariables false
set_option linter.unusedSimpArgs false
namespace Go.Proofs.Ytamdgfklbjoaiaa.Ab
open Go Go.Proofs
set_option maxRecDepth 20000
set_option maxHeartbeats 4000000
set_option linter.unusedSimpArgs false
set_option linter.unusedVariables false
open Go.RowKit
theorem Try.cc (B b : Nat) (bs : List Value) (w : World) (h : Lib.IsBuilder 151 5 B b bs w) :
    Calls Try.prog 140 #[.pointer (some ⟨b, 0, none⟩)] w fun e w' => e = .returned (.tuple #[]) ∧ (Lib.BuilderAt 151 5 B b (.pointer (some ⟨b, 0, none⟩)) bs w' ∧ Below B w w' ∧ Lib.OthersKept 5 (some b) w w') := by
  rcases h with h | h
  · refine (Try.cc_fresh b w h.cell0 h.shape h.frozen0).mono ?_
    rintro e w' ⟨rfl, rfl⟩
    exact ⟨rfl, h.used _, (Below.refl B w).setCell (p := ⟨b, 0, none⟩) h.1 _, (Lib.OthersKept.refl _ _ w).setCell ⟨b, 0, none⟩ rfl _⟩
  · refine (Try.cc_used b w h.cell0).mono ?_
    rintro e w' ⟨rfl, rfl⟩
    exact ⟨rfl, h, Below.refl B _, Lib.OthersKept.refl _ _ _⟩
set_option maxHeartbeats 2000000 in
theorem Try.WriteString (B b : Nat) (bs : List Value) (s : ByteArray) (w : World) (h : Lib.IsBuilder 151 5 B b bs w) (hlen : bs.length + s.size ≤ 140737488355328) (hBw : B ≤ w.heap.size) :
    Calls Try.prog 129 #[.pointer (some ⟨b, 0, none⟩), .string s] w fun e w' => e = .returned (.tuple #[.int .i64 s.size, .nilIface]) ∧ (Lib.BuilderAt 151 5 B b (.pointer (some ⟨b, 0, none⟩)) (bs ++ Lib.strCells s) w' ∧ Below B w w' ∧ Lib.OthersKept 5 (some b) w w') := by
  obtain ⟨i0, hi, hz0, hz1, hz2⟩ := Try.infoByte
  go_enter Try.func129, Try.ntmps129
  go_wp2_with (go_at_call 140; refine (Try.cc B b bs _ h).mono ?_)
  rintro e w1 ⟨rfl, h1, hb1, hk1⟩
  obtain ⟨hB, v, hbk, hown, hne⟩ := h1
  have c0 : w1.cell? ⟨b, 0, none⟩ = some (.pointer (some ⟨b, 0, none⟩)) := by rw [Lib.cell_of_heap hbk]; rfl
  have c1 : w1.cell? ⟨b, 1, none⟩ = some v := by rw [Lib.cell_of_heap hbk]; rfl
  go_wp2_with (at_builtin; refine Lib.wpList_append_own_string _ rfl _ _ 118 9 rfl B 5 i0 Try.underlying118 Try.underlying9 hi hz0 hz1 hz2 _ _ _ rfl hown s rfl ?c3 ?c4 ?c5 ?_)
  case c3 => unfold maxLen; omega
  case c4 => omega
  case c5 => have := hb1.size; omega
  intro v' w2 hown' hgrow _
  have hlt : b < w1.heap.size := by
    rcases Nat.lt_or_ge b w1.heap.size with h' | h'
    · exact h'
    · simp [Array.getElem?_eq_none h'] at hbk
  have hb2 : w2.heap[b]? = some (.cells #[.pointer (some ⟨b, 0, none⟩), v] 151 (0, 0)) := by
    rw [hgrow.block b hlt (fun e => hne e.symm)]
    exact hbk
  have d0 : w2.cell? ⟨b, 0, none⟩ = some (.pointer (some ⟨b, 0, none⟩)) := by rw [Lib.cell_of_heap hb2]; rfl
  have d1 : w2.cell? ⟨b, 1, none⟩ = some v := by rw [Lib.cell_of_heap hb2]; rfl
  have f1 : w2.frozen? ⟨b, 1, none⟩ = false := Lib.frozen_of_heap hb2 1
  obtain ⟨ao, n', cap, rfl⟩ : ∃ ao n' cap, v' = .slice ao n' cap := by
    rcases hown'.2 with ⟨hv, _⟩ | ⟨g, cap, cur, hv, _⟩
    · exact ⟨_, _, _, hv⟩
    · exact ⟨_, _, _, hv⟩
  go_wp2
  go_ret2
  refine ⟨rfl, ?_, ?_, (hk1.grown hgrow (Lib.ownsRowF_kind (World.ownsRowF_of hown))).setCell ⟨b, 1, none⟩ rfl _⟩
  · exact Lib.BuilderAt.put (T := 151) (e := 5) hB hb2 (bs' := bs ++ Lib.strCells s) (by simpa [Lib.strCells_length] using hown') (by decide)
  · exact (hb1.grown hgrow (by have := hb1.size; omega) (fun k hk => (hown.lt k hk).1)).setCell (p := ⟨b, 1, none⟩) hB _
/-! PlacesText of the program, with strings.Builder. -/
def cP (p : Int × Int) : List D := [.sc (.int .i64 p.1), .sc (.int .i64 p.2)]
/-- What the places come to, behind the last one. -/
def plTail : Int × Int → List (Int × Int) → Option (List UInt8)
  | _, [] => some []
  | q, p :: l => if rabove p.1 q.1 = tx [] ∨ rabove p.2 q.2 = tx [] then none else (plTail p l).map fun t => ((rabove p.1 q.1).data.toList ++ (rabove p.2 q.2).data.toList) ++ t
def rPlaces (l : List (Int × Int)) : ByteArray := match plTail (0, 0) l with
  | some t => tx ((rVarText l.length).data.toList ++ t)
  | none => tx []
theorem cells_cons {w : World} {b : Nat} {cs : Array Value} {t : TypeId} {fr : Nat × Nat} (h : w.heap[b]? = some (.cells cs t fr)) (j : Nat) : w.cell? ⟨b, j, none⟩ = cs[j]? := by simp [World.cell?, h]
theorem plTail_wf {l : List (Int × Int)} (h : ∀ p ∈ l, wfI p.1 ∧ wfI p.2) {k : Nat} (hk : k < l.length) : wfI l[k].1 ∧ wfI l[k].2 := h _ (List.getElem_mem hk)
/-- The place ahead of the k-th one. -/
def plLast (l : List (Int × Int)) (k : Nat) : Int × Int := if k = 0 then (0, 0) else l.getD (k - 1) (0, 0)
theorem keep {W W' : World} (h : Below W.heap.size W W') {a : Addr} {v : Value} (hv : W.cell? a = some v) : W'.cell? a = some v := by
  have : a.block < W.heap.size := World.block_lt_of_cell? _ _ hv
  rw [World.cell?_of_block (h.block _ this)]
  exact hv
theorem toList_none {s : ByteArray} : s.toList = [] ↔ s = tx [] := by
  rw [Lib.toList_data]
  constructor
  · intro h; rw [← tx_data s, h]
  · rintro rfl; rfl
theorem isB_keep {T e : TypeId} {B b : Nat} {bs : List Value} {w w' : World} (h : Lib.IsBuilder T e B b bs w) (hb : ∀ (k : Nat) cur (t : TypeId) fr, w.heap[k]? = some (.cells cur t fr) → t = T ∨ t = e → w'.heap[k]? = some (.cells cur t fr)) : Lib.IsBuilder T e B b bs w' := by
  have key : ∀ p, Lib.BuilderAt T e B b p bs w → Lib.BuilderAt T e B b p bs w' := by
    rintro p ⟨hB, v, hk, hown, hne⟩
    refine ⟨hB, v, hb _ _ _ _ hk (.inl rfl), ?_, hne⟩
    obtain ⟨h1, h2⟩ := hown
    refine ⟨h1, ?_⟩
    rcases h2 with h2 | ⟨g, cap, cur, hv, hg, hr⟩
    · exact .inl h2
    · exact .inr ⟨g, cap, cur, hv, hg, hb _ _ _ _ hr.1 (.inr rfl), hr.2⟩
  exact h.elim (fun h => .inl (key _ h)) (fun h => .inr (key _ h))
theorem set2_at {w : World} {b : Nat} {x y u v : Value} {t : TypeId} (h : w.heap[b]? = some (.cells #[x, y] t (0, 0))) : ((w.setCell ⟨b, 0, none⟩ u).setCell ⟨b, 1, none⟩ v).heap[b]? = some (.cells #[u, v] t (0, 0)) := by
  exact heap_setCell_same _ b 1 #[u, y] t v (heap_setCell_same w b 0 #[x, y] t u h)
theorem set2_ne {w : World} {b k : Nat} {u v : Value} (h : k ≠ b) : ((w.setCell ⟨b, 0, none⟩ u).setCell ⟨b, 1, none⟩ v).heap[k]? = w.heap[k]? := by
  rw [Below.heap_setCell _ _ _ _ h, Below.heap_setCell _ _ _ _ h]
theorem set2_isB {T e t : TypeId} {B b c : Nat} {bs : List Value} {w : World} {x y u v : Value} (h : Lib.IsBuilder T e B b bs w) (hc : w.heap[c]? = some (.cells #[x, y] t (0, 0))) (h1 : t ≠ T) (h2 : t ≠ e) : Lib.IsBuilder T e B b bs ((w.setCell ⟨c, 0, none⟩ u).setCell ⟨c, 1, none⟩ v) := by
  refine isB_keep h (fun k cur t' fr hk ht => ?_)
  rw [set2_ne]
  · exact hk
  · rintro rfl
    rw [hc] at hk
    simp only [Option.some.injEq, Obj.cells.injEq] at hk
    rcases ht with rfl | rfl
    · exact h1 hk.2.1
    · exact h2 hk.2.1
theorem isB_below {T e : TypeId} {B b : Nat} {bs : List Value} {w w' : World} (h : Lib.IsBuilder T e B b bs w) (hb : Below w.heap.size w w') : Lib.IsBuilder T e B b bs w' := by
  have key : ∀ p, Lib.BuilderAt T e B b p bs w → Lib.BuilderAt T e B b p bs w' := by
    rintro p ⟨hB, v, hk, hown, hne⟩
    have hk' : ∀ (k : Nat) o, w.heap[k]? = some o → w'.heap[k]? = some o := fun k o h => by rw [hb.block k (Array.getElem?_eq_some_iff.1 h).1]; exact h
    refine ⟨hB, v, hk' _ _ hk, ?_, hne⟩
    obtain ⟨h1, h2⟩ := hown
    refine ⟨h1, ?_⟩
    rcases h2 with h2 | ⟨g, cap, cur, hv, hg, hr⟩
    · exact .inl h2
    · exact .inr ⟨g, cap, cur, hv, hg, hk' _ _ hr.1, hr.2⟩
  exact h.elim (fun h => .inl (key _ h)) (fun h => .inr (key _ h))
/-- What is behind the first k places. -/
def plPre (l : List (Int × Int)) (k : Nat) (pre : List UInt8) : Prop := plTail (0, 0) l = (plTail (plLast l k) (l.drop k)).map fun t => pre ++ t
theorem plPre_zero (l : List (Int × Int)) : plPre l 0 [] := by
  unfold plPre plLast
  simp
theorem plPre_next {l : List (Int × Int)} {k : Nat} {pre : List UInt8} (h : plPre l k pre) (hk : k < l.length) (h1 : rabove l[k].1 (plLast l k).1 ≠ tx []) (h2 : rabove l[k].2 (plLast l k).2 ≠ tx []) : plPre l (k + 1) (pre ++ ((rabove l[k].1 (plLast l k).1).data.toList ++ (rabove l[k].2 (plLast l k).2).data.toList)) := by
  unfold plPre at h ⊢
  rw [h, List.drop_eq_getElem_cons hk]
  show Option.map _ (if _ then _ else _) = _
  rw [if_neg (by simp [h1, h2])]
  have hl : plLast l (k + 1) = l[k] := by
    unfold plLast
    rw [if_neg (by omega), Nat.add_sub_cancel, List.getD_eq_getElem?_getD, List.getElem?_eq_getElem hk]
    rfl
  rw [hl, Option.map_map]
  congr 1
  funext t
  simp [List.append_assoc]
theorem plPre_none {l : List (Int × Int)} {k : Nat} {pre : List UInt8} (h : plPre l k pre) (hk : k < l.length) (h1 : rabove l[k].1 (plLast l k).1 = tx [] ∨ rabove l[k].2 (plLast l k).2 = tx []) : rPlaces l = tx [] := by
  unfold plPre at h
  rw [List.drop_eq_getElem_cons hk] at h
  have e : plTail (plLast l k) (l[k] :: l.drop (k + 1)) = none := if_pos h1
  rw [e] at h
  unfold rPlaces
  rw [h]
  rfl
theorem plPre_end {l : List (Int × Int)} {pre : List UInt8} (h : plPre l l.length pre) : rPlaces l = tx ((rVarText l.length).data.toList ++ pre) := by
  unfold plPre at h
  rw [List.drop_length] at h
  have e : ∀ q, plTail q [] = some [] := fun q => by rw [plTail]
  rw [e] at h
  unfold rPlaces
  rw [h]
  simp
theorem keepB {B : Nat} {W W' : World} (h : Below B W W') {a : Addr} {v : Value} (hB : a.block < B) (hv : W.cell? a = some v) : W'.cell? a = some v := by
  rw [World.cell?_of_block (h.block _ hB)]
  exact hv
theorem plLast_wf {l : List (Int × Int)} (h : ∀ p ∈ l, wfI p.1 ∧ wfI p.2) (k : Nat) : wfI (plLast l k).1 ∧ wfI (plLast l k).2 := by
  have z : wfI 0 := ⟨by omega, by omega⟩
  unfold plLast
  split
  · exact ⟨z, z⟩
  · rw [List.getD_eq_getElem?_getD]
    by_cases hk : k - 1 < l.length
    · rw [List.getElem?_eq_getElem hk]; exact h _ (List.getElem_mem hk)
    · rw [List.getElem?_eq_none (by omega)]; exact ⟨z, z⟩
set_option maxHeartbeats 8000000 in
theorem places_walk (l : List (Int × Int)) (hl : l.length ≤ 1048576) (hwf : ∀ p ∈ l, wfI p.1 ∧ wfI p.2) (b off cap : Nat) (w : World) (hb : b < w.heap.size)
    (hc : ∀ (i : Nat) p, l[i]? = some p → w.cell? ⟨b, off + i * 2, none⟩ = some (.int .i64 p.1) ∧ w.cell? ⟨b, off + i * 2 + 1, none⟩ = some (.int .i64 p.2)) :
    Calls Try.prog 112 #[.slice (some ⟨b, off, none⟩) l.length cap] w fun e w' => e = .returned (.string (rPlaces l)) ∧ Below w.heap.size w w' := by
  have t1 := fun (n : Int) (w : World) => (FiVarText (n := n) rfl).ok.calls1 rfl w
  have t2 := fun (a b : Int) (ha : wfI a) (hb : wfI b) (w : World) => (Fiabove (a := a) (b := b) ha hb rfl).ok.calls2 rfl rfl w
  go_enter Try.func112, Try.ntmps112
  go_wp2_with (go_at_call 119; refine (t1 _ _).mono ?_)
  rintro e w1 ⟨rfl, hb1⟩
  have hI1 : Lib.IsBuilder 151 5 w.heap.size w.heap.size [] w1 := isB_below (Lib.fresh_isBuilder 151 5 w) hb1
  go_wp2_with (go_at_call 129; refine (Try.WriteString w.heap.size w.heap.size _ _ _ hI1 (by have := rVarText_le (l.length : Int); simp; omega) (by have := hb1.size; simp at this; omega)).mono ?_)
  rintro e w2 ⟨rfl, h2, hb2, hk2⟩
  go_wp2
  go_loopw [17] (fun i wr => ∃ (k : Nat) (acc : List UInt8), i = .int .i64 k ∧ k ≤ l.length ∧ Lib.IsBuilder 151 5 w.heap.size w.heap.size (Lib.byteCells acc) wr ∧ wr.heap[w2.heap.size]? = some (.cells #[.int .i64 (plLast l k).1, .int .i64 (plLast l k).2] 146 (0, 0)) ∧ Below w.heap.size w wr ∧ acc.length ≤ 40 * (k + 1) ∧ Hid (∃ pre, acc = (rVarText l.length).data.toList ++ pre ∧ plPre l k pre))
    (fun i _ => l.length - (RowKit.intOf i).toNat)
  case atStart =>
    have e0 : Lib.byteCells (rVarText l.length).data.toList = [] ++ Lib.strCells (rVarText l.length) := rfl
    refine ⟨0, (rVarText l.length).data.toList, rfl, Nat.zero_le _, ?_, heap_alloc_new _ _, ?_, ?_, _, (List.append_nil _).symm, plPre_zero l⟩
    · rw [e0]
      exact isB_below (.inr h2) ((Below.refl _ _).alloc (Nat.le_refl _) _)
    · exact ((((Below.refl _ w).alloc (Nat.le_refl _) _).trans (hb1.mono (by simp))).trans hb2).alloc (by have := hb1.size; have := hb2.size; simp at *; omega) _
    · have := rVarText_le (l.length : Int)
      rw [Array.length_toList]
      show (rVarText l.length).size ≤ _
      omega
  case round =>
    obtain ⟨k, acc, rfl, hk, hI, hlast, hbw, hal, hpre⟩ := hrel
    have hc1 : ∀ p, l[k]? = some p → wr.cell? ⟨b, off + k * 2, none⟩ = some (.int .i64 p.1) := fun p hp => keepB hbw hb (hc k p hp).1
    have hc2 : ∀ p, l[k]? = some p → wr.cell? ⟨b, off + k * 2 + 1, none⟩ = some (.int .i64 p.2) := fun p hp => keepB hbw hb (hc k p hp).2
    by_cases hkl : k < l.length
    · have d1 := hc1 l[k] (List.getElem?_eq_getElem hkl)
      have d2 := hc2 l[k] (List.getElem?_eq_getElem hkl)
      have hlt : ((k : Nat) : Int) < (l.length : Int) := by omega
      have hwk := hwf l[k] (List.getElem_mem hkl)
      obtain ⟨hwk1, hwk2⟩ := hwk
      have hwl : wfI (plLast l k).1 ∧ wfI (plLast l k).2 := plLast_wf hwf k
      obtain ⟨hwl1, hwl2⟩ := hwl
      go_wp2
      have hrs : w2.heap.size < wr.heap.size := (Array.getElem?_eq_some_iff.1 hlast).1
      obtain ⟨W0, hW0⟩ : ∃ W0, W0 = wr.alloc (Obj.cells #[Value.int IntKind.i64 l[k].fst, Value.int IntKind.i64 l[k].snd] 146) := ⟨_, rfl⟩
      have hp0 : W0.heap[wr.heap.size]? = some (.cells #[Value.int IntKind.i64 l[k].fst, Value.int IntKind.i64 l[k].snd] 146 (0, 0)) := by rw [hW0]; exact heap_alloc_new wr _
      have hq0 : W0.heap[w2.heap.size]? = some (.cells #[.int .i64 (plLast l k).1, .int .i64 (plLast l k).2] 146 (0, 0)) := by rw [hW0, Lib.alloc_old wr _ _ hrs]; exact hlast
      have p1 : W0.cell? ⟨wr.heap.size, 0, none⟩ = some (.int .i64 l[k].1) := cells_cons hp0 0
      have p2 : W0.cell? ⟨wr.heap.size, 1, none⟩ = some (.int .i64 l[k].2) := cells_cons hp0 1
      have q1 : W0.cell? ⟨w2.heap.size, 0, none⟩ = some (.int .i64 (plLast l k).1) := cells_cons hq0 0
      have q2 : W0.cell? ⟨w2.heap.size, 1, none⟩ = some (.int .i64 (plLast l k).2) := cells_cons hq0 1
      rw [← hW0]
      clear hc1 hc2 d1 d2 hp0 hq0
      have c1 := fun W => t2 l[k].1 (plLast l k).1 hwk1 hwl1 W
      have c2 := fun W => t2 l[k].2 (plLast l k).2 hwk2 hwl2 W
      generalize hpa : l[k].1 = pa at *
      generalize hpb : l[k].2 = pb at *
      generalize hqa : (plLast l k).1 = qa at *
      generalize hqb : (plLast l k).2 = qb at *
      have pack : Hid (_ ∧ _ ∧ _ ∧ _ ∧ _ ∧ _ ∧ _ ∧ _ ∧ _ ∧ _) := ⟨hlast, hI, hbw, hal, hpre, hpa, hpb, hqa, hqb, hW0⟩
      have packr : Hid (_ ∧ _) := ⟨hrs, h2.lt⟩
      clear t1 t2 hlast hI hbw hal hwk1 hwk2 hwl1 hwl2 hqa hqb hpa hpb hc hb1 hI1 h2 hb2 hk2 hrs hlt hW0
      have S0 : W0.cell? ⟨wr.heap.size, 0, none⟩ = some (.int .i64 pa) ∧ W0.cell? ⟨wr.heap.size, 1, none⟩ = some (.int .i64 pb) ∧ W0.cell? ⟨w2.heap.size, 0, none⟩ = some (.int .i64 qa) ∧ W0.cell? ⟨w2.heap.size, 1, none⟩ = some (.int .i64 qb) ∧ Below W0.heap.size W0 W0 := ⟨p1, p2, q1, q2, Below.refl _ _⟩
      have hS : ∀ {W W' : World}, (W.cell? ⟨wr.heap.size, 0, none⟩ = some (.int .i64 pa) ∧ W.cell? ⟨wr.heap.size, 1, none⟩ = some (.int .i64 pb) ∧ W.cell? ⟨w2.heap.size, 0, none⟩ = some (.int .i64 qa) ∧ W.cell? ⟨w2.heap.size, 1, none⟩ = some (.int .i64 qb) ∧ Below W0.heap.size W0 W) → Below W.heap.size W W' → (W'.cell? ⟨wr.heap.size, 0, none⟩ = some (.int .i64 pa) ∧ W'.cell? ⟨wr.heap.size, 1, none⟩ = some (.int .i64 pb) ∧ W'.cell? ⟨w2.heap.size, 0, none⟩ = some (.int .i64 qa) ∧ W'.cell? ⟨w2.heap.size, 1, none⟩ = some (.int .i64 qb) ∧ Below W0.heap.size W0 W') :=
        fun ⟨a1, a2, a3, a4, a5⟩ hb => ⟨keep hb a1, keep hb a2, keep hb a3, keep hb a4, a5.trans (hb.mono a5.size)⟩
      have C1 := fun W (h : W.cell? ⟨wr.heap.size, 0, none⟩ = some (.int .i64 pa) ∧ W.cell? ⟨wr.heap.size, 1, none⟩ = some (.int .i64 pb) ∧ W.cell? ⟨w2.heap.size, 0, none⟩ = some (.int .i64 qa) ∧ W.cell? ⟨w2.heap.size, 1, none⟩ = some (.int .i64 qb) ∧ Below W0.heap.size W0 W) => (c1 W).mono (fun e w' h2 => And.intro h2.1 (hS h h2.2))
      have C2 := fun W (h : W.cell? ⟨wr.heap.size, 0, none⟩ = some (.int .i64 pa) ∧ W.cell? ⟨wr.heap.size, 1, none⟩ = some (.int .i64 pb) ∧ W.cell? ⟨w2.heap.size, 0, none⟩ = some (.int .i64 qa) ∧ W.cell? ⟨w2.heap.size, 1, none⟩ = some (.int .i64 qb) ∧ Below W0.heap.size W0 W) => (c2 W).mono (fun e w' h2 => And.intro h2.1 (hS h h2.2))
      clear c1 c2
      have hdr : Below W0.heap.size W0 W0.drew := (Below.refl _ _).drew
      go_region_held3 (fun w' => w'.cell? ⟨wr.heap.size, 0, none⟩ = some (.int .i64 pa) ∧ w'.cell? ⟨wr.heap.size, 1, none⟩ = some (.int .i64 pb) ∧ w'.cell? ⟨w2.heap.size, 0, none⟩ = some (.int .i64 qa) ∧ w'.cell? ⟨w2.heap.size, 1, none⟩ = some (.int .i64 qb) ∧ Below W0.heap.size W0 w') (first | assumption | exact S0 | go_keep) (first
        | (go_at_call_of 130 (Value.int .i64 pa); refine (C1 _ ?_).mono ?_; (simp [*]); rintro e w' ⟨rfl, hs⟩)
        | (go_at_call_of 130 (Value.int .i64 pb); refine (C2 _ ?_).mono ?_; (simp [*]); rintro e w' ⟨rfl, hs⟩))
      clear C1 C2 hS S0 hdr p1 p2 q1 q2
      rename_i hh
      clear hh
      obtain ⟨p1, p2, q1, q2, hb0⟩ := hs
      generalize hsa : rabove pa qa = sa
      generalize hsb : rabove pb qb = sb
      have hla : sa.size ≤ 5 := by rw [← hsa]; exact rabove_b rfl
      have hlb : sb.size ≤ 5 := by rw [← hsb]; exact rabove_b rfl
      have hsum : ¬ 9223372036854775807 < sa.size + sb.size := by omega
      by_cases hA : sa.toList = []
      · go_wp2
        go_ret
        obtain ⟨hlast, hI, hbw, hal, hpre, hpa, hpb, hqa, hqb, hW0⟩ := pack.out
        obtain ⟨pre, rfl, hpp⟩ := hpre.out
        have hsz0 : W0.heap.size = wr.heap.size + 1 := by rw [hW0]; simp
        have hbw' : Below w.heap.size w w' := (hbw.alloc (by have := hbw.size; omega) (Obj.cells #[Value.int IntKind.i64 pa, Value.int IntKind.i64 pb] 146)).trans (by rw [← hW0]; exact hb0.mono (by have := hbw.size; omega))
        have hn : rPlaces l = tx [] := plPre_none hpp hkl (.inl (by rw [hpa, hqa, hsa]; exact toList_none.1 hA))
        exact ⟨by rw [hn]; rfl, hbw'⟩
      by_cases hB : sb.toList = []
      · go_wp2
        go_ret
        obtain ⟨hlast, hI, hbw, hal, hpre, hpa, hpb, hqa, hqb, hW0⟩ := pack.out
        obtain ⟨pre, rfl, hpp⟩ := hpre.out
        have hsz0 : W0.heap.size = wr.heap.size + 1 := by rw [hW0]; simp
        have hbw' : Below w.heap.size w w' := (hbw.alloc (by have := hbw.size; omega) (Obj.cells #[Value.int IntKind.i64 pa, Value.int IntKind.i64 pb] 146)).trans (by rw [← hW0]; exact hb0.mono (by have := hbw.size; omega))
        have hn : rPlaces l = tx [] := plPre_none hpp hkl (.inr (by rw [hpb, hqb, hsb]; exact toList_none.1 hB))
        exact ⟨by rw [hn]; rfl, hbw'⟩
      have hA' : sa.toList.isEmpty = false := by simpa using hA
      have hB' : sb.toList.isEmpty = false := by simpa using hB
      obtain ⟨hlast, hI, hbw, hal, hpre, hpa, hpb, hqa, hqb, hW0⟩ := pack.out
      have hI' : Lib.IsBuilder 151 5 w.heap.size w.heap.size (Lib.byteCells acc) w' := by
        refine isB_below (isB_below hI ((Below.refl _ _).alloc (Nat.le_refl _) (Obj.cells #[Value.int IntKind.i64 pa, Value.int IntKind.i64 pb] 146))) ?_
        rw [← hW0]
        exact hb0
      have hrs := packr.out.1
      have hsz0 : W0.heap.size = wr.heap.size + 1 := by rw [hW0]; simp
      have hbB : w.heap.size < w2.heap.size := packr.out.2
      have g1 : w'.heap[wr.heap.size]? = some (.cells #[Value.int IntKind.i64 pa, Value.int IntKind.i64 pb] 146 (0, 0)) := by rw [hb0.block _ (by omega), hW0]; exact heap_alloc_new wr _
      have g2 : w'.heap[w2.heap.size]? = some (.cells #[.int .i64 qa, .int .i64 qb] 146 (0, 0)) := by rw [hb0.block _ (by omega), hW0, Lib.alloc_old wr _ _ hrs]; exact hlast
      have hbw' : Below w.heap.size w w' := (hbw.alloc (by have := hbw.size; omega) (Obj.cells #[Value.int IntKind.i64 pa, Value.int IntKind.i64 pb] 146)).trans (by rw [← hW0]; exact hb0.mono (by have := hbw.size; omega))
      have packb : Hid (_ ∧ _ ∧ _ ∧ _ ∧ _ ∧ _ ∧ _ ∧ _ ∧ _) := ⟨hlast, hI, hbw, hal, hpre, hpa, hpb, hqa, hqb⟩
      clear hlast hI hbw hal hpre hpa hpb hqa hqb
      go_wp2_with (go_at_call 129; refine (Try.WriteString w.heap.size w.heap.size _ _ _ hI' (by rw [Lib.byteCells_length, ByteArray.size_append]; have := packb.out.2.2.2.1; omega) (by have := hbw'.size; omega)).mono ?_)
      rintro e w3 ⟨rfl, h3, hb3, hk3⟩
      have g1' := hk3 _ _ g1 (by simp; omega) (by rintro c fz h; cases h)
      have g2' := hk3 _ _ g2 (by simp; omega) (by rintro c fz h; cases h)
      have r1 : w3.cell? ⟨wr.heap.size, 0, none⟩ = some (.int .i64 pa) := cells_cons g1' 0
      have r2 : w3.cell? ⟨wr.heap.size, 1, none⟩ = some (.int .i64 pb) := cells_cons g1' 1
      have z1 : w3.cell? ⟨w2.heap.size, 0, none⟩ = some (.int .i64 qa) := cells_cons g2' 0
      have z2 : w3.cell? ⟨w2.heap.size, 1, none⟩ = some (.int .i64 qb) := cells_cons g2' 1
      have y1 : w3.frozen? ⟨w2.heap.size, 0, none⟩ = false := Lib.frozen_of_heap g2' 0
      have y2 : w3.frozen? ⟨w2.heap.size, 1, none⟩ = false := Lib.frozen_of_heap g2' 1
      go_wp2
      go_roundw
      case rel =>
        obtain ⟨hlast, hI, hbw, hal, hpre, hpa, hpb, hqa, hqb⟩ := packb.out
        obtain ⟨pre, rfl, hpp⟩ := hpre.out
        have hlk : plLast l (k + 1) = l[k] := by
          unfold plLast
          rw [if_neg (by omega), Nat.add_sub_cancel, List.getD_eq_getElem?_getD, List.getElem?_eq_getElem hkl]
          rfl
        have n1 : rabove l[k].1 (plLast l k).1 ≠ tx [] := by rw [hpa, hqa, hsa]; exact fun e => hA (toList_none.2 e)
        have n2 : rabove l[k].2 (plLast l k).2 ≠ tx [] := by rw [hpb, hqb, hsb]; exact fun e => hB (toList_none.2 e)
        have hpn := plPre_next hpp hkl n1 n2
        rw [hpa, hqa, hsa, hpb, hqb, hsb] at hpn
        refine ⟨k + 1, _, rfl, by omega, ?_, ?_, ?_, ?_, _, rfl, hpn⟩
        · refine set2_isB (.inr ?_) g2' (by decide) (by decide)
          have e : Lib.byteCells ((rVarText l.length).data.toList ++ (pre ++ (sa.data.toList ++ sb.data.toList))) = Lib.byteCells ((rVarText l.length).data.toList ++ pre) ++ Lib.strCells (sa ++ sb) := by
            rw [Lib.strCells_eq, ← Lib.byteCells_append, ByteArray.data_append, Array.toList_append, List.append_assoc]
          rw [e]
          exact h3
        · rw [set2_at g2', hlk, hpa, hpb]
        · exact ((hbw'.trans hb3).setCell (p := ⟨w2.heap.size, 0, none⟩) (by show w.heap.size ≤ w2.heap.size; omega) _).setCell (p := ⟨w2.heap.size, 1, none⟩) (by show w.heap.size ≤ w2.heap.size; omega) _
        · have e1 : sa.data.toList.length = sa.size := Array.length_toList
          have e2 : sb.data.toList.length = sb.size := Array.length_toList
          simp only [List.length_append, e1, e2] at hal ⊢
          omega
      case measure =>
        show l.length - ((k : Int) + 1).toNat < l.length - (k : Int).toNat
        omega
    · have hkk : k = l.length := by omega
      have hge : ¬ ((k : Nat) : Int) < (l.length : Int) := by omega
      have hsz : w.heap.size ≤ wr.heap.size := hbw.size
      go_wp2_with (go_at_call 131; refine (Try.Builder_String_any w.heap.size w.heap.size acc _ hI hsz).mono ?_)
      rintro e W1 ⟨rfl, b1⟩
      go_wp2
      intro b1
      rename_i hKK
      refine hKK _ _ ?_
      go_wp2
      go_ret
      obtain ⟨pre, rfl, hpre⟩ := hpre
      subst hkk
      rw [plPre_end hpre]
      exact ⟨rfl, hbw.trans b1⟩

/-- The two ways to tell of places. -/
theorem plTail_text : ∀ {l : List TPlace} {q : Int × Int}, (plTail q (l.map fun p => (p.count_, p.at_))).map tx = plText q l
  | [], q => rfl
  | p :: l, q => by
    simp only [List.map_cons, plTail, plText]
    by_cases h : rabove p.count_ q.1 = tx [] ∨ rabove p.at_ q.2 = tx []
    · rw [if_pos h, if_pos h]; rfl
    · rw [if_neg h, if_neg h, ← plTail_text, Option.map_map, Option.map_map]
      congr 1
theorem rPlaces_text (l : List TPlace) : rPlaces (l.map fun p => (p.count_, p.at_)) = rPlacesText l := by
  unfold rPlaces rPlacesText
  rw [← plTail_text]
  cases h : plTail (0, 0) (l.map fun p => (p.count_, p.at_)) with
  | none => rfl
  | some t =>
    simp only [Option.map_some, List.length_map, ← tx_append, tx_data]
set_option maxHeartbeats 4000000 in
theorem places_nil (a : Option Addr) (cap : Nat) (w : World) : Calls Try.prog 112 #[.slice a 0 cap] w fun e w' => e = .returned (.string (rPlaces [])) ∧ Below w.heap.size w w' := by
  have t1 := fun (n : Int) (w : World) => (FiVarText (n := n) rfl).ok.calls1 rfl w
  go_enter Try.func112, Try.ntmps112
  go_wp2_with (go_at_call 119; refine (t1 _ _).mono ?_)
  rintro e w1 ⟨rfl, hb1⟩
  have hI1 : Lib.IsBuilder 151 5 w.heap.size w.heap.size [] w1 := isB_below (Lib.fresh_isBuilder 151 5 w) hb1
  go_wp2_with (go_at_call 129; refine (Try.WriteString w.heap.size w.heap.size _ _ _ hI1 (by have := rVarText_le 0; simp; omega) (by have := hb1.size; simp at this; omega)).mono ?_)
  rintro e w2 ⟨rfl, h2, hb2, hk2⟩
  go_wp2
  go_loopw [17] (fun i wr => i = .int .i64 0 ∧ Lib.IsBuilder 151 5 w.heap.size w.heap.size (Lib.byteCells (rVarText 0).data.toList) wr ∧ Below w.heap.size w wr) (fun _ _ => 0)
  case atStart =>
    have e0 : Lib.byteCells (rVarText 0).data.toList = [] ++ Lib.strCells (rVarText 0) := rfl
    refine ⟨rfl, ?_, ?_⟩
    · rw [e0]
      exact isB_below (.inr h2) ((Below.refl _ _).alloc (Nat.le_refl _) _)
    · exact ((((Below.refl _ w).alloc (Nat.le_refl _) _).trans (hb1.mono (by simp))).trans hb2).alloc (by have := hb1.size; have := hb2.size; simp at *; omega) _
  case round =>
    obtain ⟨rfl, hI, hbw⟩ := hrel
    have hsz : w.heap.size ≤ wr.heap.size := hbw.size
    go_wp2_with (go_at_call 131; refine (Try.Builder_String_any w.heap.size w.heap.size _ _ hI hsz).mono ?_)
    rintro e W1 ⟨rfl, b1⟩
    go_wp2
    go_ret
    refine ⟨?_, hbw.trans b1⟩
    show _ = Ending.returned (.string (tx ((rVarText ((0 : Nat) : Int)).data.toList ++ [])))
    rw [List.append_nil]
    rfl
theorem FiPlacesText {l : List TPlace} {xl : List (List D)} {o : ByteArray} (hl : l.map ePlace = xl) (hn : l.length ≤ 1048576) (hw : wfPl l) (hr : rPlacesText l = o) : Fn Try.prog 112 [.d (.row 2 xl)] [] ⟨S o, [], []⟩ := by
  refine ⟨⟨_, Try.func112, rfl, rfl⟩, ?_⟩
  refine CallOk.ofCalls ?_
  intro E vs hlt hA
  obtain ⟨v, rfl, hv⟩ := args1 hA
  subst hl
  rw [← rPlaces_text] at hr
  rcases rel_row hv hlt with ⟨h, a, cap, rfl⟩ | ⟨b, off, cap, rfl, hb, hcap, hl2, hc⟩
  · have : l = [] := by simpa using h
    subst this
    refine (places_nil a cap E.w).mono ?_
    rintro e w' ⟨rfl, hb⟩
    exact ⟨_, rfl, hb, by rw [← hr]; exact .sc _ rfl⟩
  · have := places_walk (l.map fun p => (p.count_, p.at_)) (by rw [List.length_map]; omega) (by intro p hp; obtain ⟨q, hq, rfl⟩ := List.mem_map.1 hp; exact hw q hq) b off cap E.w hb (by
      intro i p hp
      obtain ⟨q, hq, rfl⟩ : ∃ q, l[i]? = some q ∧ (q.count_, q.at_) = p := by simpa using hp
      exact ⟨hc i (ePlace q) 0 _ (by simp [hq]) rfl, hc i (ePlace q) 1 _ (by simp [hq]) rfl⟩)
    rw [List.length_map] at this ⊢
    refine this.mono ?_
    rintro e w' ⟨rfl, hb⟩
    exact ⟨_, rfl, hb, by rw [← hr]; exact .sc _ rfl⟩
end Go.Proofs.Ytamdgfklbjoaiaa.Ab
