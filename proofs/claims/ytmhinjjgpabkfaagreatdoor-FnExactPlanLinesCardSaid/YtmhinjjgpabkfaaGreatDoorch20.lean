/- What functions of the program come to, for all arguments in the given bounds. -/
import Derived.Test.YtmhinjjgpabkfaaGreatDoorch29
set_option linter.unusedVariables false
set_option linter.unusedSimpArgs false
namespace Go.Proofs.YtmhinjjgpabkfaaGreatDoor.Ab
open Go Go.Proofs
set_option maxRecDepth 20000
set_option maxHeartbeats 4000000
set_option linter.unusedSimpArgs false
set_option linter.unusedVariables false
def tab_ch20 : List (Nat × TyRow) := [
  (3, ⟨.int .i64, some 1, some false, none, false, [.int .i64], [], some [(.int .i64 0, 0)], none, none, none⟩),
  (41, ⟨.sl 1, some 1, some false, some (1, 16), false, [.sl 1], [], some [(.slice none 0 0, 1)], some ([.sc (.string default)], 1, 16), none, none⟩),
  (49, ⟨.other, some 6, some true, none, false, [.sl 3, .sl 2, .sl 2, .sl 1, .int .i64, .int .i64], [some (0, 1, false), some (1, 1, false), some (2, 1, false), some (3, 1, false), some (4, 1, false), some (5, 1, false)], some [(.slice none 0 0, 3), (.slice none 0 0, 2), (.slice none 0 0, 2), (.slice none 0 0, 1), (.int .i64 0, 0), (.int .i64 0, 0)], none, some [(0, 1), (1, 1), (2, 1), (3, 1), (4, 1), (5, 1)], none⟩),
  (107, ⟨.sl 4, some 1, some false, some (4, 56), false, [.sl 4], [], some [(.slice none 0 0, 4)], some ([.sc (.int .i64 0), .sc (.string default), .sc (.string default), .sc (.string default)], 4, 56), none, none⟩),
  (110, ⟨.other, some 4, some true, none, false, [.int .i64, .str, .str, .str], [some (0, 1, false), some (1, 1, false), some (2, 1, false), some (3, 1, false)], some [(.int .i64 0, 0), (.string default, 0), (.string default, 0), (.string default, 0)], none, some [(0, 1), (1, 1), (2, 1), (3, 1)], some [.int, .str, .str, .str]⟩)]
theorem tab_ch20_ok : TabOk Tryz.prog tab_ch20 := TabOk.of (by kernel_rfl)
theorem su_ch20 : Setup Tryz.prog tab_ch20 := ⟨tab_ch20_ok, mixed⟩
def rPlanLines (d : TDisk) (v : Int) : List ByteArray := (rPlanOf d v).map rOpLine
def opW (x : TOp) : Nat := x.name_.size + x.to_.size
def opsW (l : List TOp) : Nat := (l.map opW).sum
theorem opsW_app (a b : List TOp) : opsW (a ++ b) = opsW a + opsW b := by unfold opsW; rw [List.map_append, List.sum_append]
theorem opsW_fm {f : Int → List TOp} {m : Nat} (h : ∀ x, opsW (f x) ≤ m) : ∀ l : List Int, opsW (l.flatMap f) ≤ m * l.length
  | [] => Nat.zero_le _
  | x :: l => by
    have := opsW_fm h l
    have h2 := h x
    rw [List.flatMap_cons, opsW_app, List.length_cons, Nat.mul_succ]
    omega
def okPl (x : TOp) : Prop := x.name_.size ≤ 1048576 ∧ x.to_.size ≤ 1048576 ∧ x.text_.size ≤ 1048576
theorem seg_le (b : Int) : (rSegmentName b).size ≤ 13 := rSegmentName_b rfl
theorem temp_le (b : Int) : (rTempName b).size ≤ 17 := rTempName_b rfl
theorem tx0 : (tx []).size = 0 := by simp [tx_size]
theorem sync_W {d : TDisk} (b : Int) : opsW (syncOps d b) ≤ 13 ∧ ∀ x ∈ syncOps d b, okPl x := by
  have h1 := seg_le b
  unfold syncOps
  split
  · exact ⟨Nat.zero_le _, by simp⟩
  · refine ⟨by simp [opsW, opW, tx0]; exact h1, ?_⟩
    intro x hx
    rw [List.mem_singleton] at hx
    subst hx
    exact ⟨by show (rSegmentName b).size ≤ _; omega, by show (tx []).size ≤ _; rw [tx0]; omega, by show (tx []).size ≤ _; rw [tx0]; omega⟩
theorem fresh_W {d : TDisk} {v : Int} (b : Int) : opsW (freshFor d v b) ≤ 85 ∧ ∀ x ∈ freshFor d v b, okPl x := by
  have h1 := seg_le b
  have h2 := temp_le b
  have h3 := rResealed_b (rfl : rResealed (rTextAt d b) v = _)
  unfold freshFor
  split
  · exact ⟨Nat.zero_le _, by simp⟩
  · refine ⟨by simp [opsW, opW, tx0, rFreshOps]; omega, ?_⟩
    intro x hx
    unfold rFreshOps at hx
    simp only [List.mem_cons, List.not_mem_nil, or_false] at hx
    unfold okPl
    rcases hx with rfl | rfl | rfl | rfl | rfl <;> (simp only [tx0]; omega)
theorem removal_W {l : List ByteArray} (h : ∀ n ∈ l, n.size ≤ 1048576) : opsW (rremoval l) ≤ (l.map (·.size)).sum ∧ ∀ x ∈ rremoval l, okPl x := by
  unfold rremoval
  split
  · exact ⟨Nat.zero_le _, by simp⟩
  · constructor
    · rw [opsW_app]
      have e1 : opsW (l.map removeOp) = (l.map (·.size)).sum := by
        unfold opsW
        rw [List.map_map]
        congr 1
      have e2 : opsW [(⟨6, tx [], tx [], tx []⟩ : TOp)] = 0 := by simp [opsW, opW, tx0]
      omega
    · intro x hx
      rw [List.mem_append, List.mem_map, List.mem_singleton] at hx
      unfold okPl
      rcases hx with ⟨n, hn, rfl⟩ | rfl
      · have := h n hn
        exact ⟨this, by show (tx []).size ≤ _; rw [tx0]; omega, by show (tx []).size ≤ _; rw [tx0]; omega⟩
      · simp only [tx0]; omega
theorem sum_filter {l : List ByteArray} {p : ByteArray → Bool} : ((l.filter p).map (·.size)).sum + ((l.filter (fun n => !p n)).map (·.size)).sum = (l.map (·.size)).sum := by
  induction l with
  | nil => rfl
  | cons x l ih =>
    rw [List.filter_cons, List.filter_cons]
    cases p x <;> simp at ih ⊢ <;> omega
theorem sum_filter_le {l : List ByteArray} {p : ByteArray → Bool} : ((l.filter p).map (·.size)).sum ≤ (l.map (·.size)).sum := by
  have := sum_filter (l := l) (p := p)
  omega
theorem sum_reverse {l : List ByteArray} : (l.reverse.map (·.size)).sum = (l.map (·.size)).sum := by
  rw [List.map_reverse, List.sum_reverse]
theorem plan_W {d : TDisk} {v : Int} (hd : okD d) : opsW (rPlanOf d v) ≤ 1600 + (d.entries_.map (·.name_.size)).sum ∧ ∀ x ∈ rPlanOf d v, okPl x := by
  have h1 := rChain_len (rfl : rChain d = _)
  have hs := loose_sz hd (rfl : rLooseNames d = _)
  have a1 := opsW_fm (fun b => (sync_W (d := d) b).1) (rChain d)
  have a2 := opsW_fm (fun b => (fresh_W (d := d) (v := planV v) b).1) (rChain d)
  have b1 := removal_W (l := (rLooseNames d).filter tempN) (fun n hn => hs n (List.mem_filter.1 hn).1)
  have b2 := removal_W (l := ((rLooseNames d).filter (fun n => !tempN n)).reverse) (fun n hn => hs n (List.mem_filter.1 (List.mem_reverse.1 hn)).1)
  have s1 := sum_filter (l := rLooseNames d) (p := tempN)
  have s2 : ((rLooseNames d).map (·.size)).sum ≤ (d.entries_.map (·.name_.size)).sum := by
    unfold rLooseNames
    have := sum_filter_le (l := d.entries_.map fun e => e.name_) (p := looseN (rChain d))
    rw [List.map_map] at this
    exact this
  rw [sum_reverse] at b2
  have e6 : opsW (if d.steps_ = [] then [] else [(⟨6, tx [], tx [], tx []⟩ : TOp)]) = 0 := by split <;> simp [opsW, opW, tx0]
  constructor
  · unfold rPlanOf planA planB
    rw [opsW_app, opsW_app, opsW_app, opsW_app, e6]
    omega
  · intro x hx
    unfold rPlanOf planA planB at hx
    simp only [List.mem_append, List.mem_flatMap] at hx
    rcases hx with (((⟨b, _, h⟩ | h) | h) | ⟨b, _, h⟩) | h
    · exact (sync_W b).2 x h
    · split at h
      · cases h
      · rw [List.mem_singleton] at h
        subst h
        unfold okPl
        simp only [tx0]; omega
    · exact b1.2 x h
    · exact (fresh_W b).2 x h
    · exact b2.2 x h
theorem rOpLine_b {x : TOp} (h : okPl x) : (rOpLine x).size ≤ opW x + 40 := by
  obtain ⟨h1, h2, h3⟩ := h
  have hw := opWord_b (rfl : opWord x.kind_ = _)
  have hf := rfigures_b (rfl : rfigures [(x.text_.size : Int)] = _) (by intro n hn; rw [List.mem_singleton] at hn; subst hn; unfold in64; omega)
  have e1 : (tx [32]).size = 1 := by simp [tx_size]
  have e2 : (tx [63]).size = 1 := by simp [tx_size]
  unfold rOpLine opW
  rw [List.length_singleton] at hf
  split
  · split
    · omega
    · split
      · simp only [ByteArray.size_append, e1]; omega
      · split
        · simp only [ByteArray.size_append, e1]; omega
        · simp only [ByteArray.size_append, e1]; omega
  · omega
theorem FiPlanLinesR {dnod : List TNode} {xdnod : List (List D)} {dent : List TEntry} {xdent : List (List D)} {dold : List TEntry} {xdold : List (List D)} {dste : List ByteArray} {xdste : List (List D)} {droo : Int} {dnex : Int} {version : Int} {o : List ByteArray} {xo : List (List D)} {no : Nat}  (hdnod : dnod.map eNode = xdnod) (hdent : dent.map eEntry = xdent) (hdold : dold.map eEntry = xdold) (hdste : dste.map cS = xdste) (hd : okD ⟨dnod, dent, dold, dste, droo, dnex⟩) (hr : rPlanLines (⟨dnod, dent, dold, dste, droo, dnex⟩ : TDisk) version = o) (ho : o.map cS = xo) (hno : no = o.length)  : Fn Tryz.prog 25 [.agg [.d (.row 3 xdnod), .d (.row 2 xdent), .d (.row 2 xdold), .d (.row 1 xdste), I droo, I dnex], I version] [] ⟨.ref 0 0 no, [.row 1 false xo], []⟩ := by
 refine Fn.goR su_ch20 Tryz.func25 fun P hP Q hQ => ?_
 conv => cbv
 generalize hr1 : rPlanOf (⟨dnod, dent, dold, dste, droo, dnex⟩ : TDisk) version = l1
 generalize hl1 : l1.map eOp = xl1
 refine .dd hP (FiPlanOf hdnod hdent hdold hdste hd hr1 hl1) ?_
 conv => cbv
 refine .go hl1 fun v2 hv2 => ?_
 conv => cbv
 refine LoopW.lp (κ := Int × (List (List D)) × Nat) su_ch20 hP [2] [11, 12] (fun (i13, zw3, nw3) => [(5, .ref 3 0 nw3), (13, I i13)]) (fun (i13, zw3, nw3) => [(3, .row 1 false zw3)])
   (fun (i13, zw3, nw3) => ∃ (w3 : List ByteArray), w3.map cS = zw3 ∧ nw3 = w3.length ∧ 0 ≤ i13 ∧ i13 ≤ l1.length ∧ w3 = (l1.take i13.toNat).map rOpLine ∧ w3.length = i13.toNat)
   (fun (i13, zw3, nw3) => (l1.length - i13).toNat) (0, [], 0) ⟨[], rfl, rfl, by omega, by omega, by simp, rfl⟩ ⟨rfl, rfl, trivial⟩ rfl ?_
 rintro ⟨i13, zw3, nw3⟩ J ⟨w3, hw3, hnw3, h0, h1, hw, hwl⟩ hJ
 have hpl := plan_len hd hr1
 conv => cbv
 refine .lss (fun h3 => ?_) fun h3 => ?_
 conv => cbv
 refine .go i13.toNat hl1 fun hje4 ⟨e4kin, e4nam, e4to, e4tex⟩ qe4 => ?_
 conv => cbv
 have hok := (plan_W (v := version) hd).2 ⟨e4kin, e4nam, e4to, e4tex⟩ (by rw [hr1, qe4]; exact List.getElem_mem _)
 generalize hr5 : rOpLine (⟨e4kin, e4nam, e4to, e4tex⟩ : TOp) = r5
 refine .dd hP (FiOpLine hok hr5) ?_
 conv => cbv
 have hb5 := rOpLine_b hok
 rw [hr5] at hb5
 have hok2 := hok
 unfold okPl at hok2
 unfold opW at hb5
 refine .one r5 hw3 rfl fun nz6 z6 hnz6 hz6 => ?_
 conv => cbv
 refine .add fun v7 hv7 => ?_
 conv => cbv
 exact .go [6] (v7, z6, nz6) (hJ _ ⟨_, hz6, (by first | omega | (simp; omega)), by omega, by omega, by rw [hw, show v7.toNat = i13.toNat + 1 by omega, take_map hje4, ← qe4, hr5], by rw [List.length_append, List.length_singleton]; omega⟩ (by first | (dsimp only; omega) | omega))
 conv => cbv
 have e : w3 = rPlanLines (⟨dnod, dent, dold, dste, droo, dnex⟩ : TDisk) version := (by unfold rPlanLines; rw [hr1, hw, List.take_of_length_le (by omega)])
 rw [hr] at e
 subst e
 obtain rfl : zw3 = xo := by rw [← hw3, ← ho]
 obtain rfl : nw3 = no := by first | omega | (rw [hno]; simp; omega)
 exact hQ _ _ (.of [3] (.inl rfl) rfl rfl rfl rfl)
theorem FsPlanLines {dnod : List TNode} {xdnod : List (List D)} {dent : List TEntry} {xdent : List (List D)} {dold : List TEntry} {xdold : List (List D)} {dste : List ByteArray} {xdste : List (List D)} {droo : Int} {dnex : Int} {version : Int} {o : List ByteArray} {xo : List (List D)} (hdnod : dnod.map eNode = xdnod) (hdent : dent.map eEntry = xdent) (hdold : dold.map eEntry = xdold) (hdste : dste.map cS = xdste) (hd : okD ⟨dnod, dent, dold, dste, droo, dnex⟩) (hr : rPlanLines (⟨dnod, dent, dold, dste, droo, dnex⟩ : TDisk) version = o) (ho : o.map cS = xo) : Fn Tryz.prog 24 [.agg [.d (.row 3 xdnod), .d (.row 2 xdent), .d (.row 2 xdold), .d (.row 1 xdste), I droo, I dnex], I version] [] ⟨.d (.row 1 xo), [], []⟩ := by
 refine Fn.go su_ch20 Tryz.func24 fun P hP Q hQ => ?_
 conv => cbv
 generalize hr1 : rPlanOf (⟨dnod, dent, dold, dste, droo, dnex⟩ : TDisk) version = l1
 generalize hl1 : l1.map eOp = xl1
 refine .dd hP (FsPlanOf hdnod hdent hdold hdste hd hr1 hl1) ?_
 conv => cbv
 refine LoopW.lp (κ := Int × (List (List D)) × Nat) su_ch20 hP [2] [6] (fun (i7, zw3, nw3) => [(5, .ref 3 0 nw3), (7, I i7)]) (fun (i7, zw3, nw3) => [(3, .row 1 false zw3)])
   (fun (i7, zw3, nw3) => ∃ (w3 : List ByteArray), w3.map cS = zw3 ∧ nw3 = w3.length ∧ 0 ≤ i7 ∧ i7 ≤ l1.length ∧ w3 = (l1.take i7.toNat).map rOpLine ∧ w3.length = i7.toNat)
   (fun (i7, zw3, nw3) => (l1.length - i7).toNat) (0, [], 0) ⟨[], rfl, rfl, by omega, by omega, by simp, rfl⟩ ⟨rfl, rfl, trivial⟩ rfl ?_
 rintro ⟨i7, zw3, nw3⟩ J ⟨w3, hw3, hnw3, h0, h1, hw, hwl⟩ hJ
 have hpl := plan_len hd hr1
 conv => cbv
 refine .go hl1 fun v2 hv2 => ?_
 conv => cbv
 refine .lss (fun h3 => ?_) fun h3 => ?_
 conv => cbv
 refine .go i7.toNat hl1 fun hje4 ⟨e4kin, e4nam, e4to, e4tex⟩ qe4 => ?_
 conv => cbv
 have hok := (plan_W (v := version) hd).2 ⟨e4kin, e4nam, e4to, e4tex⟩ (by rw [hr1, qe4]; exact List.getElem_mem _)
 generalize hr5 : rOpLine (⟨e4kin, e4nam, e4to, e4tex⟩ : TOp) = r5
 refine .dd hP (FsOpLine hok hr5) ?_
 conv => cbv
 refine .one r5 hw3 rfl fun nz6 z6 hnz6 hz6 => ?_
 conv => cbv
 refine .add fun v7 hv7 => ?_
 conv => cbv
 exact .go [5] (v7, z6, nz6) (hJ _ ⟨_, hz6, (by first | omega | (simp; omega)), by omega, by omega, by rw [hw, show v7.toNat = i7.toNat + 1 by omega, take_map hje4, ← qe4, hr5], by rw [List.length_append, List.length_singleton]; omega⟩ (by first | (dsimp only; omega) | omega))
 conv => cbv
 have e : w3 = rPlanLines (⟨dnod, dent, dold, dste, droo, dnex⟩ : TDisk) version := (by unfold rPlanLines; rw [hr1, hw, List.take_of_length_le (by omega)])
 rw [hr] at e
 subst e
 exact hQ _ _ (.r rfl rfl (by rw [← hw3, List.length_map]; first | omega | (simp; omega)) (by rw [← hw3, ← ho]))
end Go.Proofs.YtmhinjjgpabkfaaGreatDoor.Ab
