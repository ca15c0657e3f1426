/- A relation between the machine and an abstract state, evaluators for single operations and for code, proved sound (part 6). No conditions. -/
import Derived.WalkKit
import Derived.ProofKit
import Derived.OpenShut
import Derived.ShutString
import Derived.ChangeOld
import Derived.Below
import Derived.SizedLaws
import Derived.Test.YtmkpihcfglinjaaGreatDoorZ5
set_option linter.unusedVariables false
set_option linter.unusedSimpArgs false
namespace Go.Proofs.YtmkpihcfglinjaaGreatDoor.Ab
open Go
def laidF (P : Program) : Nat → List Field → Bool
  | _, [] => true
  | o, f :: l => f.offset == o && laidF P (o + P.cellsOf f.type) l
def sumC (P : Program) : List Field → Nat
  | [] => 0
  | f :: l => P.cellsOf f.type + sumC P l
def plainT (P : Program) : Nat → TypeId → Bool
  | 0, _ => false
  | g + 1, t =>
    match P.underlying t with
    | some .bool => P.cellsOf t == 1
    | some (.int _) => P.cellsOf t == 1
    | some .string => P.cellsOf t == 1
    | some (.slice e) => P.cellsOf t == 1 && decide (0 < P.cellsOf e) && plainT P g e
    | some (.struct fs) => laidF P 0 fs.toList && sumC P fs.toList == P.cellsOf t && fs.toList.all fun f => plainT P g f.type
    | _ => false
mutual
inductive ShD (P : Program) : TypeId → List D → Prop
  | bool {t : TypeId} (b : Bool) (h : P.underlying t = some .bool) : ShD P t [.sc (.bool b)]
  | int {t : TypeId} {k : IntKind} (n : Int) (h : P.underlying t = some (.int k)) (hw : (Lit.int k n).wf = true) : ShD P t [.sc (.int k n)]
  | str {t : TypeId} (s : ByteArray) (h : P.underlying t = some .string) (hs : s.size ≤ reachBytes) : ShD P t [.sc (.string s)]
  | sl {t e : TypeId} (xs : List (List D)) (h : P.underlying t = some (.slice e)) (hl : xs.length * P.bytesOf e ≤ reachBytes) (hx : ∀ x ∈ xs, ShD P e x) : ShD P t [.row (P.cellsOf e) xs]
  | st {t : TypeId} {fs : Array Field} (xs : List D) (h : P.underlying t = some (.struct fs)) (hx : ShDs P fs.toList xs) : ShD P t xs
inductive ShDs (P : Program) : List Field → List D → Prop
  | nil : ShDs P [] []
  | cons {f : Field} {l : List Field} {a b : List D} (h : ShD P f.type a) (t : ShDs P l b) : ShDs P (f :: l) (a ++ b)
end
inductive RelDs (w : World) (S : Nat → Prop) : List D → List Value → Prop
  | nil : RelDs w S [] []
  | cons {x : D} {v : Value} {xs : List D} {vs : List Value} (h : RelD w S x v) (t : RelDs w S xs vs) : RelDs w S (x :: xs) (v :: vs)
theorem RelDs.one {w : World} {S : Nat → Prop} {x : D} {v : Value} (h : RelD w S x v) : RelDs w S [x] [v] := .cons h .nil
theorem RelDs.append {w : World} {S : Nat → Prop} {a b : List D} {c d : List Value} (h : RelDs w S a c) (k : RelDs w S b d) : RelDs w S (a ++ b) (c ++ d) := by
  induction h with
  | nil => exact k
  | cons h _ ih => exact .cons h ih
theorem RelDs.length {w : World} {S : Nat → Prop} {a : List D} {c : List Value} (h : RelDs w S a c) : a.length = c.length := by
  induction h with
  | nil => rfl
  | cons h _ ih => simp [ih]
theorem RelDs.get {w : World} {S : Nat → Prop} {a : List D} {c : List Value} (h : RelDs w S a c) : ∀ (j : Nat) x, a[j]? = some x → ∃ v, c[j]? = some v ∧ RelD w S x v := by
  induction h with
  | nil => intro j x h; simp at h
  | cons h _ ih =>
    intro j x hj
    cases j with
    | zero => simp at hj; subst hj; exact ⟨_, rfl, h⟩
    | succ j => simp at hj; simpa using ih j x hj
theorem addr_add (b off i : Nat) : (⟨b, off, none⟩ : Addr).add i = ⟨b, off + i, none⟩ := by
  unfold Addr.add
  split
  · rename_i h; subst h; rfl
  · rfl
theorem addr_add2 (b off i j : Nat) : ((⟨b, off, none⟩ : Addr).add i).add j = ⟨b, off + i + j, none⟩ := by rw [addr_add, addr_add]
section
variable {H : Type} {enc : TypeId × Value → H} {P : Program} {w : World} {base : Nat} {spare : Nat → Bool} {held : Bool}
theorem weightsAll_mem {e : TypeId} : ∀ {ds : List (DataW H)} {d : DataW H}, d ∈ ds → ∀ n ∈ d.weights P e, n ∈ DataW.weightsAll P e ds
  | [], d, h, _, _ => by simp at h
  | x :: l, d, h, n, hn => by
    simp only [DataW.weightsAll, List.mem_append]
    rcases List.mem_cons.1 h with rfl | h
    · exact .inl hn
    · exact .inr (weightsAll_mem h n hn)
theorem pick {α β : Type} {l : List α} {R : Nat → β → Prop} : ∀ {n : Nat}, (∀ i, i < n → ∃ y, R i y) → ∃ ys : List β, ys.length = n ∧ ∀ (i : Nat) y, ys[i]? = some y → R i y
  | 0, _ => ⟨[], rfl, by simp⟩
  | n + 1, h => by
    obtain ⟨ys, h1, h2⟩ := pick (l := l) (R := R) (n := n) (fun i hi => h i (by omega))
    obtain ⟨y, hy⟩ := h n (by omega)
    refine ⟨ys ++ [y], by simp [h1], ?_⟩
    intro i z hz
    by_cases hi : i < n
    · rw [List.getElem?_append_left (by omega)] at hz
      exact h2 i z hz
    · have hlt := (List.getElem?_eq_some_iff.1 hz).1
      simp at hlt
      have : i = n := by omega
      subst this
      rw [List.getElem?_append_right (by omega)] at hz
      simp [h1] at hz
      subst hz
      exact hy
theorem fields_sh {g n : Nat} {fs0 : List Field} {xs : List (DataW H × List MemPlace)} (ih : ∀ {t : TypeId} {cs : List Value} {x : DataW H × List MemPlace}, plainT P g t = true → DataW.trod enc P w base spare held n t cs = some x → (∀ m ∈ x.1.weights P t, m ≤ reachBytes) →
      ∃ ys, RelDs w (fun b => b < w.heap.size) ys cs ∧ ShD P t ys ∧ cs.length = P.cellsOf t) :
    ∀ {fs : List Field} {o i : Nat} {cs : List Value}, laidF P o fs = true → fs.all (fun f => plainT P g f.type) = true → (∀ (k : Nat) f, fs[k]? = some f → DataW.trod enc P w base spare held n f.type ((cs.drop f.offset).take (P.cellsOf f.type)) = xs[i + k]?) →
      i + fs.length = xs.length → (∀ m ∈ DataW.weightsEach P (fs.map (·.type)) ((xs.drop i).map (·.1)), m ≤ reachBytes) → cs.length = o + sumC P fs → ∃ ys, RelDs w (fun b => b < w.heap.size) ys (cs.drop o) ∧ ShDs P fs ys
  | [], o, i, cs, _, _, _, _, _, hlen => by
    refine ⟨[], ?_, .nil⟩
    rw [List.drop_of_length_le (by simp [sumC] at hlen; omega)]
    exact .nil
  | f :: fs, o, i, cs, hl, ha, ht, hn, hw, hlen => by
    simp only [laidF, Bool.and_eq_true, beq_iff_eq] at hl
    simp only [List.all_cons, Bool.and_eq_true] at ha
    have hi : i < xs.length := by simp at hn; omega
    have h0 := ht 0 f rfl
    simp only [Nat.add_zero] at h0
    have hx : xs[i]? = some xs[i] := List.getElem?_eq_getElem hi
    rw [hx, hl.1] at h0
    have hd : xs.drop i = xs[i] :: xs.drop (i + 1) := List.drop_eq_getElem_cons hi
    have hw' : ∀ m ∈ DataW.weights P f.type xs[i].1 ++ DataW.weightsEach P (fs.map (·.type)) ((xs.drop (i + 1)).map (·.1)), m ≤ reachBytes := by
      rw [hd] at hw
      simpa only [List.map_cons, DataW.weightsEach] using hw
    obtain ⟨ys, h1, h2, h3⟩ := ih ha.1 h0 (fun m hm => hw' m (List.mem_append_left _ hm))
    simp only [sumC] at hlen
    obtain ⟨zs, k1, k2⟩ := fields_sh (fs0 := fs0) ih (fs := fs) (o := o + P.cellsOf f.type) (i := i + 1) (cs := cs) hl.2 ha.2 (fun k f' hf => by
      have := ht (k + 1) f' (by simpa using hf)
      rwa [show i + (k + 1) = i + 1 + k by omega] at this) (by simp at hn; omega) (fun m hm => hw' m (List.mem_append_right _ hm)) (by omega)
    refine ⟨ys ++ zs, ?_, .cons h2 k2⟩
    rw [show cs.drop o = (cs.drop o).take (P.cellsOf f.type) ++ cs.drop (o + P.cellsOf f.type) by rw [← List.drop_drop, List.take_append_drop]]
    exact h1.append k1
theorem trod_sh : ∀ {g n : Nat} {t : TypeId} {cs : List Value} {x : DataW H × List MemPlace}, plainT P g t = true → DataW.trod enc P w base spare held n t cs = some x → (∀ m ∈ x.1.weights P t, m ≤ reachBytes) →
    ∃ ys, RelDs w (fun b => b < w.heap.size) ys cs ∧ ShD P t ys ∧ cs.length = P.cellsOf t
  | 0, n, t, cs, x, hp, _, _ => by simp [plainT] at hp
  | g + 1, n, t, cs, x, hp, h, hw => by
    unfold plainT at hp
    split at hp
    · rename_i hu
      obtain ⟨b, rfl, rfl⟩ := DataW.trod_bool hu h
      exact ⟨_, .one (.sc _ rfl), .bool b hu, by simpa using (beq_iff_eq.1 hp).symm⟩
    · rename_i k hu
      obtain ⟨m, rfl, rfl, hwf⟩ := DataW.trod_int hu h
      exact ⟨_, .one (.sc _ rfl), .int m hu hwf, by simpa using (beq_iff_eq.1 hp).symm⟩
    · rename_i hu
      obtain ⟨s, rfl, rfl, _⟩ := DataW.trod_string hu h
      refine ⟨_, .one (.sc _ rfl), .str s hu ?_, by simpa using (beq_iff_eq.1 hp).symm⟩
      have := hw s.data.toList.length (by simp [DataW.weights])
      simpa using this
    · rename_i e hu
      simp only [Bool.and_eq_true, beq_iff_eq, decide_eq_true_eq] at hp
      obtain ⟨⟨hc1, he0⟩, hpe⟩ := hp
      rcases DataW.trod_slice hu h with ⟨rfl, rfl⟩ | ⟨a, len, cap, elems, rest, n', rfl, rfl, rfl, hb, hl, hm, hlen, hel, hsp, hns⟩
      · exact ⟨[.row (P.cellsOf e) []], .one (.nil _ _ _), .sl [] hu (by simp) (by simp), hc1.symm⟩
      · simp only [DataW.weights, hu, List.length_map, List.mem_cons, List.mem_append] at hw
        have each : ∀ i, i < len → ∃ ys, ∃ cs', w.cells? base (a.add (i * P.cellsOf e)) (P.cellsOf e) = some cs' ∧ RelDs w (fun b => b < w.heap.size) ys cs' ∧ ShD P e ys ∧ cs'.length = P.cellsOf e := by
          intro i hi
          have h1 := hel i hi
          have hx : elems[i]? = some (elems[i]'(by omega)) := List.getElem?_eq_getElem (by omega)
          rw [hx] at h1
          obtain ⟨cs', hcs, htr⟩ := Option.bind_eq_some_iff.1 h1
          obtain ⟨ys, k1, k2, k3⟩ := trod_sh hpe htr (fun m hm => hw m (.inr (.inl (weightsAll_mem (List.mem_map.2 ⟨_, List.getElem_mem (by omega), rfl⟩) m hm))))
          exact ⟨ys, cs', hcs, k1, k2, k3⟩
        obtain ⟨ys, hyl, hy⟩ := pick (l := ([] : List Nat)) each
        refine ⟨[.row (P.cellsOf e) ys], .one ?_, .sl ys hu ?_ ?_, hc1.symm⟩
        · cases len with
          | zero =>
            obtain rfl : ys = [] := by simpa using hyl
            exact .nil _ _ _
          | succ len =>
            have cellAt : ∀ (i : Nat) z, ys[i]? = some z → ∃ cs', z.length = P.cellsOf e ∧ cs'.length = P.cellsOf e ∧ (∀ j, j < P.cellsOf e → w.cell? ((a.add (i * P.cellsOf e)).add j) = cs'[j]?) ∧ RelDs w (fun b => b < w.heap.size) z cs' := by
              intro i z hz
              obtain ⟨cs', h1, h2, h3, h4⟩ := hy i z hz
              obtain ⟨_, _, h5⟩ := World.cells?_some h1
              exact ⟨cs', h2.length.trans h4, h4, h5, h2⟩
            have h00 : 0 < ys.length := by omega
            obtain ⟨cs0, _, hl0, hc0, _⟩ := cellAt 0 ys[0] (List.getElem?_eq_getElem h00)
            have hc00 := hc0 0 he0
            have hc00' : w.cell? ((a.add (0 * P.cellsOf e)).add 0) = some (cs0[0]'(by omega)) := hc00.trans (List.getElem?_eq_getElem (by omega))
            have hspot : a.spot = none := by simpa [Addr.add] using World.cell?_spot hc00'
            have hblk : a.block < w.heap.size := by
              obtain ⟨cs', h1, _⟩ := hy 0 ys[0] (List.getElem?_eq_getElem h00)
              have := World.cells?_block h1 he0
              simpa [Addr.add] using this
            obtain ⟨b, off, spot⟩ := a
            simp only at hspot hblk
            subst hspot
            rw [← hyl]
            refine .row (P.cellsOf e) ys b off cap (fun i j => ((w.cell? ⟨b, off + i * P.cellsOf e + j, none⟩).getD undef)) hblk (by omega) ?_ ?_ ?_
            · intro i z hz
              obtain ⟨_, h, _⟩ := cellAt i z hz
              exact h
            · intro i z j y hz hy'
              obtain ⟨cs', h1, h2, h3, h4⟩ := cellAt i z hz
              have hj : j < P.cellsOf e := by rw [← h1]; exact (List.getElem?_eq_some_iff.1 hy').1
              have h5 := h3 j hj
              rw [List.getElem?_eq_getElem (by omega)] at h5
              have h6 : w.cell? ⟨b, off + i * P.cellsOf e + j, none⟩ = some (cs'[j]'(by omega)) := by rw [addr_add2] at h5; exact h5
              rw [h6]
              rfl
            · intro i z j y hz hy'
              obtain ⟨cs', h1, h2, h3, h4⟩ := cellAt i z hz
              have hj : j < P.cellsOf e := by rw [← h1]; exact (List.getElem?_eq_some_iff.1 hy').1
              have h5 := h3 j hj
              rw [List.getElem?_eq_getElem (by omega)] at h5
              have h6 : w.cell? ⟨b, off + i * P.cellsOf e + j, none⟩ = some (cs'[j]'(by omega)) := by rw [addr_add2] at h5; exact h5
              rw [h6]
              obtain ⟨v, hv, hr⟩ := h4.get j y hy'
              rw [List.getElem?_eq_getElem (by omega)] at hv
              obtain rfl := Option.some.inj hv
              exact hr
        · have h1 := hw _ (.inl rfl)
          refine Nat.le_trans (Nat.mul_le_mul_right _ ?_) h1
          omega
        · intro z hz
          obtain ⟨i, hi⟩ := List.getElem?_of_mem hz
          obtain ⟨_, _, _, h, _⟩ := hy i z hi
          exact h
    · rename_i fs hu
      simp only [Bool.and_eq_true, beq_iff_eq] at hp
      obtain ⟨⟨hlay, hsum⟩, hall⟩ := hp
      obtain ⟨xs, n', rfl, rfl, hlen, hxl, hel⟩ := DataW.trod_struct hu h
      simp only [DataW.weights, hu] at hw
      obtain ⟨ys, h1, h2⟩ := fields_sh (fs0 := fs.toList) (xs := xs) (fun {t} {cs} {x} a b c => trod_sh (g := g) a b c) (fs := fs.toList) (o := 0) (i := 0) (cs := cs) hlay hall (fun k f hf => by
        rw [Nat.zero_add]; exact hel k f (by simpa using hf)) (by simp [hxl]) (by simpa using hw) (by omega)
      exact ⟨ys, by simpa using h1, .st ys hu h2, hlen⟩
    · cases hp
end
end Go.Proofs.YtmkpihcfglinjaaGreatDoor.Ab
