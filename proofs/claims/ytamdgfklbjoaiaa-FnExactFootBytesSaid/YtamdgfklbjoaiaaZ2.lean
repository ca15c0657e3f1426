/- A relation between the machine and an abstract state, evaluators for single operations and for code, proved sound (part 2). No conditions. -/
import Derived.Test.YtamdgfklbjoaiaaZ1
set_option linter.unusedVariables false
set_option linter.unusedSimpArgs false
namespace Go.Proofs.Ytamdgfklbjoaiaa.Ab
open Go

section
variable {P : Program} {c : Ctx} {E : Env}

/-- In place. -/
theorem run_append_fits' {w : World} {t xT ty e n len cap k : Nat} {base : Option Addr} {vx : Value} {cs : List Value} (hu : P.underlying t = some (.slice e)) (hn : szT P e = some n)
    (hx : (∃ e', P.underlying xT = some (.slice e')) ∨ P.underlying xT = some .string)
    (hl : (Builtin.lenOf vx).run P w = .ok k w) (hf : (Builtin.firstCells n k vx).run P w = .ok cs.toArray w) (hle : len + k ≤ cap) :
    (Builtin.append_ #[t, xT] ty #[.slice base len cap, vx]).run P w =
      (match base with
      | some a => ((storeCells (a.add (len * n)) cs).run P w).andThen fun _ w' => .ok (.slice base (len + k) cap) w'
      | none => .ok (.slice base (len + k) cap) w) := by
  rcases hx with ⟨e', hx⟩ | hx <;> cases base <;> simp [Builtin.append_, run_underlying hu, run_underlying hx, run_sizeOf' hn, hl, hf, hle]

/-- Into a new block. -/
theorem run_append_grows' {w : World} {t xT ty e n len cap k : Nat} {base : Option Addr} {vx : Value} {cs os : List Value} {i : TypeInfo} {z : Value} (hu : P.underlying t = some (.slice e)) (hi : P.info? e = some i) (hn : i.size = n)
    (hx : (∃ e', P.underlying xT = some (.slice e')) ∨ P.underlying xT = some .string)
    (hz : i.zero = some z) (hl : (Builtin.lenOf vx).run P w = .ok k w) (hf : (Builtin.firstCells n k vx).run P w.drew = .ok cs.toArray w.drew)
    (ho : (Builtin.firstCells n len (.slice base len cap)).run P w.drew = .ok os.toArray w.drew) (hgt : cap < len + k)
    (h48 : Builtin.nextslicecap (len + k) cap * i.bytes ≤ 281474976710656) (h63 : ((len + k : Nat) : Int) ≤ 9223372036854775807) :
    (Builtin.append_ #[t, xT] ty #[.slice base len cap, vx]).run P w =
      .ok (.slice (some ⟨w.heap.size, 0, none⟩) (len + k) (grownCap w (len + k) cap e)) (w.drew.alloc (.cells (os.toArray ++ (cs.toArray ++ Builtin.zeroCells z.cells (grownCap w (len + k) cap e - (len + k)))) e)) := by
  subst hn
  have hs : szT P e = some i.size := by simp [szT, hi]
  have h1 : ¬ (len + k ≤ cap) := by omega
  have h63' : ¬ (9223372036854775807 < ((len : Int) + (k : Int))) := by omega
  have h48' : ¬ (281474976710656 < Builtin.nextslicecap (len + k) cap * i.bytes) := by omega
  rcases hx with ⟨e', hx⟩ | hx <;>
    simp [Builtin.append_, run_underlying hu, run_underlying hx, sizeOf, typeInfo, zeroValue, hi, hz, hl, h1, h63', h48', Question.forced, hf, ho, newRow, grownCap]

def Env.drew (E : Env) : Env := { E with w := E.w.drew }
theorem Step.drew (E : Env) : Step E E.drew := ⟨fun _ R h => ⟨R, h, .inr rfl⟩, fun _ h => h, fun _ _ => rfl, fun _ h => h, fun _ _ => rfl, fun _ _ h => h⟩
theorem Mem.drew (hM : Mem c E) : Mem c E.drew :=
  { os := hM.os, output := hM.output, tape := hM.tape, size := hM.size, keep := hM.keep, shape := hM.shape, s0 := hM.s0, slt := hM.slt, snew := hM.snew, blt := hM.blt, bown := hM.bown, bkeep := hM.bkeep, inj := hM.inj
    roots := fun r R hp hr => (hM.roots r R hp hr).step (Step.drew E) hp (fun _ _ => rfl) (fun _ _ h => h) }

theorem undrew {y : D} {u : Value} (h : RelD E.drew.w E.drew.S y u) : RelD E.w E.S y u :=
  RelD.step (w := E.drew.w) (w' := E.w) (S := E.drew.S) (S' := E.S) (fun _ h => h) (fun b _ => (show E.w.heap[b]? = E.drew.w.heap[b]? from rfl)) h

/-- The outcome of an append. -/
structure Appended (c : Ctx) (E : Env) (nb r : Nat) (E' : Env) : Prop where
  mem : Mem c E'
  step : Step E E'
  rt : E'.rt = (E.kill r).rt
  pres : ∀ x, E'.pres x ↔ E.pres x ∨ x = nb
  S : E'.S = E.S
  size : E.w.heap.size ≤ E'.w.heap.size

theorem unfrozen_getD {fr : Nat × Nat} {w : World} {b o : Nat} {cs : Array Value} {t : TypeId} (h : w.heap[b]? = some (.cells cs t fr)) (hf : unfrozen cs.size fr) (ho : o < cs.size) : w.frozen? ⟨b, o, none⟩ = false := by
  have := hf o ho
  simp only [World.frozen?, h]
  obtain ⟨lo, hi⟩ := fr
  simp only at this ⊢
  simp only [Bool.and_eq_false_iff, decide_eq_false_iff_not]
  by_cases h' : lo ≤ o
  · right; exact fun h2 => this ⟨h', h2⟩
  · left; exact h'

theorem src_step {E' : Env} (hrt : E'.rt = E.rt) (x : AV) : x.src E'.rt = x.src E.rt := by rw [hrt]

theorem ezT_info {t : TypeId} (h : (ezT P t).isSome = true) : ∃ e i z zs, P.underlying t = some (.slice e) ∧ P.info? e = some i ∧ i.zero = some z ∧ zeroT P e = some zs ∧ i.size = zs.length ∧ z.cells.size = i.size := by
  unfold ezT at h
  split at h
  · rename_i e hu
    cases hzs : zeroT P e with
    | none => simp [hzs] at h
    | some zs =>
      cases hi : P.info? e with
      | none => simp [hzs, hi] at h
      | some i =>
        simp only [hzs, hi, Option.bind_some] at h
        split at h
        · rename_i hsz
          obtain ⟨z, hrun, hcells, _, i', hi', hz⟩ := run_zeroValue (P := P) (w := default) hzs
          rw [hi] at hi'
          obtain rfl := Option.some.inj hi'
          exact ⟨e, i, z, zs, hu, hi, hz, hzs, hsz, by rw [← Array.length_toList, hcells, hsz]; simp⟩
        · simp at h
  · simp at h

theorem zeroCells_size (z : Array Value) (n : Nat) : (Builtin.zeroCells z n).size = n * z.size := by simp [Builtin.zeroCells]

/-- The grown row. -/
theorem append_grown (hM : Mem c E) {nb t xT ty r sz len cap e : Nat} {base : Option Addr} {xs ys : List (List D)} {vx : Value} {os cs : List Value} {i : TypeInfo} {z : Value} (hu : P.underlying t = some (.slice e)) (hi : P.info? e = some i)
    (hsz : i.size = sz) (hx : (∃ e', P.underlying xT = some (.slice e')) ∨ P.underlying xT = some .string) (hz : i.zero = some z) (hzs : z.cells.size = sz) (hl : (Builtin.lenOf vx).run P E.w = .ok ys.length E.w)
    (hf : (Builtin.firstCells sz ys.length vx).run P E.w.drew = .ok cs.toArray E.w.drew) (ho : (Builtin.firstCells sz len (.slice base len cap)).run P E.w.drew = .ok os.toArray E.w.drew) (hgt : cap < len + ys.length)
    (h48 : (2 * (len + ys.length) + 1024) * i.bytes ≤ 2 ^ 48) (h62 : len + ys.length < 2 ^ 62) (hlen : len = xs.length) (hr : E.rt r = some (.row sz false xs)) (hp : E.pres r)
    (hos : os.length = xs.length * sz) (hcs : cs.length = ys.length * sz) (hxl : ∀ (k : Nat) x, xs[k]? = some x → x.length = sz) (hyl : ∀ (k : Nat) y, ys[k]? = some y → y.length = sz)
    (hxr : ∀ (k : Nat) x (j : Nat) y, xs[k]? = some x → x[j]? = some y → ∃ u, os[k * sz + j]? = some u ∧ RelD E.w E.S y u) (hyr : ∀ (k : Nat) x (j : Nat) y, ys[k]? = some x → x[j]? = some y → ∃ u, cs[k * sz + j]? = some u ∧ RelD E.w E.S y u)
    (hF : Fresh c E nb [.row sz false (xs ++ ys)]) :
    ∃ v E', (Builtin.append_ #[t, xT] ty #[.slice base len cap, vx]).run P E.w = .ok v E'.w ∧ Appended c E nb r E' ∧ RelAV E' (.ref nb 0 (xs.length + ys.length)) v ∧ (∀ b', E'.β nb = some b' → E.β r = some b' ∨ ∃ n, E'.w.shape? b' = some (e, n)) := by
  have h48' : Builtin.nextslicecap (len + ys.length) cap * i.bytes ≤ 281474976710656 := by
    have := Nat.mul_le_mul_right i.bytes (nextcap_le hgt)
    omega
  have hrun := run_append_grows' (P := P) (w := E.w) (t := t) (xT := xT) (ty := ty) (base := base) hu hi hsz hx hz hl hf ho hgt h48' (by omega)
  have hne : nb ≠ r := by
    rintro rfl
    have := hF.np 0 (by simp)
    simp at this
    exact this hp
  have hM1 : Mem c (E.kill r).drew := (hM.kill hr).drew
  have st1 : Step E (E.kill r).drew := (Step.kill hr).trans (Step.drew _)
  have hrt : (E.kill r).drew.rt nb = some (.row sz false (xs ++ ys)) := by
    have := hF.rt 0 _ rfl
    simp only [Nat.add_zero] at this
    simpa [Env.drew, Env.kill, hne] using this
  have hnp : ¬ (E.kill r).drew.pres nb := by
    show ¬ E.pres nb
    simpa using hF.np 0 (by simp)
  generalize hcap : grownCap E.w (len + ys.length) cap e = nc at *
  have hge : len + ys.length ≤ nc := by rw [← hcap]; simp [grownCap, Question.cut]
  have hsize : (os.toArray ++ (cs.toArray ++ Builtin.zeroCells z.cells (nc - (len + ys.length)))).size = nc * sz := by
    simp only [Array.size_append, List.size_toArray, zeroCells_size, hos, hcs, hzs]
    rw [← Nat.add_mul, ← Nat.add_mul]
    congr 1
    omega
  obtain ⟨q, hrel⟩ := rowed hM1 (r := nb) (sz := sz) (xs := xs ++ ys) (t := e) (cs := os.toArray ++ (cs.toArray ++ Builtin.zeroCells z.cells (nc - (len + ys.length)))) (fr := (0, 0)) hrt hnp hF.m (Grow.alloc _ _) (unfrozen_zero _)
    (by
      intro k x hk
      by_cases hlt : k < xs.length
      · rw [List.getElem?_append_left hlt] at hk; exact hxl k x hk
      · rw [List.getElem?_append_right (by omega)] at hk; exact hyl _ x hk)
    (by rw [hsize, List.length_append]; exact Nat.mul_le_mul_right _ (by omega))
    (by
      intro k x j y hk hy
      by_cases hlt : k < xs.length
      · rw [List.getElem?_append_left hlt] at hk
        obtain ⟨u, hu, hr⟩ := hxr k x j y hk hy
        refine ⟨u, ?_, hr.step st1.S st1.heap⟩
        rw [Array.getElem?_append_left (by simp; exact (List.getElem?_eq_some_iff.1 hu).1)]
        simpa using hu
      · rw [List.getElem?_append_right (by omega)] at hk
        obtain ⟨u, hu, hr⟩ := hyr _ x j y hk hy
        have hge2 : os.length ≤ k * sz + j := by
          rw [hos]
          have := Nat.mul_le_mul_right sz (show xs.length ≤ k by omega)
          omega
        have he : k * sz + j - os.length = (k - xs.length) * sz + j := by
          rw [hos, Nat.sub_mul]
          have := Nat.mul_le_mul_right sz (show xs.length ≤ k by omega)
          omega
        refine ⟨u, ?_, hr.step st1.S st1.heap⟩
        rw [Array.getElem?_append_right (by simpa using hge2)]
        simp only [List.size_toArray, he]
        rw [Array.getElem?_append_left (by simp; exact (List.getElem?_eq_some_iff.1 hu).1)]
        simpa using hu)
  refine ⟨_, _, hrun, ⟨q.mem, st1.trans q.step, ?_, ?_, ?_, ?_⟩, ?_, fun b' hb' => .inr ⟨nc * sz, ?_⟩⟩
  rotate_left 5
  · have e0 := (setB_same _ _ _).symm.trans hb'
    obtain rfl := Option.some.inj e0
    have g := (Grow.alloc E.w.drew (.cells (os.toArray ++ (cs.toArray ++ Builtin.zeroCells z.cells (nc - (len + ys.length)))) e)).new
    show World.shape? (E.w.drew.alloc _) E.w.drew.heap.size = _
    simp only [World.shape?, g, hsize]
  · exact q.rt
  · intro x
    rw [q.pres]
    constructor
    · rintro (h | h)
      · exact .inl h
      · exact .inr (by omega)
    · rintro (h | h)
      · exact .inl h
      · exact .inr (by omega)
  · rfl
  · exact q.size
  · have := hrel (len + ys.length) nc hge (by rw [hsize]; exact Nat.le_refl _)
    rw [← hlen]
    exact this

theorem evAppend_sound (hM : Mem c E) {nb t xT ty r : Nat} {s x av : AV} {vs vx : Value} {new : List Root} (hx : (∃ e', P.underlying xT = some (.slice e')) ∨ P.underlying xT = some .string) (hz : (ezT P t).isSome = true)
    (hs : RelAV E s vs) (hxr : RelAV E x vx) (h : evAppend E.rt nb (elT P t) s x = some (av, new, r)) (hF : Fresh c E nb new) :
    ∃ v E', (Builtin.append_ #[t, xT] ty #[vs, vx]).run P E.w = .ok v E'.w ∧ Appended c E nb r E' ∧ RelAV E' av v ∧ (∀ e', P.underlying t = some (.slice e') → ∀ b', E'.β nb = some b' → E.β r = some b' ∨ ∃ n, E'.w.shape? b' = some (e', n)) := by
  obtain ⟨e, inf, z, zs, hu, hinf, hzero, _, _, hzc⟩ := ezT_info hz
  cases hs with
  | dref r0 off len v h1 ho => simp [evAppend, h1] at h
  | refz r0 off R sz0 a h1 hk h2 =>
    cases R with
    | buf => simp [evAppend, h1] at h
    | box => simp [Root.kind] at hk
    | dead => simp [Root.kind] at hk
    | row sz fz xs =>
      cases fz with
      | true => simp [evAppend, h1] at h
      | false =>
        simp only [evAppend, h1] at h
        obtain ⟨⟨sz', ys⟩, hsrc, h⟩ := Option.bind_eq_some_iff.1 h
        obtain ⟨⟨n, bytes⟩, hel, h⟩ := Option.bind_eq_some_iff.1 h
        obtain ⟨e', i', hu', hi', hsi, hby, hsze⟩ := elT_some hel
        rw [hu] at hu'
        obtain rfl : e = e' := by simpa using hu'
        rw [hinf] at hi'
        obtain rfl := Option.some.inj hi'
        simp only at h
        split at h
        · rename_i hc
          obtain ⟨_, hlen, hs1, hs2, h48, h62⟩ := hc
          subst hs1 hs2 hsi hby
          simp only [Option.some.injEq, Prod.mk.injEq] at h
          obtain ⟨rfl, rfl, rfl⟩ := h
          have hnil : xs = [] := List.eq_nil_of_length_eq_zero hlen.symm
          subst hnil
          obtain ⟨cs, hl, hf, hcl, hyl, hone, hyr⟩ := src_sound (P := P) hM hxr hsrc
          by_cases hk0 : ys.length = 0
          · have hy0 : ys = [] := List.eq_nil_of_length_eq_zero hk0
            subst hy0
            have hcs0 : cs = [] := List.eq_nil_of_length_eq_zero (by simpa using hcl)
            subst hcs0
            have hrun := run_append_fits' (P := P) (w := E.w) (t := t) (xT := xT) (ty := ty) (n := inf.size) (len := 0) (cap := 0) (k := 0) (base := a) (vx := vx) (cs := []) hu hsze hx (by simpa using hl) (by simpa using hf) (by omega)
            have hne : nb ≠ r0 := by
              rintro rfl
              have := hF.np 0 (by simp)
              simp at this
              exact this h2
            have hrt : (E.kill r0).rt nb = some (.row inf.size false []) := by
              have := hF.rt 0 _ rfl
              simp only [Nat.add_zero] at this
              simpa [Env.kill, hne] using this
            have hnp : ¬ (E.kill r0).pres nb := by
              show ¬ E.pres nb
              simpa using hF.np 0 (by simp)
            have q := Quiet.nil (hM.kill h1) hrt hnp hF.m
            refine ⟨.slice a 0 0, (E.kill r0).withNil nb, ?_, ⟨q.mem, (Step.kill h1).trans q.step, rfl, ?_, rfl, Nat.le_refl _⟩, ?_, fun e' _ b' hb' => by cases (setB_same _ _ _).symm.trans hb'⟩
            · rw [hrun]
              cases a <;> simp [storeCells, Env.withNil, Env.kill]
            · intro x
              exact Iff.rfl
            · exact .refz nb 0 _ inf.size a hrt rfl (Or.inr rfl)
          · obtain ⟨cs, _, hfd, hcl, hyl, _, hyr'⟩ := src_sound (P := P) hM.drew (hxr.step (Step.drew E)) hsrc
            have hyr : ∀ (k : Nat) x (j : Nat) y, ys[k]? = some x → x[j]? = some y → ∃ u, cs[k * inf.size + j]? = some u ∧ RelD E.w E.S y u := fun k x j y hk hy => by
              obtain ⟨u, hu, hr⟩ := hyr' k x j y hk hy
              exact ⟨u, hu, undrew hr⟩
            have hod : (Builtin.firstCells inf.size 0 (.slice a 0 0)).run P E.w.drew = .ok ([] : List Value).toArray E.w.drew := by
              cases a <;> simp [Builtin.firstCells, loadCells, loadCellsFrom]
            have := append_grown (P := P) hM (nb := nb) (t := t) (xT := xT) (ty := ty) (r := r0) (sz := inf.size) (len := 0) (cap := 0) (e := e) (base := a) (xs := []) (ys := ys) (vx := vx) (os := []) (cs := cs) (i := inf) (z := z) hu hinf rfl hx hzero hzc hl hfd hod (by omega)
              (by simpa using h48) (by simpa using h62) rfl h1 h2 (by simp) hcl (by simp) hyl (by simp) hyr hF
            obtain ⟨v, E', a1, a2, a3, a4⟩ := this
            exact ⟨v, E', a1, a2, a3, fun e' he' => by rw [hu] at he'; obtain rfl : e = e' := by simpa using he'
                                                       exact a4⟩
        · cases h
  | ref r0 off len R sz0 b cap tt nn h1 hk h2 h3 h4 h5 h6 =>
    cases R with
    | buf => simp [evAppend, h1] at h
    | box => simp [Root.kind] at hk
    | dead => simp [Root.kind] at hk
    | row sz fz xs =>
      simp only [Root.kind, Kind.row.injEq] at hk
      subst hk
      cases fz with
      | true => simp [evAppend, h1] at h
      | false =>
        simp only [evAppend, h1] at h
        obtain ⟨⟨sz', ys⟩, hsrc, hB⟩ := Option.bind_eq_some_iff.1 h
        clear h
        obtain ⟨⟨n, bytes⟩, hel, hC⟩ := Option.bind_eq_some_iff.1 hB
        clear hB
        obtain ⟨e', i', hu', hi', hsi, hby, hsze⟩ := elT_some hel
        rw [hu] at hu'
        obtain rfl : e = e' := by simpa using hu'
        rw [hinf] at hi'
        obtain rfl := Option.some.inj hi'
        obtain ⟨hc, h⟩ := Option.ite_none_right_eq_some.1 hC
        clear hC
        · obtain ⟨hoff, hlen, hs1, hs2, h48, h62⟩ := hc
          dsimp only at hs1 hs2 h48 h62 h
          subst hoff hs1 hs2 hsi hby
          simp only [Option.some.injEq, Prod.mk.injEq] at h
          obtain ⟨rfl, rfl, rfl⟩ := h
          rcases hM.roots r0 _ h2 h1 with ⟨hb, _⟩ | ⟨b', cs0, ty0, fr, hb, hh, hxl, hxs, hxr0, hfz⟩
          · rw [h3] at hb; cases hb
          rw [h3] at hb
          obtain rfl := Option.some.inj hb
          rcases hfz with ⟨hf, _⟩ | ⟨_, hnS, hfr⟩
          · cases hf
          have hnn : cap * inf.size ≤ cs0.size := by
            have : E.w.shape? b = some (ty0, cs0.size) := by simp [World.shape?, hh]
            rw [this] at h4
            have := (Prod.mk.inj (Option.some.inj h4)).2
            simpa [this] using h6
          have hne : nb ≠ r0 := by
            rintro rfl
            have := hF.np 0 (by simp)
            simp at this
            exact this h2
          by_cases hfit : len + ys.length ≤ cap
          · obtain ⟨cs, hl, hf, hcl, hyl, hone, hyr⟩ := src_sound (P := P) hM hxr hsrc
            have hrun := run_append_fits' (P := P) (w := E.w) (t := t) (xT := xT) (ty := ty) (n := inf.size) (len := len) (cap := cap) (k := ys.length) (base := some ⟨b, 0 * inf.size, none⟩) (vx := vx) (cs := cs) hu hsze hx hl hf hfit
            have hle : len * inf.size + cs.length ≤ cs0.size := by
              rw [hcl, ← Nat.add_mul]
              exact Nat.le_trans (Nat.mul_le_mul_right _ hfit) hnn
            have hst := run_storeCells_cells (P := P) b (len * inf.size) cs 0 E.w (by
                intro j hj
                have : len * inf.size + j < cs0.size := by omega
                simp [World.cell?, hh, this])
              (by
                intro j hj
                have hlt : len * inf.size + j < cs0.size := by omega
                rw [Nat.add_zero]
                exact unfrozen_getD hh hfr hlt) hone
            obtain ⟨cs', hw, hget⟩ := setCells_wrote b ty0 fr cs (len * inf.size) E.w cs0 hh hle
            have hM1 : Mem c (E.kill r0) := hM.kill h1
            have hrt : (E.kill r0).rt nb = some (.row inf.size false (xs ++ ys)) := by
              have := hF.rt 0 _ rfl
              simp only [Nat.add_zero] at this
              simpa [Env.kill, hne] using this
            have hnp : ¬ (E.kill r0).pres nb := by
              show ¬ E.pres nb
              simpa using hF.np 0 (by simp)
            have st2 : Step (E.kill r0) ((E.kill r0).adopt nb b (E.w.setCells b (len * inf.size) cs)) := Step.adopt hnp hnS hh hw
            have hroot : RootRel ((E.kill r0).adopt nb b (E.w.setCells b (len * inf.size) cs)) nb (.row inf.size false (xs ++ ys)) := by
              refine .inr ⟨b, cs', ty0, fr, setB_same _ _ _, hw.at_, ?_, ?_, ?_, .inr ⟨rfl, hnS, by rw [hw.size]; exact hfr⟩⟩
              · intro k x hk
                by_cases hlt : k < xs.length
                · rw [List.getElem?_append_left hlt] at hk; exact hxl k x hk
                · rw [List.getElem?_append_right (by omega)] at hk; exact hyl _ x hk
              · rw [hw.size, List.length_append, ← hlen]
                exact Nat.le_trans (Nat.mul_le_mul_right _ hfit) hnn
              · intro k x j y hk hy
                rw [hget]
                by_cases hlt : k < xs.length
                · rw [List.getElem?_append_left hlt] at hk
                  have hj : j < inf.size := by rw [← hxl k x hk]; exact (List.getElem?_eq_some_iff.1 hy).1
                  have hlt2 : k * inf.size + j < len * inf.size := by
                    calc k * inf.size + j < k * inf.size + inf.size := by omega
                      _ = (k + 1) * inf.size := by rw [Nat.succ_mul]
                      _ ≤ len * inf.size := Nat.mul_le_mul_right _ (by omega)
                  rw [if_neg (by omega)]
                  obtain ⟨u, hu, hr⟩ := hxr0 k x j y hk hy
                  exact ⟨u, hu, (hr.step (Step.kill h1).S (Step.kill h1).heap).step st2.S st2.heap⟩
                · rw [List.getElem?_append_right (by omega)] at hk
                  obtain ⟨u, hu, hr⟩ := hyr _ x j y hk hy
                  have hul : (k - xs.length) * inf.size + j < cs.length := (List.getElem?_eq_some_iff.1 hu).1
                  have hge : len * inf.size ≤ k * inf.size := Nat.mul_le_mul_right _ (by omega)
                  have he : k * inf.size + j - len * inf.size = (k - xs.length) * inf.size + j := by
                    rw [Nat.sub_mul, ← hlen]; omega
                  rw [if_pos (by omega), he]
                  exact ⟨u, hu, (hr.step (Step.kill h1).S (Step.kill h1).heap).step st2.S st2.heap⟩
            have hM2 : Mem c ((E.kill r0).adopt nb b (E.w.setCells b (len * inf.size) cs)) := hM1.adopt hrt hnp hF.m hnS (by
                intro x R hxp hxR hd hxb
                obtain ⟨hxne, hxR'⟩ := kill_rt hxR hd
                exact hxne (hM.inj x r0 R _ b hxp h2 hxR' hd h1 (by simp) hxb h3)) (hM.bown r0 _ b h2 h1 (by simp) h3) hh hw hroot
            refine ⟨.slice (some ⟨b, 0 * inf.size, none⟩) (len + ys.length) cap, (E.kill r0).adopt nb b (E.w.setCells b (len * inf.size) cs), ?_, ⟨hM2, (Step.kill h1).trans st2, rfl, fun x => Iff.rfl, rfl, ?_⟩, ?_, fun e' _ b' hb' => .inl (h3.trans ((setB_same _ _ _).symm.trans hb'))⟩
            · rw [hrun]
              simp only [Nat.zero_mul, add_none, Nat.zero_add] at hst ⊢
              rw [show (storeCells ⟨b, len * inf.size, none⟩ cs).run P E.w = (storeCells ⟨b, len * inf.size, none⟩ cs 0).run P E.w from rfl, hst]
              rfl
            · show E.w.heap.size ≤ (E.w.setCells b (len * inf.size) cs).heap.size
              rw [hw.hsize]; exact Nat.le_refl _
            · have hsh : ((E.kill r0).adopt nb b (E.w.setCells b (len * inf.size) cs)).w.shape? b = some (ty0, cs'.size) := by
                show (E.w.setCells b (len * inf.size) cs).shape? b = _
                unfold World.shape?; rw [hw.at_]
              rw [← hlen]
              exact .ref nb 0 (len + ys.length) _ inf.size b cap ty0 cs'.size hrt rfl (Or.inr rfl) (setB_same _ _ _) hsh hfit (by rw [hw.size]; simpa using hnn)
          · obtain ⟨_, hl, _⟩ := src_sound (P := P) hM hxr hsrc
            obtain ⟨cs, _, hfd, hcl, hyl, _, hyr'⟩ := src_sound (P := P) hM.drew (hxr.step (Step.drew E)) hsrc
            have hyr : ∀ (k : Nat) x (j : Nat) y, ys[k]? = some x → x[j]? = some y → ∃ u, cs[k * inf.size + j]? = some u ∧ RelD E.w E.S y u := fun k x j y hk hy => by
              obtain ⟨u, hu, hr⟩ := hyr' k x j y hk hy
              exact ⟨u, hu, undrew hr⟩
            have hview : AV.src E.rt (.ref r0 0 len) = some (inf.size, xs) := by
              simp [AV.src, AV.view, h1, hlen]
            have hsd : RelAV E.drew (.ref r0 0 len) (.slice (some ⟨b, 0 * inf.size, none⟩) len cap) := RelAV.step (Step.drew E) (.ref r0 0 len _ inf.size b cap tt nn h1 rfl h2 h3 h4 h5 h6)
            obtain ⟨os, _, hod, hol, _, _, hor'⟩ := src_sound (P := P) hM.drew hsd hview
            have hor : ∀ (k : Nat) x (j : Nat) y, xs[k]? = some x → x[j]? = some y → ∃ u, os[k * inf.size + j]? = some u ∧ RelD E.w E.S y u := fun k x j y hk hy => by
              obtain ⟨u, hu, hr⟩ := hor' k x j y hk hy
              exact ⟨u, hu, undrew hr⟩
            rw [← hlen] at hod
            have := append_grown (P := P) hM (nb := nb) (t := t) (xT := xT) (ty := ty) (r := r0) (sz := inf.size) (len := len) (cap := cap) (e := e) (xs := xs) (ys := ys) (vx := vx) (os := os) (cs := cs) (i := inf) (z := z) hu hinf rfl hx hzero hzc hl hfd hod (by omega)
              (by rw [hlen]; exact h48) (by rw [hlen]; exact h62) hlen h1 h2 hol hcl hxl hyl hor hyr hF
            obtain ⟨v, E', a1, a2, a3, a4⟩ := this
            exact ⟨v, E', a1, a2, a3, fun e' he' => by rw [hu] at he'; obtain rfl : e = e' := by simpa using he'
                                                       exact a4⟩
  | _ => simp [evAppend] at h
end
end Go.Proofs.Ytamdgfklbjoaiaa.Ab

namespace Go.Proofs.Ytamdgfklbjoaiaa.Ab
open Go

/-- What an operation comes to: its value, new roots, roots that are other than they were. -/
structure Out where
  av : AV
  new : List Root
  g : List (Nat × Root)

def updG : List (Nat × Root) → (Nat → Option Root) → Nat → Option Root
  | [], rt => rt
  | (r, R) :: rest, rt => fun x => if x = r then some R else updG rest rt x

def opd0 (sl : Nat → AV) : Operand → AV
  | .tmp t => sl t
  | .const v => if v.oneCell' then .d (.sc v) else .junk
  | .func f => .clo f []
  | .global _ => .junk

/-- An operand; a nil slice is a root of its own. -/
def opd (nb hint : Nat) (sl : Nat → AV) : Operand → AV × List Root
  | .const (.slice none 0 0) => (.ref nb 0 0, [.row hint false []])
  | x => (opd0 sl x, [])

def hintT (P : Program) (t : TypeId) : Nat := ((elT P t).map (·.1)).getD 0

inductive EK where
  | int | str | bool

def ekOf : Option TypeDesc → Option EK
  | some (.int _) => some .int
  | some .string => some .str
  | some .bool => some .bool
  | _ => none

def eksOf (P : Program) : Nat → List Field → Option (List EK)
  | _, [] => some []
  | i, f :: fs => if f.name ≠ "_" ∧ f.offset = i then (ekOf (P.underlying f.type)).bind fun k => (eksOf P (i + 1) fs).map (k :: ·) else none

/-- The structs that are compared cell by cell: what each cell is. -/
def eqT (P : Program) (t : TypeId) : Option (List EK) :=
  match P.underlying t with
  | some (.struct fs) => if P.stoodInHeld t = true ∨ P.eqGuardType P.depth t = true then none else eksOf P 0 fs.toList
  | _ => none

def eqSc : EK → Value → Value → Option Bool
  | .int, .int k a, .int k' b => if k = k' then some (a == b) else none
  | .str, .string a, .string b => some (a.toList == b.toList)
  | .bool, .bool a, .bool b => some (a == b)
  | _, _, _ => none

def eqAll : List EK → List AV → List AV → Option Bool
  | [], [], [] => some true
  | k :: ks, .d (.sc x) :: xs, .d (.sc y) :: ys => (eqSc k x y).bind fun b => (eqAll ks xs ys).map fun r => b && r
  | _, _, _ => none

def isBoolT (P : Program) (t : TypeId) : Bool := match P.underlying t with | some .bool => true | _ => false
def isStrT (P : Program) (t : TypeId) : Bool := match P.underlying t with | some .string => true | _ => false
def isSliceT (P : Program) (t : TypeId) : Bool := match P.underlying t with | some (.slice _) => true | _ => false

def evBin (P : Program) (op : BinOp) (t : TypeId) (x y : AV) : Option AV :=
  match x, y with
  | .d (.sc a), .d (.sc b) => (binSc op (isBoolT P t) a b).map fun v => .d (.sc v)
  | .agg xs, .agg ys =>
    match op with
    | .eql => (eqT P t).bind fun ks => (eqAll ks xs ys).map fun b => .d (.sc (.bool b))
    | .neq => (eqT P t).bind fun ks => (eqAll ks xs ys).map fun b => .d (.sc (.bool !b))
    | _ => none
  | _, _ => none

def unSc (op : UnOp) (x : Value) : Option Value :=
  match op, x with
  | .not, .bool b => some (.bool !b)
  | .neg, .int k n => some (.int k (k.wrap (0 - n)))
  | _, _ => none

def evUn (op : UnOp) : AV → Option AV
  | .d (.sc x) => (unSc op x).map fun v => .d (.sc v)
  | _ => none

section
variable {P : Program} {c : Ctx} {E : Env}

structure OutRel (c : Ctx) (E : Env) (nb : Nat) (o : Out) (v : Value) (E' : Env) : Prop where
  mem : Mem c E'
  step : Step E E'
  rt : E'.rt = updG o.g E.rt
  pres : ∀ r, E'.pres r ↔ E.pres r ∨ (nb ≤ r ∧ r < nb + o.new.length)
  size : E.w.heap.size ≤ E'.w.heap.size
  rel : RelAV E' o.av v

/-- The operation's run. -/
def Done (P : Program) (c : Ctx) (E : Env) (nb : Nat) (o : Out) (s : Sem Next) : Prop :=
  ∃ v E', (s.run P E.w = .ok (.value v) E'.w ∨ (s.run P E.w = .ok .skip E'.w ∧ v = undef)) ∧ OutRel c E nb o v E'

theorem Done.of {nb : Nat} {r : Made} {s : Sem Value} {s' : Sem Next} (h : Yields1 c P E nb r s) (hs : s' = do pure (.value (← s))) : Done P c E nb ⟨r.1, r.2, []⟩ s' := by
  obtain ⟨v, E', hr, q, hrel⟩ := h
  subst hs
  exact ⟨v, E', .inl (by simp [hr]), q.mem, q.step, q.rt, q.pres, q.size, hrel⟩

theorem Done.same (hM : Mem c E) {nb : Nat} {av : AV} {s : Sem Value} {s' : Sem Next} (h : ∃ v, s.run P E.w = .ok v E.w ∧ RelAV E av v) (hs : s' = do pure (.value (← s))) : Done P c E nb ⟨av, [], []⟩ s' :=
  Done.of (Yields1.same hM h) hs

/-- The frame's values are told by the slots. -/
def Slots (E : Env) (sl : Nat → AV) (ρ : Operand → Value) : Prop :=
  (∀ t, RelAV E (sl t) (ρ (.tmp t))) ∧ (∀ v, ρ (.const v) = v) ∧ (∀ f, ρ (.func f) = .func (.func f) #[] #[])

theorem opd0_rel {sl : Nat → AV} {ρ : Operand → Value} (h : Slots E sl ρ) (x : Operand) : RelAV E (opd0 sl x) (ρ x) := by
  cases x with
  | tmp t => exact h.1 t
  | const v =>
    rw [h.2.1]
    show RelAV E (if v.oneCell' then .d (.sc v) else .junk) v
    split
    · rename_i h1; exact .d _ _ (.sc _ h1)
    · exact .junk _
  | func f => rw [h.2.2]; exact .clo f [] #[] rfl (fun j y hy => by simp at hy)
  | global g => exact .junk _

theorem opd_rel (hM : Mem c E) {nb hint : Nat} {sl : Nat → AV} {ρ : Operand → Value} (h : Slots E sl ρ) (x : Operand) (hF : Fresh c E nb (opd nb hint sl x).2) :
    ∃ E', Quiet c nb (opd nb hint sl x).2.length E E' ∧ E'.w = E.w ∧ RelAV E' (opd nb hint sl x).1 (ρ x) := by
  have plain : (opd nb hint sl x) = (opd0 sl x, []) → ∃ E', Quiet c nb (opd nb hint sl x).2.length E E' ∧ E'.w = E.w ∧ RelAV E' (opd nb hint sl x).1 (ρ x) := by
    intro he
    rw [he]
    exact ⟨E, Quiet.refl hM nb, rfl, opd0_rel h x⟩
  by_cases hx : x = .const (.slice none 0 0)
  · subst hx
    have e : opd nb hint sl (.const (.slice none 0 0)) = (.ref nb 0 0, [.row hint false []]) := rfl
    rw [e] at hF ⊢
    have hr : E.rt nb = some (.row hint false []) := by simpa using hF.rt 0 _ rfl
    have hp : ¬ E.pres nb := by simpa using hF.np 0 (by simp)
    refine ⟨E.withNil nb, Quiet.nil hM hr hp hF.m, rfl, ?_⟩
    rw [h.2.1]
    exact .refz nb 0 _ hint none hr rfl (Or.inr rfl)
  · apply plain
    unfold opd
    split
    · exact absurd rfl hx
    · rfl

theorem eqFields_scalar {w : World} {d : Nat} {xs ys : Array Value} : ∀ (fs : List Field) (k : Nat) (ks : List EK) (l l' : List AV) (r : Bool), eksOf P k fs = some ks →
    (∀ (j : Nat) y, l[j]? = some y → RelAV E y (xs.getD (k + j) undef)) → (∀ (j : Nat) y, l'[j]? = some y → RelAV E y (ys.getD (k + j) undef)) → xs.size = k + l.length → ys.size = k + l'.length → eqAll ks l l' = some r →
    (Op.eqFields (d + 1) xs ys fs).run P w = .ok r w
  | [], k, ks, l, l', r, hk, _, _, _, _, he => by
    simp only [eksOf, Option.some.injEq] at hk
    subst hk
    cases l <;> cases l' <;> simp [eqAll] at he
    subst he
    simp [Op.eqFields]
  | f :: fs, k, ks, l, l', r, hk, hx, hy, hxs, hys, he => by
    simp only [eksOf] at hk
    obtain ⟨⟨hname, hoff⟩, hk⟩ := Option.ite_none_right_eq_some.1 hk
    obtain ⟨q, hq, hk⟩ := Option.bind_eq_some_iff.1 hk
    obtain ⟨ks', hks, rfl⟩ := Option.map_eq_some_iff.1 hk
    have shape : ∃ x xs' y ys', l = .d (.sc x) :: xs' ∧ l' = .d (.sc y) :: ys' := by
      unfold eqAll at he
      split at he
      · rename_i h; cases h
      · exact ⟨_, _, _, _, rfl, rfl⟩
      · cases he
    obtain ⟨x, l, y, l', rfl, rfl⟩ := shape
    simp only [eqAll] at he
    obtain ⟨b, hb, he⟩ := Option.bind_eq_some_iff.1 he
    obtain ⟨r', hr', rfl⟩ := Option.map_eq_some_iff.1 he
    have hxv : xs.getD k undef = x := by
      have := hx 0 _ rfl
      simp only [Nat.add_zero] at this
      generalize xs.getD k undef = u at *
      cases this with
      | d _ _ h => cases h; rfl
    have hyv : ys.getD k undef = y := by
      have := hy 0 _ rfl
      simp only [Nat.add_zero] at this
      generalize ys.getD k undef = u at *
      cases this with
      | d _ _ h => cases h; rfl
    have hkx : k < xs.size := by simp at hxs; omega
    have hky : k < ys.size := by simp at hys; omega
    have hxk : xs[k]? = some x := by simpa [Array.getD, hkx] using hxv
    have hyk : ys[k]? = some y := by simpa [Array.getD, hky] using hyv
    have hagg : aggT P f.type = some false := by
      unfold aggT
      unfold ekOf at hq
      split at hq <;> first | (rename_i hu; simp [hu, isAggD]; done) | cases hq
    have hpx : (part f.type xs f.offset).run P w = .ok x w := by simp [part, run_isAgg hagg, hoff, hxk]
    have hpy : (part f.type ys f.offset).run P w = .ok y w := by simp [part, run_isAgg hagg, hoff, hyk]
    have heq : (Op.equalIn (d + 1) f.type x y).run P w = .ok b w := by
      unfold eqSc at hb
      split at hb
      · obtain ⟨rfl, hb'⟩ := Option.ite_none_right_eq_some.1 hb
        unfold ekOf at hq
        split at hq <;> cases hq
        rename_i hu
        rw [← Option.some.inj hb']
        exact run_equalIn_int w d f.type _ _ _ _ hu
      · unfold ekOf at hq
        split at hq <;> cases hq
        rename_i hu
        rw [← Option.some.inj hb]
        exact run_equalIn_string w d f.type _ _ hu
      · unfold ekOf at hq
        split at hq <;> cases hq
        rename_i hu
        rw [← Option.some.inj hb]
        exact run_equalIn_bool' w d f.type _ _ hu
      · cases hb
    have ih := eqFields_scalar (d := d) (xs := xs) (ys := ys) (w := w) fs (k + 1) ks' l l' r' hks (fun j y hj => by
        have := hx (j + 1) y (by simpa using hj)
        rwa [show k + (j + 1) = k + 1 + j by omega] at this) (fun j y hj => by
        have := hy (j + 1) y (by simpa using hj)
        rwa [show k + (j + 1) = k + 1 + j by omega] at this) (by simp at hxs; omega) (by simp at hys; omega) hr'
    simp only [Op.eqFields, hname, ne_eq, not_false_eq_true, if_true, Sem.run_bind, hpx, hpy, heq, Result.andThen_ok]
    cases b <;> simp [ih]

theorem equal_agg {w : World} {t : TypeId} {ks : List EK} {l l' : List AV} {xs ys : Array Value} {b : Bool} (hk : eqT P t = some ks) (hx : RelAV E (.agg l) (.agg xs)) (hy : RelAV E (.agg l') (.agg ys)) (he : eqAll ks l l' = some b) :
    (Op.equal t (.agg xs) (.agg ys)).run P w = .ok b w := by
  unfold eqT at hk
  split at hk
  · rename_i fs hu
    split at hk
    · cases hk
    · rename_i hst
      have hfo : P.fieldsOf t = fs := by simp [Program.fieldsOf, hu]
      cases hx with
      | agg _ _ hs hr _ =>
        cases hy with
        | agg _ _ hs' hr' _ =>
          show (Op.equalIn 10000 t (.agg xs) (.agg ys)).run P w = _
          rw [run_equalIn_struct w 9999 t xs ys (by rw [hu, hfo]) (by simpa using fun h => hst (.inl h)), hfo]
          exact eqFields_scalar (E := E) (d := 9998) fs.toList 0 ks l l' b hk (fun j y hj => by rw [Nat.zero_add]; exact hr j y hj) (fun j y hj => by rw [Nat.zero_add]; exact hr' j y hj) (by omega) (by omega) he
  · cases hk

theorem eqGuard_agg {w : World} {op : BinOp} {t : TypeId} {ks : List EK} {X Y : Operand} {xs ys : Array Value} (hk : eqT P t = some ks) : (eqGuard op t X Y (.agg xs) (.agg ys)).run P w = .ok () w := by
  unfold eqT at hk
  split at hk
  · split at hk
    · cases hk
    · rename_i hst
      have hg : P.eqGuardType P.depth t = false := by simpa using fun h => hst (.inr h)
      cases op <;> simp [eqGuard, hg]
  · cases hk
end
end Go.Proofs.Ytamdgfklbjoaiaa.Ab

namespace Go.Proofs.Ytamdgfklbjoaiaa.Ab
open Go

def evLen (P : Program) (rt : Nat → Option Root) (t : TypeId) : AV → Option AV
  | .d (.sc (.string s)) => if isStrT P t then some (.d (.sc (.int .i64 s.size))) else none
  | .d (.row _ xs) => if isSliceT P t then some (.d (.sc (.int .i64 xs.length))) else none
  | .ref r _ len => if isSliceT P t && alive rt r then some (.d (.sc (.int .i64 len))) else none
  | _ => none

def evMinMax (mx : Bool) : AV → AV → Option AV
  | .d (.sc (.int k a)), .d (.sc (.int _ b)) => some (.d (.sc (.int k (if mx then (if b > a then b else a) else (if b < a then b else a)))))
  | _, _ => none

def evNil (rt : Nat → Option Root) : AV → Option AV
  | .ptr r i j => if alive rt r then some (.ptr r i j) else none
  | .rptr cs => some (.rptr cs)
  | _ => none

def evExtract (i : Nat) : AV → Option AV
  | .tup l => l[i]?
  | _ => none

def intOf? : AV → Option Int
  | .d (.sc (.int _ n)) => some n
  | _ => none

/-- The leaves of the parts of a literal. -/
def partLeaves (sl : Nat → AV) : List (Nat × Operand) → Option (List (Nat × List AV))
  | [] => some []
  | (i, x) :: rest => (opd0 sl x).leaves.bind fun l => (partLeaves sl rest).map fun r => (i, l) :: r

def partDs (rt : Nat → Option Root) (sl : Nat → AV) : List (Nat × Operand) → Option (List (Nat × List D))
  | [] => some []
  | (i, x) :: rest => (opd0 sl x).leaves.bind fun l => (toDs rt l).bind fun ds => (partDs rt sl rest).map fun r => (i, ds) :: r

def bound? (sl : Nat → AV) : Option Operand → Option (Option Int)
  | none => some none
  | some x => (intOf? (opd0 sl x)).map some

def isByteSliceT (P : Program) (t : TypeId) : Bool := match P.underlying t with | some (.slice e) => (match P.underlying e with | some (.int .u8) => true | _ => false) | _ => false

/-- s[0:0:0], and a comparison of a slice with nil. -/
def is0 (sl : Nat → AV) : Option Operand → Bool
  | some x => (match opd0 sl x with | .d (.sc (.int _ 0)) => true | _ => false)
  | none => false

def evCall (P : Program) (nb : Nat) (sl : Nat → AV) (rt : Nat → Option Root) (c : Call) : Option Out :=
  match c.callee, c.args.toList, c.argTypes.toList with
  | .builtin .len, [x], [t] => (evLen P rt t (opd0 sl x)).map fun v => ⟨v, [], []⟩
  | .builtin .append, [s, x], [t, xt] =>
    if (ezT P t).isSome && (isSliceT P xt || isStrT P xt) then (evAppend rt nb (elT P t) (opd0 sl s) (opd0 sl x)).map fun (av, new, r) => ⟨av, new, [(r, .dead)]⟩ else none
  | .builtin .max, [x, y], _ => (evMinMax true (opd0 sl x) (opd0 sl y)).map fun v => ⟨v, [], []⟩
  | .builtin .min, [x, y], _ => (evMinMax false (opd0 sl x) (opd0 sl y)).map fun v => ⟨v, [], []⟩
  | _, _, _ => none

/-- A slice, compared with nil. -/
def isNilC : Operand → Bool
  | .const (.slice none 0 0) => true
  | _ => false

def evNilS (rt : Nat → Option Root) : AV → Option Bool
  | .d (.row _ xs) => some xs.isEmpty
  | .ref r _ len => if alive rt r then some (len == 0) else none
  | _ => none

def evBinN (P : Program) (rt : Nat → Option Root) (op : BinOp) (t : TypeId) (x y : AV) (yo : Operand) : Option AV :=
  match isNilC yo with
  | true => (match op with | .eql => if isSliceT P t then (evNilS rt x).map .anyb else none | _ => none)
  | false => evBin P op t x y

def ev (P : Program) (nb : Nat) (sl : Nat → AV) (rt : Nat → Option Root) (o : Oper) : Option Out :=
  match o.op with
  | .move x => some ⟨(opd nb (hintT P o.type) sl x).1, (opd nb (hintT P o.type) sl x).2, []⟩
  | .assign x => some ⟨(opd nb (hintT P o.type) sl x).1, (opd nb (hintT P o.type) sl x).2, []⟩
  | .pick c a b => (match opd0 sl c with | .d (.sc (.bool t)) => some ⟨if t then opd0 sl a else opd0 sl b, [], []⟩ | _ => none)
  | .alloc t => (zeroT P t).map fun zs => ⟨(evAlloc nb t zs).1, (evAlloc nb t zs).2, []⟩
  | .box t x => (evBox nb t (opd0 sl x)).map fun r => ⟨r.1, r.2, []⟩
  | .build t ps => (zeroT P t).bind fun zs => (placesT P t).bind fun pl => (partLeaves sl ps.toList).bind fun l => (evBuild nb zs pl l).map fun r => ⟨r.1, r.2, []⟩
  | .buildSlice t n ps => (ezT P t).bind fun z => (partDs rt sl ps.toList).bind fun l => (evBuildSlice nb z n l).map fun r => ⟨r.1, r.2, []⟩
  | .load t x => (aggT P t).bind fun g => (szT P t).bind fun n => (evLoad rt n g (opd0 sl x)).map fun v => ⟨v, [], []⟩
  | .store t p x => (szT P t).bind fun n => (evStore rt n (opd0 sl p) (opd nb (hintT P t) sl x).1).bind fun (r, R) => if r < nb then some ⟨.junk, (opd nb (hintT P t) sl x).2, [(r, R)]⟩ else none
  | .nilCheck x => (evNil rt (opd0 sl x)).map fun v => ⟨v, [], []⟩
  | .binOp op t x y _ => (evBinN P rt op t (opd0 sl x) (opd0 sl y) y).map fun v => ⟨v, [], []⟩
  | .unOp op _ x => (evUn op (opd0 sl x)).map fun v => ⟨v, [], []⟩
  | .convert s d x => (P.underlying s).bind fun src => (P.underlying d).bind fun dst => (evConv rt nb src dst (isByteSliceT P s) (opd0 sl x)).map fun r => ⟨r.1, r.2, []⟩
  | .fieldAddr t x f => (evFieldAddr rt (fldT P t f) (opd0 sl x)).map fun v => ⟨v, [], []⟩
  | .field t x f => (evField (fldT P t f) (opd0 sl x)).map fun v => ⟨v, [], []⟩
  | .indexAddr t x i => (intOf? (opd0 sl i)).bind fun n => (evIndexAddr rt (elT P t) (opd0 sl x) n).map fun v => ⟨v, [], []⟩
  | .index t x i => (intOf? (opd0 sl i)).bind fun n => (evIndexS (isStrT P t) (opd0 sl x) n).map fun v => ⟨v, [], []⟩
  | .slice t x lo hi none => (bound? sl lo).bind fun l => (bound? sl hi).bind fun h => (evSlice rt (elT P t) (isStrT P t) (opd0 sl x) l h).map fun v => ⟨v, [], []⟩
  | .makeSlice t n m => (ezT P t).bind fun z => (intOf? (opd0 sl n)).bind fun n => (intOf? (opd0 sl m)).bind fun m => (evMake nb z n m).map fun r => ⟨r.1, r.2, []⟩
  | .extract x i => (evExtract i (opd0 sl x)).map fun v => ⟨v, [], []⟩
  | .makeFunc (.func f) first caps => if first.size = 0 then some ⟨.clo f (caps.toList.map (opd0 sl)), [], []⟩ else none
  | .call c => evCall P nb sl rt c
  | _ => none

section
variable {P : Program} {c : Ctx} {E : Env}

theorem intOf_rel {x : AV} {v : Value} {n : Int} (h : RelAV E x v) (hn : intOf? x = some n) : ∃ k, v = .int k n := by
  unfold intOf? at hn
  split at hn
  · obtain rfl := Option.some.inj hn
    cases h with
    | d _ _ h => cases h; exact ⟨_, rfl⟩
  · cases hn

theorem evLen_sound {t : TypeId} {x av : AV} {v : Value} {ty : TypeId} (hx : RelAV E x v) (h : evLen P E.rt t x = some av) : ∃ u, (Builtin.len_ #[t] ty #[v]).run P E.w = .ok u E.w ∧ RelAV E av u := by
  unfold evLen at h
  split at h
  · rename_i s
    obtain ⟨ht, h⟩ := Option.ite_none_right_eq_some.1 h
    obtain rfl := Option.some.inj h
    cases hx with
    | d _ _ h' =>
      cases h'
      unfold isStrT at ht
      split at ht
      · rename_i hu
        exact ⟨_, by simp [Builtin.len_, run_underlying hu, goInt], .d _ _ (.sc _ rfl)⟩
      · cases ht
  · rename_i sz xs
    obtain ⟨ht, h⟩ := Option.ite_none_right_eq_some.1 h
    obtain rfl := Option.some.inj h
    unfold isSliceT at ht
    split at ht
    · rename_i hu
      cases hx with
      | d _ _ h' =>
        cases h' with
        | nil => exact ⟨_, by simp [Builtin.len_, run_underlying hu, goInt], .d _ _ (.sc _ rfl)⟩
        | row => exact ⟨_, by simp [Builtin.len_, run_underlying hu, goInt], .d _ _ (.sc _ rfl)⟩
    · cases ht
  · rename_i r off len
    obtain ⟨ht, h⟩ := Option.ite_none_right_eq_some.1 h
    obtain rfl := Option.some.inj h
    simp only [Bool.and_eq_true] at ht
    obtain ⟨ht, ha⟩ := ht
    unfold isSliceT at ht
    split at ht
    · rename_i hu
      cases hx with
      | ref => exact ⟨_, by simp [Builtin.len_, run_underlying hu, goInt], .d _ _ (.sc _ rfl)⟩
      | refz => exact ⟨_, by simp [Builtin.len_, run_underlying hu, goInt], .d _ _ (.sc _ rfl)⟩
      | dref _ _ _ _ h1 => rw [alive_dead h1] at ha; cases ha
    · cases ht
  · cases h

theorem evMinMax_sound {mx : Bool} {ts : Array TypeId} {x y av : AV} {v u : Value} {ty : TypeId} (hx : RelAV E x v) (hy : RelAV E y u) (h : evMinMax mx x y = some av) :
    ∃ r, (if mx then Builtin.max_ ts ty #[v, u] else Builtin.min_ ts ty #[v, u]).run P E.w = .ok r E.w ∧ RelAV E av r := by
  unfold evMinMax at h
  split at h
  · obtain rfl := Option.some.inj h
    cases hx with
    | d _ _ h1 =>
      cases hy with
      | d _ _ h2 =>
        cases h1
        cases h2
        cases mx
        · exact ⟨_, by simp [Builtin.min_, Builtin.min2], .d _ _ (.sc _ rfl)⟩
        · exact ⟨_, by simp [Builtin.max_, Builtin.max2], .d _ _ (.sc _ rfl)⟩
  · cases h

theorem evBin_sound {op : BinOp} {t : TypeId} {x y av : AV} {v u : Value} (X Y : Operand) (hx : RelAV E x v) (hy : RelAV E y u) (h : evBin P op t x y = some av) :
    ∃ r, (do eqGuard op t X Y v u; binOp op t v u).run P E.w = .ok r E.w ∧ RelAV E av r := by
  unfold evBin at h
  split at h
  · obtain ⟨r, hr, rfl⟩ := Option.map_eq_some_iff.1 h
    cases hx with
    | d _ _ h1 =>
      cases hy with
      | d _ _ h2 =>
        cases h1
        cases h2
        obtain ⟨hrun, ho⟩ := binSc_sound (P := P) (w := E.w) (t := t) (isB := isBoolT P t) (fun hb => by
          unfold isBoolT at hb
          split at hb
          · rename_i hu; exact hu
          · cases hb) X Y hr
        exact ⟨r, hrun, .d _ _ (.sc _ ho)⟩
  · rename_i xs ys
    cases hx with
    | agg _ us hs hr ho =>
      cases hy with
      | agg _ us' hs' hr' ho' =>
        split at h
        · obtain ⟨ks, hk, h⟩ := Option.bind_eq_some_iff.1 h
          obtain ⟨b, hb, rfl⟩ := Option.map_eq_some_iff.1 h
          have he := equal_agg (P := P) (w := E.w) hk (.agg xs us hs hr ho) (.agg ys us' hs' hr' ho') hb
          exact ⟨.bool b, by simp [eqGuard_agg hk, binOp, he], .d _ _ (.sc _ rfl)⟩
        · obtain ⟨ks, hk, h⟩ := Option.bind_eq_some_iff.1 h
          obtain ⟨b, hb, rfl⟩ := Option.map_eq_some_iff.1 h
          have he := equal_agg (P := P) (w := E.w) hk (.agg xs us hs hr ho) (.agg ys us' hs' hr' ho') hb
          exact ⟨.bool (!b), by simp [eqGuard_agg hk, binOp, he], .d _ _ (.sc _ rfl)⟩
        · cases h
  · cases h

theorem evUn_sound {op : UnOp} {x av : AV} {v : Value} (hx : RelAV E x v) (h : evUn op x = some av) : ∃ r, (Op.unary op v).run P E.w = .ok r E.w ∧ RelAV E av r := by
  unfold evUn at h
  split at h
  · obtain ⟨r, hr, rfl⟩ := Option.map_eq_some_iff.1 h
    cases hx with
    | d _ _ h1 =>
      cases h1
      unfold unSc at hr
      split at hr
      · obtain rfl := Option.some.inj hr
        exact ⟨_, by simp [Op.unary], .d _ _ (.sc _ rfl)⟩
      · obtain rfl := Option.some.inj hr
        exact ⟨_, by simp [Op.unary, Op.intArith], .d _ _ (.sc _ rfl)⟩
      · cases hr
  · cases h

theorem evExtract_sound {i : Nat} {x av : AV} {v : Value} (hx : RelAV E x v) (h : evExtract i x = some av) : ∃ r, (Instr.extract v i).run P E.w = .ok r E.w ∧ RelAV E av r := by
  unfold evExtract at h
  split at h
  · rename_i l
    cases hx with
    | tup _ us hs hr =>
      have hlt : i < us.size := by rw [hs]; exact (List.getElem?_eq_some_iff.1 h).1
      have := hr i av h
      refine ⟨us[i], by simp [Instr.extract, hlt], ?_⟩
      simpa [Array.getD, hlt] using this
  · cases h

theorem partLeaves_rel {sl : Nat → AV} {ρ : Operand → Value} (h : Slots E sl ρ) : ∀ {ps : List (Nat × Operand)} {l : List (Nat × List AV)}, partLeaves sl ps = some l →
    l.length = ps.length ∧ ∀ (k : Nat) p, ps[k]? = some p → ∃ ls, (opd0 sl p.2).leaves = some ls ∧ l[k]? = some (p.1, ls)
  | [], l, hl => by simp [partLeaves] at hl; subst hl; simp
  | (i, x) :: ps, l, hl => by
    simp only [partLeaves] at hl
    obtain ⟨ls, h1, hl⟩ := Option.bind_eq_some_iff.1 hl
    obtain ⟨r, h2, rfl⟩ := Option.map_eq_some_iff.1 hl
    obtain ⟨hlen, hg⟩ := partLeaves_rel h h2
    refine ⟨by simp [hlen], ?_⟩
    intro k p hp
    cases k with
    | zero => simp at hp; subst hp; exact ⟨ls, h1, rfl⟩
    | succ k => simp at hp; simpa using hg k p hp

theorem partDs_rel {rt : Nat → Option Root} {sl : Nat → AV} : ∀ {ps : List (Nat × Operand)} {l : List (Nat × List D)}, partDs rt sl ps = some l →
    l.length = ps.length ∧ ∀ (k : Nat) q, l[k]? = some q → ∃ p ls, ps[k]? = some p ∧ p.1 = q.1 ∧ (opd0 sl p.2).leaves = some ls ∧ toDs rt ls = some q.2
  | [], l, hl => by simp [partDs] at hl; subst hl; simp
  | (i, x) :: ps, l, hl => by
    simp only [partDs] at hl
    obtain ⟨ls, h1, hl⟩ := Option.bind_eq_some_iff.1 hl
    obtain ⟨ds, h3, hl⟩ := Option.bind_eq_some_iff.1 hl
    obtain ⟨r, h2, rfl⟩ := Option.map_eq_some_iff.1 hl
    obtain ⟨hlen, hg⟩ := partDs_rel h2
    refine ⟨by simp [hlen], ?_⟩
    intro k q hq
    cases k with
    | zero => simp at hq; subst hq; exact ⟨(i, x), ls, rfl, rfl, h1, h3⟩
    | succ k => simp at hq; simpa using hg k q hq

theorem bound_rel {sl : Nat → AV} {ρ : Operand → Value} (h : Slots E sl ρ) {x : Option Operand} {n : Option Int} (hn : bound? sl x = some n) : ∃ k, x.map ρ = n.map (Value.int k) := by
  cases x with
  | none => simp [bound?] at hn; subst hn; exact ⟨.i64, rfl⟩
  | some x =>
    simp only [bound?] at hn
    obtain ⟨m, hm, rfl⟩ := Option.map_eq_some_iff.1 hn
    obtain ⟨k, hk⟩ := intOf_rel (opd0_rel h x) hm
    exact ⟨k, by simp [hk]⟩

theorem isNilC_spec {y : Operand} (h : isNilC y = true) : y = .const (.slice none 0 0) := by
  unfold isNilC at h
  split at h
  · rfl
  · cases h

theorem run_equalIn_slice_nil' (w : World) (d : Nat) (t e : TypeId) (a : Option Addr) (n c : Nat) (h : P.underlying t = some (.slice e)) :
    (Op.equalIn (d + 1) t (.slice a n c) (.slice none 0 0)).run P w = .ok a.isNone w := by
  cases a <;> simp [Op.equalIn, run_underlying h]

theorem run_eql_nil {t e : TypeId} {a : Option Addr} {n k : Nat} (hu : P.underlying t = some (.slice e)) (w : World) : (binOp .eql t (.slice a n k) (.slice none 0 0)).run P w = .ok (.bool a.isNone) w := by
  simp only [binOp]
  simp [Op.equal, Op.maxDepth, run_equalIn_slice_nil' w 9999 t e a n k hu]

theorem evNil_bool {t : TypeId} {x : AV} {v : Value} {p : Bool} (X : Operand) (hx : RelAV E x v) (ht : isSliceT P t = true) (h : evNilS E.rt x = some p) :
    ∃ r, (do eqGuard .eql t X (.const (.slice none 0 0)) v (.slice none 0 0); binOp .eql t v (.slice none 0 0)).run P E.w = .ok r E.w ∧ RelAV E (.anyb p) r := by
  have hu : ∃ e, P.underlying t = some (.slice e) := by
    unfold isSliceT at ht
    split at ht
    · rename_i hu; exact ⟨_, hu⟩
    · cases ht
  obtain ⟨e, hu⟩ := hu
  have run : ∀ a n k, (do eqGuard .eql t X (.const (.slice none 0 0)) (.slice a n k) (.slice none 0 0); binOp .eql t (.slice a n k) (.slice none 0 0) : Sem Value).run P E.w = .ok (.bool a.isNone) E.w := by
    intro a n k
    simp [eqGuard, run_eql_nil hu]
  cases hx with
  | d x v h' =>
    cases h' with
    | sc v hv => simp [evNilS] at h
    | nil sz a cap =>
      simp [evNilS] at h
      subst h
      exact ⟨_, run _ _ _, .anyb _ _ (fun _ => rfl)⟩
    | row sz xs b off cap us hS hc hl hu hr => exact ⟨_, run _ _ _, .anyb _ _ (fun h => by simp at h)⟩
  | ref r off len R sz b cap t n h1 hk h2 h3 h4 h5 h6 => exact ⟨_, run _ _ _, .anyb _ _ (fun h => by simp at h)⟩
  | refz r off R sz a h1 hk h2 =>
    simp only [evNilS] at h
    obtain ⟨_, h⟩ := Option.ite_none_right_eq_some.1 h
    obtain rfl := Option.some.inj h
    exact ⟨_, run _ _ _, .anyb _ _ (fun _ => rfl)⟩
  | dref r off len v h1 ho =>
    simp only [evNilS] at h
    obtain ⟨ha, _⟩ := Option.ite_none_right_eq_some.1 h
    rw [alive_dead h1] at ha
    cases ha
  | _ => simp [evNilS] at h

theorem evBinN_sound {op : BinOp} {t : TypeId} {x y av : AV} {v u : Value} (X Y : Operand) (hx : RelAV E x v) (hy : RelAV E y u) (hu : isNilC Y = true → u = .slice none 0 0) (h : evBinN P E.rt op t x y Y = some av) :
    ∃ r, (do eqGuard op t X Y v u; binOp op t v u).run P E.w = .ok r E.w ∧ RelAV E av r := by
  unfold evBinN at h
  split at h
  · rename_i hn
    have hY := isNilC_spec hn
    have hu' := hu hn
    subst hY hu'
    split at h
    · obtain ⟨ht, h⟩ := Option.ite_none_right_eq_some.1 h
      obtain ⟨p, hp, rfl⟩ := Option.map_eq_some_iff.1 h
      exact evNil_bool X hx ht hp
    · cases h
  · exact evBin_sound X Y hx hy h
end
end Go.Proofs.Ytamdgfklbjoaiaa.Ab

namespace Go.Proofs.Ytamdgfklbjoaiaa.Ab
open Go

section
variable {P : Program} {c : Ctx} {E : Env}

theorem Fresh.none (c : Ctx) (E : Env) {nb : Nat} (h : c.m ≤ nb) : Fresh c E nb [] := ⟨h, fun k R hk => by simp at hk, fun k hk => by simp at hk⟩

theorem sc_rel {a v : Value} (h : RelAV E (.d (.sc a)) v) : v = a := by
  cases h with
  | d _ _ h => cases h; rfl

theorem evNil_sound {o : Oper} {x : AV} {X : Operand} {av : AV} {ρ : Operand → Value} (ho : o.op = .nilCheck X) (hx : RelAV E x (ρ X)) (h : evNil E.rt x = some av) : (execOp ρ o).run P E.w = .ok (.value (ρ X)) E.w ∧ RelAV E av (ρ X) := by
  unfold evNil at h
  split at h
  · obtain ⟨ha, h⟩ := Option.ite_none_right_eq_some.1 h
    obtain rfl := Option.some.inj h
    refine ⟨?_, hx⟩
    generalize hv : ρ X = v at *
    cases hx with
    | ptr => simp [execOp, ho, hv]
    | dptr _ _ _ _ h1 => rw [alive_dead h1] at ha; cases ha
  · obtain rfl := Option.some.inj h
    refine ⟨?_, hx⟩
    generalize hv : ρ X = v at *
    cases hx with
    | rptr => simp [execOp, ho, hv]
  · cases h

theorem evAppend_one {rt : Nat → Option Root} {nb r : Nat} {el : Option (Nat × Nat)} {s x av : AV} {new : List Root} (h : evAppend rt nb el s x = some (av, new, r)) : new.length = 1 := by
  unfold evAppend at h
  split at h
  · split at h
    · obtain ⟨p, _, h⟩ := Option.bind_eq_some_iff.1 h
      obtain ⟨q, _, h⟩ := Option.bind_eq_some_iff.1 h
      obtain ⟨_, h⟩ := Option.ite_none_right_eq_some.1 h
      have := Option.some.inj h
      simp only [Prod.mk.injEq] at this
      rw [← this.2.1]; rfl
    · cases h
  · cases h

theorem ev_sound (hM : Mem c E) {nb : Nat} {sl : Nat → AV} {ρ : Operand → Value} {o : Oper} {r : Out} (hs : Slots E sl ρ) (h : ev P nb sl E.rt o = some r) (hF : Fresh c E nb r.new) :
    Done P c E nb r (execOp ρ o) := by
  unfold ev at h
  split at h
  · -- move
    rename_i x ho
    obtain rfl := Option.some.inj h
    obtain ⟨E', q, hw, hr⟩ := opd_rel hM hs x hF
    exact ⟨_, E', .inl (by simp [execOp, ho, hw]), q.mem, q.step, q.rt, q.pres, q.size, hr⟩
  · -- assign
    rename_i x ho
    obtain rfl := Option.some.inj h
    obtain ⟨E', q, hw, hr⟩ := opd_rel hM hs x hF
    exact ⟨_, E', .inl (by simp [execOp, ho, hw]), q.mem, q.step, q.rt, q.pres, q.size, hr⟩
  · -- pick
    rename_i X A B ho
    split at h
    · rename_i t hc
      obtain rfl := Option.some.inj h
      have hx := opd0_rel hs X
      rw [hc] at hx
      have hv : ρ X = .bool t := sc_rel hx
      refine Done.same hM (s := pure (if t then ρ A else ρ B)) ⟨_, rfl, ?_⟩ (by cases t <;> simp [execOp, ho, hv, asBool])
      cases t
      · exact opd0_rel hs B
      · exact opd0_rel hs A
    · cases h
  · -- alloc
    rename_i t ho
    obtain ⟨zs, hz, rfl⟩ := Option.map_eq_some_iff.1 h
    exact Done.of (evAlloc_sound hM hz hF) (by simp [execOp, ho])
  · -- box
    rename_i t X ho
    obtain ⟨m, hm, rfl⟩ := Option.map_eq_some_iff.1 h
    exact Done.of (evBox_sound (t := t) hM (opd0_rel hs X) hm hF) (by simp [execOp, ho])
  · -- build
    rename_i t ps ho
    obtain ⟨zs, hz, h⟩ := Option.bind_eq_some_iff.1 h
    obtain ⟨pl, hpl, h⟩ := Option.bind_eq_some_iff.1 h
    obtain ⟨l, hl, h⟩ := Option.bind_eq_some_iff.1 h
    obtain ⟨m, hm, rfl⟩ := Option.map_eq_some_iff.1 h
    obtain ⟨hlen, hg⟩ := partLeaves_rel hs hl
    refine Done.of (evBuild_sound (parts := ps.toList.map fun p => (p.1, opd0 sl p.2)) (vs := ps.map fun p => (p.1, ρ p.2)) hM hz hpl (by simp) (by simpa using hlen) ?_ hm hF) (by simp [execOp, ho])
    intro k p hp
    rw [List.getElem?_map] at hp
    obtain ⟨q, hq, rfl⟩ := Option.map_eq_some_iff.1 hp
    obtain ⟨ls, h1, h2⟩ := hg k q hq
    refine ⟨ρ q.2, ls, ?_, opd0_rel hs q.2, h1, h2⟩
    rw [Array.getElem?_map]
    rw [Array.getElem?_toList] at hq
    simp [hq]
  · -- buildSlice
    rename_i t n ps ho
    obtain ⟨z, hz, h⟩ := Option.bind_eq_some_iff.1 h
    obtain ⟨l, hl, h⟩ := Option.bind_eq_some_iff.1 h
    obtain ⟨m, hm, rfl⟩ := Option.map_eq_some_iff.1 h
    obtain ⟨hlen, hg⟩ := partDs_rel hl
    refine Done.of (evBuildSlice_sound (vs := ps.map fun p => (p.1, ρ p.2)) hM hz (by simpa using hlen) ?_ hm hF) (by simp [execOp, ho])
    intro k q hq
    obtain ⟨p, ls, hp, hpq, h1, h2⟩ := hg k q hq
    refine ⟨ρ p.2, ?_, toDs_tells hM (leaves_rel (opd0_rel hs p.2) h1) h2⟩
    rw [Array.getElem?_map]
    rw [Array.getElem?_toList] at hp
    simp [hp, hpq]
  · -- load
    rename_i t X ho
    obtain ⟨g, hg, h⟩ := Option.bind_eq_some_iff.1 h
    obtain ⟨n, hn, h⟩ := Option.bind_eq_some_iff.1 h
    obtain ⟨v, hv, rfl⟩ := Option.map_eq_some_iff.1 h
    exact Done.same hM (evLoad_sound hM hg hn (opd0_rel hs X) hv) (by simp [execOp, ho])
  · -- store
    rename_i t p X ho
    obtain ⟨n, hn, h⟩ := Option.bind_eq_some_iff.1 h
    obtain ⟨⟨r0, R⟩, hst, h⟩ := Option.bind_eq_some_iff.1 h
    obtain ⟨hlt, h⟩ := Option.ite_none_right_eq_some.1 h
    obtain rfl := Option.some.inj h
    obtain ⟨E1, q, hw, hr⟩ := opd_rel hM hs X hF
    obtain ⟨w', hrun, hsz', hM', st⟩ := evStore_sound q.mem (P := P) hn ((opd0_rel hs p).step q.step) hr (by rw [q.rt]; exact hst)
    refine ⟨undef, E1.upd r0 R w', .inr ⟨?_, rfl⟩, hM', q.step.trans st, ?_, q.pres, ?_, .junk _⟩
    · rw [hw] at hrun
      simp [execOp, ho, hrun, Env.upd]
    · rw [show E1.upd r0 R w' = { E1 with rt := fun x => if x = r0 then some R else E1.rt x, w := w' } from rfl]
      simp only [updG, q.rt]
    · show _ ≤ w'.heap.size
      rw [hsz', hw]; exact Nat.le_refl _
  · -- nilCheck
    rename_i X ho
    obtain ⟨v, hv, rfl⟩ := Option.map_eq_some_iff.1 h
    obtain ⟨hrun, hr⟩ := evNil_sound (P := P) ho (opd0_rel hs X) hv
    have q := Quiet.refl hM nb
    exact ⟨_, E, .inl hrun, q.mem, q.step, q.rt, q.pres, q.size, hr⟩
  · -- binOp
    rename_i op t X Y yt ho
    obtain ⟨v, hv, rfl⟩ := Option.map_eq_some_iff.1 h
    exact Done.same hM (evBinN_sound X Y (opd0_rel hs X) (opd0_rel hs Y) (fun hn => by rw [isNilC_spec hn]; exact hs.2.1 _) hv) (by simp [execOp, ho])
  · -- unOp
    rename_i op t X ho
    obtain ⟨v, hv, rfl⟩ := Option.map_eq_some_iff.1 h
    exact Done.same hM (evUn_sound (opd0_rel hs X) hv) (by simp [execOp, ho])
  · -- convert
    rename_i s d X ho
    obtain ⟨src, hsrc, h⟩ := Option.bind_eq_some_iff.1 h
    obtain ⟨dst, hdst, h⟩ := Option.bind_eq_some_iff.1 h
    obtain ⟨m, hm, rfl⟩ := Option.map_eq_some_iff.1 h
    refine Done.of (evConv_sound hM hsrc hdst ?_ (opd0_rel hs X) hm) (by simp [execOp, ho])
    intro hb
    unfold isByteSliceT at hb
    split at hb
    · rename_i e hu
      rw [hsrc] at hu
      split at hb
      · rename_i he; exact ⟨e, Option.some.inj hu, he⟩
      · cases hb
    · cases hb
  · -- fieldAddr
    rename_i t X f ho
    obtain ⟨v, hv, rfl⟩ := Option.map_eq_some_iff.1 h
    exact Done.same hM (evFieldAddr_sound (opd0_rel hs X) hv) (by simp [execOp, ho])
  · -- field
    rename_i t X f ho
    obtain ⟨v, hv, rfl⟩ := Option.map_eq_some_iff.1 h
    exact Done.same hM (evField_sound (opd0_rel hs X) hv) (by simp [execOp, ho])
  · -- indexAddr
    rename_i t X I ho
    obtain ⟨n, hn, h⟩ := Option.bind_eq_some_iff.1 h
    obtain ⟨v, hv, rfl⟩ := Option.map_eq_some_iff.1 h
    obtain ⟨k, hk⟩ := intOf_rel (opd0_rel hs I) hn
    refine Done.same hM (evIndexAddr_sound (k := k) hM (opd0_rel hs X) hv) (by simp [execOp, ho, hk])
  · -- index
    rename_i t X I ho
    obtain ⟨n, hn, h⟩ := Option.bind_eq_some_iff.1 h
    obtain ⟨v, hv, rfl⟩ := Option.map_eq_some_iff.1 h
    obtain ⟨k, hk⟩ := intOf_rel (opd0_rel hs I) hn
    refine Done.same hM (evIndexS_sound (t := t) (k := k) ?_ (opd0_rel hs X) hv) (by simp [execOp, ho, hk])
    intro hb
    unfold isStrT at hb
    split at hb
    · rename_i hu; exact hu
    · cases hb
  · -- slice
    rename_i t X lo hi ho
    obtain ⟨l, hl, h⟩ := Option.bind_eq_some_iff.1 h
    obtain ⟨m, hm, h⟩ := Option.bind_eq_some_iff.1 h
    obtain ⟨v, hv, rfl⟩ := Option.map_eq_some_iff.1 h
    obtain ⟨kl, hkl⟩ := bound_rel hs hl
    obtain ⟨kh, hkh⟩ := bound_rel hs hm
    refine Done.same hM (evSlice_sound (kl := kl) (kh := kh) ?_ (opd0_rel hs X) hv) (by simp [execOp, ho, hkl, hkh])
    intro hb
    unfold isStrT at hb
    split at hb
    · rename_i hu; exact hu
    · cases hb
  · -- makeSlice
    rename_i t N M ho
    obtain ⟨z, hz, h⟩ := Option.bind_eq_some_iff.1 h
    obtain ⟨n, hn, h⟩ := Option.bind_eq_some_iff.1 h
    obtain ⟨m, hm, h⟩ := Option.bind_eq_some_iff.1 h
    obtain ⟨r, hr, rfl⟩ := Option.map_eq_some_iff.1 h
    obtain ⟨kn, hkn⟩ := intOf_rel (opd0_rel hs N) hn
    obtain ⟨km, hkm⟩ := intOf_rel (opd0_rel hs M) hm
    exact Done.of (evMake_sound (kn := kn) (km := km) hM hz hr hF) (by simp [execOp, ho, hkn, hkm])
  · -- extract
    rename_i X i ho
    obtain ⟨v, hv, rfl⟩ := Option.map_eq_some_iff.1 h
    exact Done.same hM (evExtract_sound (opd0_rel hs X) hv) (by simp [execOp, ho])
  · -- makeFunc
    rename_i f first caps ho
    obtain ⟨h0, h⟩ := Option.ite_none_right_eq_some.1 h
    obtain rfl := Option.some.inj h
    have hf0 : first = #[] := Array.eq_empty_of_size_eq_zero h0
    refine Done.same hM (s := Instr.makeFunc (.func f) (first.map ρ) (caps.map ρ)) ⟨_, rfl, ?_⟩ (by simp [execOp, ho])
    subst hf0
    rw [show Array.map ρ #[] = (#[] : Array Value) by simp]
    refine .clo f (caps.toList.map (opd0 sl)) (caps.map ρ) (by simp) ?_
    intro j y hy
    rw [List.getElem?_map] at hy
    obtain ⟨x, hx, rfl⟩ := Option.map_eq_some_iff.1 hy
    have hlt : j < caps.size := by have := (List.getElem?_eq_some_iff.1 hx).1; rwa [Array.length_toList] at this
    have hx' : caps[j] = x := by
      rw [Array.getElem?_toList, Array.getElem?_eq_getElem hlt] at hx
      exact Option.some.inj hx
    have : (caps.map ρ).getD j undef = ρ x := by simp [Array.getD, hlt, hx']
    rw [this]
    exact opd0_rel hs x
  · -- call
    rename_i cl ho
    unfold evCall at h
    split at h
    · rename_i x t hc ha ht
      obtain ⟨v, hv, rfl⟩ := Option.map_eq_some_iff.1 h
      obtain ⟨u, hrun, hr⟩ := evLen_sound (ty := o.type) (opd0_rel hs x) hv
      refine Done.same hM (s := Builtin.len_ #[t] o.type #[ρ x]) ⟨u, hrun, hr⟩ ?_
      have ea : cl.args = #[x] := by rw [← ha]
      have et : cl.argTypes = #[t] := by rw [← ht]
      simp [execOp, ho, resolve, hc, ea, et, invoke, builtin]
    · rename_i s x t xt hc ha ht
      split at h
      · rename_i hcond
        obtain ⟨⟨av, new, rr⟩, hv, rfl⟩ := Option.map_eq_some_iff.1 h
        simp only [Bool.and_eq_true, Bool.or_eq_true] at hcond
        obtain ⟨hz, hxt⟩ := hcond
        have hxt' : (∃ e', P.underlying xt = some (.slice e')) ∨ P.underlying xt = some .string := by
          rcases hxt with hxt | hxt
          · unfold isSliceT at hxt
            split at hxt
            · rename_i hu; exact .inl ⟨_, hu⟩
            · cases hxt
          · unfold isStrT at hxt
            split at hxt
            · rename_i hu; exact .inr hu
            · cases hxt
        obtain ⟨v, E', hrun, ha', hr, _⟩ := evAppend_sound (ty := o.type) hM hxt' hz (opd0_rel hs s) (opd0_rel hs x) hv hF
        have hnew : new.length = 1 := evAppend_one hv
        refine ⟨v, E', .inl ?_, ha'.mem, ha'.step, ?_, ?_, ha'.size, hr⟩
        · have ea : cl.args = #[s, x] := by rw [← ha]
          have et : cl.argTypes = #[t, xt] := by rw [← ht]
          simp [execOp, ho, resolve, hc, ea, et, invoke, builtin, hrun]
        · rw [ha'.rt]; rfl
        · intro r
          rw [ha'.pres]
          simp only [hnew]
          constructor
          · rintro (h | rfl)
            · exact .inl h
            · exact .inr ⟨Nat.le_refl _, by omega⟩
          · rintro (h | ⟨h1, h2⟩)
            · exact .inl h
            · exact .inr (by omega)
      · cases h
    · rename_i x y hc ha
      obtain ⟨v, hv, rfl⟩ := Option.map_eq_some_iff.1 h
      obtain ⟨u, hrun, hr⟩ := evMinMax_sound (P := P) (ts := cl.argTypes) (ty := o.type) (opd0_rel hs x) (opd0_rel hs y) hv
      refine Done.same hM (s := Builtin.max_ cl.argTypes o.type #[ρ x, ρ y]) ⟨u, by simpa using hrun, hr⟩ ?_
      have ea : cl.args = #[x, y] := by rw [← ha]
      simp [execOp, ho, resolve, hc, ea, invoke, builtin]
    · rename_i x y hc ha
      obtain ⟨v, hv, rfl⟩ := Option.map_eq_some_iff.1 h
      obtain ⟨u, hrun, hr⟩ := evMinMax_sound (P := P) (ts := cl.argTypes) (ty := o.type) (opd0_rel hs x) (opd0_rel hs y) hv
      refine Done.same hM (s := Builtin.min_ cl.argTypes o.type #[ρ x, ρ y]) ⟨u, by simpa using hrun, hr⟩ ?_
      have ea : cl.args = #[x, y] := by rw [← ha]
      simp [execOp, ho, resolve, hc, ea, invoke, builtin]
    · cases h
  · cases h
end
end Go.Proofs.Ytamdgfklbjoaiaa.Ab

namespace Go.Proofs.Ytamdgfklbjoaiaa.Ab
open Go

/-! Other names for the roots. -/
mutual
def AV.ren (f : Nat → Option Nat) : AV → Option AV
  | .d x => some (.d x)
  | .ref r o l => (f r).map fun r' => .ref r' o l
  | .ptr r i j => (f r).map fun r' => .ptr r' i j
  | .rptr cs => some (.rptr cs)
  | .agg l => (AV.rens f l).map .agg
  | .tup l => (AV.rens f l).map .tup
  | .clo g l => (AV.rens f l).map (.clo g)
  | .anyb p => some (.anyb p)
  | .junk => some .junk
def AV.rens (f : Nat → Option Nat) : List AV → Option (List AV)
  | [] => some []
  | x :: l => (x.ren f).bind fun y => (AV.rens f l).map (y :: ·)
end

def Root.ren (f : Nat → Option Nat) : Root → Option Root
  | .row sz fz xs => some (.row sz fz xs)
  | .box t l => (AV.rens f l).map (.box t)
  | .buf e fz bs => some (.buf e fz bs)
  | .dead => some .dead

theorem rens_get {f : Nat → Option Nat} : ∀ {l l' : List AV}, AV.rens f l = some l' → l'.length = l.length ∧ ∀ (j : Nat) y', l'[j]? = some y' → ∃ y, l[j]? = some y ∧ y.ren f = some y'
  | [], l', h => by simp [AV.rens] at h; subst h; simp
  | x :: l, l', h => by
    simp only [AV.rens] at h
    obtain ⟨y, hy, h⟩ := Option.bind_eq_some_iff.1 h
    obtain ⟨zs, hz, rfl⟩ := Option.map_eq_some_iff.1 h
    obtain ⟨hl, hg⟩ := rens_get hz
    refine ⟨by simp [hl], ?_⟩
    intro j w hw
    cases j with
    | zero => simp at hw; subst hw; exact ⟨x, rfl, hy⟩
    | succ j => simp at hw; obtain ⟨x', h1, h2⟩ := hg j w hw; exact ⟨x', by simpa using h1, h2⟩

theorem rens_get' {f : Nat → Option Nat} {l l' : List AV} (h : AV.rens f l = some l') (j : Nat) (y : AV) (hy : l[j]? = some y) : ∃ y', l'[j]? = some y' ∧ y.ren f = some y' := by
  obtain ⟨hl, hg⟩ := rens_get h
  have hj : j < l'.length := by rw [hl]; exact (List.getElem?_eq_some_iff.1 hy).1
  obtain ⟨y0, h1, h2⟩ := hg j l'[j] (List.getElem?_eq_getElem hj)
  rw [hy] at h1
  obtain rfl := Option.some.inj h1
  exact ⟨_, List.getElem?_eq_getElem hj, h2⟩

theorem ren_kind {f : Nat → Option Nat} {R R' : Root} (h : R.ren f = some R') : R'.kind = R.kind := by
  cases R with
  | row => simp [Root.ren] at h; subst h; rfl
  | buf => simp [Root.ren] at h; subst h; rfl
  | box l => simp only [Root.ren] at h; obtain ⟨l', _, rfl⟩ := Option.map_eq_some_iff.1 h; rfl
  | dead => simp [Root.ren] at h; subst h; rfl

theorem kind_dead {R : Root} : R.kind = .dead ↔ R = .dead := by cases R <;> simp [Root.kind]

theorem ren_dead {f : Nat → Option Nat} {R R' : Root} (h : R.ren f = some R') : R' = .dead ↔ R = .dead := by
  rw [← kind_dead, ren_kind h, kind_dead]

/-- The one state tells of the roots what the other tells of their other names. -/
structure Conn (f : Nat → Option Nat) (E E' : Env) : Prop where
  w : E'.w = E.w
  S : ∀ b, E.S b → E'.S b
  kind : ∀ r r', f r = some r' → (E'.rt r').map Root.kind = (E.rt r).map Root.kind
  pres : ∀ r r', f r = some r' → (E'.pres r' ↔ E.pres r)
  β : ∀ r r', f r = some r' → E.pres r → E'.β r' = E.β r

theorem Conn.get {f : Nat → Option Nat} {E E' : Env} (h : Conn f E E') {r r' : Nat} (hf : f r = some r') {R : Root} (hr : E.rt r = some R) : ∃ R', E'.rt r' = some R' ∧ R'.kind = R.kind := by
  have := h.kind r r' hf
  rw [hr] at this
  exact Option.map_eq_some_iff.1 this

theorem Conn.dead {f : Nat → Option Nat} {E E' : Env} (h : Conn f E E') {r r' : Nat} (hf : f r = some r') (hr : E.rt r = some .dead) : E'.rt r' = some .dead := by
  obtain ⟨R', h1, h2⟩ := h.get hf hr
  rw [h1, kind_dead.1 (h2.trans rfl)]

theorem RelAV.conn {f : Nat → Option Nat} {E E' : Env} (k : Conn f E E') {x : AV} {v : Value} (h : RelAV E x v) : ∀ {x' : AV}, x.ren f = some x' → RelAV E' x' v := by
  have hk : ∀ b, E.S b → E'.w.heap[b]? = E.w.heap[b]? := fun b _ => by rw [k.w]
  induction h with
  | d x v h => intro x' hx; simp [AV.ren] at hx; subst hx; exact .d x v (h.step k.S hk)
  | ref r off len R sz b cap t n h1 hkd h2 h3 h4 h5 h6 =>
    intro x' hx
    obtain ⟨r', hr, rfl⟩ := Option.map_eq_some_iff.1 hx
    obtain ⟨R', hR', hk'⟩ := k.get hr h1
    exact .ref r' off len R' sz b cap t n hR' (hk'.trans hkd) ((k.pres r r' hr).2 h2) ((k.β r r' hr h2).trans h3) (by rw [k.w]; exact h4) h5 h6
  | refz r off R sz a h1 hkd h2 =>
    intro x' hx
    obtain ⟨r', hr, rfl⟩ := Option.map_eq_some_iff.1 hx
    obtain ⟨R', hR', hk'⟩ := k.get hr h1
    exact .refz r' off R' sz a hR' (hk'.trans hkd) ((k.pres r r' hr).2 h2)
  | ptr r i j R b h1 h2 h3 =>
    intro x' hx
    obtain ⟨r', hr, rfl⟩ := Option.map_eq_some_iff.1 hx
    obtain ⟨R', hR', hk'⟩ := k.get hr h1
    rw [← hk']
    exact .ptr r' i j R' b hR' ((k.pres r r' hr).2 h2) ((k.β r r' hr h2).trans h3)
  | dref r off len v h1 ho =>
    intro x' hx
    obtain ⟨r', hr, rfl⟩ := Option.map_eq_some_iff.1 hx
    exact .dref _ _ _ _ (k.dead hr h1) ho
  | dptr r i j v h1 ho =>
    intro x' hx
    obtain ⟨r', hr, rfl⟩ := Option.map_eq_some_iff.1 hx
    exact .dptr _ _ _ _ (k.dead hr h1) ho
  | rptr cs b o us hS hu hr =>
    intro x' hx
    simp [AV.ren] at hx
    subst hx
    exact .rptr cs b o us (k.S b hS) (fun j y hy => by rw [k.w]; exact hu j y hy) (fun j y hy => (hr j y hy).step k.S hk)
  | agg l us hs _ ho ih =>
    intro x' hx
    simp only [AV.ren] at hx
    obtain ⟨l', hl, rfl⟩ := Option.map_eq_some_iff.1 hx
    obtain ⟨hlen, hg⟩ := rens_get hl
    refine .agg l' us (hs.trans hlen.symm) ?_ ho
    intro j y' hy
    obtain ⟨y, h1, h2⟩ := hg j y' hy
    exact ih j y h1 h2
  | tup l us hs _ ih =>
    intro x' hx
    simp only [AV.ren] at hx
    obtain ⟨l', hl, rfl⟩ := Option.map_eq_some_iff.1 hx
    obtain ⟨hlen, hg⟩ := rens_get hl
    refine .tup l' us (hs.trans hlen.symm) ?_
    intro j y' hy
    obtain ⟨y, h1, h2⟩ := hg j y' hy
    exact ih j y h1 h2
  | clo g caps us hs _ ih =>
    intro x' hx
    simp only [AV.ren] at hx
    obtain ⟨l', hl, rfl⟩ := Option.map_eq_some_iff.1 hx
    obtain ⟨hlen, hg⟩ := rens_get hl
    refine .clo g l' us (hs.trans hlen.symm) ?_
    intro j y' hy
    obtain ⟨y, h1, h2⟩ := hg j y' hy
    exact ih j y h1 h2
  | anyb p b hb => intro x' hx; simp [AV.ren] at hx; subst hx; exact .anyb p b hb
  | junk v => intro x' hx; simp [AV.ren] at hx; subst hx; exact .junk v

/-! Back again. -/
mutual
theorem ren_inv {f g : Nat → Option Nat} (h : ∀ r r', f r = some r' → g r' = some r) : ∀ {x x' : AV}, x.ren f = some x' → x'.ren g = some x
  | .d x, x', hx => by simp [AV.ren] at hx; subst hx; rfl
  | .ref r o l, x', hx => by
    simp only [AV.ren] at hx
    obtain ⟨r', hr, rfl⟩ := Option.map_eq_some_iff.1 hx
    simp [AV.ren, h r r' hr]
  | .ptr r i j, x', hx => by
    simp only [AV.ren] at hx
    obtain ⟨r', hr, rfl⟩ := Option.map_eq_some_iff.1 hx
    simp [AV.ren, h r r' hr]
  | .rptr cs, x', hx => by simp [AV.ren] at hx; subst hx; rfl
  | .agg l, x', hx => by
    simp only [AV.ren] at hx
    obtain ⟨l', hl, rfl⟩ := Option.map_eq_some_iff.1 hx
    simp [AV.ren, rens_inv h hl]
  | .tup l, x', hx => by
    simp only [AV.ren] at hx
    obtain ⟨l', hl, rfl⟩ := Option.map_eq_some_iff.1 hx
    simp [AV.ren, rens_inv h hl]
  | .clo g l, x', hx => by
    simp only [AV.ren] at hx
    obtain ⟨l', hl, rfl⟩ := Option.map_eq_some_iff.1 hx
    simp [AV.ren, rens_inv h hl]
  | .anyb p, x', hx => by simp [AV.ren] at hx; subst hx; rfl
  | .junk, x', hx => by simp [AV.ren] at hx; subst hx; rfl
theorem rens_inv {f g : Nat → Option Nat} (h : ∀ r r', f r = some r' → g r' = some r) : ∀ {x x' : List AV}, AV.rens f x = some x' → AV.rens g x' = some x
  | [], x', hx => by simp [AV.rens] at hx; subst hx; rfl
  | x :: l, x', hx => by
    simp only [AV.rens] at hx
    obtain ⟨y, hy, hx⟩ := Option.bind_eq_some_iff.1 hx
    obtain ⟨zs, hz, rfl⟩ := Option.map_eq_some_iff.1 hx
    simp [AV.rens, ren_inv h hy, rens_inv h hz]
end

theorem root_ren_inv {f g : Nat → Option Nat} (h : ∀ r r', f r = some r' → g r' = some r) {R R' : Root} (hx : R.ren f = some R') : R'.ren g = some R := by
  cases R with
  | row => simp [Root.ren] at hx; subst hx; rfl
  | buf => simp [Root.ren] at hx; subst hx; rfl
  | box t l =>
    simp only [Root.ren] at hx
    obtain ⟨l', hl, rfl⟩ := Option.map_eq_some_iff.1 hx
    simp [Root.ren, rens_inv h hl]
  | dead => simp [Root.ren] at hx; subst hx; rfl

theorem Conn.back {f g : Nat → Option Nat} {E E' : Env} (k : Conn f E E') (hS : ∀ b, E'.S b → E.S b) (h : ∀ r' r, g r' = some r → f r = some r') : Conn g E' E where
  w := k.w.symm
  S := hS
  kind := fun r' r hr => (k.kind r r' (h r' r hr)).symm
  pres := fun r' r hr => (k.pres r r' (h r' r hr)).symm
  β := fun r' r hr hp => (k.β r r' (h r' r hr) ((k.pres r r' (h r' r hr)).1 hp)).symm

theorem RootRel.conn {f : Nat → Option Nat} {E E' : Env} (k : Conn f E E') (hS' : ∀ b, E'.S b → E.S b) {r r' : Nat} (hf : f r = some r') (hp : E.pres r) {R R' : Root} (hR : R.ren f = some R') (h : RootRel E r R) : RootRel E' r' R' := by
  have hk : ∀ b, E.S b → E'.w.heap[b]? = E.w.heap[b]? := fun b _ => by rw [k.w]
  cases R with
  | dead => simp [Root.ren] at hR; subst hR; trivial
  | buf e fz bs =>
    simp [Root.ren] at hR
    subst hR
    rcases h with ⟨h1, h2⟩ | ⟨b, cs, fr, h1, h2, h3, h4, h5, h6⟩
    · exact .inl ⟨(k.β r r' hf hp).trans h1, h2⟩
    · exact .inr ⟨b, cs, fr, (k.β r r' hf hp).trans h1, by rw [k.w]; exact h2, h3, h4, fun h => h5 (hS' b h), h6⟩
  | row sz fz xs =>
    simp [Root.ren] at hR
    subst hR
    rcases h with ⟨h1, h2⟩ | ⟨b, cs, t, fr, h1, h2, h3, h4, h5, h6⟩
    · exact .inl ⟨(k.β r r' hf hp).trans h1, h2⟩
    · refine .inr ⟨b, cs, t, fr, (k.β r r' hf hp).trans h1, by rw [k.w]; exact h2, h3, h4, ?_, ?_⟩
      · intro i x j y hx hy
        obtain ⟨u, hu, hr⟩ := h5 i x j y hx hy
        exact ⟨u, hu, hr.step k.S hk⟩
      · rcases h6 with ⟨h6, h7⟩ | ⟨h6, h7, h8⟩
        · exact .inl ⟨h6, k.S b h7⟩
        · exact .inr ⟨h6, fun h => h7 (hS' b h), h8⟩
  | box t l =>
    simp only [Root.ren] at hR
    obtain ⟨l', hl, rfl⟩ := Option.map_eq_some_iff.1 hR
    obtain ⟨hlen, hg⟩ := rens_get hl
    obtain ⟨b, cs, fr, h1, h2, h3, h4, h5, h6⟩ := h
    refine ⟨b, cs, fr, (k.β r r' hf hp).trans h1, by rw [k.w]; exact h2, h3.trans hlen.symm, ?_, fun h => h5 (hS' b h), h6⟩
    intro j y' hy
    obtain ⟨y, h1, h2⟩ := hg j y' hy
    obtain ⟨u, hu, ho, hr⟩ := h4 j y h1
    exact ⟨u, hu, ho, hr.conn k h2⟩

/-! Calls. -/
def Args (E : Env) (as : List AV) (vs : Array Value) : Prop := vs.size = as.length ∧ ∀ (j : Nat) y, as[j]? = some y → RelAV E y (vs.getD j undef)

def callCtx (w : World) (S : Nat → Prop) (β : Nat → Option Nat) (r0 : List Root) : Ctx := ⟨w, fun b => ∃ (r : Nat) (R : Root), r0[r]? = some R ∧ R ≠ .dead ∧ β r = some b, S, r0.length, β⟩
def callEnv (w : World) (S : Nat → Prop) (β : Nat → Option Nat) (r0 new : List Root) : Env := ⟨fun r => (r0 ++ new)[r]?, fun r => r < r0.length, β, S, w⟩

/-- What a call of a function comes to. -/
def CallOk (P : Program) (f : FuncId) (as : List AV) (r0 : List Root) (o : Out) : Prop :=
  ∀ w S β vs, Mem (callCtx w S β r0) (callEnv w S β r0 o.new) → Args (callEnv w S β r0 o.new) as vs →
    Calls P f vs w fun e w' => ∃ v E', e = .returned v ∧ E'.w = w' ∧ OutRel (callCtx w S β r0) (callEnv w S β r0 o.new) r0.length o v E'

end Go.Proofs.Ytamdgfklbjoaiaa.Ab

namespace Go.Proofs.Ytamdgfklbjoaiaa.Ab
open Go

/-- The callee's roots by their names at the caller: those that are handed over, then the new ones. -/
def callRen (π : List Nat) (nb n : Nat) : Nat → Option Nat := fun i => if i < π.length then π[i]? else if i < π.length + n then some (nb + (i - π.length)) else none

def rootsRen (f : Nat → Option Nat) : List Root → Option (List Root)
  | [] => some []
  | R :: l => (R.ren f).bind fun R' => (rootsRen f l).map (R' :: ·)

def gRen (f : Nat → Option Nat) : List (Nat × Root) → Option (List (Nat × Root))
  | [] => some []
  | (i, R) :: l => (f i).bind fun i' => (R.ren f).bind fun R' => (gRen f l).map ((i', R') :: ·)

def Out.ren (f : Nat → Option Nat) (o : Out) : Option Out := (o.av.ren f).bind fun av => (rootsRen f o.new).bind fun new => (gRen f o.g).map fun g => ⟨av, new, g⟩

theorem rootsRen_get {f : Nat → Option Nat} : ∀ {l l' : List Root}, rootsRen f l = some l' → l'.length = l.length ∧ ∀ (j : Nat) y, l[j]? = some y → ∃ y', l'[j]? = some y' ∧ y.ren f = some y'
  | [], l', h => by simp [rootsRen] at h; subst h; simp
  | x :: l, l', h => by
    simp only [rootsRen] at h
    obtain ⟨y, hy, h⟩ := Option.bind_eq_some_iff.1 h
    obtain ⟨zs, hz, rfl⟩ := Option.map_eq_some_iff.1 h
    obtain ⟨hl, hg⟩ := rootsRen_get hz
    refine ⟨by simp [hl], ?_⟩
    intro j w hw
    cases j with
    | zero => simp at hw; subst hw; exact ⟨y, rfl, hy⟩
    | succ j => simp at hw; obtain ⟨x', h1, h2⟩ := hg j w hw; exact ⟨x', by simpa using h1, h2⟩

theorem updG_ren {f : Nat → Option Nat} (hinj : ∀ i j r, f i = some r → f j = some r → i = j) {rt rt' : Nat → Option Root} : ∀ {g g' : List (Nat × Root)}, gRen f g = some g' → ∀ {i r : Nat}, f i = some r →
    (∀ R, rt i = some R → ∃ R', rt' r = some R' ∧ R.ren f = some R') → ∀ R, updG g rt i = some R → ∃ R', updG g' rt' r = some R' ∧ R.ren f = some R'
  | [], g', h, i, r, hf, hb, R, hR => by simp [gRen] at h; subst h; exact hb R hR
  | (j, Rj) :: g, g', h, i, r, hf, hb, R, hR => by
    simp only [gRen] at h
    obtain ⟨j', hj, h⟩ := Option.bind_eq_some_iff.1 h
    obtain ⟨Rj', hRj, h⟩ := Option.bind_eq_some_iff.1 h
    obtain ⟨g1, hg, rfl⟩ := Option.map_eq_some_iff.1 h
    simp only [updG] at hR ⊢
    by_cases e : i = j
    · subst e
      rw [if_pos rfl] at hR
      obtain rfl := Option.some.inj hR
      rw [hf] at hj
      obtain rfl := Option.some.inj hj
      exact ⟨Rj', by rw [if_pos rfl], hRj⟩
    · rw [if_neg e] at hR
      have e' : ¬ r = j' := fun e' => e (hinj i j r hf (by rw [e']; exact hj))
      rw [if_neg e']
      exact updG_ren hinj hg hf hb R hR

theorem updG_off {f : Nat → Option Nat} {rt : Nat → Option Root} : ∀ {g g' : List (Nat × Root)}, gRen f g = some g' → ∀ {r : Nat}, (∀ i, f i ≠ some r) → updG g' rt r = rt r
  | [], g', h, r, hr => by simp [gRen] at h; subst h; rfl
  | (j, Rj) :: g, g', h, r, hr => by
    simp only [gRen] at h
    obtain ⟨j', hj, h⟩ := Option.bind_eq_some_iff.1 h
    obtain ⟨Rj', hRj, h⟩ := Option.bind_eq_some_iff.1 h
    obtain ⟨g1, hg, rfl⟩ := Option.map_eq_some_iff.1 h
    simp only [updG]
    have e' : ¬ r = j' := fun e => hr j (by rw [e]; exact hj)
    rw [if_neg e']
    exact updG_off hg hr

/-- What is asked of the roots that are handed over. -/
structure Handed (E : Env) (π : List Nat) (nb : Nat) (r0 new new' : List Root) : Prop where
  len : π.length = r0.length
  nodup : π.Nodup
  lt : ∀ r ∈ π, r < nb
  pres : ∀ r ∈ π, E.pres r
  rts : ∀ (i : Nat) r R, π[i]? = some r → r0[i]? = some R → ∃ R', E.rt r = some R' ∧ R.ren (callRen π nb new.length) = some R'
  new : rootsRen (callRen π nb new.length) new = some new'

section
variable {P : Program} {c : Ctx} {E : Env} {π : List Nat} {nb : Nat} {r0 new new' : List Root}

theorem callRen_cases {n i r : Nat} (h : callRen π nb n i = some r) : (i < π.length ∧ π[i]? = some r) ∨ (π.length ≤ i ∧ i < π.length + n ∧ r = nb + (i - π.length)) := by
  unfold callRen at h
  split at h
  · exact .inl ⟨by assumption, h⟩
  · split at h
    · exact .inr ⟨by omega, by assumption, (Option.some.inj h).symm⟩
    · cases h

theorem callRen_inj (H : Handed E π nb r0 new new') {i j r : Nat} (hi : callRen π nb new.length i = some r) (hj : callRen π nb new.length j = some r) : i = j := by
  rcases callRen_cases hi with ⟨h1, h2⟩ | ⟨h1, h2, h3⟩ <;> rcases callRen_cases hj with ⟨k1, k2⟩ | ⟨k1, k2, k3⟩
  · exact (List.getElem?_inj h1 H.nodup).1 (h2.trans k2.symm)
  · have := H.lt r (List.mem_of_getElem? h2); omega
  · have := H.lt r (List.mem_of_getElem? k2); omega
  · omega

def backβ (E : Env) (π : List Nat) : Nat → Option Nat := fun i => (π[i]?).bind E.β

theorem backβ_get {i r : Nat} (h : π[i]? = some r) : backβ E π i = E.β r := by simp [backβ, h]

theorem call_conn (hF : Fresh c E nb new') (H : Handed E π nb r0 new new') : Conn (callRen π nb new.length) (callEnv E.w E.S (backβ E π) r0 new) E where
  w := rfl
  S := fun _ h => h
  kind := by
    intro i r hi
    obtain ⟨hl, hg⟩ := rootsRen_get H.new
    rcases callRen_cases hi with ⟨h1, h2⟩ | ⟨h1, h2, h3⟩
    · have hlt : i < r0.length := by rw [← H.len]; exact h1
      obtain ⟨R', hR', hren⟩ := H.rts i r r0[i] h2 (List.getElem?_eq_getElem hlt)
      rw [hR']
      show _ = ((r0 ++ new)[i]?).map Root.kind
      rw [List.getElem?_append_left hlt, List.getElem?_eq_getElem hlt]
      simp [ren_kind hren]
    · have hk : i - r0.length < new.length := by rw [← H.len]; omega
      obtain ⟨y', hy', hren⟩ := hg (i - r0.length) new[i - r0.length] (List.getElem?_eq_getElem hk)
      rw [h3, H.len, hF.rt _ _ hy']
      show _ = ((r0 ++ new)[i]?).map Root.kind
      rw [List.getElem?_append_right (by rw [← H.len]; exact h1), List.getElem?_eq_getElem hk]
      simp [ren_kind hren]
  pres := by
    intro i r hi
    show _ ↔ i < r0.length
    obtain ⟨hl, hg⟩ := rootsRen_get H.new
    rcases callRen_cases hi with ⟨h1, h2⟩ | ⟨h1, h2, h3⟩
    · exact ⟨fun _ => by rw [← H.len]; exact h1, fun _ => H.pres r (List.mem_of_getElem? h2)⟩
    · refine ⟨fun h => ?_, fun h => by rw [← H.len] at h; omega⟩
      rw [h3] at h
      exact absurd h (hF.np _ (by rw [hl]; omega))
  β := by
    intro i r hi hp
    have hp' : i < r0.length := hp
    rcases callRen_cases hi with ⟨h1, h2⟩ | ⟨h1, h2, h3⟩
    · show E.β r = (π[i]?).bind E.β
      rw [h2]; rfl
    · rw [← H.len] at hp'; omega

theorem call_root (H : Handed E π nb r0 new new') {i r : Nat} {R : Root} (h1 : π[i]? = some r) (h2 : r0[i]? = some R) : ∃ R', E.rt r = some R' ∧ R.ren (callRen π nb new.length) = some R' := H.rts i r R h1 h2

theorem call_mem (hM : Mem c E) (hF : Fresh c E nb new') (H : Handed E π nb r0 new new') : Mem (callCtx E.w E.S (backβ E π) r0) (callEnv E.w E.S (backβ E π) r0 new) := by
  have hr0 : ∀ {i : Nat}, i < r0.length → ∃ r, π[i]? = some r ∧ r ∈ π := fun {i} hi => by
    have hi' : i < π.length := by rw [H.len]; exact hi
    exact ⟨π[i], List.getElem?_eq_getElem hi', List.getElem_mem _⟩
  have hrt : ∀ {i : Nat} {R : Root}, i < r0.length → (r0 ++ new)[i]? = some R → r0[i]? = some R := fun {i R} hi h => by rwa [List.getElem?_append_left hi] at h
  exact {
    os := rfl
    output := rfl
    tape := rfl
    size := Nat.le_refl _
    keep := fun _ _ _ => rfl
    shape := fun _ _ h => h
    s0 := fun _ h => h
    slt := hM.slt
    snew := fun _ h => .inl h
    blt := by
      intro i b hi hb
      obtain ⟨r, h1, h2⟩ := hr0 hi
      rw [show (callEnv E.w E.S (backβ E π) r0 new).β i = E.β r from backβ_get h1] at hb
      exact hM.blt r b (H.pres r h2) hb
    bown := fun i R b hi hR hd hb => .inr ⟨i, R, hrt hi hR, hd, hb⟩
    bkeep := fun _ _ _ _ _ _ => rfl
    inj := by
      intro i j R R' b hi hj hR hd hR' hd' hb hb'
      obtain ⟨r, h1, h2⟩ := hr0 hi
      obtain ⟨r', h1', h2'⟩ := hr0 hj
      obtain ⟨Q, hQ, hren⟩ := H.rts i r R h1 (hrt hi hR)
      obtain ⟨Q', hQ', hren'⟩ := H.rts j r' R' h1' (hrt hj hR')
      rw [show (callEnv E.w E.S (backβ E π) r0 new).β i = E.β r from backβ_get h1] at hb
      rw [show (callEnv E.w E.S (backβ E π) r0 new).β j = E.β r' from backβ_get h1'] at hb'
      have := hM.inj r r' Q Q' b (H.pres r h2) (H.pres r' h2') hQ (fun e => hd ((ren_dead hren).1 e)) hQ' (fun e => hd' ((ren_dead hren').1 e)) hb hb'
      subst this
      exact (List.getElem?_inj (by rw [H.len]; exact hi) H.nodup).1 (h1.trans h1'.symm)
    roots := by
      intro i R hi hR
      obtain ⟨r, h1, h2⟩ := hr0 hi
      obtain ⟨Q, hQ, hren⟩ := H.rts i r R h1 (hrt hi hR)
      have hf : callRen π nb new.length i = some r := by unfold callRen; rw [if_pos (by rw [H.len]; exact hi)]; exact h1
      let g : Nat → Option Nat := fun r' => if r' = r then some i else
        open Classical in if h : ∃ j, callRen π nb new.length j = some r' then some h.choose else none
      have hg : ∀ j r', callRen π nb new.length j = some r' → g r' = some j := by
        intro j r' hj
        show (if r' = r then some i else _) = _
        split
        · rename_i e; subst e; rw [callRen_inj H hf hj]
        · rw [dif_pos ⟨j, hj⟩]
          exact congrArg some (callRen_inj H (Exists.choose_spec (⟨j, hj⟩ : ∃ j, callRen π nb new.length j = some r')) hj)
      have hg' : ∀ r' j, g r' = some j → callRen π nb new.length j = some r' := by
        intro r' j hj
        have hj' : (if r' = r then some i else
          open Classical in if h : ∃ j, callRen π nb new.length j = some r' then some h.choose else none) = some j := hj
        split at hj'
        · rename_i e; subst e; rw [← Option.some.inj hj']; exact hf
        · split at hj'
          · rename_i h; rw [← Option.some.inj hj']; exact h.choose_spec
          · cases hj'
      exact RootRel.conn ((call_conn hF H).back (fun _ h => h) hg') (fun _ h => h) (hg i r hf) (H.pres r h2) (root_ren_inv hg hren) (hM.roots r Q (H.pres r h2) hQ) }

end
end Go.Proofs.Ytamdgfklbjoaiaa.Ab

namespace Go.Proofs.Ytamdgfklbjoaiaa.Ab
open Go

section
variable {P : Program} {c : Ctx} {E E1 : Env} {π : List Nat} {nb : Nat} {r0 new new' : List Root} {o o' : Out} {v : Value}

/-- The caller's state behind the call. -/
def Env.after (E E1 : Env) (nb n m : Nat) (g : List (Nat × Root)) : Env where
  rt := updG g E.rt
  pres := fun r => E.pres r ∨ (nb ≤ r ∧ r < nb + n)
  β := fun r => if nb ≤ r ∧ r < nb + n then E1.β (m + (r - nb)) else E.β r
  S := E1.S
  w := E1.w

theorem call_back (hM : Mem c E) (hF : Fresh c E nb new') (H : Handed E π nb r0 o.new new') (hg : gRen (callRen π nb o.new.length) o.g = some o'.g) (hav : o.av.ren (callRen π nb o.new.length) = some o'.av) (hn : o'.new = new')
    (h : OutRel (callCtx E.w E.S (backβ E π) r0) (callEnv E.w E.S (backβ E π) r0 o.new) r0.length o v E1) :
    OutRel c E nb o' v (E.after E1 nb o.new.length π.length o'.g) := by
  have hinj : ∀ i j r, callRen π nb o.new.length i = some r → callRen π nb o.new.length j = some r → i = j := fun i j r hi hj => callRen_inj H hi hj
  obtain ⟨hlen, hget⟩ := rootsRen_get H.new
  have hfresh : ∀ {r}, E.pres r → ¬ (nb ≤ r ∧ r < nb + o.new.length) := by
    intro r hp hr
    have := hF.np (r - nb) (by rw [hlen]; omega)
    rw [show nb + (r - nb) = r by omega] at this
    exact this hp
  have hold : ∀ {i r : Nat}, π[i]? = some r → callRen π nb o.new.length i = some r := by
    intro i r h
    unfold callRen
    rw [if_pos (List.getElem?_eq_some_iff.1 h).1]
    exact h
  have hnew : ∀ {r : Nat}, nb ≤ r → r < nb + o.new.length → callRen π nb o.new.length (π.length + (r - nb)) = some r := by
    intro r h1 h2
    unfold callRen
    rw [if_neg (by omega), if_pos (by omega)]
    congr 1
    omega
  have hrt : ∀ {i r : Nat}, callRen π nb o.new.length i = some r → ∀ R, E1.rt i = some R → ∃ R', updG o'.g E.rt r = some R' ∧ R.ren (callRen π nb o.new.length) = some R' := by
    intro i r hi R hR
    rw [h.rt] at hR
    refine updG_ren hinj hg hi ?_ R hR
    intro R0 hR0
    have hR0' : (r0 ++ o.new)[i]? = some R0 := hR0
    rcases callRen_cases hi with ⟨h1, h2⟩ | ⟨h1, h2, h3⟩
    · exact H.rts i r R0 h2 (by rwa [List.getElem?_append_left (by rw [← H.len]; exact h1)] at hR0')
    · rw [List.getElem?_append_right (by rw [← H.len]; exact h1)] at hR0'
      obtain ⟨y', hy', hren⟩ := hget _ _ hR0'
      exact ⟨y', by rw [h3, H.len, hF.rt _ _ hy'], hren⟩
  have hpre1 : ∀ {i : Nat}, E1.pres i ↔ i < r0.length + o.new.length := by
    intro i
    rw [h.pres]
    show i < r0.length ∨ _ ↔ _
    omega
  have hE0rt : ∀ {i : Nat}, i < r0.length + o.new.length → ∃ R, E1.rt i = some R := by
    intro i hi
    have : ∃ R, (callEnv E.w E.S (backβ E π) r0 o.new).rt i = some R := ⟨(r0 ++ o.new)[i]'(by simp; omega), List.getElem?_eq_getElem (by simp; omega)⟩
    obtain ⟨R, hR⟩ := this
    obtain ⟨R', hR', _⟩ := h.step.rt i R hR
    exact ⟨R', hR'⟩
  have hdom : ∀ {i r : Nat}, callRen π nb o.new.length i = some r → i < r0.length + o.new.length := by
    intro i r hi
    rcases callRen_cases hi with ⟨h1, h2⟩ | ⟨h1, h2, h3⟩ <;> rw [← H.len] <;> omega
  have hβ : ∀ {i r : Nat}, callRen π nb o.new.length i = some r → (E.after E1 nb o.new.length π.length o'.g).β r = E1.β i := by
    intro i r hi
    show (if nb ≤ r ∧ r < nb + o.new.length then E1.β (π.length + (r - nb)) else E.β r) = _
    rcases callRen_cases hi with ⟨h1, h2⟩ | ⟨h1, h2, h3⟩
    · rw [if_neg (hfresh (H.pres r (List.mem_of_getElem? h2)))]
      rw [h.step.β i (show i < r0.length by rw [← H.len]; exact h1)]
      exact (backβ_get h2).symm
    · rw [if_pos (by omega)]
      congr 1
      omega
  have hC : Conn (callRen π nb o.new.length) E1 (E.after E1 nb o.new.length π.length o'.g) := by
    refine ⟨rfl, fun _ h => h, ?_, ?_, fun i r hi _ => hβ hi⟩
    · intro i r hi
      obtain ⟨R, hR⟩ := hE0rt (hdom hi)
      obtain ⟨R', hR', hren⟩ := hrt hi R hR
      rw [show (E.after E1 nb o.new.length π.length o'.g).rt r = some R' from hR', hR]
      simp [ren_kind hren]
    · intro i r hi
      rw [hpre1]
      refine ⟨fun _ => hdom hi, fun _ => ?_⟩
      rcases callRen_cases hi with ⟨h1, h2⟩ | ⟨h1, h2, h3⟩
      · exact .inl (H.pres r (List.mem_of_getElem? h2))
      · exact .inr (by omega)
  have hSt : Step E (E.after E1 nb o.new.length π.length o'.g) := by
    refine ⟨?_, fun r hr => .inl hr, ?_, h.mem.s0, ?_, ?_⟩
    · intro r R hR
      by_cases hm : ∃ i, callRen π nb o.new.length i = some r
      · obtain ⟨i, hi⟩ := hm
        obtain ⟨R1, hR1⟩ := hE0rt (hdom hi)
        obtain ⟨R', hR', hren⟩ := hrt hi R1 hR1
        refine ⟨R', hR', ?_⟩
        have hk := (call_conn hF H).kind i r hi
        rw [hR] at hk
        obtain ⟨Q, hQ, hkQ⟩ := Option.map_eq_some_iff.1 hk.symm
        obtain ⟨Q1, hQ1, hd⟩ := h.step.rt i Q hQ
        rw [hR1] at hQ1
        obtain rfl := Option.some.inj hQ1
        rcases hd with hd | hd
        · exact .inl ((ren_dead hren).2 hd)
        · exact .inr ((ren_kind hren).trans (hd.trans hkQ))
      · exact ⟨R, by rw [show (E.after E1 nb o.new.length π.length o'.g).rt r = updG o'.g E.rt r from rfl, updG_off hg (fun i hi => hm ⟨i, hi⟩)]; exact hR, .inr rfl⟩
    · intro r hr
      exact if_neg (hfresh hr)
    · exact fun b hb => h.step.heap b hb
    · exact fun b s hs => h.mem.shape b s hs
  have hnd : ∀ {r R}, E.pres r → (E.after E1 nb o.new.length π.length o'.g).rt r = some R → R ≠ .dead → ∃ R0, E.rt r = some R0 ∧ R0 ≠ .dead := by
    intro r R hp hR hd
    have hex : ∃ R0, E.rt r = some R0 := by
      by_cases hm : ∃ i, callRen π nb o.new.length i = some r
      · obtain ⟨i, hi⟩ := hm
        rcases callRen_cases hi with ⟨h1, h2⟩ | ⟨h1, h2, h3⟩
        · have hlt : i < r0.length := by rw [← H.len]; exact h1
          obtain ⟨R', hR', _⟩ := H.rts i r r0[i] h2 (List.getElem?_eq_getElem hlt)
          exact ⟨R', hR'⟩
        · exact absurd (show nb ≤ r ∧ r < nb + o.new.length by omega) (hfresh hp)
      · have : (E.after E1 nb o.new.length π.length o'.g).rt r = E.rt r := updG_off hg (fun i hi => hm ⟨i, hi⟩)
        exact ⟨R, by rw [← this]; exact hR⟩
    obtain ⟨R0, hR0⟩ := hex
    refine ⟨R0, hR0, ?_⟩
    rintro rfl
    obtain ⟨R', hR', hk⟩ := hSt.rt r _ hR0
    rw [hR] at hR'
    obtain rfl := Option.some.inj hR'
    rcases hk with hk | hk
    · exact hd hk
    · exact hd (kind_dead.1 (hk.trans rfl))
  have hown : ∀ {b}, (callCtx E.w E.S (backβ E π) r0).own b → ∃ r, r ∈ π ∧ (∃ R, E.rt r = some R ∧ R ≠ .dead) ∧ E.β r = some b := by
    rintro b ⟨i, R, hR, hd, hb⟩
    have hi : i < π.length := by rw [H.len]; exact (List.getElem?_eq_some_iff.1 hR).1
    have hπ : π[i]? = some π[i] := List.getElem?_eq_getElem hi
    obtain ⟨R', hR', hren⟩ := H.rts i _ R hπ hR
    exact ⟨π[i], List.getElem_mem hi, ⟨R', hR', fun e => hd ((ren_dead hren).1 e)⟩, by rw [← backβ_get (E := E) hπ]; exact hb⟩
  have hown' : ∀ {b}, (callCtx E.w E.S (backβ E π) r0).own b → c.w0.heap.size ≤ b ∨ c.own b := by
    intro b hb
    obtain ⟨r, hr, ⟨R, hR, hd⟩, hb'⟩ := hown hb
    exact hM.bown r R b (H.pres r hr) hR hd hb'
  have oldβ : ∀ {r}, E.pres r → (E.after E1 nb o.new.length π.length o'.g).β r = E.β r := fun hp => if_neg (hfresh hp)
  have newi : ∀ {r R}, (nb ≤ r ∧ r < nb + o.new.length) → (E.after E1 nb o.new.length π.length o'.g).rt r = some R → R ≠ .dead →
      ∃ R1, E1.rt (π.length + (r - nb)) = some R1 ∧ R1 ≠ .dead ∧ E1.pres (π.length + (r - nb)) := by
    intro r R hr hR hd
    have hi := hnew hr.1 hr.2
    obtain ⟨R1, hR1⟩ := hE0rt (hdom hi)
    obtain ⟨R', hR', hren⟩ := hrt hi R1 hR1
    rw [show (E.after E1 nb o.new.length π.length o'.g).rt r = some R' from hR'] at hR
    obtain rfl := Option.some.inj hR
    exact ⟨R1, hR1, fun e => hd ((ren_dead hren).2 e), hpre1.2 (hdom hi)⟩
  have crossed : ∀ {r r' R R' b}, E.pres r → (E.after E1 nb o.new.length π.length o'.g).rt r = some R → R ≠ .dead → (nb ≤ r' ∧ r' < nb + o.new.length) → (E.after E1 nb o.new.length π.length o'.g).rt r' = some R' → R' ≠ .dead →
      (E.after E1 nb o.new.length π.length o'.g).β r = some b → (E.after E1 nb o.new.length π.length o'.g).β r' = some b → False := by
    intro r r' R R' b hp hR hd hr' hR' hd' hb hb'
    obtain ⟨R0, hR0, hd0⟩ := hnd hp hR hd
    obtain ⟨R1, hR1, hd1, hp1⟩ := newi hr' hR' hd'
    rw [oldβ hp] at hb
    rw [hβ (hnew hr'.1 hr'.2)] at hb'
    rcases h.mem.bown _ _ _ hp1 hR1 hd1 hb' with hlt | ho
    · have := hM.blt r b hp hb
      have hlt' : E.w.heap.size ≤ b := hlt
      omega
    · obtain ⟨s, hs, ⟨Rs, hRs, hds⟩, hbs⟩ := hown ho
      have := hM.inj r s R0 Rs b hp (H.pres s hs) hR0 hd0 hRs hds hb hbs
      subst this
      obtain ⟨i, hi, hgi⟩ := List.getElem_of_mem hs
      have hfi := hold (List.getElem?_eq_some_iff.2 ⟨hi, hgi⟩)
      obtain ⟨R2, hR2⟩ := hE0rt (hdom hfi)
      obtain ⟨R3, hR3, hren⟩ := hrt hfi R2 hR2
      rw [show (E.after E1 nb o.new.length π.length o'.g).rt r = some R3 from hR3] at hR
      obtain rfl := Option.some.inj hR
      have hd2 : R2 ≠ .dead := fun e => hd ((ren_dead hren).2 e)
      have hb2 : E1.β i = some b := by rw [← hβ hfi, oldβ hp]; exact hb
      have := h.mem.inj i _ R2 R1 b (hpre1.2 (hdom hfi)) hp1 hR2 hd2 hR1 hd1 hb2 hb'
      omega
  refine ⟨?_, hSt, rfl, ?_, h.size, h.rel.conn hC hav⟩
  · exact {
      os := h.mem.os.trans hM.os
      output := h.mem.output.trans hM.output
      tape := h.mem.tape.trans hM.tape
      size := Nat.le_trans hM.size h.size
      keep := by
        intro b hb ho
        rw [show (E.after E1 nb o.new.length π.length o'.g).w.heap[b]? = E.w.heap[b]? from h.mem.keep b (Nat.lt_of_lt_of_le hb hM.size) (fun hc => (hown' hc).elim (fun hc => by omega) ho)]
        exact hM.keep b hb ho
      shape := fun b s hs => h.mem.shape b s (hM.shape b s hs)
      s0 := fun b hb => h.mem.s0 b (hM.s0 b hb)
      slt := h.mem.slt
      snew := by
        intro b hb
        rcases h.mem.snew b hb with h1 | h1 | h1
        · exact hM.snew b h1
        · have h1' : E.w.heap.size ≤ b := h1
          exact .inr (.inl (Nat.le_trans hM.size h1'))
        · exact .inr (hown' h1)
      blt := by
        intro r b hp hb
        rcases hp with hp | hp
        · rw [oldβ hp] at hb
          exact Nat.lt_of_lt_of_le (hM.blt r b hp hb) h.size
        · rw [hβ (hnew hp.1 hp.2)] at hb
          exact h.mem.blt _ b (hpre1.2 (hdom (hnew hp.1 hp.2))) hb
      bown := by
        intro r R b hp hR hd hb
        rcases hp with hp | hp
        · obtain ⟨R0, hR0, hd0⟩ := hnd hp hR hd
          rw [oldβ hp] at hb
          exact hM.bown r R0 b hp hR0 hd0 hb
        · obtain ⟨R1, hR1, hd1, hp1⟩ := newi hp hR hd
          rw [hβ (hnew hp.1 hp.2)] at hb
          rcases h.mem.bown _ _ _ hp1 hR1 hd1 hb with hlt | ho
          · have hlt' : E.w.heap.size ≤ b := hlt
            exact .inl (Nat.le_trans hM.size hlt')
          · exact hown' ho
      bkeep := by
        intro r R hlt hp hR hd
        have hp' : E.pres r := hp.resolve_right (fun h => by have := hF.m; omega)
        obtain ⟨R0, hR0, hd0⟩ := hnd hp' hR hd
        rw [oldβ hp']
        exact hM.bkeep r R0 hlt hp' hR0 hd0
      inj := by
        intro r r' R R' b hp hp' hR hd hR' hd' hb hb'
        rcases hp with hp | hp <;> rcases hp' with hp' | hp'
        · obtain ⟨R0, hR0, hd0⟩ := hnd hp hR hd
          obtain ⟨R1, hR1, hd1⟩ := hnd hp' hR' hd'
          rw [oldβ hp] at hb
          rw [oldβ hp'] at hb'
          exact hM.inj r r' R0 R1 b hp hp' hR0 hd0 hR1 hd1 hb hb'
        · exact (crossed hp hR hd hp' hR' hd' hb hb').elim
        · exact (crossed hp' hR' hd' hp hR hd hb' hb).elim
        · obtain ⟨R0, hR0, hd0, hp0⟩ := newi hp hR hd
          obtain ⟨R1, hR1, hd1, hp1⟩ := newi hp' hR' hd'
          rw [hβ (hnew hp.1 hp.2)] at hb
          rw [hβ (hnew hp'.1 hp'.2)] at hb'
          have := h.mem.inj _ _ R0 R1 b hp0 hp1 hR0 hd0 hR1 hd1 hb hb'
          omega
      roots := by
        intro r R hp hR
        by_cases hm : ∃ i, callRen π nb o.new.length i = some r
        · obtain ⟨i, hi⟩ := hm
          obtain ⟨R1, hR1⟩ := hE0rt (hdom hi)
          obtain ⟨R', hR', hren⟩ := hrt hi R1 hR1
          rw [show (E.after E1 nb o.new.length π.length o'.g).rt r = some R' from hR'] at hR
          obtain rfl := Option.some.inj hR
          exact RootRel.conn hC (fun _ h => h) hi (hpre1.2 (hdom hi)) hren (h.mem.roots i R1 (hpre1.2 (hdom hi)) hR1)
        · have hp' : E.pres r := hp.resolve_right (fun h => hm ⟨_, hnew h.1 h.2⟩)
          have hsame : (E.after E1 nb o.new.length π.length o'.g).rt r = E.rt r := updG_off hg (fun i hi => hm ⟨i, hi⟩)
          by_cases hd : R = .dead
          · subst hd; trivial
          rw [hsame] at hR
          have notown : ∀ b, E.β r = some b → ¬ (callCtx E.w E.S (backβ E π) r0).own b := by
            intro b hb ho
            obtain ⟨s, hs, ⟨Rs, hRs, hds⟩, hbs⟩ := hown ho
            have := hM.inj r s R Rs b hp' (H.pres s hs) hR hd hRs hds hb hbs
            subst this
            obtain ⟨i, hi, hgi⟩ := List.getElem_of_mem hs
            exact hm ⟨i, hold (List.getElem?_eq_some_iff.2 ⟨hi, hgi⟩)⟩
          refine RootRel.step hSt hp' ?_ ?_ (hM.roots r R hp' hR)
          · intro b hb
            exact h.mem.keep b (hM.blt r b hp' hb) (notown b hb)
          · intro b hb hS
            rcases h.mem.snew b hS with h1 | h1 | h1
            · exact h1
            · have h1' : E.w.heap.size ≤ b := h1
              have := hM.blt r b hp' hb
              omega
            · exact (notown b hb h1).elim }
  · intro r
    rw [hn, hlen]
    exact Iff.rfl

/-- A call, at the caller. -/
theorem CallOk.at (hM : Mem c E) {f : FuncId} {as as' : List AV} {vs : Array Value} (hc : CallOk P f as r0 o) (hF : Fresh c E nb o'.new) (H : Handed E π nb r0 o.new o'.new) (ho : o.ren (callRen π nb o.new.length) = some o')
    (ha : AV.rens (callRen π nb o.new.length) as = some as') (hv : Args E as' vs) :
    Calls P f vs E.w fun e w' => ∃ v E', e = .returned v ∧ E'.w = w' ∧ OutRel c E nb o' v E' ∧ ∀ b, b < E.w.heap.size → (∀ r ∈ π, E.β r ≠ some b) → E'.w.heap[b]? = E.w.heap[b]? := by
  unfold Out.ren at ho
  obtain ⟨av, hav, ho⟩ := Option.bind_eq_some_iff.1 ho
  obtain ⟨new, hnew, ho⟩ := Option.bind_eq_some_iff.1 ho
  obtain ⟨g, hg, rfl⟩ := Option.map_eq_some_iff.1 ho
  have hinv : ∀ r r', callRen π nb o.new.length r = some r' → (fun r' => (open Classical in if h : ∃ j, callRen π nb o.new.length j = some r' then some h.choose else none : Option Nat)) r' = some r := by
    intro r r' hr
    show (open Classical in if h : ∃ j, callRen π nb o.new.length j = some r' then some h.choose else none : Option Nat) = some r
    rw [dif_pos ⟨r, hr⟩]
    exact congrArg some (callRen_inj H (Exists.choose_spec (⟨r, hr⟩ : ∃ j, callRen π nb o.new.length j = some r')) hr)
  have hinv' : ∀ r' r, (fun r' => (open Classical in if h : ∃ j, callRen π nb o.new.length j = some r' then some h.choose else none : Option Nat)) r' = some r → callRen π nb o.new.length r = some r' := by
    intro r' r hr
    have hr' : (open Classical in if h : ∃ j, callRen π nb o.new.length j = some r' then some h.choose else none : Option Nat) = some r := hr
    split at hr'
    · rename_i h; rw [← Option.some.inj hr']; exact h.choose_spec
    · cases hr'
  have hargs : Args (callEnv E.w E.S (backβ E π) r0 o.new) as vs := by
    obtain ⟨hl, hget⟩ := rens_get ha
    refine ⟨hv.1.trans hl, ?_⟩
    intro j y hy
    obtain ⟨y', hy', hren⟩ := rens_get' ha j y hy
    exact (hv.2 j y' hy').conn ((call_conn hF H).back (fun _ h => h) hinv') (ren_inv hinv hren)
  refine Calls.mono (hc E.w E.S (backβ E π) vs (call_mem hM hF H) hargs) ?_
  rintro e w' ⟨v, E1, rfl, rfl, h⟩
  refine ⟨v, E.after E1 nb o.new.length π.length g, rfl, rfl, call_back (o' := ⟨av, new, g⟩) hM hF H hg hav rfl h, ?_⟩
  intro b hb hn
  refine h.mem.keep b hb ?_
  rintro ⟨i, R, hR, hd, hβ⟩
  have hi : i < π.length := by rw [H.len]; exact (List.getElem?_eq_some_iff.1 hR).1
  exact hn π[i] (List.getElem_mem hi) (by rw [← backβ_get (E := E) (List.getElem?_eq_getElem hi)]; exact hβ)
end
end Go.Proofs.Ytamdgfklbjoaiaa.Ab

namespace Go.Proofs.Ytamdgfklbjoaiaa.Ab
open Go

def froz : Root → Root
  | .row sz _ xs => .row sz true xs
  | R => R

theorem froz_kind (R : Root) : (froz R).kind = R.kind := by cases R <;> rfl
theorem froz_dead {R : Root} : froz R = .dead ↔ R = .dead := by cases R <;> simp [froz]

/-- Rows that are lent to a call, or frozen. -/
def Env.lent (E : Env) (L : List Nat) : Env := { E with rt := fun r => if r ∈ L then (E.rt r).map froz else E.rt r, S := fun b => E.S b ∨ ∃ r ∈ L, E.β r = some b }

def IsRowRoot (E : Env) (r : Nat) : Prop := E.pres r ∧ ∃ sz fz xs, E.rt r = some (.row sz fz xs)

section
variable {P : Program} {c : Ctx} {E : Env} {L : List Nat}

theorem lent_rt {r : Nat} {R : Root} (h : (E.lent L).rt r = some R) : ∃ R0, E.rt r = some R0 ∧ R0.kind = R.kind ∧ (R = R0 ∨ (r ∈ L ∧ R = froz R0)) := by
  have h' : (if r ∈ L then (E.rt r).map froz else E.rt r) = some R := h
  split at h'
  · obtain ⟨R0, h0, rfl⟩ := Option.map_eq_some_iff.1 h'
    exact ⟨R0, h0, (froz_kind R0).symm, .inr ⟨by assumption, rfl⟩⟩
  · exact ⟨R, h', rfl, .inl rfl⟩

theorem lent_step : Step E (E.lent L) where
  rt := by
    intro r R h
    show ∃ R', (if r ∈ L then (E.rt r).map froz else E.rt r) = some R' ∧ _
    split
    · exact ⟨froz R, by rw [h]; rfl, .inr (froz_kind R)⟩
    · exact ⟨R, h, .inr rfl⟩
  pres := fun _ h => h
  β := fun _ _ => rfl
  S := fun _ h => .inl h
  heap := fun _ _ => rfl
  shape := fun _ _ h => h

theorem lent_mem (hM : Mem c E) (hL : ∀ r ∈ L, IsRowRoot E r) : Mem c (E.lent L) := by
  have nd : ∀ {r R}, (E.lent L).rt r = some R → R ≠ .dead → ∃ R0, E.rt r = some R0 ∧ R0 ≠ .dead := by
    intro r R h hd
    obtain ⟨R0, h0, hk, _⟩ := lent_rt h
    exact ⟨R0, h0, fun e => hd (kind_dead.1 (hk.symm.trans (kind_dead.2 e)))⟩
  exact {
    os := hM.os
    output := hM.output
    tape := hM.tape
    size := hM.size
    keep := hM.keep
    shape := hM.shape
    s0 := fun b hb => .inl (hM.s0 b hb)
    slt := by
      rintro b (hb | ⟨r, hr, hb⟩)
      · exact hM.slt b hb
      · exact hM.blt r b (hL r hr).1 hb
    snew := by
      rintro b (hb | ⟨r, hr, hb⟩)
      · exact hM.snew b hb
      · obtain ⟨hp, sz, fz, xs, hrt⟩ := hL r hr
        exact .inr (hM.bown r _ b hp hrt (by simp) hb)
    blt := hM.blt
    bown := by
      intro r R b hp hR hd hb
      obtain ⟨R0, h0, hd0⟩ := nd hR hd
      exact hM.bown r R0 b hp h0 hd0 hb
    bkeep := by
      intro r R hlt hp hR hd
      obtain ⟨R0, h0, hd0⟩ := nd hR hd
      exact hM.bkeep r R0 hlt hp h0 hd0
    inj := by
      intro r r' R R' b hp hp' hR hd hR' hd' hb hb'
      obtain ⟨R0, h0, hd0⟩ := nd hR hd
      obtain ⟨R1, h1, hd1⟩ := nd hR' hd'
      exact hM.inj r r' R0 R1 b hp hp' h0 hd0 h1 hd1 hb hb'
    roots := by
      intro r R hp hR
      obtain ⟨R0, h0, hk, hor⟩ := lent_rt hR
      by_cases hd : R = .dead
      · subst hd; trivial
      have hd0 : R0 ≠ .dead := fun e => hd (kind_dead.1 (hk.symm.trans (kind_dead.2 e)))
      by_cases hr : r ∈ L
      · obtain ⟨_, sz, fz, xs, hrt⟩ := hL r hr
        rw [h0] at hrt
        obtain rfl := Option.some.inj hrt
        have hRe : R = .row sz true xs := by
          have hR' : (if r ∈ L then (E.rt r).map froz else E.rt r) = some R := hR
          rw [if_pos hr, h0] at hR'
          exact (Option.some.inj hR').symm
        subst hRe
        rcases hM.roots r _ hp h0 with ⟨h1, h2⟩ | ⟨b, cs, t, fr, h1, h2, h3, h4, h5, _⟩
        · exact .inl ⟨h1, h2⟩
        · refine .inr ⟨b, cs, t, fr, h1, h2, h3, h4, ?_, .inl ⟨rfl, .inr ⟨r, hr, h1⟩⟩⟩
          intro i x j y hx hy
          obtain ⟨u, hu, hrel⟩ := h5 i x j y hx hy
          exact ⟨u, hu, hrel.step (fun _ h => .inl h) (fun _ _ => rfl)⟩
      · have hRe : R = R0 := hor.resolve_right (fun h => hr h.1)
        subst hRe
        refine RootRel.step lent_step hp (fun _ _ => rfl) ?_ (hM.roots r _ hp h0)
        rintro b hb (hS | ⟨r', hr', hb'⟩)
        · exact hS
        · obtain ⟨hp', sz, fz, xs, hrt⟩ := hL r' hr'
          have := hM.inj r r' _ _ b hp hp' h0 hd0 hrt (by simp) hb hb'
          subst this
          exact absurd hr' hr }

end

def D.flat : D → Bool
  | .sc _ => true
  | .row _ _ => false

mutual
def AV.flat : AV → Bool
  | .d x => x.flat
  | .ref _ _ _ => true
  | .ptr _ _ _ => true
  | .rptr _ => false
  | .agg l => AV.flats l
  | .tup l => AV.flats l
  | .clo _ l => AV.flats l
  | .anyb _ => true
  | .junk => true
def AV.flats : List AV → Bool
  | [] => true
  | x :: l => x.flat && AV.flats l
end

def Root.flat : Root → Bool
  | .row _ fz xs => !fz && xs.all fun x => x.all D.flat
  | .box _ l => AV.flats l
  | .buf _ _ _ => true
  | .dead => true

theorem flats_get : ∀ {l : List AV}, AV.flats l = true → ∀ (j : Nat) y, l[j]? = some y → y.flat = true
  | [], _, j, y, h => by simp at h
  | x :: l, hf, j, y, h => by
    simp only [AV.flats, Bool.and_eq_true] at hf
    cases j with
    | zero => simp at h; subst h; exact hf.1
    | succ j => simp at h; exact flats_get hf.2 j y h

theorem RelD.flat {w w' : World} {S S' : Nat → Prop} {x : D} {v : Value} (hf : x.flat = true) (h : RelD w S x v) : RelD w' S' x v := by
  cases h with
  | sc v h => exact .sc v h
  | nil sz a cap => simp [D.flat] at hf
  | row sz xs b off cap us hS hc hl hu hr => simp [D.flat] at hf

/-- What has nothing to do with what is only read. -/
theorem RelAV.flat {E E' : Env} (hw : E'.w = E.w) (hk : ∀ r, (E'.rt r).map Root.kind = (E.rt r).map Root.kind) (hp : ∀ r, E'.pres r ↔ E.pres r) (hβ : ∀ r, E.pres r → E'.β r = E.β r) {x : AV} {v : Value} (h : RelAV E x v) : x.flat = true → RelAV E' x v := by
  have get : ∀ {r R}, E.rt r = some R → ∃ R', E'.rt r = some R' ∧ R'.kind = R.kind := by
    intro r R hr
    have := hk r
    rw [hr] at this
    exact Option.map_eq_some_iff.1 this
  have dead : ∀ {r}, E.rt r = some .dead → E'.rt r = some .dead := by
    intro r hr
    obtain ⟨R', h1, h2⟩ := get hr
    rw [h1, kind_dead.1 (h2.trans rfl)]
  induction h with
  | d x v h => intro hf; exact .d x v (h.flat hf)
  | ref r off len R sz b cap t n h1 hkd h2 h3 h4 h5 h6 =>
    intro _
    obtain ⟨R', hR', hk'⟩ := get h1
    exact .ref r off len R' sz b cap t n hR' (hk'.trans hkd) ((hp r).2 h2) ((hβ r h2).trans h3) (by rw [hw]; exact h4) h5 h6
  | refz r off R sz a h1 hkd h2 =>
    intro _
    obtain ⟨R', hR', hk'⟩ := get h1
    exact .refz r off R' sz a hR' (hk'.trans hkd) ((hp r).2 h2)
  | ptr r i j R b h1 h2 h3 =>
    intro _
    obtain ⟨R', hR', hk'⟩ := get h1
    rw [← hk']
    exact .ptr r i j R' b hR' ((hp r).2 h2) ((hβ r h2).trans h3)
  | dref r off len v h1 ho => intro _; exact .dref _ _ _ _ (dead h1) ho
  | dptr r i j v h1 ho => intro _; exact .dptr _ _ _ _ (dead h1) ho
  | rptr cs b o us hS hu hr => intro hf; simp [AV.flat] at hf
  | agg l us hs _ ho ih => intro hf; exact .agg l us hs (fun j y hy => ih j y hy (flats_get (by simpa [AV.flat] using hf) j y hy)) ho
  | tup l us hs _ ih => intro hf; exact .tup l us hs (fun j y hy => ih j y hy (flats_get (by simpa [AV.flat] using hf) j y hy))
  | clo g l us hs _ ih => intro hf; exact .clo g l us hs (fun j y hy => ih j y hy (flats_get (by simpa [AV.flat] using hf) j y hy))
  | anyb p b hb => intro _; exact .anyb p b hb
  | junk v => intro _; exact .junk v

theorem RootRel.flat {E E' : Env} (hw : E'.w = E.w) (hS : ∀ b, E'.S b → E.S b) (hk : ∀ r, (E'.rt r).map Root.kind = (E.rt r).map Root.kind) (hp : ∀ r, E'.pres r ↔ E.pres r) (hβ : ∀ r, E.pres r → E'.β r = E.β r)
    {r : Nat} {R : Root} (hr : E.pres r) (hf : R.flat = true) (h : RootRel E r R) : RootRel E' r R := by
  cases R with
  | dead => trivial
  | buf e fz bs =>
    rcases h with ⟨h1, h2⟩ | ⟨b, cs, fr, h1, h2, h3, h4, h5, h6⟩
    · exact .inl ⟨(hβ r hr).trans h1, h2⟩
    · exact .inr ⟨b, cs, fr, (hβ r hr).trans h1, by rw [hw]; exact h2, h3, h4, fun h => h5 (hS b h), h6⟩
  | row sz fz xs =>
    simp only [Root.flat, Bool.and_eq_true, Bool.not_eq_true', List.all_eq_true] at hf
    obtain ⟨hfz, hf⟩ := hf
    rcases h with ⟨h1, h2⟩ | ⟨b, cs, t, fr, h1, h2, h3, h4, h5, h6⟩
    · exact .inl ⟨(hβ r hr).trans h1, h2⟩
    · refine .inr ⟨b, cs, t, fr, (hβ r hr).trans h1, by rw [hw]; exact h2, h3, h4, ?_, ?_⟩
      · intro i x j y hx hy
        obtain ⟨u, hu, hrel⟩ := h5 i x j y hx hy
        exact ⟨u, hu, hrel.flat (hf x (List.mem_of_getElem? hx) y (List.mem_of_getElem? hy))⟩
      · rcases h6 with ⟨h6, _⟩ | ⟨h6, h7, h8⟩
        · rw [hfz] at h6; cases h6
        · exact .inr ⟨h6, fun h => h7 (hS b h), h8⟩
  | box t l =>
    obtain ⟨b, cs, fr, h1, h2, h3, h4, h5, h6⟩ := h
    refine ⟨b, cs, fr, (hβ r hr).trans h1, by rw [hw]; exact h2, h3, ?_, fun h => h5 (hS b h), h6⟩
    intro j y hy
    obtain ⟨u, hu, ho, hrel⟩ := h4 j y hy
    exact ⟨u, hu, ho, hrel.flat hw hk hp hβ (flats_get hf j y hy)⟩

section
variable {P : Program} {c : Ctx} {E E1 : Env} {L : List Nat} {nb : Nat} {o : Out} {v : Value}

def Env.unlent (E E1 : Env) : Env := { E1 with rt := E.rt, S := fun b => E1.S b ∧ (E.S b ∨ E.w.heap.size ≤ b) }

/-- What was lent is given back: nothing of the outcome has to do with it. -/
theorem unlent (hM : Mem c E) (hL : ∀ r ∈ L, IsRowRoot E r) (hF : Fresh c E nb o.new) (hg : o.g = []) (hfa : o.av.flat = true) (hfn : o.new.all Root.flat = true)
    (hkeep : ∀ b, b < E.w.heap.size → E1.w.heap[b]? = E.w.heap[b]?) (h : OutRel c (E.lent L) nb o v E1) : OutRel c E nb o v (E.unlent E1) := by
  have hrt1 : E1.rt = (E.lent L).rt := by rw [h.rt, hg]; rfl
  have hk : ∀ r, (E.rt r).map Root.kind = (E1.rt r).map Root.kind := by
    intro r
    rw [hrt1]
    show _ = Option.map Root.kind (if r ∈ L then (E.rt r).map froz else E.rt r)
    split
    · cases E.rt r with
      | none => rfl
      | some R => simp [froz_kind]
    · rfl
  have nd : ∀ {r R}, E.rt r = some R → R ≠ .dead → ∃ R0, E1.rt r = some R0 ∧ R0 ≠ .dead := by
    intro r R hr hd
    have := hk r
    rw [hr] at this
    obtain ⟨R0, h0, hk0⟩ := Option.map_eq_some_iff.1 this.symm
    exact ⟨R0, h0, fun e => hd (kind_dead.1 (hk0.symm.trans (kind_dead.2 e)))⟩
  have hst : Step E (E.unlent E1) := by
    refine ⟨fun r R hr => ⟨R, hr, .inr rfl⟩, fun r hr => h.step.pres r hr, fun r hr => h.step.β r hr, fun b hb => ⟨h.step.S b (.inl hb), .inl hb⟩, fun b hb => hkeep b (hM.slt b hb), fun b s hs => h.step.shape b s hs⟩
  have hpres : ∀ r, (E.unlent E1).pres r ↔ E.pres r ∨ (nb ≤ r ∧ r < nb + o.new.length) := h.pres
  refine ⟨?_, hst, by rw [hg]; rfl, hpres, h.size, RelAV.flat (E := E1) (E' := E.unlent E1) rfl hk (fun _ => Iff.rfl) (fun _ _ => rfl) h.rel hfa⟩
  exact {
    os := h.mem.os
    output := h.mem.output
    tape := h.mem.tape
    size := h.mem.size
    keep := h.mem.keep
    shape := h.mem.shape
    s0 := fun b hb => ⟨h.mem.s0 b hb, .inl (hM.s0 b hb)⟩
    slt := fun b hb => h.mem.slt b hb.1
    snew := fun b hb => h.mem.snew b hb.1
    blt := h.mem.blt
    bown := by
      intro r R b hp hR hd hb
      obtain ⟨R0, h0, hd0⟩ := nd hR hd
      exact h.mem.bown r R0 b hp h0 hd0 hb
    bkeep := by
      intro r R hlt hp hR hd
      obtain ⟨R0, h0, hd0⟩ := nd hR hd
      exact h.mem.bkeep r R0 hlt hp h0 hd0
    inj := by
      intro r r' R R' b hp hp' hR hd hR' hd' hb hb'
      obtain ⟨R0, h0, hd0⟩ := nd hR hd
      obtain ⟨R1, h1, hd1⟩ := nd hR' hd'
      exact h.mem.inj r r' R0 R1 b hp hp' h0 hd0 h1 hd1 hb hb'
    roots := by
      intro r R hp hR
      rcases (hpres r).1 hp with hp0 | hnew
      · refine RootRel.step hst hp0 ?_ ?_ (hM.roots r R hp0 hR)
        · intro b hb; exact hkeep b (hM.blt r b hp0 hb)
        · intro b hb hS
          rcases hS.2 with h1 | h1
          · exact h1
          · have := hM.blt r b hp0 hb; omega
      · have hlt : r - nb < o.new.length := by omega
        have hR0 := hF.rt (r - nb) _ (List.getElem?_eq_getElem hlt)
        rw [show nb + (r - nb) = r by omega] at hR0
        have hR' : E.rt r = some R := hR
        rw [hR0] at hR'
        have hflat : R.flat = true := by rw [← Option.some.inj hR']; exact List.all_eq_true.1 hfn _ (List.getElem_mem hlt)
        have hnL : r ∉ L := by
          intro hr
          have hp' := (hL r hr).1
          have := hF.np (r - nb) hlt
          rw [show nb + (r - nb) = r by omega] at this
          exact this hp'
        have hR1 : E1.rt r = some R := by
          rw [hrt1]
          show (if r ∈ L then (E.rt r).map froz else E.rt r) = some R
          rw [if_neg hnL]
          exact hR
        exact RootRel.flat (E := E1) (E' := E.unlent E1) rfl (fun b hb => hb.1) hk (fun _ => Iff.rfl) (fun _ _ => rfl) hp hflat (h.mem.roots r R hp hR1) }
end
end Go.Proofs.Ytamdgfklbjoaiaa.Ab

namespace Go.Proofs.Ytamdgfklbjoaiaa.Ab
open Go

/-! What an operation tells hangs on those roots alone that its operands name. -/
mutual
def AV.ids : AV → List Nat
  | .ref r _ _ => [r]
  | .ptr r _ _ => [r]
  | .agg l => AV.idss l
  | .tup l => AV.idss l
  | .clo _ l => AV.idss l
  | _ => []
def AV.idss : List AV → List Nat
  | [] => []
  | x :: l => x.ids ++ AV.idss l
end

def Agr (rt rt' : Nat → Option Root) (l : List Nat) : Prop := ∀ r ∈ l, rt r = none ∨ rt' r = rt r

theorem Agr.sub {rt rt' : Nat → Option Root} {l l' : List Nat} (h : Agr rt rt' l) (hs : ∀ r ∈ l', r ∈ l) : Agr rt rt' l' := fun r hr => h r (hs r hr)

theorem idss_mem : ∀ {l : List AV} {x : AV}, x ∈ l → ∀ r ∈ x.ids, r ∈ AV.idss l
  | y :: l, x, hx, r, hr => by
    simp only [AV.idss, List.mem_append]
    rcases List.mem_cons.1 hx with rfl | hx
    · exact .inl hr
    · exact .inr (idss_mem hx r hr)

def Op.touched (sl : Nat → AV) (o : Op) : List Nat := AV.idss (o.operands.toList.map (opd0 sl))

section
variable {rt rt' : Nat → Option Root} {x y av : AV}

theorem leaves_ids {l : List AV} (h : x.leaves = some l) : ∀ r ∈ AV.idss l, r ∈ x.ids := by
  cases x <;> simp only [AV.leaves] at h <;> first | (cases h; done) | skip
  all_goals
    simp only [Option.some.injEq] at h
    subst h
    intro r hr
    first | (simp [AV.idss, AV.ids] at hr; done) | (simpa [AV.idss, AV.ids] using hr)

theorem toD_agr (h : Agr rt rt' x.ids) {d : D} (hx : x.toD rt = some d) : x.toD rt' = some d := by
  cases x with
  | ref r off len =>
    simp only [AV.toD] at hx ⊢
    rcases h r (by simp [AV.ids]) with h | h
    · rw [h] at hx; cases hx
    · rw [h]; exact hx
  | d z => exact hx
  | _ => cases hx

theorem toDs_agr : ∀ {l : List AV} (_ : Agr rt rt' (AV.idss l)) {ds : List D}, toDs rt l = some ds → toDs rt' l = some ds
  | [], _, ds, hx => hx
  | x :: l, h, ds, hx => by
    simp only [toDs] at hx ⊢
    obtain ⟨d, hd, hx⟩ := Option.bind_eq_some_iff.1 hx
    obtain ⟨es, he, rfl⟩ := Option.map_eq_some_iff.1 hx
    rw [toD_agr (h.sub fun r hr => by simp [AV.idss, hr]) hd, toDs_agr (h.sub fun r hr => by simp [AV.idss, hr]) he]
    rfl

theorem view_agr (h : Agr rt rt' x.ids) {d : Nat × List (List D)} (hx : x.view rt = some d) : x.view rt' = some d := by
  cases x with
  | ref r off len =>
    simp only [AV.view] at hx ⊢
    rcases h r (by simp [AV.ids]) with h | h
    · rw [h] at hx; cases hx
    · rw [h]; exact hx
  | d z => cases z <;> exact hx
  | _ => cases hx

theorem src_agr (h : Agr rt rt' x.ids) {d : Nat × List (List D)} (hx : x.src rt = some d) : x.src rt' = some d := by
  cases x with
  | d z =>
    cases z with
    | sc v => cases v <;> exact hx
    | row => exact hx
  | _ => exact view_agr h hx

theorem evLoad_agr {n : Nat} {g : Bool} (h : Agr rt rt' x.ids) (hx : evLoad rt n g x = some av) : evLoad rt' n g x = some av := by
  cases x with
  | ptr r i j =>
    simp only [evLoad] at hx ⊢
    rcases h r (by simp [AV.ids]) with h | h
    · rw [h] at hx; cases hx
    · rw [h]; exact hx
  | rptr => exact hx
  | _ => cases hx

theorem alive_agr {r : Nat} (h : rt r = none ∨ rt' r = rt r) (hx : alive rt r = true) : alive rt' r = true := by
  unfold alive at hx ⊢
  rcases h with h | h
  · rw [h] at hx; cases hx
  · rw [h]; exact hx

theorem evFieldAddr_agr {fl : Option (Nat × Nat × Bool)} (h : Agr rt rt' x.ids) (hx : evFieldAddr rt fl x = some av) : evFieldAddr rt' fl x = some av := by
  cases x with
  | ptr r i j =>
    simp only [evFieldAddr] at hx ⊢
    obtain ⟨ha, hx⟩ := Option.ite_none_right_eq_some.1 hx
    rw [if_pos (alive_agr (h r (by simp [AV.ids])) ha), hx]
  | rptr => exact hx
  | _ => cases hx

theorem evNil_agr (h : Agr rt rt' x.ids) (hx : evNil rt x = some av) : evNil rt' x = some av := by
  cases x with
  | ptr r i j =>
    simp only [evNil] at hx ⊢
    obtain ⟨ha, hx⟩ := Option.ite_none_right_eq_some.1 hx
    rw [if_pos (alive_agr (h r (by simp [AV.ids])) ha), hx]
  | rptr => exact hx
  | _ => cases hx

theorem evIndexAddr_agr {el : Option (Nat × Nat)} {i : Int} (h : Agr rt rt' x.ids) (hx : evIndexAddr rt el x i = some av) : evIndexAddr rt' el x i = some av := by
  cases x with
  | ref r off len =>
    simp only [evIndexAddr] at hx ⊢
    rcases h r (by simp [AV.ids]) with h | h
    · rw [h] at hx; cases hx
    · rw [h]; exact hx
  | d z => cases z <;> exact hx
  | _ => cases hx

theorem evSlice_agr {el : Option (Nat × Nat)} {s : Bool} {lo hi : Option Int} (h : Agr rt rt' x.ids) (hx : evSlice rt el s x lo hi = some av) : evSlice rt' el s x lo hi = some av := by
  cases x with
  | ref r off len =>
    simp only [evSlice] at hx ⊢
    rcases h r (by simp [AV.ids]) with h | h
    · rw [h] at hx; cases hx
    · rw [h]; exact hx
  | d z =>
    cases z with
    | sc v => cases v <;> exact hx
    | row => exact hx
  | _ => cases hx

theorem evLen_agr {P : Program} {t : TypeId} (h : Agr rt rt' x.ids) (hx : evLen P rt t x = some av) : evLen P rt' t x = some av := by
  cases x with
  | ref r off len =>
    simp only [evLen] at hx ⊢
    obtain ⟨ha, hx⟩ := Option.ite_none_right_eq_some.1 hx
    simp only [Bool.and_eq_true] at ha
    rw [if_pos (by simp [ha.1, alive_agr (h r (by simp [AV.ids])) ha.2]), hx]
  | d z =>
    cases z with
    | sc v => cases v <;> exact hx
    | row => exact hx
  | _ => cases hx

theorem evAppend_agr {nb : Nat} {el : Option (Nat × Nat)} {s : AV} {q : AV × List Root × Nat} (hs : Agr rt rt' s.ids) (h : Agr rt rt' x.ids) (hx : evAppend rt nb el s x = some q) : evAppend rt' nb el s x = some q := by
  cases s with
  | ref r off len =>
    simp only [evAppend] at hx ⊢
    rcases hs r (by simp [AV.ids]) with h0 | h0
    · rw [h0] at hx; cases hx
    · rw [h0]
      split at hx
      · obtain ⟨p, hp, hx⟩ := Option.bind_eq_some_iff.1 hx
        rw [src_agr h hp]
        exact hx
      · cases hx
  | _ => cases hx

theorem evConv_agr {nb : Nat} {s d : TypeDesc} {b : Bool} {q : Made} (h : Agr rt rt' x.ids) (hx : evConv rt nb s d b x = some q) : evConv rt' nb s d b x = some q := by
  unfold evConv at hx ⊢
  split at hx
  · exact hx
  · exact hx
  · split at hx
    · rename_i hb
      obtain ⟨p, hp, hx⟩ := Option.bind_eq_some_iff.1 hx
      rw [if_pos hb, view_agr h hp]
      exact hx
    · cases hx
  · cases hx

theorem evStore_agr {n : Nat} {q : Nat × Root} (h : Agr rt rt' x.ids) (h' : Agr rt rt' y.ids) (hx : evStore rt n x y = some q) : evStore rt' n x y = some q := by
  cases x with
  | ptr r i j =>
    simp only [evStore] at hx ⊢
    rcases h r (by simp [AV.ids]) with h0 | h0
    · rw [h0] at hx; cases hx
    · rw [h0]
      split at hx
      · exact hx
      · obtain ⟨ys, hys, hx⟩ := Option.bind_eq_some_iff.1 hx
        obtain ⟨ds, hds, hx⟩ := Option.bind_eq_some_iff.1 hx
        rw [hys]
        simp only [Option.bind_some, toDs_agr (h'.sub (leaves_ids hys)) hds]
        exact hx
      · cases hx
  | _ => cases hx

theorem partDs_agr {sl : Nat → AV} : ∀ {ps : List (Nat × Operand)} (_ : Agr rt rt' (AV.idss (ps.map fun p => opd0 sl p.2))) {ds : List (Nat × List D)}, partDs rt sl ps = some ds → partDs rt' sl ps = some ds
  | [], _, ds, hx => hx
  | (i, x) :: l, h, ds, hx => by
    simp only [partDs] at hx ⊢
    obtain ⟨ls, hl, hx⟩ := Option.bind_eq_some_iff.1 hx
    obtain ⟨d, hd, hx⟩ := Option.bind_eq_some_iff.1 hx
    obtain ⟨es, he, rfl⟩ := Option.map_eq_some_iff.1 hx
    rw [hl]
    simp only [Option.bind_some]
    rw [toDs_agr (h.sub fun r hr => by simp [AV.idss, leaves_ids hl r hr]) hd, partDs_agr (h.sub fun r hr => by simp [AV.idss, hr]) he]
    rfl

theorem evBinN_agr {P : Program} {op : BinOp} {t : TypeId} {y av : AV} {yo : Operand} (h : Agr rt rt' x.ids) (hx : evBinN P rt op t x y yo = some av) : evBinN P rt' op t x y yo = some av := by
  have key : ∀ p, evNilS rt x = some p → evNilS rt' x = some p := by
    intro p hp
    cases x with
    | ref r off len =>
      simp only [evNilS] at hp ⊢
      rcases h r (by simp [AV.ids]) with h0 | h0
      · have : alive rt r = false := by simp [alive, h0]
        rw [this] at hp
        simp at hp
      · have : alive rt' r = alive rt r := by unfold alive; rw [h0]
        rw [this]; exact hp
    | d x => cases x <;> exact hp
    | _ => exact hp
  cases hn : isNilC yo with
  | false => simp only [evBinN, hn] at hx ⊢; exact hx
  | true =>
    simp only [evBinN, hn] at hx ⊢
    split at hx
    · obtain ⟨ht, hx⟩ := Option.ite_none_right_eq_some.1 hx
      obtain ⟨p, hp, hx⟩ := Option.map_eq_some_iff.1 hx
      rw [if_pos ht, key p hp, Option.map_some, hx]
    · cases hx

theorem ev_agr {P : Program} {nb : Nat} {sl : Nat → AV} {o : Oper} {out : Out} (h : Agr rt rt' (Op.touched sl o.op)) (hnb : rt nb = none ∨ rt' nb = rt nb) (hx : ev P nb sl rt o = some out) : ev P nb sl rt' o = some out := by
  have one : ∀ {x : Operand}, x ∈ o.op.operands → Agr rt rt' (opd0 sl x).ids := by
    intro x hm
    exact h.sub (idss_mem (List.mem_map_of_mem (by simpa using hm)))
  unfold ev at hx ⊢
  generalize hop : o.op = op at *
  cases op <;> simp only at hx ⊢ <;> first | (exact hx) | (cases hx; done) | skip
  case buildSlice t n ps =>
    obtain ⟨z, hz, hx⟩ := Option.bind_eq_some_iff.1 hx
    obtain ⟨l, hl, hx⟩ := Option.bind_eq_some_iff.1 hx
    rw [hz]
    simp only [Option.bind_some]
    rw [partDs_agr ?_ hl]
    · exact hx
    · refine h.sub ?_
      simp [Op.touched, Op.operands, Function.comp_def]
  case load t x =>
    obtain ⟨g, hg, hx⟩ := Option.bind_eq_some_iff.1 hx
    obtain ⟨n, hn, hx⟩ := Option.bind_eq_some_iff.1 hx
    obtain ⟨v, hv, hx⟩ := Option.map_eq_some_iff.1 hx
    rw [hg, hn]
    simp only [Option.bind_some, evLoad_agr (one (by simp [Op.operands])) hv, Option.map_some, hx]
  case store t p x =>
    obtain ⟨n, hn, hx⟩ := Option.bind_eq_some_iff.1 hx
    obtain ⟨v, hv, hx⟩ := Option.bind_eq_some_iff.1 hx
    rw [hn]
    simp only [Option.bind_some]
    by_cases hc : x = .const (.slice none 0 0)
    · subst hc
      have hids : Agr rt rt' (opd nb (hintT P t) sl (.const (.slice none 0 0))).1.ids := by
        intro r hr
        have : r = nb := by simpa [opd, AV.ids] using hr
        rw [this]; exact hnb
      rw [evStore_agr (one (by simp [Op.operands])) hids hv]
      exact hx
    · have : (opd nb (hintT P t) sl x) = (opd0 sl x, []) := by
        unfold opd
        split
        · exact absurd rfl hc
        · rfl
      rw [this] at hv hx ⊢
      rw [evStore_agr (one (by simp [Op.operands])) (one (by simp [Op.operands])) hv]
      exact hx
  case binOp op t x y yt =>
    obtain ⟨v, hv, hx⟩ := Option.map_eq_some_iff.1 hx
    rw [evBinN_agr (one (by simp [Op.operands])) hv, Option.map_some, hx]
  case nilCheck x =>
    obtain ⟨v, hv, hx⟩ := Option.map_eq_some_iff.1 hx
    simp only [evNil_agr (one (by simp [Op.operands])) hv, Option.map_some, hx]
  case convert s d x =>
    obtain ⟨g, hg, hx⟩ := Option.bind_eq_some_iff.1 hx
    obtain ⟨n, hn, hx⟩ := Option.bind_eq_some_iff.1 hx
    obtain ⟨v, hv, hx⟩ := Option.map_eq_some_iff.1 hx
    rw [hg, hn]
    simp only [Option.bind_some, evConv_agr (one (by simp [Op.operands])) hv, Option.map_some, hx]
  case fieldAddr t x f =>
    obtain ⟨v, hv, hx⟩ := Option.map_eq_some_iff.1 hx
    simp only [evFieldAddr_agr (one (by simp [Op.operands])) hv, Option.map_some, hx]
  case indexAddr t x i =>
    obtain ⟨n, hn, hx⟩ := Option.bind_eq_some_iff.1 hx
    obtain ⟨v, hv, hx⟩ := Option.map_eq_some_iff.1 hx
    rw [hn]
    simp only [Option.bind_some, evIndexAddr_agr (one (by simp [Op.operands])) hv, Option.map_some, hx]
  case slice t x lo hi mx =>
    cases mx with
    | some => cases hx
    | none =>
      simp only at hx ⊢
      obtain ⟨l, hl, hx⟩ := Option.bind_eq_some_iff.1 hx
      obtain ⟨m, hm, hx⟩ := Option.bind_eq_some_iff.1 hx
      obtain ⟨v, hv, hx⟩ := Option.map_eq_some_iff.1 hx
      rw [hl, hm]
      simp only [Option.bind_some, evSlice_agr (one (by simp [Op.operands])) hv, Option.map_some, hx]
  case makeFunc f first caps => cases f <;> first | exact hx | cases hx
  case call c =>
    unfold evCall at hx ⊢
    have mem : ∀ {x : Operand}, x ∈ c.args.toList → x ∈ (Op.call c).operands := by
      intro x hm
      have : x ∈ c.args := by simpa using hm
      simp only [Op.operands, Call.operands]
      cases c.callee <;> simp [this]
    split at hx
    · rename_i hc ha ht
      obtain ⟨v, hv, hx⟩ := Option.map_eq_some_iff.1 hx
      simp only [hc, ha, ht, evLen_agr (one (mem (by rw [ha]; simp))) hv, Option.map_some, hx]
    · rename_i hc ha ht
      obtain ⟨hcond, hx⟩ := Option.ite_none_right_eq_some.1 hx
      obtain ⟨v, hv, hx⟩ := Option.map_eq_some_iff.1 hx
      simp only [hc, ha, ht]
      rw [if_pos hcond, evAppend_agr (one (mem (by rw [ha]; simp))) (one (mem (by rw [ha]; simp))) hv]
      simp only [Option.map_some, hx]
    · exact hx
    · exact hx
    · cases hx
end
end Go.Proofs.Ytamdgfklbjoaiaa.Ab

namespace Go.Proofs.Ytamdgfklbjoaiaa.Ab
open Go

section
variable {P : Program} {sl sl' : Nat → AV} {rt : Nat → Option Root} {nb : Nat}

theorem opd_sl {hint : Nat} {x : Operand} (h : opd0 sl x = opd0 sl' x) : opd nb hint sl x = opd nb hint sl' x := by
  by_cases hx : x = .const (.slice none 0 0)
  · subst hx; rfl
  · have : ∀ s, opd nb hint s x = (opd0 s x, []) := by
      intro s
      unfold opd
      split
      · exact absurd rfl hx
      · rfl
    rw [this, this, h]

theorem partLeaves_sl : ∀ {ps : List (Nat × Operand)} (_ : ∀ p ∈ ps, opd0 sl p.2 = opd0 sl' p.2), partLeaves sl ps = partLeaves sl' ps
  | [], _ => rfl
  | (i, x) :: l, h => by
    simp only [partLeaves]
    rw [h (i, x) (by simp), partLeaves_sl (fun p hp => h p (by simp [hp]))]

theorem partDs_sl : ∀ {ps : List (Nat × Operand)} (_ : ∀ p ∈ ps, opd0 sl p.2 = opd0 sl' p.2), partDs rt sl ps = partDs rt sl' ps
  | [], _ => rfl
  | (i, x) :: l, h => by
    simp only [partDs]
    rw [h (i, x) (by simp), partDs_sl (fun p hp => h p (by simp [hp]))]

theorem bound_sl {x : Option Operand} (h : ∀ y, x = some y → opd0 sl y = opd0 sl' y) : bound? sl x = bound? sl' x := by
  cases x with
  | none => rfl
  | some y => simp only [bound?]; rw [h y rfl]

theorem ev_sl {o : Oper} (h : ∀ x ∈ o.op.operands, opd0 sl x = opd0 sl' x) : ev P nb sl rt o = ev P nb sl' rt o := by
  unfold ev
  generalize hop : o.op = op at *
  cases op <;> simp only <;> simp only [Op.operands] at h <;> try rfl
  case move x => rw [opd_sl (h x (by simp))]
  case assign x => rw [opd_sl (h x (by simp))]
  case pick c a b => rw [h c (by simp), h a (by simp), h b (by simp)]
  case box t x => rw [h x (by simp)]
  case build t ps =>
    rw [partLeaves_sl (sl' := sl')]
    intro p hp
    exact h p.2 (by simp; exact ⟨p.1, by simpa using hp⟩)
  case buildSlice t n ps =>
    rw [partDs_sl (sl' := sl')]
    intro p hp
    exact h p.2 (by simp; exact ⟨p.1, by simpa using hp⟩)
  case load t x => rw [h x (by simp)]
  case store t p x => rw [h p (by simp), opd_sl (h x (by simp))]
  case nilCheck x => rw [h x (by simp)]
  case binOp op t x y yt => rw [h x (by simp), h y (by simp)]
  case unOp op t x => rw [h x (by simp)]
  case convert s d x => rw [h x (by simp)]
  case fieldAddr t x f => rw [h x (by simp)]
  case field t x f => rw [h x (by simp)]
  case indexAddr t x i => rw [h x (by simp), h i (by simp)]
  case index t x i => rw [h x (by simp), h i (by simp)]
  case makeSlice t n m => rw [h n (by simp), h m (by simp)]
  case extract x i => rw [h x (by simp)]
  case slice t x lo hi mx =>
    cases mx with
    | some => rfl
    | none =>
      simp only
      rw [h x (by simp), bound_sl (sl' := sl') (fun y hy => h y (by simp [hy])), bound_sl (sl' := sl') (fun y hy => h y (by simp [hy]))]
  case makeFunc f first caps =>
    cases f <;> try rfl
    simp only
    rw [List.map_congr_left (f := opd0 sl) (g := opd0 sl') (fun x hx => h x (by simp; exact .inr (by simpa using hx)))]
  case call c =>
    have mem : ∀ {x : Operand}, x ∈ c.args.toList → opd0 sl x = opd0 sl' x := by
      intro x hm
      have : x ∈ c.args := by simpa using hm
      refine h x ?_
      simp only [Call.operands]
      cases c.callee <;> simp [this]
    unfold evCall
    split
    · rename_i hc ha ht
      rw [mem (by rw [ha]; simp)]
    · rename_i hc ha ht
      rw [mem (x := _) (by rw [ha]; exact List.mem_cons_self), mem (x := _) (by rw [ha]; exact List.mem_cons_of_mem _ List.mem_cons_self)]
    · rename_i hc ha
      rw [mem (x := _) (by rw [ha]; exact List.mem_cons_self), mem (x := _) (by rw [ha]; exact List.mem_cons_of_mem _ List.mem_cons_self)]
    · rename_i hc ha
      rw [mem (x := _) (by rw [ha]; exact List.mem_cons_self), mem (x := _) (by rw [ha]; exact List.mem_cons_of_mem _ List.mem_cons_self)]
    · rfl
end

/-- Whether an operation runs, told by the slots. -/
def guardV (ops : Array Oper) (o : Oper) (sl : Nat → AV) : Option Bool :=
  match o.guard with
  | none => some true
  | some (g, w) => match (ops[g]?).bind (·.dst) with
    | some t => (match sl t with | .d (.sc (.bool b)) => some (b == w) | .tup [] => some false | _ => none)
    | none => none

def Looks (E : Env) (ops : Array Oper) (o : Oper) (sl : Nat → AV) (a : Act) : Prop := ∀ t ∈ o.looksAt ops, RelAV E (sl t) (a.eval (.tmp t))

theorem guardV_wanted {E : Env} {ops : Array Oper} {o : Oper} {sl : Nat → AV} {a : Act} {b : Bool} (h : Looks E ops o sl a) (hg : guardV ops o sl = some b) : Region.wanted o (yielded ops a.tmps) = b := by
  unfold guardV at hg
  unfold Region.wanted
  split at hg
  · rename_i h0
    simp only [h0]
    exact Option.some.inj hg
  · rename_i g w h0
    simp only [h0]
    split at hg
    · rename_i t ht
      split at hg
      · rename_i b' hs
        have hmem : t ∈ o.looksAt ops := by
          unfold Oper.looksAt
          refine List.mem_append_right _ ?_
          simp only [h0, ht]
          simp
        have hv : a.eval (.tmp t) = .bool b' := sc_rel (by rw [← hs]; exact h t hmem)
        have hv' : a.tmps.getD t undef = .bool b' := hv
        have hget : a.tmps[t]? = some (.bool b') := by
          by_cases hlt : t < a.tmps.size
          · simp [Array.getD, hlt] at hv'
            simp [hlt, hv']
          · simp [Array.getD, hlt, undef] at hv'
        have hy : yielded ops a.tmps g = some b' := by
          unfold yielded
          rw [ht]
          simp [hget]
        rw [hy]
        rw [← Option.some.inj hg]
        cases b' <;> cases w <;> rfl
      · rename_i hs
        have hmem : t ∈ o.looksAt ops := by
          unfold Oper.looksAt
          refine List.mem_append_right _ ?_
          simp only [h0, ht]
          simp
        have hr := h t hmem
        rw [hs] at hr
        have hv : a.eval (.tmp t) = .tuple #[] := by
          generalize a.eval (.tmp t) = v at hr
          cases hr with
          | tup _ us hsz _ => rw [Array.eq_empty_of_size_eq_zero hsz]
        have hv' : a.tmps.getD t undef = .tuple #[] := hv
        have hy : yielded ops a.tmps g = none := by
          unfold yielded
          rw [ht]
          by_cases hlt : t < a.tmps.size
          · simp [Array.getD, hlt] at hv'
            simp [hlt, hv']
          · simp [hlt]
        rw [hy]
        rw [← Option.some.inj hg]
        cases w <;> rfl
      · cases hg
    · cases hg

/-- What the i-th operation of a region comes to, in whatever state its operands and the roots T are as told. -/
def OpSem (P : Program) (ops : Array Oper) (i : Nat) (T : List Nat) (sl : Nat → AV) (rt : Nat → Option Root) (nb : Nat) (out : Out) : Prop :=
  ∃ o, ops[i]? = some o ∧ ∀ (c : Ctx) (E : Env) (a : Act), Mem c E → Looks E ops o sl a → Agr rt E.rt T → (rt nb = none ∨ E.rt nb = rt nb) → Fresh c E nb out.new →
    ∀ (K : Act → World → Prop) (Q : Exit → Act → World → Prop), (∀ v E', OutRel c E nb out v E' → K (a.put o.dst v) E'.w) → wpOp P ops Q i K a E.w

section
variable {P : Program} {ops : Array Oper} {i nb : Nat} {o : Oper} {sl : Nat → AV} {rt : Nat → Option Root} {out : Out}

theorem opd0_junk {E : Env} {a : Act} (h : Looks E ops o sl a) : Slots E (fun t => open Classical in if t ∈ o.looksAt ops then sl t else .junk) a.eval ∧
    ∀ x ∈ o.op.operands, opd0 sl x = opd0 (fun t => open Classical in if t ∈ o.looksAt ops then sl t else .junk) x := by
  refine ⟨⟨?_, fun _ => rfl, fun _ => rfl⟩, ?_⟩
  · intro t
    show RelAV E (open Classical in if t ∈ o.looksAt ops then sl t else .junk) _
    split
    · exact h t (by assumption)
    · exact .junk _
  · intro x hx
    cases x with
    | tmp t =>
      have : t ∈ o.looksAt ops := List.mem_append_left _ (List.mem_filterMap.2 ⟨.tmp t, by simpa using hx, rfl⟩)
      show sl t = (open Classical in if t ∈ o.looksAt ops then sl t else .junk)
      rw [if_pos this]
    | _ => rfl

theorem Done.wp {c : Ctx} {E : Env} {a : Act} (h : Done P c E nb out (execOp a.eval o)) {K : Act → World → Prop} {Q : Exit → Act → World → Prop} (k : ∀ v E', OutRel c E nb out v E' → K (a.put o.dst v) E'.w) : o.wp P a E.w K Q := by
  obtain ⟨v, E', hr | ⟨hr, rfl⟩, ho⟩ := h
  · unfold Oper.wp
    rw [hr]
    exact k v E' ho
  · unfold Oper.wp
    rw [hr]
    exact k _ E' ho

theorem OpSem.skip (ho : ops[i]? = some o) (hg : guardV ops o sl = some false) : OpSem P ops i [] sl rt nb ⟨.tup [], [], []⟩ := by
  refine ⟨o, ho, ?_⟩
  intro c E a hM hl _ _ _ K Q k
  unfold wpOp
  rw [ho]
  simp only [guardV_wanted hl hg, Bool.false_eq_true, if_false]
  have q := Quiet.refl hM nb
  exact k undef E ⟨hM, q.step, rfl, q.pres, Nat.le_refl _, .tup [] #[] rfl (fun j y h => by simp at h)⟩

theorem OpSem.ev (ho : ops[i]? = some o) (hg : guardV ops o sl = some true) (h : ev P nb sl rt o = some out) : OpSem P ops i (Op.touched sl o.op) sl rt nb out := by
  refine ⟨o, ho, ?_⟩
  intro c E a hM hl hT hnb hF K Q k
  unfold wpOp
  rw [ho]
  simp only [guardV_wanted hl hg, if_true]
  obtain ⟨hs, hsl⟩ := opd0_junk hl
  have h' := ev_agr hT hnb h
  rw [ev_sl hsl] at h'
  exact .inl ((ev_sound hM hs h' hF).wp k)
end
end Go.Proofs.Ytamdgfklbjoaiaa.Ab

namespace Go.Proofs.Ytamdgfklbjoaiaa.Ab
open Go

/-! Calls, as operations of a region. -/
def Entered (P : Program) (f : FuncId) : Prop := ∃ fn, P.funcs[f]? = some fn ∧ (fn.name == "runtime.NumGoroutine") = false ∧ fn.body.isNone = false

/-- An argument: a nil slice is an empty row. -/
inductive ArgR (sl : Nat → AV) : List Operand → List AV → Prop
  | nil : ArgR sl [] []
  | cons {x : Operand} {y : AV} {xs : List Operand} {ys : List AV} (h : opd0 sl x = y) (t : ArgR sl xs ys) : ArgR sl (x :: xs) (y :: ys)
  | nilS {sz : Nat} {xs : List Operand} {ys : List AV} (t : ArgR sl xs ys) : ArgR sl (.const (.slice none 0 0) :: xs) (.d (.row sz []) :: ys)

mutual
/-- An argument that is lent: rows are read, and which roots they are. -/
def AV.lendA (rt : Nat → Option Root) : AV → Option (AV × List Nat)
  | .d x => some (.d x, [])
  | .ref r off len => match rt r with
    | some (.row sz fz xs) => if off + len ≤ xs.length then some (.d (.row sz ((xs.drop off).take len)), if fz then [] else [r]) else none
    | _ => none
  | .rptr cs => some (.rptr cs, [])
  | .agg l => (AV.lendAs rt l).map fun p => (.agg p.1, p.2)
  | .clo f l => (AV.lendAs rt l).map fun p => (.clo f p.1, p.2)
  | .anyb p => some (.anyb p, [])
  | .junk => some (.junk, [])
  | _ => none
def AV.lendAs (rt : Nat → Option Root) : List AV → Option (List AV × List Nat)
  | [] => some ([], [])
  | x :: l => (x.lendA rt).bind fun p => (AV.lendAs rt l).map fun q => (p.1 :: q.1, p.2 ++ q.2)
end

theorem lendAs_get {rt : Nat → Option Root} : ∀ {l : List AV} {q : List AV × List Nat}, AV.lendAs rt l = some q → q.1.length = l.length ∧ ∀ (j : Nat) y, q.1[j]? = some y → ∃ x L, l[j]? = some x ∧ x.lendA rt = some (y, L) ∧ ∀ r ∈ L, r ∈ q.2
  | [], q, h => by simp [AV.lendAs] at h; subst h; simp
  | x :: l, q, h => by
    simp only [AV.lendAs] at h
    obtain ⟨p, hp, h⟩ := Option.bind_eq_some_iff.1 h
    obtain ⟨q', hq, rfl⟩ := Option.map_eq_some_iff.1 h
    obtain ⟨hl, hg⟩ := lendAs_get hq
    refine ⟨by simp [hl], ?_⟩
    intro j w hw
    cases j with
    | zero => simp at hw; subst hw; exact ⟨x, p.2, rfl, hp, fun r hr => by simp [hr]⟩
    | succ j =>
      simp at hw
      obtain ⟨x', L, h1, h2, h3⟩ := hg j w hw
      exact ⟨x', L, by simpa using h1, h2, fun r hr => by simp [h3 r hr]⟩

mutual
theorem lendA_ren {rt : Nat → Option Root} (f : Nat → Option Nat) : ∀ {x y : AV} {L : List Nat}, x.lendA rt = some (y, L) → y.ren f = some y
  | .d x, y, L, h => by simp [AV.lendA] at h; obtain ⟨rfl, _⟩ := h; rfl
  | .ref r off len, y, L, h => by
    simp only [AV.lendA] at h
    split at h
    · split at h
      · simp only [Option.some.injEq, Prod.mk.injEq] at h
        obtain ⟨rfl, _⟩ := h
        rfl
      · cases h
    · cases h
  | .rptr cs, y, L, h => by simp [AV.lendA] at h; obtain ⟨rfl, _⟩ := h; rfl
  | .agg l, y, L, h => by
    simp only [AV.lendA] at h
    obtain ⟨q, hq, h⟩ := Option.map_eq_some_iff.1 h
    simp only [Prod.mk.injEq] at h
    obtain ⟨rfl, _⟩ := h
    simp [AV.ren, lendAs_ren f hq]
  | .clo g l, y, L, h => by
    simp only [AV.lendA] at h
    obtain ⟨q, hq, h⟩ := Option.map_eq_some_iff.1 h
    simp only [Prod.mk.injEq] at h
    obtain ⟨rfl, _⟩ := h
    simp [AV.ren, lendAs_ren f hq]
  | .anyb p, y, L, h => by simp [AV.lendA] at h; obtain ⟨rfl, _⟩ := h; rfl
  | .junk, y, L, h => by simp [AV.lendA] at h; obtain ⟨rfl, _⟩ := h; rfl
  | .ptr .., y, L, h => by simp [AV.lendA] at h
  | .tup .., y, L, h => by simp [AV.lendA] at h
theorem lendAs_ren {rt : Nat → Option Root} (f : Nat → Option Nat) : ∀ {x : List AV} {q : List AV × List Nat}, AV.lendAs rt x = some q → AV.rens f q.1 = some q.1
  | [], q, h => by simp [AV.lendAs] at h; subst h; rfl
  | x :: l, q, h => by
    simp only [AV.lendAs] at h
    obtain ⟨⟨y, L⟩, hp, h⟩ := Option.bind_eq_some_iff.1 h
    obtain ⟨q', hq, rfl⟩ := Option.map_eq_some_iff.1 h
    simp [AV.rens, lendA_ren f hp, lendAs_ren f hq]
end

section
variable {P : Program} {c : Ctx} {E : Env}

theorem lendA_sound (hM : Mem c E) {L : List Nat} {x : AV} {v : Value} (h : RelAV E x v) : ∀ {y : AV} {L' : List Nat}, x.lendA E.rt = some (y, L') → (∀ r ∈ L', r ∈ L) → RelAV (E.lent L) y v := by
  induction h with
  | d x v h =>
    intro y L' hy _
    simp [AV.lendA] at hy
    obtain ⟨rfl, _⟩ := hy
    exact (RelAV.d x v h).step lent_step
  | ref r off len R sz b cap t n h1 hkd h2 h3 h4 h5 h6 =>
    intro y L' hy hL
    have hx := RelAV.ref (E := E) r off len R sz b cap t n h1 hkd h2 h3 h4 h5 h6
    simp only [AV.lendA, h1] at hy
    split at hy
    · rename_i sz' fz xs heq
      obtain rfl := Option.some.inj heq
      split at hy
      · rename_i hle
        simp only [Option.some.injEq, Prod.mk.injEq] at hy
        obtain ⟨rfl, rfl⟩ := hy
        refine .d _ _ (lend_sound hM (S' := (E.lent L).S) hx (fun _ h => .inl h) ?_ (by simp [AV.lend, h1, hle]))
        intro r' off' len' b' he hb'
        simp only [AV.ref.injEq] at he
        obtain ⟨rfl, rfl, rfl⟩ := he
        cases fz with
        | false => exact .inr ⟨r, hL r (by simp), hb'⟩
        | true =>
          rcases hM.roots r _ h2 h1 with ⟨hb, _⟩ | ⟨b0, cs, t', fr, hb, _, _, _, _, hfz⟩
          · rw [hb'] at hb; cases hb
          · rw [hb'] at hb
            obtain rfl := Option.some.inj hb
            rcases hfz with ⟨_, hS⟩ | ⟨hf, _⟩
            · exact .inl hS
            · cases hf
      · cases hy
    · cases hy
  | refz r off R sz a h1 hkd h2 =>
    intro y L' hy hL
    simp only [AV.lendA, h1] at hy
    split at hy
    · split at hy
      · simp only [Option.some.injEq, Prod.mk.injEq] at hy
        obtain ⟨rfl, rfl⟩ := hy
        simp only [List.take_zero]
        exact .d _ _ (.nil _ _ _)
      · cases hy
    · cases hy
  | ptr r i j R b h1 h2 h3 => intro y L' hy; simp [AV.lendA] at hy
  | dref r off len v h1 ho => intro y L' hy; simp [AV.lendA, h1] at hy
  | dptr r i j v h1 ho => intro y L' hy; simp [AV.lendA] at hy
  | rptr cs b o us hS hu hr =>
    intro y L' hy _
    simp [AV.lendA] at hy
    obtain ⟨rfl, _⟩ := hy
    exact (RelAV.rptr cs b o us hS hu hr).step lent_step
  | agg l us hs _ ho ih =>
    intro y L' hy hL
    simp only [AV.lendA] at hy
    obtain ⟨q, hq, hy⟩ := Option.map_eq_some_iff.1 hy
    simp only [Prod.mk.injEq] at hy
    obtain ⟨rfl, rfl⟩ := hy
    obtain ⟨hlen, hg⟩ := lendAs_get hq
    refine .agg _ us (hs.trans hlen.symm) ?_ ho
    intro j y hy
    obtain ⟨x, L1, h1, h2, h3⟩ := hg j y hy
    exact ih j x h1 h2 (fun r hr => hL r (h3 r hr))
  | tup l us hs _ ih => intro y L' hy; simp [AV.lendA] at hy
  | clo g caps us hs _ ih =>
    intro y L' hy hL
    simp only [AV.lendA] at hy
    obtain ⟨q, hq, hy⟩ := Option.map_eq_some_iff.1 hy
    simp only [Prod.mk.injEq] at hy
    obtain ⟨rfl, rfl⟩ := hy
    obtain ⟨hlen, hg⟩ := lendAs_get hq
    refine .clo g _ us (hs.trans hlen.symm) ?_
    intro j y hy
    obtain ⟨x, L1, h1, h2, h3⟩ := hg j y hy
    exact ih j x h1 h2 (fun r hr => hL r (h3 r hr))
  | anyb p b hb => intro y L' hy _; simp [AV.lendA] at hy; obtain ⟨rfl, _⟩ := hy; exact .anyb p b hb
  | junk v => intro y L' hy _; simp [AV.lendA] at hy; obtain ⟨rfl, _⟩ := hy; exact .junk v

theorem lendAs_rows_aux : ∀ {l : List AV} {q : List AV × List Nat}, (∀ (j : Nat) (x : AV), l[j]? = some x → ∀ {y : AV} {L : List Nat}, x.lendA E.rt = some (y, L) → ∀ r ∈ L, IsRowRoot E r) → AV.lendAs E.rt l = some q → ∀ r ∈ q.2, IsRowRoot E r
  | [], q, _, h, r, hr => by simp [AV.lendAs] at h; subst h; simp at hr
  | x :: l, q, ih, h, r, hr => by
    simp only [AV.lendAs] at h
    obtain ⟨⟨y, L⟩, hp, h⟩ := Option.bind_eq_some_iff.1 h
    obtain ⟨q', hq, rfl⟩ := Option.map_eq_some_iff.1 h
    simp only [List.mem_append] at hr
    rcases hr with hr | hr
    · exact ih 0 x rfl hp r hr
    · exact lendAs_rows_aux (fun j x' hj => ih (j + 1) x' (by simpa using hj)) hq r hr

/-- The roots that are lent are rows, and are there. -/
theorem lendA_rows {x : AV} {v : Value} (h : RelAV E x v) : ∀ {y : AV} {L : List Nat}, x.lendA E.rt = some (y, L) → ∀ r ∈ L, IsRowRoot E r := by
  induction h with
  | ref r off len R sz b cap t n h1 hkd h2 h3 h4 h5 h6 =>
    intro y L hy s hs
    simp only [AV.lendA, h1] at hy
    split at hy
    · rename_i sz' fz xs heq
      obtain rfl := Option.some.inj heq
      split at hy
      · simp only [Option.some.injEq, Prod.mk.injEq] at hy
        obtain ⟨_, rfl⟩ := hy
        split at hs
        · simp at hs
        · simp at hs; subst hs; exact ⟨h2, _, _, _, h1⟩
      · cases hy
    · cases hy
  | refz r off R sz a h1 hkd h2 =>
    intro y L hy s hs
    simp only [AV.lendA, h1] at hy
    split at hy
    · rename_i sz' fz xs heq
      obtain rfl := Option.some.inj heq
      split at hy
      · simp only [Option.some.injEq, Prod.mk.injEq] at hy
        obtain ⟨_, rfl⟩ := hy
        split at hs
        · simp at hs
        · simp at hs; subst hs; exact ⟨h2, _, _, _, h1⟩
      · cases hy
    · cases hy
  | agg l us hs _ ho ih =>
    intro y L hy s hmem
    simp only [AV.lendA] at hy
    obtain ⟨q, hq, hy⟩ := Option.map_eq_some_iff.1 hy
    simp only [Prod.mk.injEq] at hy
    obtain ⟨_, rfl⟩ := hy
    exact lendAs_rows_aux ih hq s hmem
  | clo g l us hs _ ih =>
    intro y L hy s hmem
    simp only [AV.lendA] at hy
    obtain ⟨q, hq, hy⟩ := Option.map_eq_some_iff.1 hy
    simp only [Prod.mk.injEq] at hy
    obtain ⟨_, rfl⟩ := hy
    exact lendAs_rows_aux ih hq s hmem
  | dref r off len v h1 ho => intro y L hy; simp [AV.lendA, h1] at hy
  | _ => intro y L hy s hs; simp [AV.lendA] at hy; try (obtain ⟨_, rfl⟩ := hy; simp at hs)
end
end Go.Proofs.Ytamdgfklbjoaiaa.Ab
