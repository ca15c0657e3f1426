/- A relation between the machine and an abstract state, evaluators for single operations and for code, proved sound (part 7). No conditions. -/
import Derived.Carry
import Derived.Below
import Derived.Test.YtmkpihcfglinjaaGreatDoorZ6
set_option linter.unusedVariables false
set_option linter.unusedSimpArgs false
namespace Go.Proofs.YtmkpihcfglinjaaGreatDoor.Ab
open Go
open Go.ChangeShapes Go.WideShapes Go.ChangeAt Go.RowKit
def argAV (P : Program) (t : TypeId) (ys : List D) : AV :=
  match P.underlying t with
  | some (.struct _) => .agg (ys.map .d)
  | _ => match ys with
    | [y] => .d y
    | _ => .junk
inductive ShAll (P : Program) : List TypeId → List (List D) → Prop
  | nil : ShAll P [] []
  | cons {t : TypeId} {ts : List TypeId} {y : List D} {ys : List (List D)} (h : ShD P t y) (k : ShAll P ts ys) : ShAll P (t :: ts) (y :: ys)
def argAVs (P : Program) : List TypeId → List (List D) → List AV
  | t :: ts, y :: ys => argAV P t y :: argAVs P ts ys
  | _, _ => []
theorem RelDs.ones {w : World} {S : Nat → Prop} {a : List D} {c : List Value} (h : RelDs w S a c) : ∀ u ∈ c, u.oneCell' = true := by
  induction h with
  | nil => simp
  | cons h _ ih =>
    intro u hu
    rcases List.mem_cons.1 hu with rfl | hu
    · exact h.one
    · exact ih u hu
section
variable {H : Type} {enc : TypeId × Value → H} {P : Program} {W : World} {base base' : Nat} {spare : Nat → Bool} {held : Bool} {E : Env}
theorem arg_rel {g : Nat} {t : TypeId} {v : Value} {d : DataW H} {p : List MemPlace} (hEw : E.w = W) (hES : E.S = fun b => b < W.heap.size) (hp : plainT P g t = true) (hv : Value.okWide P W .any base' t v)
    (h : DataW.Trod enc P W base spare held t v d p) (hw : ∀ m ∈ d.weights P t, m ≤ reachBytes) : ∃ ys, ShD P t ys ∧ RelAV E (argAV P t ys) v := by
  obtain ⟨fuel, hf⟩ := h
  obtain ⟨ys, h1, h2, h3⟩ := trod_sh hp hf hw
  refine ⟨ys, h2, ?_⟩
  have h1' : RelDs E.w E.S ys v.cells.toList := by rw [hEw, hES]; exact h1
  have one : (∀ cs, v ≠ .agg cs) → (∀ fs, P.underlying t ≠ some (.struct fs)) → RelAV E (argAV P t ys) v := by
    intro hn hs
    have hc : v.cells.toList = [v] := by
      cases v <;> first | rfl | exact absurd rfl (hn _)
    rw [hc] at h1'
    cases h1' with
    | cons hr ht =>
      cases ht with
      | nil =>
        unfold argAV
        split
        · rename_i fs hu; exact absurd hu (hs fs)
        · exact .d _ _ hr
  cases g with
  | zero => simp [plainT] at hp
  | succ g =>
    unfold plainT at hp
    split at hp
    · rename_i hu; obtain ⟨b, rfl⟩ := okWide_bool hu hv; exact one (by intro cs h; cases h) (by intro fs h; rw [hu] at h; cases h)
    · rename_i hu; obtain ⟨b, rfl⟩ := okWide_int hu hv; exact one (by intro cs h; cases h) (by intro fs h; rw [hu] at h; cases h)
    · rename_i hu; obtain ⟨b, rfl⟩ := okWide_string hu hv; exact one (by intro cs h; cases h) (by intro fs h; rw [hu] at h; cases h)
    · rename_i hu; obtain ⟨a, l, c, rfl⟩ := okWide_slice hu hv; exact one (by intro cs h; cases h) (by intro fs h; rw [hu] at h; cases h)
    · rename_i fs hu
      obtain ⟨cs, rfl, _⟩ := okWide_struct hu hv
      have e : argAV P t ys = .agg (ys.map .d) := by unfold argAV; rw [hu]
      rw [e]
      have h1'' : RelDs E.w E.S ys cs.toList := h1'
      refine .agg _ cs (by have := h1''.length; simp at this; simp [this]) ?_ (fun u hu => h1''.ones u (by simpa using hu))
      intro j y hy
      rw [List.getElem?_map] at hy
      obtain ⟨x, hx, rfl⟩ := Option.map_eq_some_iff.1 hy
      obtain ⟨u, hu, hr⟩ := h1''.get j x hx
      have : cs.getD j undef = u := by
        rw [Array.getElem?_toList] at hu
        rw [Array.getD_eq_getD_getElem?, hu]; rfl
      rw [this]
      exact .d _ _ hr
    · cases hp
theorem args_rel {g : Nat} (hEw : E.w = W) (hES : E.S = fun b => b < W.heap.size) : ∀ {ts : List TypeId} {vs : List Value} {ds : List (DataW H)} {p : List MemPlace}, ts.all (plainT P g) = true → (∀ (j : Nat) t v, ts[j]? = some t → vs[j]? = some v → Value.okWide P W .any base' t v) →
    DataW.TrodAll enc P W base spare held ts vs ds p → (∀ m ∈ DataW.weightsEach P ts ds, m ≤ reachBytes) → ∃ yss, ShAll P ts yss ∧ (argAVs P ts yss).length = vs.length ∧ ∀ (j : Nat) y, (argAVs P ts yss)[j]? = some y → ∃ v, vs[j]? = some v ∧ RelAV E y v
  | [], vs, ds, p, _, _, h, _ => by
    cases vs with
    | nil => exact ⟨[], .nil, rfl, by simp [argAVs]⟩
    | cons v vs => cases ds <;> simp [DataW.TrodAll] at h
  | t :: ts, vs, ds, p, hp, hv, h, hw => by
    obtain ⟨v, vs', d, ds', p1, q, rfl, rfl, rfl, h1, h2⟩ := trodAll_cons h
    simp only [List.all_cons, Bool.and_eq_true] at hp
    simp only [DataW.weightsEach, List.mem_append] at hw
    obtain ⟨ys, k1, k2⟩ := arg_rel hEw hES hp.1 (hv 0 t v rfl rfl) h1 (fun m hm => hw m (.inl hm))
    obtain ⟨yss, k3, k4, k5⟩ := args_rel hEw hES hp.2 (fun j t v a b => hv (j + 1) t v (by simpa using a) (by simpa using b)) h2 (fun m hm => hw m (.inr hm))
    refine ⟨ys :: yss, .cons k1 k3, by simp [argAVs, k4], ?_⟩
    intro j y hy
    cases j with
    | zero => simp [argAVs] at hy; subst hy; exact ⟨v, rfl, k2⟩
    | succ j => simp [argAVs] at hy; simpa using k5 j y hy
theorem row_calls {f : FuncId} {g : Nat} {ts : List TypeId} {args : Array Value} {ds : List (DataW H)} {p : List MemPlace} (hp : ts.all (plainT P g) = true) (hcall : ∀ yss, ShAll P ts yss → CallOk P f (argAVs P ts yss) [] ⟨.d (.sc (.bool true)), [], []⟩)
    (hv : ∀ (j : Nat) t v, ts[j]? = some t → args.toList[j]? = some v → Value.okWide P W .any base' t v) (h : DataW.TrodAll enc P W base spare held ts args.toList ds p) (hw : ∀ m ∈ DataW.weightsEach P ts ds, m ≤ reachBytes) (hG : Globs.ok W fun b => b < W.heap.size) :
    Calls P f args W fun e W' => e = .returned (.bool true) ∧ Below W.heap.size W W' := by
  let S : Nat → Prop := fun b => b < W.heap.size
  let β : Nat → Option Nat := fun _ => none
  obtain ⟨yss, h1, h2, h3⟩ := args_rel (E := callEnv W S β [] []) rfl rfl hp hv h hw
  have hM : Mem (callCtx W S β []) (callEnv W S β [] []) := {
    os := rfl
    output := rfl
    tape := rfl
    size := Nat.le_refl _
    keep := fun _ _ _ => rfl
    shape := fun _ _ h => h
    s0 := fun _ h => h
    slt := fun _ h => h
    glob := hG
    snew := fun _ h => .inl h
    blt := fun r b h => absurd h (Nat.not_lt_zero r)
    bown := fun r R b h => absurd h (Nat.not_lt_zero r)
    bkeep := fun r R h => absurd h (Nat.not_lt_zero r)
    inj := fun r r' R R' b h => absurd h (Nat.not_lt_zero r)
    roots := fun r R h => absurd h (Nat.not_lt_zero r) }
  have hA : Args (callEnv W S β [] []) (argAVs P ts yss) args := by
    refine ⟨by rw [h2]; simp, ?_⟩
    intro j y hy
    obtain ⟨v, hv, hr⟩ := h3 j y hy
    have : args.getD j undef = v := by
      rw [Array.getElem?_toList] at hv
      rw [Array.getD_eq_getD_getElem?, hv]; rfl
    rw [this]
    exact hr
  refine (hcall yss h1 W S β args hM hA).mono ?_
  rintro e W' ⟨v, E', rfl, rfl, hO⟩
  have hb : v = .bool true := sc_rel hO.rel
  subst hb
  refine ⟨rfl, hO.mem.os, hO.mem.tape, hO.mem.output, hO.mem.size, ?_⟩
  intro k hk
  refine hO.mem.keep k hk ?_
  rintro ⟨r, R, hR, _⟩
  simp at hR
end
section
variable {P : Program} {t : TypeId} {xs : List D}
theorem ShD.inv_int {k : IntKind} (hu : P.underlying t = some (.int k)) (h : ShD P t xs) : ∃ n, xs = [.sc (.int k n)] ∧ (Lit.int k n).wf = true := by
  cases h with
  | int n h hw => rw [hu] at h; obtain rfl : k = _ := by injection h with h; injection h
                  exact ⟨n, rfl, hw⟩
  | bool b h => rw [hu] at h; cases h
  | str s h => rw [hu] at h; cases h
  | sl ys h => rw [hu] at h; cases h
  | st ys h => rw [hu] at h; cases h
theorem ShD.inv_sl {e : TypeId} (hu : P.underlying t = some (.slice e)) (h : ShD P t xs) : ∃ ys, xs = [.row (P.cellsOf e) ys] ∧ ys.length * P.bytesOf e ≤ reachBytes ∧ ∀ x ∈ ys, ShD P e x := by
  cases h with
  | sl ys h hl hx => rw [hu] at h; obtain rfl : e = _ := by injection h with h; injection h
                     exact ⟨ys, rfl, hl, hx⟩
  | bool b h => rw [hu] at h; cases h
  | int n h => rw [hu] at h; cases h
  | str ys h => rw [hu] at h; cases h
  | st ys h => rw [hu] at h; cases h
theorem rows_of {α : Type} {c : α → List D} {p : α → Prop} : ∀ {ys : List (List D)}, (∀ x ∈ ys, ∃ a, x = c a ∧ p a) → ∃ as0 : List α, as0.map c = ys ∧ as0.length = ys.length ∧ ∀ a ∈ as0, p a
  | [], _ => ⟨[], rfl, rfl, by simp⟩
  | y :: ys, h => by
    obtain ⟨a, rfl, ha⟩ := h y (by simp)
    obtain ⟨as0, rfl, hl, hp⟩ := rows_of (ys := ys) (fun x hx => h x (by simp [hx]))
    refine ⟨a :: as0, rfl, by simp, ?_⟩
    intro b hb
    rcases List.mem_cons.1 hb with rfl | hb
    · exact ha
    · exact hp b hb
theorem reach_lt : reachBytes < 2 ^ 47 := by decide
end
end Go.Proofs.YtmkpihcfglinjaaGreatDoor.Ab
namespace Go.Proofs.YtmkpihcfglinjaaGreatDoor.Ab
open Go
section
variable {P : Program} {N : Nat} {Q : Exit → St → Prop} {st : St}
end
theorem endD_val {P : Program} {st : St} {t : Nat} {x x' : D} (h : st.sl t = .d x') (e : x' = x) : EndD P #[.tmp t] (.d x) .ret st := by
  subst e
  exact endD_one h rfl
end Go.Proofs.YtmkpihcfglinjaaGreatDoor.Ab
namespace Go.Proofs.YtmkpihcfglinjaaGreatDoor.Ab
open Go
section
variable {P : Program} {N : Nat} {Q : Exit → St → Prop} {st : St}
theorem Holds.ren {c : Ctx} {Ei : Env} {a : Act} {w : World} (h : Holds c Ei N st a w) {n0 : Nat} {ids : List Nat} {sl' : Nat → AV} {rt' : List Root} (hm : c.m ≤ n0) (hge : ∀ i ∈ ids, n0 ≤ i) (hnd : ids.Nodup) (hlen : rt'.length = n0 + ids.length)
    (hlow : ∀ (r : Nat) R', r < n0 → rt'[r]? = some R' → ∃ R, st.rt[r]? = some R ∧ R.ren (finRen n0 ids) = some R') (hhigh : ∀ (j i : Nat) R', ids[j]? = some i → rt'[n0 + j]? = some R' → ∃ R, st.rt[i]? = some R ∧ R.ren (finRen n0 ids) = some R')
    (hs : ∀ t, sl' t = .junk ∨ (st.sl t).ren (finRen n0 ids) = some (sl' t)) : Holds c Ei N ⟨sl', rt'⟩ a w := by
  obtain ⟨E, rfl, hM, hSt, hrt, hpr, hsl, hdef, hsz, _⟩ := h
  let f := finRen n0 ids
  let E' : Env := ⟨fun r => rt'[r]?, fun r => r < rt'.length, fun r => if r < n0 then E.β r else (ids[r - n0]?).bind E.β, E.S, E.w⟩
  have e_β : ∀ r, E'.β r = if r < n0 then E.β r else (ids[r - n0]?).bind E.β := fun r => rfl
  have src : ∀ {x R'}, rt'[x]? = some R' → ∃ r R, f r = some x ∧ E.pres r ∧ E'.β x = E.β r ∧ E.rt r = some R ∧ R.ren f = some R' := by
    intro x R' hx
    have hxl : x < rt'.length := (List.getElem?_eq_some_iff.1 hx).1
    by_cases hlt : x < n0
    · obtain ⟨R, h1, h2⟩ := hlow x R' hlt hx
      refine ⟨x, R, if_pos hlt, ?_, ?_, ?_, h2⟩
      · rw [hpr]; exact (List.getElem?_eq_some_iff.1 h1).1
      · rw [e_β, if_pos hlt]
      · rw [hrt]; exact h1
    · have hk : x - n0 < ids.length := by omega
      have hgi : ids[x - n0]? = some ids[x - n0] := List.getElem?_eq_getElem hk
      obtain ⟨R, h1, h2⟩ := hhigh (x - n0) _ R' hgi (by rw [show n0 + (x - n0) = x by omega]; exact hx)
      refine ⟨ids[x - n0], R, ?_, ?_, ?_, ?_, h2⟩
      · have := finRen_get hnd hge hgi
        rwa [show n0 + (x - n0) = x by omega] at this
      · rw [hpr]; exact (List.getElem?_eq_some_iff.1 h1).1
      · rw [e_β, if_neg hlt, hgi]; rfl
      · rw [hrt]; exact h1
  have inj' : ∀ {r r' x}, f r = some x → f r' = some x → r = r' := by
    intro r r' x h h'
    rcases finRen_cases h with ⟨h1, rfl⟩ | ⟨h1, h2, h3⟩ <;> rcases finRen_cases h' with ⟨k1, k2⟩ | ⟨k1, k2, k3⟩
    · exact k2
    · omega
    · omega
    · rw [h3] at k3; exact Option.some.inj k3
  have dom : ∀ {r x}, f r = some x → ∃ R', rt'[x]? = some R' := by
    intro r x h
    have : x < rt'.length := by
      rcases finRen_cases h with ⟨h1, rfl⟩ | ⟨h1, h2, h3⟩
      · omega
      · have := (List.getElem?_eq_some_iff.1 h3).1
        omega
    exact ⟨_, List.getElem?_eq_getElem this⟩
  have hC : Conn f E E' := by
    refine ⟨rfl, fun _ h => h, ?_, ?_, ?_⟩
    · intro r x h
      obtain ⟨R', hR'⟩ := dom h
      obtain ⟨r', R, h1, _, _, h2, h3⟩ := src hR'
      rw [inj' h h1, h2]
      show Option.map Root.kind rt'[x]? = _
      rw [hR']
      simp [ren_kind h3]
    · intro r x h
      obtain ⟨R', hR'⟩ := dom h
      obtain ⟨r', R, h1, h2, _⟩ := src hR'
      rw [inj' h h1]
      exact ⟨fun _ => h2, fun _ => (List.getElem?_eq_some_iff.1 hR').1⟩
    · intro r x h _
      obtain ⟨R', hR'⟩ := dom h
      obtain ⟨r', R, h1, _, h2, _⟩ := src hR'
      rw [h2, inj' h h1]
  have live : ∀ {x R'}, rt'[x]? = some R' → R' ≠ .dead → ∃ r R, f r = some x ∧ E.pres r ∧ E'.β x = E.β r ∧ E.rt r = some R ∧ R ≠ .dead := by
    intro x R' hx hd
    obtain ⟨r, R, h1, h2, h3, h4, h5⟩ := src hx
    exact ⟨r, R, h1, h2, h3, h4, fun e => hd ((ren_dead h5).2 e)⟩
  have hM' : Mem c E' := {
    os := hM.os
    output := hM.output
    tape := hM.tape
    size := hM.size
    keep := hM.keep
    shape := hM.shape
    s0 := hM.s0
    slt := hM.slt
    glob := hM.glob
    snew := hM.snew
    blt := by
      intro x b hp hb
      obtain ⟨r, R, _, h2, h3, _⟩ := src (List.getElem?_eq_getElem (show x < rt'.length from hp))
      rw [h3] at hb
      exact hM.blt r b h2 hb
    bown := by
      intro x R b hp hR hd hb
      obtain ⟨r, R0, _, h2, h3, h4, h5⟩ := live hR hd
      rw [h3] at hb
      exact hM.bown r R0 b h2 h4 h5 hb
    bkeep := by
      intro x R hlt hp hR hd
      obtain ⟨r, R0, h1, h2, h3, h4, h5⟩ := live hR hd
      rcases finRen_cases h1 with ⟨k1, rfl⟩ | ⟨k1, k2, _⟩
      · rw [h3]; exact hM.bkeep x R0 hlt h2 h4 h5
      · omega
    inj := by
      intro x x' R R' b hp hp' hR hd hR' hd' hb hb'
      obtain ⟨r, R0, h1, h2, h3, h4, h5⟩ := live hR hd
      obtain ⟨r', R0', h1', h2', h3', h4', h5'⟩ := live hR' hd'
      rw [h3] at hb
      rw [h3'] at hb'
      have := hM.inj r r' R0 R0' b h2 h2' h4 h5 h4' h5' hb hb'
      subst this
      rw [h1] at h1'
      exact Option.some.inj h1'
    roots := by
      intro x R hp hR
      obtain ⟨r, R0, h1, h2, h3, h4, h5⟩ := src (show rt'[x]? = some R from hR)
      exact RootRel.conn hC (fun _ h => h) h1 h2 h5 (hM.roots r R0 h2 h4) }
  refine ⟨E', rfl, hM', ?_, rfl, fun _ => Iff.rfl, ?_, hdef, hsz, ?_⟩
  · refine ⟨?_, ?_, ?_, hSt.S, hSt.heap, hSt.shape⟩
    · intro r R hr hR
      have hlt : r < n0 := by omega
      obtain ⟨R1, h1, h2⟩ := hSt.rt r R hr hR
      have hx : rt'[r]? = some (rt'[r]'(by omega)) := List.getElem?_eq_getElem (by omega)
      obtain ⟨R2, k1, k2⟩ := hlow r _ hlt hx
      have k3 : E.rt r = some R2 := by rw [hrt]; exact k1
      rw [h1] at k3
      obtain rfl := Option.some.inj k3
      refine ⟨_, hx, ?_⟩
      rcases h2 with h2 | h2
      · exact .inl ((ren_dead k2).2 h2)
      · exact .inr ((ren_kind k2).trans h2)
    · intro r hr _
      show r < rt'.length
      omega
    · intro r hr hp
      rw [e_β, if_pos (by omega)]
      exact hSt.β r hr hp
  · intro t
    show RelAV E' (sl' t) _
    rcases hs t with h | h
    · rw [h]; exact .junk _
    · exact RelAV.conn hC (hsl t) h
  · show c.m ≤ rt'.length
    omega
def mvF (r n : Nat) : Nat → Option Nat := fun x => if x = r then some n else if x < n then some x else none
def mvS (r n : Nat) (sl : Nat → AV) : Nat → AV := fun t => ((sl t).ren (mvF r n)).getD .junk
def RoundEnd (n0 : Nat) (sl : List (Nat × AV)) (rt : List Root) (st' : St) : Prop :=
  ∃ ids : List Nat, (∀ i ∈ ids, n0 ≤ i) ∧ ids.Nodup ∧ rt.length = n0 + ids.length ∧ (∀ (r : Nat) R', r < n0 → rt[r]? = some R' → ∃ R, st'.rt[r]? = some R ∧ R.ren (finRen n0 ids) = some R') ∧
    (∀ (j i : Nat) R', ids[j]? = some i → rt[n0 + j]? = some R' → ∃ R, st'.rt[i]? = some R ∧ R.ren (finRen n0 ids) = some R') ∧ ∀ p ∈ sl, (st'.sl p.1).ren (finRen n0 ids) = some p.2
theorem LpW.ofR {κ : Type} {body : Code} (inv : κ → Prop) (μ : κ → Nat) (sl : κ → List (Nat × AV)) (rt : κ → List Root) (k0 : κ) (n0 : Nat) (h0 : inv k0) (hw : WeakL (sl k0) st.sl) (hrt : st.rt = rt k0) {m0 : Nat} (hm0 : m0 ≤ n0) {st0 : St} (hst0 : st0.rt.length = m0)
    (from0 : ∀ c Ei a w, Holds c Ei N st0 a w → Holds c Ei N st a w)
    (round : ∀ k, inv k → AW P N body (Exit.thenQ (fun st' => ∃ k', inv k' ∧ μ k' < μ k ∧ RoundEnd n0 (sl k') (rt k') st') Q) ⟨look (sl k), rt k⟩) : LpW P N body Q st0 := by
  refine ⟨?_⟩
  intro c Ei a w hH0
  have hm : c.m ≤ n0 := by
    obtain ⟨E, _, _, _, _, _, _, _, _, hm⟩ := hH0
    omega
  have hH : Holds c Ei N ⟨look (sl k0), rt k0⟩ a w := by
    have h1 := from0 c Ei a w hH0
    obtain ⟨E, hw', hM, hSt, hrt', hpr, hsl, hrest⟩ := h1
    rw [hrt] at hpr hrest
    refine ⟨E, hw', hM, hSt, by rw [hrt']; unfold St.look; rw [hrt], hpr, ?_, hrest⟩
    intro t
    rcases hw.look t with e | e
    · show RelAV E (look (sl k0) t) _
      rw [e]; exact hsl t
    · show RelAV E (look (sl k0) t) _
      rw [e]; exact .junk _
  let J : Act → World → Nat → Prop := fun a w n => ∃ k, inv k ∧ μ k = n ∧ Holds c Ei N ⟨look (sl k), rt k⟩ a w
  let ν : Act → World → Nat := fun a w => open Classical in if h : ∃ k, J a w k ∧ ∀ m, J a w m → k ≤ m then h.choose else 0
  have hν : ∀ {a w n}, J a w n → J a w (ν a w) ∧ ν a w ≤ n := by
    intro a w n h
    have hl := least n h
    have : ν a w = hl.choose := dif_pos hl
    rw [this]
    exact ⟨hl.choose_spec.1, hl.choose_spec.2 n h⟩
  refine wp_loop (fun a w => ∃ n, J a w n) ν ⟨μ k0, k0, h0, rfl, hH⟩ ?_
  rintro a w ⟨n, hn⟩
  obtain ⟨⟨k, hk, hμ, hH'⟩, _⟩ := hν hn
  refine wp_mono (round k hk c Ei a w hH') ?_
  rintro e a' w' ⟨st', hq, hH''⟩
  cases e with
  | normal =>
    obtain ⟨k', h1, h2, ids, i1, i2, i3, i4, i5, i6⟩ := hq
    have hD := hH''.ren (n0 := n0) (ids := ids) (sl' := look (sl k')) (rt' := rt k') hm i1 i2 i3 i4 i5 (by
      intro t
      have key : ∀ {l : List (Nat × AV)}, (∀ p ∈ l, (st'.sl p.1).ren (finRen n0 ids) = some p.2) → look l t = .junk ∨ (st'.sl t).ren (finRen n0 ids) = some (look l t) := by
        intro l
        induction l with
        | nil => intro _; exact .inl rfl
        | cons p l ih =>
          intro hl
          obtain ⟨s, x⟩ := p
          simp only [look]
          split
          · rename_i e; subst e; exact .inr (hl (t, x) List.mem_cons_self)
          · exact ih (fun p hp => hl p (List.mem_cons_of_mem _ hp))
      exact key i6)
    have hJ : J a' w' (μ k') := ⟨k', h1, rfl, hD⟩
    exact ⟨⟨_, hJ⟩, Nat.lt_of_le_of_lt (hν hJ).2 (by omega)⟩
  | _ => exact ⟨st', hq, hH''⟩
end
end Go.Proofs.YtmkpihcfglinjaaGreatDoor.Ab
namespace Go.Proofs.YtmkpihcfglinjaaGreatDoor.Ab
open Go
section
variable {P : Program} {f : FuncId} {as0 : List AV} {o0 : Out} {av : AV} {L : List Nat}
theorem isDs_get {l : List AV} (h : AV.isDs l = true) : ∀ (j : Nat) y, l[j]? = some y → y.isD = true := by
  induction l with
  | nil => intro j y h; simp at h
  | cons x l ih =>
    intro j y hy
    obtain ⟨h1, h2⟩ := isDs_cons h
    cases j with
    | zero => simp at hy; subst hy; exact h1
    | succ j => simp at hy; exact ih h2 j y hy
theorem CallOk.toD (h : CallOk P f as0 [] o0) (has : AV.isDs as0 = true) (hg : o0.g = []) (hl : o0.av.rdo (fun r => o0.new[r]?) = some (av, L)) : CallOk P f as0 [] ⟨av, [], []⟩ := by
  intro w S β vs hM hA
  have hM' : Mem (callCtx w S β []) (callEnv w S β [] o0.new) := {
    os := rfl
    output := rfl
    tape := rfl
    size := Nat.le_refl _
    keep := fun _ _ _ => rfl
    shape := fun _ _ h => h
    s0 := fun _ h => h
    slt := hM.slt
    glob := hM.glob
    snew := fun _ h => .inl h
    blt := fun r b h => absurd h (Nat.not_lt_zero r)
    bown := fun r R b h => absurd h (Nat.not_lt_zero r)
    bkeep := fun r R h => absurd h (Nat.not_lt_zero r)
    inj := fun r r' R R' b h => absurd h (Nat.not_lt_zero r)
    roots := fun r R h => absurd h (Nat.not_lt_zero r) }
  have hA' : Args (callEnv w S β [] o0.new) as0 vs := by
    refine ⟨hA.1, ?_⟩
    intro j y hy
    have hd := isDs_get has j y hy
    refine RelAV.conn (f := fun _ => none) (E := callEnv w S β [] []) (E' := callEnv w S β [] o0.new) ⟨rfl, fun _ h => h, ?_, ?_, ?_⟩ (hA.2 j y hy) (lendA_ren (rt := fun _ => none) _ (isD_lend _ hd).1)
    · intro r r' h; cases h
    · intro r r' h; cases h
    · intro r r' h; cases h
  refine (h w S β vs hM' hA').mono ?_
  rintro e w' ⟨v, E, rfl, rfl, hO⟩
  have hrt : E.rt = fun r => o0.new[r]? := by
    rw [hO.rt, hg]
    funext r
    show ([] ++ o0.new)[r]? = _
    rw [List.nil_append]
  rw [← hrt] at hl
  obtain ⟨hrel', hrows⟩ := rdo_sound hO.mem hO.rel hl
  have hML := lent_mem hO.mem hrows
  have hren := rdo_ren (fun _ => none) hl
  refine ⟨v, ⟨fun _ => none, fun _ => False, E.β, (E.lent L).S, E.w⟩, rfl, rfl, ?_, ?_, ?_, ?_, hO.size, ?_⟩
  · exact {
      os := hO.mem.os
      output := hO.mem.output
      tape := hO.mem.tape
      size := hO.mem.size
      keep := hO.mem.keep
      shape := hO.mem.shape
      s0 := hML.s0
      slt := hML.slt
      glob := hML.glob
      snew := hML.snew
      blt := fun r b h => h.elim
      bown := fun r R b h => h.elim
      bkeep := fun r R _ h => h.elim
      inj := fun r r' R R' b h => h.elim
      roots := fun r R h => h.elim }
  · refine ⟨?_, ?_, ?_, ?_, ?_, ?_⟩
    · intro r R hR
      have : ([] ++ ([] : List Root))[r]? = some R := hR
      simp at this
    · intro r hr
      have : r < 0 := hr
      omega
    · intro r hr
      have : r < 0 := hr
      omega
    · intro b hb; exact .inl (hO.step.S b hb)
    · intro b hb; exact hO.step.heap b hb
    · intro b s hs; exact hO.step.shape b s hs
  · funext r
    show none = ([] ++ ([] : List Root))[r]?
    simp
  · intro r
    show False ↔ r < 0 ∨ (0 ≤ r ∧ r < 0 + 0)
    exact ⟨fun h => h.elim, fun h => by omega⟩
  · show RelAV _ av v
    refine RelAV.conn (f := fun _ => none) (E := E.lent L) (E' := ⟨fun _ => none, fun _ => False, E.β, (E.lent L).S, E.w⟩) ⟨rfl, fun _ h => h, ?_, ?_, ?_⟩ hrel' hren
    · intro r r' h; cases h
    · intro r r' h; cases h
    · intro r r' h; cases h
theorem CallOk.rowD {n sz : Nat} {xs : List (List D)} (h : CallOk P f as0 [] ⟨.ref 0 0 n, [.row sz false xs], []⟩) (has : AV.isDs as0 = true) (hn : n = xs.length) : CallOk P f as0 [] ⟨.d (.row sz xs), [], []⟩ := by
  subst hn
  refine h.toD (L := [0]) has rfl ?_
  show (AV.ref 0 0 xs.length).rdo (fun r => [Root.row sz false xs][r]?) = _
  simp [AV.rdo, AV.lendA]
end
def tx (l : List UInt8) : ByteArray := ⟨l.toArray⟩
def cB (b : UInt8) : List D := [.sc (.int .u8 b.toNat)]
theorem tx_size {l : List UInt8} : (tx l).size = l.length := by simp [tx, ByteArray.size]
theorem tx_append {a b : List UInt8} : tx a ++ tx b = tx (a ++ b) := by
  cases ha : tx a ++ tx b
  rename_i d
  have : (tx a ++ tx b).data = (tx (a ++ b)).data := by simp [tx, ByteArray.data_append]
  rw [ha] at this
  simp only [tx] at this ⊢
  rw [this]
theorem byteRow_cB : ∀ (l : List UInt8), byteRow (l.map cB) = some (l.map fun b => (b.toNat : Int))
  | [] => rfl
  | b :: l => by
    show (byteRow (l.map cB)).map ((b.toNat : Int) :: ·) = _
    rw [byteRow_cB l]; rfl
theorem std_bytes (l : List UInt8) : std.bytes (l.map cB) = tx l := by
  show (match byteRow (l.map cB) with | some ns => strOfInts ns | none => default) = _
  rw [byteRow_cB]
  show strOfInts _ = _
  unfold strOfInts tx
  rw [List.map_map]
  congr 2
  induction l with
  | nil => rfl
  | cons b l ih => simp only [List.map_cons, ih, Function.comp, Int.toNat_natCast, UInt8.ofNat_toNat]
end Go.Proofs.YtmkpihcfglinjaaGreatDoor.Ab
namespace Go.Proofs.YtmkpihcfglinjaaGreatDoor.Ab
open Go
inductive LendL (rt : Nat → Option Root) : List AV → List AV → Prop
  | nil : LendL rt [] []
  | d {x : AV} {ys zs : List AV} (h : x.isD = true) (t : LendL rt ys zs) : LendL rt (x :: ys) (x :: zs)
  | ref {r n sz : Nat} {fz : Bool} {xs : List (List D)} {ys zs : List AV} (h : rt r = some (.row sz fz xs)) (hn : n = xs.length) (t : LendL rt ys zs) : LendL rt (.ref r 0 n :: ys) (.d (.row sz xs) :: zs)
  | agg {l l' ys zs : List AV} (h : LendL rt l l') (t : LendL rt ys zs) : LendL rt (.agg l :: ys) (.agg l' :: zs)
  | sub {r o n sz : Nat} {fz : Bool} {xs us : List (List D)} {ys zs : List AV} (h : rt r = some (.row sz fz xs)) (hn : o + n ≤ xs.length) (e : (xs.drop o).take n = us) (t : LendL rt ys zs) : LendL rt (.ref r o n :: ys) (.d (.row sz us) :: zs)
theorem LendL.get {rt : Nat → Option Root} {ys zs : List AV} (h : LendL rt ys zs) : ∃ L, AV.lendAs rt ys = some (zs, L) := by
  induction h with
  | nil => exact ⟨[], rfl⟩
  | d h _ ih =>
    obtain ⟨L, hL⟩ := ih
    exact ⟨L, by simp [AV.lendAs, (isD_lend rt h).1, hL]⟩
  | @ref r n sz fz xs ys zs h hn _ ih =>
    obtain ⟨L, hL⟩ := ih
    subst hn
    exact ⟨(if fz then [] else [r]) ++ L, by simp [AV.lendAs, AV.lendA, h, hL]⟩
  | agg _ _ ih1 ih2 =>
    obtain ⟨L1, h1⟩ := ih1
    obtain ⟨L2, h2⟩ := ih2
    exact ⟨L1 ++ L2, by simp [AV.lendAs, AV.lendA, h1, h2]⟩
  | @sub r o n sz fz xs us ys zs h hn e _ ih =>
    obtain ⟨L, hL⟩ := ih
    subst e
    exact ⟨(if fz then [] else [r]) ++ L, by simp [AV.lendAs, AV.lendA, h, hL, hn]⟩
section
variable {P : Program} {o : Oper} {st : St} {K : Out → List Nat → Prop} {cl : Call} {x : Operand} {f : FuncId} {caps ys as0 : List AV}
theorem ClW.lnt {av : AV} (hgd : o.guard = none) (hop : o.op = .call cl) (hc : cl.callee = .value x) (hx : opd0 st.sl x = .clo f caps) (ha : ArgR st.sl cl.args.toList ys) (hl : LendL st.look (ys ++ caps) as0) (he : Entered P f)
    (hcall : CallOk P f as0 [] ⟨av, [], []⟩) (hav : av.isDT = true) (hfl : av.flat = true) (k : K ⟨av, [], []⟩ (AV.idss (ys ++ caps))) : ClW P o st K := by
  obtain ⟨L, hL⟩ := hl.get
  exact ClW.val hgd hop hc hx ha hL he hcall (isDT_ren _ hav) hfl k
end
section
variable {α : Type} {mk : Nat → α} {a l : List α} {e : α → List D} {zs : List (List D)} {j : Nat} {i : Int}
end
end Go.Proofs.YtmkpihcfglinjaaGreatDoor.Ab
namespace Go.Proofs.YtmkpihcfglinjaaGreatDoor.Ab
open Go
section
variable {P : Program} {o : Oper} {st : St} {K : Out → List Nat → Prop} {cl : Call} {x : Operand} {f : FuncId} {caps ys : List AV}
end
theorem LendsR.refl {rt : Nat → Option Root} : ∀ (l : List AV), LendsR rt [] l l
  | [] => .nil
  | x :: l => .same (LendsR.refl l)
section
variable {P : Program} {o : Oper} {st : St} {K : Out → List Nat → Prop} {cl : Call} {x : Operand} {f : FuncId} {caps ys as0 : List AV}
end
end Go.Proofs.YtmkpihcfglinjaaGreatDoor.Ab
namespace Go.Proofs.YtmkpihcfglinjaaGreatDoor.Ab
open Go Go.RowKit
theorem below_shape {w w' : World} (h : Below w.heap.size w w') {b : Nat} {s : TypeId × Nat} (hs : w.shape? b = some s) : w'.shape? b = some s := by
  rw [shape_of_block (h.block b (shape_lt hs))]; exact hs
section
variable {P : Program} {f : FuncId} {as0 : List AV}
theorem CallOk.ofCallsG {y : D} (h : ∀ (E : Env) (vs : Array Value), (∀ b, E.S b → b < E.w.heap.size) → Globs.ok E.w E.S → Args E as0 vs → Calls P f vs E.w fun e w' => ∃ v, e = .returned v ∧ Below E.w.heap.size E.w w' ∧ RelD E.w E.S y v) : CallOk P f as0 [] ⟨.d y, [], []⟩ := by
  intro w S β vs hM hA
  refine (h (callEnv w S β [] []) vs hM.slt hM.glob hA).mono ?_
  rintro e w' ⟨v, he, hb, hr⟩
  have hb : Below w.heap.size w w' := hb
  have st : Step (callEnv w S β [] []) { callEnv w S β [] [] with w := w' } := ⟨fun r R hR => ⟨R, hR, .inr rfl⟩, fun _ h => h, fun _ _ => rfl, fun _ h => h, fun b hS => hb.block b (hM.slt b hS), fun b s hs => below_shape hb hs⟩
  refine ⟨v, { callEnv w S β [] [] with w := w' }, he, rfl, ?_, st, ?_, ?_, hb.size, .d _ _ (hr.step st.S st.heap)⟩
  · exact {
      os := hb.os.trans hM.os
      output := hb.output.trans hM.output
      tape := hb.tape.trans hM.tape
      size := hb.size
      keep := fun b hlt hn => hb.block b hlt
      shape := fun b s hs => below_shape hb hs
      s0 := hM.s0
      slt := fun b hS => Nat.lt_of_lt_of_le (hM.slt b hS) hb.size
      glob := Globs.step st.S st.heap hM.glob
      snew := hM.snew
      blt := fun r b hp hβ => absurd hp (Nat.not_lt_zero r)
      bown := fun r R b hp => absurd hp (Nat.not_lt_zero r)
      bkeep := fun r R hlt hp => absurd hp (Nat.not_lt_zero r)
      inj := fun r r' R R' b hp => absurd hp (Nat.not_lt_zero r)
      roots := fun r R hp => absurd hp (Nat.not_lt_zero r) }
  · rfl
  · intro r
    constructor
    · exact fun h => .inl h
    · rintro (h | ⟨_, h⟩)
      · exact h
      · exact absurd h (by simp)
theorem CallOk.ofCalls {y : D} (h : ∀ (E : Env) (vs : Array Value), (∀ b, E.S b → b < E.w.heap.size) → Args E as0 vs → Calls P f vs E.w fun e w' => ∃ v, e = .returned v ∧ Below E.w.heap.size E.w w' ∧ RelD E.w E.S y v) : CallOk P f as0 [] ⟨.d y, [], []⟩ :=
  .ofCallsG fun E vs hS _ hA => h E vs hS hA
theorem args1 {E : Env} {x : AV} {vs : Array Value} (h : Args E [x] vs) : ∃ v, vs = #[v] ∧ RelAV E x v := by
  obtain ⟨hs, hr⟩ := h
  have : vs.size = 1 := hs
  obtain ⟨l⟩ := vs
  match l, this with
  | [v], _ => exact ⟨v, rfl, hr 0 x rfl⟩
theorem args2 {E : Env} {x y : AV} {vs : Array Value} (h : Args E [x, y] vs) : ∃ u v, vs = #[u, v] ∧ RelAV E x u ∧ RelAV E y v := by
  obtain ⟨hs, hr⟩ := h
  have : vs.size = 2 := hs
  obtain ⟨l⟩ := vs
  match l, this with
  | [u, v], _ => exact ⟨u, v, rfl, hr 0 x rfl, hr 1 y rfl⟩
theorem relSc {E : Env} {x v : Value} (h : RelAV E (.d (.sc x)) v) : v = x := by
  cases h with
  | d _ _ h => cases h; rfl
end
end Go.Proofs.YtmkpihcfglinjaaGreatDoor.Ab
namespace Go.Proofs.YtmkpihcfglinjaaGreatDoor.Ab
open Go
inductive ArW (op : BinOp) (k k' : IntKind) (a b : Int) (K : Int → Prop) : Prop | mk (v : Int) (h : binSc op false (.int k a) (.int k' b) = some (.int k v)) (hk : K v) : ArW op k k' a b K
inductive CmpW (op : BinOp) (k k' : IntKind) (a b : Int) (K : Bool → Prop) : Prop | mk (v : Bool) (h : binSc op false (.int k a) (.int k' b) = some (.bool v)) (hk : K v) : CmpW op k k' a b K
inductive CatW (a b : ByteArray) (K : ByteArray → Prop) : Prop | mk (v : ByteArray) (h : binStr .add a b = some (.string v)) (hk : K v) : CatW a b K
inductive SCmpW (op : BinOp) (a b : ByteArray) (K : Bool → Prop) : Prop | mk (v : Bool) (h : binStr op a b = some (.bool v)) (hk : K v) : SCmpW op a b K
inductive BCmpW (op : BinOp) (a b : Bool) (K : Bool → Prop) : Prop | mk (v : Bool) (h : binSc op true (.bool a) (.bool b) = some (.bool v)) (hk : K v) : BCmpW op a b K
inductive AggW (ks : List EK) (xs ys : List AV) (K : Bool → Prop) : Prop | mk (v : Bool) (h : eqAll ks xs ys = some v) (hk : K v) : AggW ks xs ys K
inductive EmpW (xs : List (List D)) (K : Bool → Prop) : Prop | mk (v : Bool) (h : v = xs.isEmpty) (hk : K v) : EmpW xs K
inductive Emp0W (n : Nat) (K : Bool → Prop) : Prop | mk (v : Bool) (h : v = (n == 0)) (hk : K v) : Emp0W n K
inductive NegW (k : IntKind) (n : Int) (K : Int → Prop) : Prop | mk (v : Int) (h : v = k.wrap (0 - n)) (hk : K v) : NegW k n K
inductive RowW (xs : List (List D)) (i : Nat) (K : List D → Prop) : Prop | mk (cs : List D) (h : xs[i]? = some cs) (hk : K cs) : RowW xs i K
inductive IdxW (xs : List (List D)) (i : Int) (K : List D → Prop) : Prop | mk (cs : List D) (h0 : 0 ≤ i) (h : xs[i.toNat]? = some cs) (hk : K cs) : IdxW xs i K
inductive RIdxW (off len : Nat) (i : Int) (K : Nat → Prop) : Prop | mk (p : Nat) (h0 : 0 ≤ i) (h1 : i < len) (h : p = off + i.toNat) (hk : K p) : RIdxW off len i K
inductive SIdxW (s : ByteArray) (i : Int) (K : Int → Prop) : Prop | mk (v : Int) (h0 : 0 ≤ i) (h1 : i.toNat < s.size) (h : v = ((s[i.toNat]'h1).toNat : Int)) (hk : K v) : SIdxW s i K
inductive SSubW (s : ByteArray) (lo hi : Option Int) (K : ByteArray → Prop) : Prop
  | mk (v : ByteArray) (h0 : 0 ≤ lo.getD 0) (h1 : lo.getD 0 ≤ hi.getD s.size) (h2 : hi.getD s.size ≤ s.size) (h : v = s.extract (lo.getD 0).toNat (hi.getD s.size).toNat) (hk : K v) : SSubW s lo hi K
inductive RSubW (xs : List (List D)) (lo hi : Option Int) (K : List (List D) → Prop) : Prop
  | mk (v : List (List D)) (h0 : 0 ≤ lo.getD 0) (h1 : lo.getD 0 ≤ hi.getD xs.length) (h2 : hi.getD xs.length ≤ xs.length) (h : v = (xs.drop (lo.getD 0).toNat).take ((hi.getD xs.length).toNat - (lo.getD 0).toNat)) (hk : K v) : RSubW xs lo hi K
inductive NSubW (off len : Nat) (lo hi : Option Int) (K : Nat → Nat → Prop) : Prop
  | mk (o n : Nat) (h0 : 0 ≤ lo.getD 0) (h1 : lo.getD 0 ≤ hi.getD len) (h2 : hi.getD len ≤ len) (ho : o = off + (lo.getD 0).toNat) (hn : n = (hi.getD len).toNat - (lo.getD 0).toNat) (hk : K o n) : NSubW off len lo hi K
inductive WrapW (k : IntKind) (n : Int) (K : Int → Prop) : Prop | mk (v : Int) (h : v = k.wrap n) (hk : K v) : WrapW k n K
inductive BytesW (xs : List (List D)) (K : ByteArray → Prop) : Prop | mk (v : ByteArray) (ns : List Int) (h : byteRow xs = some ns) (hv : v = strOfInts ns) (hk : K v) : BytesW xs K
inductive RBytesW (xs : List (List D)) (off len : Nat) (K : ByteArray → Prop) : Prop
  | mk (v : ByteArray) (ns : List Int) (h0 : off + len ≤ xs.length) (h : byteRow ((xs.drop off).take len) = some ns) (hv : v = strOfInts ns) (hk : K v) : RBytesW xs off len K
inductive SLenW (s : ByteArray) (K : Int → Prop) : Prop | mk (v : Int) (h : v = (s.size : Int)) (hk : K v) : SLenW s K
inductive LenW (xs : List (List D)) (K : Int → Prop) : Prop | mk (v : Int) (h : v = (xs.length : Int)) (hk : K v) : LenW xs K
inductive NLenW (n : Nat) (K : Int → Prop) : Prop | mk (v : Int) (h : v = (n : Int)) (hk : K v) : NLenW n K
inductive MaxW (a b : Int) (K : Int → Prop) : Prop | mk (v : Int) (h : v = if b > a then b else a) (hk : K v) : MaxW a b K
inductive MinW (a b : Int) (K : Int → Prop) : Prop | mk (v : Int) (h : v = if b < a then b else a) (hk : K v) : MinW a b K
inductive RSetW (xs : List (List D)) (i j : Nat) (ds : List D) (K : List (List D) → Prop) : Prop
  | mk (v : List (List D)) (y : List D) (hy : xs[i]? = some y) (hj : j + ds.length ≤ y.length) (h : v = xs.set i (putAt y j ds)) (hk : K v) : RSetW xs i j ds K
inductive MakeW (n m : Int) (bytes : Nat) (z : List D) (K : Nat → List (List D) → Prop) : Prop
  | mk (l : Nat) (v : List (List D)) (h0 : 0 ≤ n) (h1 : n ≤ m) (h2 : bytes * m ≤ 2 ^ 48) (h3 : m < 2 ^ 63) (hl : l = n.toNat) (h : v = List.replicate n.toNat z) (hk : K l v) : MakeW n m bytes z K
inductive Src where
  | str (s : ByteArray)
  | row (xs : List (List D))
  | sub (xs : List (List D)) (off len : Nat)
def Src.val : Src → Option (List (List D))
  | .str s => some (strRow s)
  | .row xs => some xs
  | .sub xs off len => if off + len ≤ xs.length then some ((xs.drop off).take len) else none
inductive AppW (off len : Nat) (xs : List (List D)) (s : Src) (bytes : Nat) (K : Nat → List (List D) → Prop) : Prop
  | mk (n : Nat) (v ys : List (List D)) (hs : s.val = some ys) (h0 : off = 0) (h1 : len = xs.length) (h2 : (2 * (xs.length + ys.length) + 1024) * bytes ≤ 2 ^ 48) (h3 : xs.length + ys.length < 2 ^ 62) (hn : n = xs.length + ys.length) (h : v = xs ++ ys) (hk : K n v) : AppW off len xs s bytes K
def isCmp : BinOp → Bool
  | .eql | .neq | .lss | .leq | .gtr | .geq => true
  | _ => false
def sBin (R : TyRow) (op : BinOp) (x y : AV) (K : AV → Prop) : Prop :=
  match x, y with
  | .d (.sc (.int k a)), .d (.sc (.int k' b)) => (match isCmp op with
    | true => CmpW op k k' a b fun v => K (.d (.sc (.bool v)))
    | false => ArW op k k' a b fun v => K (.d (.sc (.int k v))))
  | .d (.sc (.string a)), .d (.sc (.string b)) => (match op with
    | .add => CatW a b fun s => K (.d (.sc (.string s)))
    | _ => SCmpW op a b fun v => K (.d (.sc (.bool v))))
  | .d (.sc (.bool a)), .d (.sc (.bool b)) => (match isBoolK R.sk with
    | true => BCmpW op a b fun v => K (.d (.sc (.bool v)))
    | false => False)
  | .agg xs, .agg ys => (match op, R.eq with
    | .eql, some ks => AggW ks xs ys fun v => K (.d (.sc (.bool v)))
    | .neq, some ks => AggW ks xs ys fun v => br v (fun _ => K (.d (.sc (.bool false)))) (fun _ => K (.d (.sc (.bool true))))
    | _, _ => False)
  | _, _ => False
def sBinN (rt : Nat → Option Root) (R : TyRow) (op : BinOp) (x y : AV) (yo : Operand) (K : AV → Prop) : Prop :=
  match isNilC yo with
  | true => (match op, R.sk, x with
    | .eql, .sl _, .d (.row _ xs) => EmpW xs fun v => K (.anyb v)
    | .eql, .sl _, .ref r _ len => (match alive rt r with | true => Emp0W len fun v => K (.anyb v) | false => False)
    | _, _, _ => False)
  | false => sBin R op x y K
def sUn (op : UnOp) (x : AV) (K : AV → Prop) : Prop :=
  match x with
  | .d (.sc (.bool b)) => (match op with | .not => br b (fun _ => K (.d (.sc (.bool false)))) (fun _ => K (.d (.sc (.bool true)))) | _ => False)
  | .d (.sc (.int k n)) => (match op with | .neg => NegW k n fun v => K (.d (.sc (.int k v))) | _ => False)
  | _ => False
def okAV (x : Option AV) (K : AV → Prop) : Prop := match x with | some v => K v | none => False
def sLoad (rt : Nat → Option Root) (R : TyRow) (x : AV) (K : AV → Prop) : Prop :=
  match R.agg, R.sz with
  | some g, some n => (match x with
    | .ptr r i j => (match rt r with
      | some (.row _ _ xs) => RowW xs i fun cs => okAV (takeP (cs.map AV.d) j n g) K
      | some (.box ty l) => (match i with | 0 => okAV (takeP l j n g) K | _ => False)
      | _ => False)
    | .rptr cs => okAV (takeP (cs.map AV.d) 0 n g) K
    | _ => False)
  | _, _ => False
def sIndexAddr (rt : Nat → Option Root) (R : TyRow) (x : AV) (i : Int) (K : AV → Prop) : Prop :=
  match R.el with
  | none => False
  | some (esz, _) => (match x with
    | .ref r off len => (match rt r with
      | some (.row sz _ _) => (match Nat.beq esz sz with | true => RIdxW off len i fun p => K (.ptr r p 0) | false => False)
      | _ => False)
    | .d (.row sz xs) => (match Nat.beq esz sz with | true => IdxW xs i fun cs => K (.rptr cs) | false => False)
    | _ => False)
def sIndexS (R : TyRow) (x : AV) (i : Int) (K : AV → Prop) : Prop :=
  match x with
  | .d (.sc (.string s)) => (match isStrK R.sk with | true => SIdxW s i fun v => K (.d (.sc (.int .u8 v))) | false => False)
  | _ => False
def sSlice (rt : Nat → Option Root) (R : TyRow) (x : AV) (lo hi : Option Int) (K : AV → Prop) : Prop :=
  match x with
  | .d (.sc (.string s)) => (match isStrK R.sk with | true => SSubW s lo hi fun v => K (.d (.sc (.string v))) | false => False)
  | .d (.row sz xs) => (match R.el with
    | some (esz, _) => (match Nat.beq esz sz with | true => RSubW xs lo hi fun v => K (.d (.row sz v)) | false => False)
    | none => False)
  | .ref r off len => (match rt r, R.el with
    | some (.row sz _ _), some (esz, _) => (match Nat.beq esz sz with | true => NSubW off len lo hi fun o n => K (.ref r o n) | false => False)
    | _, _ => False)
  | _ => False
def sConv (rt : Nat → Option Root) (S T : TyRow) (x : AV) (K : AV → Prop) : Prop :=
  match T.sk, x with
  | .int k, .d (.sc (.int _ n)) => (match S.sk with | .int _ => WrapW k n fun v => K (.d (.sc (.int k v))) | _ => False)
  | .str, .d (.sc (.string s)) => (match isStrK S.sk with | true => K (.d (.sc (.string s))) | false => False)
  | .str, .d (.row sz xs) => (match S.bsl, sz with | true, 1 => BytesW xs fun v => K (.d (.sc (.string v))) | _, _ => False)
  | .str, .ref r off len => (match rt r with
    | some (.row sz _ xs) => (match S.bsl, sz with | true, 1 => RBytesW xs off len fun v => K (.d (.sc (.string v))) | _, _ => False)
    | _ => False)
  | _, _ => False
def sLen (rt : Nat → Option Root) (R : TyRow) (x : AV) (K : AV → Prop) : Prop :=
  match x with
  | .d (.sc (.string s)) => (match isStrK R.sk with | true => SLenW s fun v => K (.d (.sc (.int .i64 v))) | false => False)
  | .d (.row _ xs) => (match R.sk with | .sl _ => LenW xs fun v => K (.d (.sc (.int .i64 v))) | _ => False)
  | .ref r _ len => (match R.sk, alive rt r with | .sl _, true => NLenW len fun v => K (.d (.sc (.int .i64 v))) | _, _ => False)
  | _ => False
def sSrc (rt : Nat → Option Root) : AV → Option (Nat × Src)
  | .d (.sc (.string s)) => some (1, .str s)
  | .d (.row sz xs) => some (sz, .row xs)
  | .ref r off len => (match rt r with
    | some (.row sz _ xs) => some (sz, .sub xs off len)
    | _ => none)
  | _ => none
def sAppend (rt : Nat → Option Root) (nb : Nat) (R X : TyRow) (s x : AV) (K : Out → Prop) : Prop :=
  match s, R.el, R.ez, (match X.sk with | .sl _ => true | .str => true | _ => false) with
  | .ref r off len, some (n, bytes), some _, true => (match rt r, sSrc rt x with
    | some (.row sz false xs), some (sz', src) => (match Nat.beq sz' sz && Nat.beq n sz with
      | true => AppW off len xs src bytes fun n v => K ⟨.ref nb 0 n, [.row sz false v], [(r, .dead)]⟩
      | false => False)
    | _, _ => False)
  | _, _, _, _ => False
def sStore (rt : Nat → Option Root) (n : Nat) (p x : AV) (K : Nat × Root → Prop) : Prop :=
  match p, x.leaves with
  | .ptr r i j, some ys => (match rt r with
    | some (.box ty l) => (match i, Nat.beq ys.length n && Nat.ble (j + ys.length) l.length with
      | 0, true => K (r, .box ty (putAt l j ys))
      | _, _ => False)
    | some (.row sz false xs) => (match toDs rt ys with
      | some ds => (match Nat.beq ds.length n with
        | true => RSetW xs i j ds fun v => K (r, .row sz false v)
        | false => False)
      | none => False)
    | _ => False)
  | _, _ => False
def sArgs (tab : List (Nat × TyRow)) (sl : Nat → AV) : List Operand → List TypeId → List AV
  | [], _ => []
  | x :: xs, [] => opd0 sl x :: sArgs tab sl xs []
  | x :: xs, t :: ts => (match isNilC x with | true => .d (.row (hintR (tabGet tab t)) []) | false => opd0 sl x) :: sArgs tab sl xs ts
def sCall (tab : List (Nat × TyRow)) (nb : Nat) (sl : Nat → AV) (rt : Nat → Option Root) (c : Call) (k : Out → Prop) : Prop :=
  match c.callee, c.args.toList, c.argTypes.toList with
  | .builtin .len, [x], [t] => (match tabGet tab t with | some R => sLen rt R (opd0 sl x) fun v => k ⟨v, [], []⟩ | none => False)
  | .builtin .append, [s, x], [t, xt] => (match tabGet tab t, tabGet tab xt with
    | some R, some X => sAppend rt nb R X (opd0 sl s) (opd0 sl x) k
    | _, _ => False)
  | .builtin .max, [x, y], _ => (match opd0 sl x, opd0 sl y with | .d (.sc (.int k' a)), .d (.sc (.int _ b)) => MaxW a b fun v => k ⟨.d (.sc (.int k' v)), [], []⟩ | _, _ => False)
  | .builtin .min, [x, y], _ => (match opd0 sl x, opd0 sl y with | .d (.sc (.int k' a)), .d (.sc (.int _ b)) => MinW a b fun v => k ⟨.d (.sc (.int k' v)), [], []⟩ | _, _ => False)
  | _, _, _ => False
def sv (tab : List (Nat × TyRow)) (nb : Nat) (sl : Nat → AV) (rt : Nat → Option Root) (o : Oper) (k : Out → Prop) : Prop :=
  match o.op with
  | .load t x => (match tabGet tab t with | some R => sLoad rt R (opd0 sl x) fun v => k ⟨v, [], []⟩ | none => False)
  | .store t p x => (match tabGet tab t with
    | some R => (match R.sz, opd nb (hintR (some R)) sl x with
      | some n, (av, new) => sStore rt n (opd0 sl p) av fun q => (match Nat.blt q.1 nb with | true => k ⟨.junk, new, [q]⟩ | false => False)
      | _, _ => False)
    | none => False)
  | .binOp op t x y _ => (match tabGet tab t with | some R => sBinN rt R op (opd0 sl x) (opd0 sl y) y fun v => k ⟨v, [], []⟩ | none => False)
  | .unOp op _ x => sUn op (opd0 sl x) fun v => k ⟨v, [], []⟩
  | .convert s d x => (match tabGet tab s, tabGet tab d with | some S, some T => sConv rt S T (opd0 sl x) fun v => k ⟨v, [], []⟩ | _, _ => False)
  | .indexAddr t x i => (match tabGet tab t, opd0 sl i with | some R, .d (.sc (.int _ n)) => sIndexAddr rt R (opd0 sl x) n fun v => k ⟨v, [], []⟩ | _, _ => False)
  | .index t x i => (match tabGet tab t, opd0 sl i with | some R, .d (.sc (.int _ n)) => sIndexS R (opd0 sl x) n fun v => k ⟨v, [], []⟩ | _, _ => False)
  | .slice t x lo hi none => (match tabGet tab t, bound? sl lo, bound? sl hi with | some R, some l, some h => sSlice rt R (opd0 sl x) l h fun v => k ⟨v, [], []⟩ | _, _, _ => False)
  | .makeSlice t n m => (match tabGet tab t, opd0 sl n, opd0 sl m with
    | some R, .d (.sc (.int _ n)), .d (.sc (.int _ m)) => (match R.ez with | some z => MakeW n m z.2.2 z.1 fun l v => k ⟨.ref nb 0 l, [.row z.2.1 false v], []⟩ | none => False)
    | _, _, _ => False)
  | .call c => sCall tab nb sl rt c k
  | .slice _ _ _ _ (some _) => False
  | _ => (match vev std tab nb sl rt o with | some (out, ps) => andAll ps (k out) | none => False)
end Go.Proofs.YtmkpihcfglinjaaGreatDoor.Ab
namespace Go.Proofs.YtmkpihcfglinjaaGreatDoor.Ab
open Go
section
variable {P : Program} {rt : Nat → Option Root} {K : AV → Prop} {x y : AV} {t : TypeId}
theorem sBin_ok {op : BinOp} (h : sBin (rowOf P t) op x y K) : ∃ v, evBin P op t x y = some v ∧ K v := by
  unfold sBin at h
  split at h
  · rename_i k a k' b
    split at h
    · obtain ⟨v, h1, h2⟩ := h
      exact ⟨_, by show (binSc op (isBoolT P t) (.int k a) (.int k' b)).map _ = _; rw [show binSc op (isBoolT P t) (.int k a) (.int k' b) = some (.bool v) from h1]; rfl, h2⟩
    · obtain ⟨v, h1, h2⟩ := h
      exact ⟨_, by show (binSc op (isBoolT P t) (.int k a) (.int k' b)).map _ = _; rw [show binSc op (isBoolT P t) (.int k a) (.int k' b) = some (.int k v) from h1]; rfl, h2⟩
  · rename_i a b
    split at h
    · obtain ⟨v, h1, h2⟩ := h
      exact ⟨_, by show (binSc .add (isBoolT P t) (.string a) (.string b)).map _ = _; rw [show binSc .add (isBoolT P t) (.string a) (.string b) = some (.string v) from h1]; rfl, h2⟩
    · obtain ⟨v, h1, h2⟩ := h
      exact ⟨_, by show (binSc op (isBoolT P t) (.string a) (.string b)).map _ = _; rw [show binSc op (isBoolT P t) (.string a) (.string b) = some (.bool v) from h1]; rfl, h2⟩
  · rename_i a b
    split at h
    · rename_i hb
      obtain ⟨v, h1, h2⟩ := h
      have e : isBoolT P t = true := skOf_bool hb
      exact ⟨_, by show (binSc op (isBoolT P t) (.bool a) (.bool b)).map _ = _; rw [e, h1]; rfl, h2⟩
    · exact h.elim
  · rename_i xs ys
    split at h
    · rename_i ks hks
      obtain ⟨v, h1, h2⟩ := h
      have e : eqT P t = some ks := hks
      exact ⟨_, by show (eqT P t).bind _ = _; rw [e, Option.bind_some, h1]; rfl, h2⟩
    · rename_i ks hks
      obtain ⟨v, h1, h2⟩ := h
      have e : eqT P t = some ks := hks
      refine ⟨.d (.sc (.bool !v)), by show (eqT P t).bind _ = _; rw [e, Option.bind_some, h1]; rfl, ?_⟩
      cases v <;> exact h2
    · exact h.elim
  · exact h.elim
theorem sBinN_ok {op : BinOp} {yo : Operand} (h : sBinN rt (rowOf P t) op x y yo K) : ∃ v, evBinN P rt op t x y yo = some v ∧ K v := by
  unfold sBinN at h
  unfold evBinN
  split at h
  · rename_i hy
    simp only [hy]
    split at h
    · rename_i n sz xs hs
      obtain ⟨v, h1, h2⟩ := h
      rw [if_pos (skOf_sl hs)]
      subst h1
      exact ⟨_, rfl, h2⟩
    · rename_i n r off len hs
      split at h
      · rename_i ha
        obtain ⟨v, h1, h2⟩ := h
        rw [if_pos (skOf_sl hs)]
        subst h1
        exact ⟨_, by simp only [evNilS, ha, if_true, Option.map_some], h2⟩
      · exact h.elim
    · exact h.elim
  · rename_i hy
    simp only [hy]
    exact sBin_ok h
theorem sUn_ok {op : UnOp} (h : sUn op x K) : ∃ v, evUn op x = some v ∧ K v := by
  unfold sUn at h
  split at h
  · rename_i b
    split at h
    · refine ⟨.d (.sc (.bool !b)), rfl, ?_⟩
      cases b <;> exact h
    · exact h.elim
  · rename_i k n
    split at h
    · obtain ⟨v, h1, h2⟩ := h
      subst h1
      exact ⟨_, rfl, h2⟩
    · exact h.elim
  · exact h.elim
theorem okAV_some {a : Option AV} (h : okAV a K) : ∃ v, a = some v ∧ K v := by
  unfold okAV at h
  split at h
  · exact ⟨_, rfl, h⟩
  · exact h.elim
theorem sLoad_ok (h : sLoad rt (rowOf P t) x K) : ∃ g n v, aggT P t = some g ∧ szT P t = some n ∧ evLoad rt n g x = some v ∧ K v := by
  unfold sLoad at h
  split at h
  · rename_i g n hg hn
    refine ⟨g, n, ?_⟩
    have hg' : aggT P t = some g := hg
    have hn' : szT P t = some n := hn
    split at h
    · rename_i r i j
      split at h
      · rename_i sz fz xs hr
        obtain ⟨cs, h1, h2⟩ := h
        obtain ⟨v, h3, h4⟩ := okAV_some h2
        exact ⟨v, hg', hn', by simp only [evLoad, hr, h1, Option.bind_some, h3], h4⟩
      · rename_i l hr
        split at h
        · obtain ⟨v, h3, h4⟩ := okAV_some h
          exact ⟨v, hg', hn', by simp only [evLoad, hr, if_true, h3], h4⟩
        · exact h.elim
      · exact h.elim
    · rename_i cs
      obtain ⟨v, h3, h4⟩ := okAV_some h
      exact ⟨v, hg', hn', h3, h4⟩
    · exact h.elim
  · exact h.elim
theorem elT_of {t : TypeId} {esz b sz : Nat} (h : (rowOf P t).el = some (esz, b)) (e : Nat.beq esz sz = true) : (elT P t).map (·.1) = some sz := by
  have : elT P t = some (esz, b) := h
  rw [this, Option.map_some, Nat.eq_of_beq_eq_true e]
theorem sIndexAddr_ok {i : Int} (h : sIndexAddr rt (rowOf P t) x i K) : ∃ v, evIndexAddr rt (elT P t) x i = some v ∧ K v := by
  unfold sIndexAddr at h
  split at h
  · exact h.elim
  · rename_i esz b hel
    split at h
    · rename_i r off len
      split at h
      · rename_i sz fz xs hr
        split at h
        · rename_i he
          obtain ⟨p, h0, h1, rfl, hk⟩ := h
          refine ⟨_, ?_, hk⟩
          simp only [evIndexAddr, hr]
          rw [if_pos ⟨elT_of hel he, h0, h1⟩]
        · exact h.elim
      · exact h.elim
    · rename_i sz xs
      split at h
      · rename_i he
        obtain ⟨cs, h0, h1, hk⟩ := h
        refine ⟨_, ?_, hk⟩
        simp only [evIndexAddr]
        rw [if_pos ⟨elT_of hel he, h0⟩, h1]
        rfl
      · exact h.elim
    · exact h.elim
theorem sIndexS_ok {i : Int} (h : sIndexS (rowOf P t) x i K) : ∃ v, evIndexS (isStrT P t) x i = some v ∧ K v := by
  unfold sIndexS at h
  split at h
  · rename_i s
    split at h
    · rename_i hs
      obtain ⟨v, h0, h1, rfl, hk⟩ := h
      refine ⟨_, ?_, hk⟩
      simp only [evIndexS]
      rw [dif_pos ⟨skOf_str hs, h0, h1⟩]
    · exact h.elim
  · exact h.elim
theorem sSlice_ok {lo hi : Option Int} (h : sSlice rt (rowOf P t) x lo hi K) : ∃ v, evSlice rt (elT P t) (isStrT P t) x lo hi = some v ∧ K v := by
  unfold sSlice at h
  split at h
  · rename_i s
    split at h
    · rename_i hs
      obtain ⟨v, h0, h1, h2, rfl, hk⟩ := h
      refine ⟨_, ?_, hk⟩
      simp only [evSlice]
      rw [if_pos ⟨skOf_str hs, h0, h1, h2⟩]
    · exact h.elim
  · rename_i sz xs
    split at h
    · rename_i esz b hel
      split at h
      · rename_i he
        obtain ⟨v, h0, h1, h2, rfl, hk⟩ := h
        refine ⟨_, ?_, hk⟩
        simp only [evSlice]
        rw [if_pos ⟨elT_of hel he, h0, h1, h2⟩]
      · exact h.elim
    · exact h.elim
  · rename_i r off len
    split at h
    · rename_i sz fz xs esz b hr hel
      split at h
      · rename_i he
        obtain ⟨o, n, h0, h1, h2, rfl, rfl, hk⟩ := h
        refine ⟨_, ?_, hk⟩
        simp only [evSlice, hr]
        rw [if_pos ⟨elT_of hel he, h0, h1, h2⟩]
      · exact h.elim
    · exact h.elim
  · exact h.elim
theorem skOf_int {k : IntKind} (h : skOf P t = .int k) : P.underlying t = some (.int k) := by
  unfold skOf at h
  split at h <;> first | (cases h; assumption) | cases h
theorem skOf_str' (h : skOf P t = .str) : P.underlying t = some .string := by
  unfold skOf at h
  split at h <;> first | assumption | cases h
theorem isStr_und (h : isStrK (skOf P t) = true) : P.underlying t = some .string := by
  unfold isStrK at h
  split at h
  · rename_i e; exact skOf_str' e
  · cases h
theorem bsl_und (h : isByteSliceT P t = true) : ∃ d, P.underlying t = some d := by
  unfold isByteSliceT at h
  split at h
  · exact ⟨_, by assumption⟩
  · cases h
theorem sConv_ok {nb : Nat} {s d : TypeId} (h : sConv rt (rowOf P s) (rowOf P d) x K) : ∃ src dst v, P.underlying s = some src ∧ P.underlying d = some dst ∧ evConv rt nb src dst (isByteSliceT P s) x = some (v, []) ∧ K v := by
  unfold sConv at h
  split at h
  · rename_i k k0 n hk
    split at h
    · rename_i k1 hs
      obtain ⟨v, rfl, hk'⟩ := h
      exact ⟨_, _, _, skOf_int hs, skOf_int hk, rfl, hk'⟩
    · exact h.elim
  · rename_i s' hd
    split at h
    · rename_i hs
      exact ⟨_, _, _, isStr_und hs, skOf_str' hd, rfl, h⟩
    · exact h.elim
  · rename_i sz xs hd
    split at h
    · rename_i hb
      obtain ⟨v, ns, h1, rfl, hk⟩ := h
      have hb' : isByteSliceT P s = true := hb
      obtain ⟨src, hsrc⟩ := bsl_und hb'
      refine ⟨src, _, _, hsrc, skOf_str' hd, ?_, hk⟩
      simp only [evConv, hb', if_true, AV.view, Option.bind_some, h1, Option.map_some]
    · exact h.elim
  · rename_i r off len hd
    split at h
    · rename_i sz fz xs hr
      split at h
      · rename_i hb
        obtain ⟨v, ns, h0, h1, rfl, hk⟩ := h
        have hb' : isByteSliceT P s = true := hb
        obtain ⟨src, hsrc⟩ := bsl_und hb'
        refine ⟨src, _, _, hsrc, skOf_str' hd, ?_, hk⟩
        simp only [evConv, hb', if_true, AV.view, hr, h0, Option.bind_some, h1, Option.map_some]
      · exact h.elim
    · exact h.elim
  · exact h.elim
theorem sLen_ok (h : sLen rt (rowOf P t) x K) : ∃ v, evLen P rt t x = some v ∧ K v := by
  unfold sLen at h
  split at h
  · rename_i s
    split at h
    · rename_i hs
      obtain ⟨v, rfl, hk⟩ := h
      exact ⟨_, by simp only [evLen]; rw [if_pos (skOf_str hs)], hk⟩
    · exact h.elim
  · rename_i sz xs
    split at h
    · rename_i n hs
      obtain ⟨v, rfl, hk⟩ := h
      exact ⟨_, by simp only [evLen]; rw [if_pos (skOf_sl hs)], hk⟩
    · exact h.elim
  · rename_i r off len
    split at h
    · rename_i n hs ha
      obtain ⟨v, rfl, hk⟩ := h
      exact ⟨_, by simp only [evLen]; rw [if_pos (by rw [skOf_sl hs, ha]; rfl)], hk⟩
    · exact h.elim
  · exact h.elim
theorem sSrc_ok {sz : Nat} {src : Src} {ys : List (List D)} (h : sSrc rt x = some (sz, src)) (hy : src.val = some ys) : x.src rt = some (sz, ys) := by
  unfold sSrc at h
  split at h
  · cases h; cases hy; rfl
  · cases h; cases hy; rfl
  · rename_i r off len
    split at h
    · rename_i s fz xs hr
      cases h
      simp only [Src.val] at hy
      show AV.view rt (.ref r off len) = _
      simp only [AV.view, hr]
      split at hy
      · rename_i hle
        cases hy
        rw [if_pos hle]
      · cases hy
    · cases h
  · cases h
theorem sAppend_ok {nb : Nat} {xt : TypeId} {s : AV} {k : Out → Prop} (h : sAppend rt nb (rowOf P t) (rowOf P xt) s x k) :
    ∃ out, (if (ezT P t).isSome && (isSliceT P xt || isStrT P xt) then (evAppend rt nb (elT P t) s x).map fun (av, new, r) => (⟨av, new, [(r, .dead)]⟩ : Out) else none) = some out ∧ k out := by
  unfold sAppend at h
  split at h
  · rename_i r off len n bytes z hel hez hx
    split at h
    · rename_i sz xs sz' src hr hsrc
      split at h
      · rename_i he
        simp only [Bool.and_eq_true] at he
        obtain ⟨m, v, ys, hs, rfl, rfl, h2, h3, rfl, rfl, hk⟩ := h
        have e1 := Nat.eq_of_beq_eq_true he.1
        have e2 := Nat.eq_of_beq_eq_true he.2
        subst e1 e2
        refine ⟨_, ?_, hk⟩
        have hel' : elT P t = some (n, bytes) := hel
        have hez' : ezT P t = some z := hez
        have hsl : (isSliceT P xt || isStrT P xt) = true := by
          have hx' : (match skOf P xt with | .sl _ => true | .str => true | _ => false) = true := hx
          split at hx'
          · rename_i m hm; rw [skOf_sl hm]; rfl
          · rename_i hm; rw [show isStrT P xt = true from skOf_str (by rw [hm]; rfl)]; simp
          · cases hx'
        rw [hez', hsl]
        simp only [Option.isSome_some, Bool.and_self, if_true, evAppend, hr, sSrc_ok hsrc hs, Option.bind_some, hel']
        rw [if_pos (by exact ⟨trivial, trivial, trivial, trivial, h2, h3⟩)]
        rfl
      · exact h.elim
    · exact h.elim
  · exact h.elim
theorem sStore_ok {n : Nat} {p : AV} {k : Nat × Root → Prop} (h : sStore rt n p x k) : ∃ q, evStore rt n p x = some q ∧ k q := by
  unfold sStore at h
  split at h
  · rename_i r i j ys hys
    split at h
    · rename_i l hr
      split at h
      · rename_i hb
        simp only [Bool.and_eq_true] at hb
        refine ⟨_, ?_, h⟩
        simp only [evStore, hr, hys, Option.bind_some]
        rw [if_pos (by exact ⟨trivial, Nat.eq_of_beq_eq_true hb.1, Nat.le_of_ble_eq_true hb.2⟩)]
      · exact h.elim
    · rename_i sz xs hr
      split at h
      · rename_i ds hds
        split at h
        · rename_i hn
          obtain ⟨v, y, hy, hj, rfl, hk⟩ := h
          refine ⟨_, ?_, hk⟩
          simp only [evStore, hr, hys, Option.bind_some, hds, hy]
          rw [if_pos ⟨Nat.eq_of_beq_eq_true hn, hj⟩]
        · exact h.elim
      · exact h.elim
    · exact h.elim
  · exact h.elim
theorem sCall_ok {tab : List (Nat × TyRow)} (hT : TabOk P tab) {nb : Nat} {sl : Nat → AV} {c : Call} {k : Out → Prop} (h : sCall tab nb sl rt c k) : ∃ out, evCall P nb sl rt c = some out ∧ k out := by
  unfold sCall at h
  split at h
  · rename_i x t hc ha ht
    split at h
    · rename_i R hR
      have e := hT t R hR
      subst e
      obtain ⟨v, h1, h2⟩ := sLen_ok h
      exact ⟨_, by simp only [evCall, hc, ha, ht, h1, Option.map_some], h2⟩
    · exact h.elim
  · rename_i s x t xt hc ha ht
    split at h
    · rename_i R X hR hX
      have e := hT t R hR
      subst e
      have e := hT xt X hX
      subst e
      obtain ⟨v, h1, h2⟩ := sAppend_ok h
      exact ⟨_, by simp only [evCall, hc, ha, ht]; exact h1, h2⟩
    · exact h.elim
  · rename_i x y hc ha
    split at h
    · rename_i k' a k2 b hx hy
      obtain ⟨v, rfl, h2⟩ := h
      refine ⟨_, ?_, h2⟩
      simp only [evCall]
      rw [hc, ha]
      simp only [hx, hy, evMinMax, if_true, Option.map_some]
    · exact h.elim
  · rename_i x y hc ha
    split at h
    · rename_i k' a k2 b hx hy
      obtain ⟨v, rfl, h2⟩ := h
      refine ⟨_, ?_, h2⟩
      simp only [evCall]
      rw [hc, ha]
      simp only [hx, hy, evMinMax, Bool.false_eq_true, if_false, Option.map_some]
    · exact h.elim
  · exact h.elim
end
theorem sv_ok {P : Program} {tab : List (Nat × TyRow)} (hT : TabOk P tab) {nb : Nat} {sl : Nat → AV} {rt : Nat → Option Root} {o : Oper} {k : Out → Prop} (h : sv tab nb sl rt o k) : ∃ out, ev P nb sl rt o = some out ∧ k out := by
  unfold sv at h
  split at h
  · rename_i t x ho
    split at h
    · rename_i R hR
      have e := hT t R hR
      subst e
      obtain ⟨g, n, v, h1, h2, h3, h4⟩ := sLoad_ok h
      exact ⟨_, by simp only [ev, ho, h1, h2, h3, Option.bind_some, Option.map_some], h4⟩
    · exact h.elim
  · rename_i t p x ho
    split at h
    · rename_i R hR
      have e := hT t R hR
      subst e
      split at h
      · rename_i n av new hn hopd
        have hn' : szT P t = some n := hn
        have hopd' : opd nb (hintT P t) sl x = (av, new) := hopd
        obtain ⟨q, h1, h2⟩ := sStore_ok h
        split at h2
        · rename_i hlt
          refine ⟨_, ?_, h2⟩
          simp only [ev, ho, hn', Option.bind_some, hopd', h1]
          rw [if_pos (by simpa [Nat.blt_eq] using hlt)]
        · exact h2.elim
      · exact h.elim
    · exact h.elim
  · rename_i op t x y yt ho
    split at h
    · rename_i R hR
      have e := hT t R hR
      subst e
      obtain ⟨v, h1, h2⟩ := sBinN_ok h
      exact ⟨_, by simp only [ev, ho, h1, Option.map_some], h2⟩
    · exact h.elim
  · rename_i op t x ho
    obtain ⟨v, h1, h2⟩ := sUn_ok h
    exact ⟨_, by simp only [ev, ho, h1, Option.map_some], h2⟩
  · rename_i s d x ho
    split at h
    · rename_i S T hS hT'
      have e := hT s S hS
      subst e
      have e := hT d T hT'
      subst e
      obtain ⟨src, dst, v, h1, h2, h3, h4⟩ := sConv_ok (nb := nb) h
      exact ⟨_, by simp only [ev, ho, h1, h2, h3, Option.bind_some, Option.map_some], h4⟩
    · exact h.elim
  · rename_i t x i ho
    split at h
    · rename_i R k' n hR hi
      have e := hT t R hR
      subst e
      obtain ⟨v, h1, h2⟩ := sIndexAddr_ok h
      exact ⟨_, by simp only [ev, ho, intOf_sc hi, h1, Option.bind_some, Option.map_some], h2⟩
    · exact h.elim
  · rename_i t x i ho
    split at h
    · rename_i R k' n hR hi
      have e := hT t R hR
      subst e
      obtain ⟨v, h1, h2⟩ := sIndexS_ok h
      exact ⟨_, by simp only [ev, ho, intOf_sc hi, h1, Option.bind_some, Option.map_some], h2⟩
    · exact h.elim
  · rename_i t x lo hi ho
    split at h
    · rename_i R l m hR hl hm
      have e := hT t R hR
      subst e
      obtain ⟨v, h1, h2⟩ := sSlice_ok h
      exact ⟨_, by simp only [ev, ho, hl, hm, h1, Option.bind_some, Option.map_some], h2⟩
    · exact h.elim
  · rename_i t n m ho
    split at h
    · rename_i R k1 n k2 m hR hn hm
      have e := hT t R hR
      subst e
      split at h
      · rename_i z hz
        have hz' : ezT P t = some z := hz
        obtain ⟨l, v, h0, h1, h2, h3, rfl, rfl, hk⟩ := h
        refine ⟨_, ?_, hk⟩
        simp only [ev, ho, hz', intOf_sc hn, intOf_sc hm, Option.bind_some, evMake]
        rw [if_pos ⟨h0, h1, h2, h3⟩]
        rfl
      · exact h.elim
    · exact h.elim
  · rename_i c ho
    obtain ⟨out, h1, h2⟩ := sCall_ok hT h
    exact ⟨out, by simp only [ev, ho, h1], h2⟩
  · exact h.elim
  · split at h
    · rename_i out ps hv
      obtain ⟨h1, h2⟩ := andAll_ok h
      exact ⟨out, vev_sound hT hv h1, h2⟩
    · exact h.elim
end Go.Proofs.YtmkpihcfglinjaaGreatDoor.Ab
