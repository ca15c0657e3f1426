/- A relation between the machine and an abstract state, evaluators for single operations and for code, proved sound (part 3). No conditions. -/
import Derived.Test.YtamdgfklbjoaiaaZ2
set_option linter.unusedVariables false
set_option linter.unusedSimpArgs false
namespace Go.Proofs.Ytamdgfklbjoaiaa.Ab
open Go

/-- Arguments some of which are lent. -/
inductive LendsR (rt : Nat → Option Root) (L : List Nat) : List AV → List AV → Prop
  | nil : LendsR rt L [] []
  | same {x : AV} {xs ys : List AV} (t : LendsR rt L xs ys) : LendsR rt L (x :: xs) (x :: ys)
  | lend {x y : AV} {L' : List Nat} {xs ys : List AV} (h : x.lendA rt = some (y, L')) (hs : ∀ r ∈ L', r ∈ L) (t : LendsR rt L xs ys) : LendsR rt L (x :: xs) (y :: ys)

theorem LendsR.of {rt : Nat → Option Root} : ∀ {l : List AV} {q : List AV × List Nat}, AV.lendAs rt l = some q → ∀ {L : List Nat}, (∀ r ∈ q.2, r ∈ L) → LendsR rt L l q.1
  | [], q, h, L, hs => by simp [AV.lendAs] at h; subst h; exact .nil
  | x :: l, q, h, L, hs => by
    simp only [AV.lendAs] at h
    obtain ⟨⟨y, L'⟩, hp, h⟩ := Option.bind_eq_some_iff.1 h
    obtain ⟨q', hq, rfl⟩ := Option.map_eq_some_iff.1 h
    exact .lend hp (fun r hr => hs r (by simp [hr])) (LendsR.of hq (fun r hr => hs r (by simp [hr])))

def frzG (rt : Nat → Option Root) (L : List Nat) : List (Nat × Root) := L.map fun r => (r, froz ((rt r).getD .dead))

theorem updG_append : ∀ (g g' : List (Nat × Root)) (rt : Nat → Option Root), updG (g ++ g') rt = updG g (updG g' rt)
  | [], g', rt => rfl
  | (r, R) :: g, g', rt => by
    funext x
    simp only [List.cons_append, updG, updG_append g g' rt]

theorem frzG_lent {rt : Nat → Option Root} {E : Env} : ∀ (L : List Nat), (∀ r ∈ L, IsRowRoot E r ∧ rt r = E.rt r) → updG (frzG rt L) E.rt = (E.lent L).rt := by
  intro L h
  funext x
  show _ = (if x ∈ L then (E.rt x).map froz else E.rt x)
  induction L with
  | nil => simp [frzG, updG]
  | cons r L ih =>
    have ih' := ih (fun s hs => h s (by simp [hs]))
    simp only [frzG, List.map_cons, updG]
    by_cases e : x = r
    · subst e
      obtain ⟨⟨_, sz, fz, xs, hrt⟩, heq⟩ := h x (by simp)
      rw [heq, hrt]
      simp
    · rw [if_neg e]
      simp only [List.mem_cons, e, false_or]
      exact ih'

theorem pres_of_ids {E : Env} {x : AV} {v : Value} (h : RelAV E x v) : ∀ {r : Nat} {R : Root}, r ∈ x.ids → E.rt r = some R → R ≠ .dead → E.pres r := by
  have aux : ∀ {l : List AV}, (∀ (j : Nat) y, l[j]? = some y → ∀ {r : Nat} {R : Root}, r ∈ y.ids → E.rt r = some R → R ≠ .dead → E.pres r) → ∀ {r : Nat} {R : Root}, r ∈ AV.idss l → E.rt r = some R → R ≠ .dead → E.pres r := by
    intro l
    induction l with
    | nil => intro _ r R hr; simp [AV.idss] at hr
    | cons y l ih =>
      intro H r R hr h1 h2
      simp only [AV.idss, List.mem_append] at hr
      rcases hr with hr | hr
      · exact H 0 y rfl hr h1 h2
      · exact ih (fun j y' hj => H (j + 1) y' (by simpa using hj)) hr h1 h2
  induction h with
  | ref r off len R sz b cap t n h1 hkd h2 h3 h4 h5 h6 => intro s Q hs _ _; simp [AV.ids] at hs; subst hs; exact h2
  | refz r off R sz a h1 hkd h2 => intro s Q hs _ _; simp [AV.ids] at hs; subst hs; exact h2
  | ptr r i j R b h1 h2 h3 => intro s Q hs _ _; simp [AV.ids] at hs; subst hs; exact h2
  | dref r off len v h1 ho =>
    intro s Q hs hQ hd
    simp [AV.ids] at hs
    subst hs
    rw [h1] at hQ
    exact absurd (Option.some.inj hQ).symm hd
  | dptr r i j v h1 ho =>
    intro s Q hs hQ hd
    simp [AV.ids] at hs
    subst hs
    rw [h1] at hQ
    exact absurd (Option.some.inj hQ).symm hd
  | agg l us hs _ ho ih => intro s Q hs h1 h2; exact aux (fun j y hy => ih j y hy) hs h1 h2
  | tup l us hs _ ih => intro s Q hs h1 h2; exact aux (fun j y hy => ih j y hy) hs h1 h2
  | clo g l us hs _ ih => intro s Q hs h1 h2; exact aux (fun j y hy => ih j y hy) hs h1 h2
  | _ => intro s Q hs; simp [AV.ids] at hs

section
variable {P : Program} {ops : Array Oper} {i nb : Nat} {o : Oper} {sl : Nat → AV} {rt : Nat → Option Root} {out o0 : Out} {cl : Call}

theorem run_call {ρ : Operand → Value} {x : Operand} {f : FuncId} {us : Array Value} {w : World} (hop : o.op = .call cl) (hc : cl.callee = .value x) (hx : ρ x = .func (.func f) #[] us) (he : Entered P f) :
    (execOp ρ o).run P w = .ok (.enter f (cl.args.map ρ ++ us)) w := by
  obtain ⟨fn, h1, h2, h3⟩ := he
  have h2' : ¬ fn.name = "runtime.NumGoroutine" := by simpa using h2
  have h3' : ¬ fn.body = none := by
    intro e
    rw [e] at h3
    cases h3
  simp [execOp, hop, resolve, hc, Deferred.ofValue, hx, invoke, callFunc, h1, h2', h3']

theorem argR_rel {E : Env} {a : Act} (hl : Looks E ops o sl a) : ∀ {xs : List Operand} {ys : List AV}, ArgR sl xs ys → (∀ x ∈ xs, x ∈ o.op.operands) →
    xs.length = ys.length ∧ ∀ (j : Nat) y, ys[j]? = some y → ∃ x, xs[j]? = some x ∧ RelAV E y (a.eval x) := by
  intro xs ys h
  obtain ⟨hs, hsl⟩ := opd0_junk hl
  induction h with
  | nil => intro _; exact ⟨rfl, fun j y hy => by simp at hy⟩
  | cons h t ih =>
    intro hm
    obtain ⟨h1, h2⟩ := ih (fun x hx => hm x (by simp [hx]))
    refine ⟨by simp [h1], ?_⟩
    intro j y hy
    cases j with
    | zero =>
      simp at hy
      subst hy
      refine ⟨_, rfl, ?_⟩
      rw [← h, hsl _ (hm _ (by simp))]
      exact opd0_rel hs _
    | succ j => simp at hy; simpa using h2 j y hy
  | nilS t ih =>
    intro hm
    obtain ⟨h1, h2⟩ := ih (fun x hx => hm x (by simp [hx]))
    refine ⟨by simp [h1], ?_⟩
    intro j y hy
    cases j with
    | zero =>
      simp at hy
      subst hy
      exact ⟨_, rfl, .d _ _ (.nil _ _ _)⟩
    | succ j => simp at hy; simpa using h2 j y hy

theorem lendsR_rel {c : Ctx} {E : Env} (hM : Mem c E) {L : List Nat} : ∀ {ys zs : List AV} {vs : List Value}, LendsR E.rt L ys zs → (ys.length = vs.length ∧ ∀ (j : Nat) y, ys[j]? = some y → ∃ v, vs[j]? = some v ∧ RelAV E y v) →
    zs.length = vs.length ∧ ∀ (j : Nat) y, zs[j]? = some y → ∃ v, vs[j]? = some v ∧ RelAV (E.lent L) y v := by
  intro ys zs vs h
  induction h generalizing vs with
  | nil => rintro ⟨h1, _⟩; exact ⟨h1, fun j y hy => by simp at hy⟩
  | same t ih =>
    rintro ⟨h1, h2⟩
    cases vs with
    | nil => simp at h1
    | cons v vs =>
      obtain ⟨k1, k2⟩ := ih (vs := vs) ⟨by simpa using h1, fun j y hy => by simpa using h2 (j + 1) y (by simpa using hy)⟩
      refine ⟨by simp [k1], ?_⟩
      intro j y hy
      cases j with
      | zero =>
        simp at hy
        subst hy
        obtain ⟨v', hv, hr⟩ := h2 0 _ rfl
        exact ⟨v', hv, hr.step lent_step⟩
      | succ j => simp at hy; simpa using k2 j y hy
  | lend h hs t ih =>
    rintro ⟨h1, h2⟩
    cases vs with
    | nil => simp at h1
    | cons v vs =>
      obtain ⟨k1, k2⟩ := ih (vs := vs) ⟨by simpa using h1, fun j y hy => by simpa using h2 (j + 1) y (by simpa using hy)⟩
      refine ⟨by simp [k1], ?_⟩
      intro j y hy
      cases j with
      | zero =>
        simp at hy
        subst hy
        obtain ⟨v', hv, hr⟩ := h2 0 _ rfl
        exact ⟨v', hv, lendA_sound hM hr h hs⟩
      | succ j => simp at hy; simpa using k2 j y hy

mutual
theorem lendA_agr {rt rt' : Nat → Option Root} : ∀ {x : AV} {q : AV × List Nat}, Agr rt rt' x.ids → x.lendA rt = some q → x.lendA rt' = some q ∧ ∀ r ∈ q.2, r ∈ x.ids ∧ rt r = rt' r
  | .d x, q, _, h => by simp [AV.lendA] at h; subst h; exact ⟨rfl, fun r hr => by simp at hr⟩
  | .ref r off len, q, ha, h => by
    simp only [AV.lendA] at h ⊢
    rcases ha r (by simp [AV.ids]) with h0 | h0
    · rw [h0] at h; cases h
    · rw [h0]
      refine ⟨h, ?_⟩
      intro s hs
      split at h
      · split at h
        · simp only [Option.some.injEq] at h
          subst h
          split at hs
          · simp at hs
          · simp at hs; subst hs; exact ⟨by simp [AV.ids], by rw [h0]⟩
        · cases h
      · cases h
  | .rptr cs, q, _, h => by simp [AV.lendA] at h; subst h; exact ⟨rfl, fun r hr => by simp at hr⟩
  | .agg l, q, ha, h => by
    simp only [AV.lendA] at h ⊢
    obtain ⟨p, hp, rfl⟩ := Option.map_eq_some_iff.1 h
    obtain ⟨h1, h2⟩ := lendAs_agr ha hp
    rw [h1]
    exact ⟨rfl, h2⟩
  | .clo g l, q, ha, h => by
    simp only [AV.lendA] at h ⊢
    obtain ⟨p, hp, rfl⟩ := Option.map_eq_some_iff.1 h
    obtain ⟨h1, h2⟩ := lendAs_agr ha hp
    rw [h1]
    exact ⟨rfl, h2⟩
  | .anyb p, q, _, h => by simp [AV.lendA] at h; subst h; exact ⟨rfl, fun r hr => by simp at hr⟩
  | .junk, q, _, h => by simp [AV.lendA] at h; subst h; exact ⟨rfl, fun r hr => by simp at hr⟩
  | .ptr .., q, _, h => by simp [AV.lendA] at h
  | .tup .., q, _, h => by simp [AV.lendA] at h
theorem lendAs_agr {rt rt' : Nat → Option Root} : ∀ {x : List AV} {q : List AV × List Nat}, Agr rt rt' (AV.idss x) → AV.lendAs rt x = some q → AV.lendAs rt' x = some q ∧ ∀ r ∈ q.2, r ∈ AV.idss x ∧ rt r = rt' r
  | [], q, _, h => by simp [AV.lendAs] at h; subst h; exact ⟨rfl, fun r hr => by simp at hr⟩
  | x :: l, q, ha, h => by
    simp only [AV.lendAs] at h ⊢
    obtain ⟨p, hp, h⟩ := Option.bind_eq_some_iff.1 h
    obtain ⟨q', hq, rfl⟩ := Option.map_eq_some_iff.1 h
    obtain ⟨h1, h2⟩ := lendA_agr (ha.sub fun r hr => by simp [AV.idss, hr]) hp
    obtain ⟨h3, h4⟩ := lendAs_agr (ha.sub fun r hr => by simp [AV.idss, hr]) hq
    rw [h1, h3]
    refine ⟨rfl, ?_⟩
    intro r hr
    simp only [List.mem_append] at hr
    simp only [AV.idss, List.mem_append]
    rcases hr with hr | hr
    · exact ⟨.inl (h2 r hr).1, (h2 r hr).2⟩
    · exact ⟨.inr (h4 r hr).1, (h4 r hr).2⟩
end

theorem LendsR.agr {rt rt' : Nat → Option Root} {L : List Nat} {ys zs : List AV} (h : LendsR rt L ys zs) : Agr rt rt' (AV.idss ys) → LendsR rt' L ys zs := by
  induction h with
  | nil => intro _; exact .nil
  | same t ih => intro ha; exact .same (ih (ha.sub fun r hr => by simp [AV.idss, hr]))
  | lend h hs t ih => intro ha; exact .lend (lendA_agr (ha.sub fun r hr => by simp [AV.idss, hr]) h).1 hs (ih (ha.sub fun r hr => by simp [AV.idss, hr]))
end
end Go.Proofs.Ytamdgfklbjoaiaa.Ab

namespace Go.Proofs.Ytamdgfklbjoaiaa.Ab
open Go

section
variable {P : Program} {ops : Array Oper} {i nb : Nat} {o : Oper} {sl : Nat → AV} {rt : Nat → Option Root} {out o0 : Out} {cl : Call}

/-- The arguments' values, at the call. -/
theorem call_args {c : Ctx} {E : Env} {a : Act} {x : Operand} {f : FuncId} {caps ys zs : List AV} {L : List Nat} (hM : Mem c E) (hl : Looks E ops o sl a) (hop : o.op = .call cl) (hc : cl.callee = .value x) (hx : opd0 sl x = .clo f caps)
    (ha : ArgR sl cl.args.toList ys) (hz : LendsR E.rt L (ys ++ caps) zs) :
    ∃ us, a.eval x = .func (.func f) #[] us ∧ Args (E.lent L) zs (cl.args.map a.eval ++ us) ∧ ∀ (j : Nat) y, (ys ++ caps)[j]? = some y → ∃ v, RelAV E y v := by
  obtain ⟨hs, hsl⟩ := opd0_junk hl
  have hmem : ∀ y ∈ cl.args.toList, y ∈ o.op.operands := by
    intro y hy
    have : y ∈ cl.args := by simpa using hy
    rw [hop]
    simp only [Op.operands, Call.operands, hc]
    simp [this]
  have hxr : RelAV E (.clo f caps) (a.eval x) := by
    rw [← hx, hsl x (by rw [hop]; simp [Op.operands, Call.operands, hc])]
    exact opd0_rel hs x
  have hshape : ∃ us : Array Value, a.eval x = .func (.func f) #[] us ∧ us.size = caps.length ∧ ∀ (j : Nat) y, caps[j]? = some y → RelAV E y (us.getD j undef) := by
    generalize a.eval x = v at hxr
    cases hxr with
    | clo _ _ us h1 h2 => exact ⟨us, rfl, h1, h2⟩
  obtain ⟨us, hus, hsz, hcap⟩ := hshape
  obtain ⟨hlen, hget⟩ := argR_rel hl ha hmem
  have hall : (ys ++ caps).length = ((cl.args.map a.eval ++ us).toList).length ∧ ∀ (j : Nat) y, (ys ++ caps)[j]? = some y → ∃ v, (cl.args.map a.eval ++ us).toList[j]? = some v ∧ RelAV E y v := by
    refine ⟨by simp [← hlen, hsz], ?_⟩
    intro j y hy
    by_cases hj : j < ys.length
    · rw [List.getElem?_append_left hj] at hy
      obtain ⟨x', h1, h2⟩ := hget j y hy
      have hj' : j < cl.args.size := by rw [← Array.length_toList, hlen]; exact hj
      refine ⟨a.eval x', ?_, h2⟩
      rw [Array.toList_append, List.getElem?_append_left (by simpa using hj')]
      rw [Array.getElem?_toList] at h1
      simp [h1]
    · rw [List.getElem?_append_right (by omega)] at hy
      have hk : j - ys.length < us.size := by rw [hsz]; exact (List.getElem?_eq_some_iff.1 hy).1
      have := hcap _ y hy
      refine ⟨us[j - ys.length], ?_, by simpa [Array.getD, hk] using this⟩
      have hsz' : cl.args.size = ys.length := by rw [← Array.length_toList, hlen]
      rw [Array.toList_append, List.getElem?_append_right (by simp; omega)]
      simp [hsz', hk]
  refine ⟨us, hus, ?_, fun j y hy => let ⟨v, _, h⟩ := hall.2 j y hy; ⟨v, h⟩⟩
  obtain ⟨h1, h2⟩ := lendsR_rel hM hz hall
  refine ⟨by rw [h1]; simp, ?_⟩
  intro j y hy
  obtain ⟨v, hv, hr⟩ := h2 j y hy
  have hlt : j < (cl.args.map a.eval ++ us).toList.length := (List.getElem?_eq_some_iff.1 hv).1
  have : (cl.args.map a.eval ++ us).getD j undef = v := by
    rw [Array.getElem?_toList] at hv
    simp only [Array.getD_eq_getD_getElem?, hv, Option.getD_some]
  rw [this]
  exact hr

theorem idss_get {r : Nat} : ∀ {l : List AV}, r ∈ AV.idss l → ∃ (j : Nat) (y : AV), l[j]? = some y ∧ r ∈ y.ids
  | [], h => by simp [AV.idss] at h
  | x :: l, h => by
    simp only [AV.idss, List.mem_append] at h
    rcases h with h | h
    · exact ⟨0, x, rfl, h⟩
    · obtain ⟨j, y, h1, h2⟩ := idss_get h
      exact ⟨j + 1, y, by simpa using h1, h2⟩

/-- Who is lent a row, has it. -/
theorem lendsR_rows {E : Env} {L : List Nat} : ∀ {ys zs : List AV}, LendsR E.rt L ys zs → (∀ (j : Nat) y, ys[j]? = some y → ∃ v, RelAV E y v) → ∃ L', (∀ r ∈ L', r ∈ L) ∧ (∀ r ∈ L', IsRowRoot E r) ∧ LendsR E.rt L' ys zs := by
  intro ys zs h
  induction h with
  | nil => intro _; exact ⟨[], by simp, by simp, .nil⟩
  | same t ih =>
    intro H
    obtain ⟨L', h1, h2, h3⟩ := ih (fun j y hy => H (j + 1) y (by simpa using hy))
    exact ⟨L', h1, h2, .same h3⟩
  | @lend x y L1 xs ys h hs t ih =>
    intro H
    obtain ⟨L', h1, h2, h3⟩ := ih (fun j y hy => H (j + 1) y (by simpa using hy))
    obtain ⟨v, hv⟩ := H 0 _ rfl
    refine ⟨L1 ++ L', ?_, ?_, ?_⟩
    · intro r hr
      rcases List.mem_append.1 hr with hr | hr
      · exact hs r hr
      · exact h1 r hr
    · intro r hr
      rcases List.mem_append.1 hr with hr | hr
      · exact lendA_rows hv h r hr
      · exact h2 r hr
    · have mono : ∀ {L1 L2 : List Nat} {a b : List AV}, LendsR E.rt L1 a b → (∀ r ∈ L1, r ∈ L2) → LendsR E.rt L2 a b := by
        intro L1 L2 a b h
        induction h with
        | nil => intro _; exact .nil
        | same t ih => intro hh; exact .same (ih hh)
        | lend h hs t ih => intro hh; exact .lend h (fun r hr => hh r (hs r hr)) (ih hh)
      exact .lend h (fun r hr => by simp [hr]) (mono h3 (fun r hr => by simp [hr]))

/-- A call of a function that reads its arguments alone: what was lent is given back. -/
theorem OpSem.pure {x : Operand} {f : FuncId} {caps ys as : List AV} {L : List Nat} (ho : ops[i]? = some o) (hg : guardV ops o sl = some true) (hop : o.op = .call cl) (hc : cl.callee = .value x) (hx : opd0 sl x = .clo f caps)
    (ha : ArgR sl cl.args.toList ys) (hl : AV.lendAs rt (ys ++ caps) = some (as, L)) (he : Entered P f) (hcall : CallOk P f as [] o0) (hren : o0.ren (callRen [] nb o0.new.length) = some out) (hog : out.g = [])
    (hfa : out.av.flat = true) (hfn : out.new.all Root.flat = true) : OpSem P ops i (AV.idss (ys ++ caps)) sl rt nb out := by
  refine ⟨o, ho, ?_⟩
  intro c E a hM hlk hT hnb hF K Q k
  unfold wpOp
  rw [ho]
  simp only [guardV_wanted hlk hg, if_true]
  left
  obtain ⟨hl', hL⟩ := lendAs_agr hT hl
  obtain ⟨us, hus, hargs, hex⟩ := call_args hM hlk hop hc hx ha (LendsR.of hl' (L := L) (fun r hr => hr))
  have hrows : ∀ r ∈ L, IsRowRoot E r := by
    intro r hr
    exact lendAs_rows_aux (E := E) (fun j y hy {y'} {L'} h => let ⟨v, hv⟩ := hex j y hy; lendA_rows hv h) hl' r hr
  have hM' := lent_mem hM hrows
  have hF' : Fresh c (E.lent L) nb out.new := by
    refine ⟨hF.m, ?_, hF.np⟩
    intro k R hk
    show (if nb + k ∈ L then (E.rt (nb + k)).map froz else E.rt (nb + k)) = some R
    rw [if_neg]
    · exact hF.rt k R hk
    · intro hmem
      exact hF.np k (List.getElem?_eq_some_iff.1 hk).1 (hrows _ hmem).1
  have hnew : rootsRen (callRen [] nb o0.new.length) o0.new = some out.new := by
    unfold Out.ren at hren
    obtain ⟨av, _, hren⟩ := Option.bind_eq_some_iff.1 hren
    obtain ⟨new, hnew, hren⟩ := Option.bind_eq_some_iff.1 hren
    obtain ⟨g, _, rfl⟩ := Option.map_eq_some_iff.1 hren
    exact hnew
  have H : Handed (E.lent L) [] nb [] o0.new out.new := ⟨rfl, by simp, by simp, by simp, by simp, hnew⟩
  have key := CallOk.at hM' hcall hF' H hren (lendAs_ren _ hl) hargs
  unfold Oper.wp
  rw [run_call hop hc hus he]
  show Calls P f _ E.w _
  refine Calls.mono key ?_
  rintro e w' ⟨v, E1, rfl, rfl, hO, hkeep⟩
  exact k v (E.unlent E1) (unlent hM hrows hF hog hfa hfn (fun b hb => hkeep b hb (by simp)) hO)

/-- A call in general: roots are handed over; rows are lent for good. -/
theorem OpSem.call {x : Operand} {f : FuncId} {caps ys zs as : List AV} {L π : List Nat} {r0 : List Root} (ho : ops[i]? = some o) (hg : guardV ops o sl = some true) (hop : o.op = .call cl) (hc : cl.callee = .value x) (hx : opd0 sl x = .clo f caps)
    (ha : ArgR sl cl.args.toList ys) (hz : LendsR rt L (ys ++ caps) zs) (hL : ∀ r ∈ L, r ∈ AV.idss (ys ++ caps) ∧ ∃ sz xs, rt r = some (.row sz false xs)) (he : Entered P f) (has : AV.rens (callRen π nb o0.new.length) as = some zs) (hcall : CallOk P f as r0 o0)
    (hren : o0.ren (callRen π nb o0.new.length) = some out) (hlen : π.length = r0.length) (hnd : π.Nodup) (hlt : ∀ r ∈ π, r < nb) (hdis : ∀ r ∈ π, r ∉ L) (hin : ∀ r ∈ π, r ∈ AV.idss (ys ++ caps))
    (hrt : ∀ (j : Nat) r R, π[j]? = some r → r0[j]? = some R → ∃ R', rt r = some R' ∧ R ≠ .dead ∧ R.ren (callRen π nb o0.new.length) = some R') :
    OpSem P ops i (AV.idss (ys ++ caps)) sl rt nb ⟨out.av, out.new, out.g ++ frzG rt L⟩ := by
  refine ⟨o, ho, ?_⟩
  intro c E a hM hlk hT hnb hF K Q k
  unfold wpOp
  rw [ho]
  simp only [guardV_wanted hlk hg, if_true]
  left
  have hz' := hz.agr hT
  obtain ⟨us, hus, hargs, hex⟩ := call_args hM hlk hop hc hx ha hz'
  have hEq : ∀ r ∈ AV.idss (ys ++ caps), (∃ R, rt r = some R) → E.rt r = rt r := by
    rintro r hr ⟨R, hR⟩
    rcases hT r hr with h | h
    · rw [h] at hR; cases hR
    · exact h
  have hpr : ∀ r ∈ AV.idss (ys ++ caps), ∀ R, E.rt r = some R → R ≠ .dead → E.pres r := by
    intro r hr R hR hd
    obtain ⟨j, y, hy, hmem⟩ := idss_get hr
    obtain ⟨v, hv⟩ := hex j y hy
    exact pres_of_ids hv hmem hR hd
  have hrows : ∀ r ∈ L, IsRowRoot E r := by
    intro r hr
    obtain ⟨h1, sz, xs, h2⟩ := hL r hr
    have h3 : E.rt r = some (.row sz false xs) := (hEq r h1 ⟨_, h2⟩).trans h2
    exact ⟨hpr r h1 _ h3 (by simp), sz, false, xs, h3⟩
  have hM' := lent_mem hM hrows
  have hF' : Fresh c (E.lent L) nb out.new := by
    refine ⟨hF.m, ?_, hF.np⟩
    intro k R hk
    show (if nb + k ∈ L then (E.rt (nb + k)).map froz else E.rt (nb + k)) = some R
    rw [if_neg]
    · exact hF.rt k R hk
    · intro hmem
      exact hF.np k (List.getElem?_eq_some_iff.1 hk).1 (hrows _ hmem).1
  have hnew : rootsRen (callRen π nb o0.new.length) o0.new = some out.new := by
    unfold Out.ren at hren
    obtain ⟨av, _, hren⟩ := Option.bind_eq_some_iff.1 hren
    obtain ⟨new, hnew, hren⟩ := Option.bind_eq_some_iff.1 hren
    obtain ⟨g, _, rfl⟩ := Option.map_eq_some_iff.1 hren
    exact hnew
  have H : Handed (E.lent L) π nb r0 o0.new out.new := by
    refine ⟨hlen, hnd, hlt, ?_, ?_, hnew⟩
    · intro r hr
      obtain ⟨j, hj, hgj⟩ := List.getElem_of_mem hr
      have hlt0 : j < r0.length := by rw [← hlen]; exact hj
      obtain ⟨R', h1, hd, h2⟩ := hrt j r r0[j] (List.getElem?_eq_some_iff.2 ⟨hj, hgj⟩) (List.getElem?_eq_getElem hlt0)
      have h3 : E.rt r = some R' := (hEq r (hin r hr) ⟨_, h1⟩).trans h1
      exact hpr r (hin r hr) R' h3 (fun e => hd ((ren_dead h2).1 e))
    · intro j r R hj hR
      obtain ⟨R', h1, _, h2⟩ := hrt j r R hj hR
      have hr := List.mem_of_getElem? hj
      refine ⟨R', ?_, h2⟩
      show (if r ∈ L then (E.rt r).map froz else E.rt r) = some R'
      rw [if_neg (hdis r hr)]
      exact (hEq r (hin r hr) ⟨_, h1⟩).trans h1
  have key := CallOk.at hM' hcall hF' H hren has hargs
  unfold Oper.wp
  rw [run_call hop hc hus he]
  show Calls P f _ E.w _
  refine Calls.mono key ?_
  rintro e w' ⟨v, E1, rfl, rfl, hO, _⟩
  refine k v E1 ⟨hO.mem, lent_step.trans hO.step, ?_, hO.pres, hO.size, hO.rel⟩
  rw [hO.rt, updG_append, frzG_lent L (fun r hr => ⟨hrows r hr, ?_⟩)]
  obtain ⟨h1, sz, xs, h2⟩ := hL r hr
  exact (hEq r h1 ⟨_, h2⟩).symm
end
end Go.Proofs.Ytamdgfklbjoaiaa.Ab

namespace Go.Proofs.Ytamdgfklbjoaiaa.Ab
open Go

/-! The rules by which code is gone through. -/
structure St where
  sl : Nat → AV
  rt : List Root

def setS (sl : Nat → AV) (d : Nat) (x : AV) : Nat → AV := fun t => if t = d then x else sl t

def updL : List (Nat × Root) → List Root → List Root
  | [], l => l
  | (r, R) :: g, l => (updL g l).set r R

def St.look (st : St) : Nat → Option Root := fun r => st.rt[r]?

def St.put (st : St) (dst : Option Tmp) (out : Out) : St :=
  ⟨match dst with | some d => setS st.sl d out.av | none => st.sl, updL out.g (st.rt ++ out.new)⟩

theorem updL_len : ∀ (g : List (Nat × Root)) (l : List Root), (updL g l).length = l.length
  | [], _ => rfl
  | (r, R) :: g, l => by simp [updL, updL_len g l]

theorem updL_get : ∀ (g : List (Nat × Root)) (l : List Root), (∀ p ∈ g, p.1 < l.length) → ∀ (x : Nat), (updL g l)[x]? = updG g (fun r => l[r]?) x
  | [], _, _, _ => rfl
  | (r, R) :: g, l, h, x => by
    simp only [updL, updG]
    rw [List.getElem?_set, updL_len, updL_get g l (fun p hp => h p (by simp [hp])) x]
    have := h (r, R) (by simp)
    by_cases e : r = x
    · subst e; simp [this]
    · rw [if_neg e, if_neg (fun e' => e e'.symm)]

/-- Of a step: what is told of the first m roots, and of what is only read. -/
structure StepP (m : Nat) (E E' : Env) : Prop where
  rt : ∀ r R, r < m → E.rt r = some R → ∃ R', E'.rt r = some R' ∧ (R' = .dead ∨ R'.kind = R.kind)
  pres : ∀ r, r < m → E.pres r → E'.pres r
  β : ∀ r, r < m → E.pres r → E'.β r = E.β r
  S : ∀ b, E.S b → E'.S b
  heap : ∀ b, E.S b → E'.w.heap[b]? = E.w.heap[b]?
  shape : ∀ b s, E.w.shape? b = some s → E'.w.shape? b = some s

theorem Step.toP {m : Nat} {E E' : Env} (h : Step E E') : StepP m E E' := ⟨fun r R _ hR => h.rt r R hR, fun r _ hr => h.pres r hr, fun r _ hr => h.β r hr, h.S, h.heap, h.shape⟩

theorem StepP.trans {m : Nat} {A B C : Env} (h : StepP m A B) (k : Step B C) : StepP m A C where
  rt := fun r R hr hR => by
    obtain ⟨R1, h1, e1⟩ := h.rt r R hr hR
    obtain ⟨R2, h2, e2⟩ := k.rt r R1 h1
    refine ⟨R2, h2, ?_⟩
    rcases e2 with e2 | e2
    · exact .inl e2
    · rcases e1 with e1 | e1
      · subst e1
        cases R2 with
        | row => simp [Root.kind] at e2
        | buf => simp [Root.kind] at e2
        | box => simp [Root.kind] at e2
        | dead => exact .inl rfl
      · exact .inr (e2.trans e1)
  pres := fun r hr hp => k.pres r (h.pres r hr hp)
  β := fun r hr hp => (k.β r (h.pres r hr hp)).trans (h.β r hr hp)
  S := fun b hb => k.S b (h.S b hb)
  heap := fun b hb => (k.heap b (h.S b hb)).trans (h.heap b hb)
  shape := fun b s hs => k.shape b s (h.shape b s hs)

/-- The machine's state is told by an abstract one. -/
def Holds (c : Ctx) (Ei : Env) (N : Nat) (st : St) (a : Act) (w : World) : Prop :=
  ∃ E : Env, E.w = w ∧ Mem c E ∧ StepP c.m Ei E ∧ E.rt = st.look ∧ (∀ r, E.pres r ↔ r < st.rt.length) ∧ (∀ t, RelAV E (st.sl t) (a.eval (.tmp t))) ∧ a.defers = [] ∧ a.tmps.size = N ∧ c.m ≤ st.rt.length

def Post (c : Ctx) (Ei : Env) (N : Nat) (Q : Exit → St → Prop) : Exit → Act → World → Prop := fun e a w => ∃ st, Q e st ∧ Holds c Ei N st a w

/-- Code that leads from the abstract state to what is asked. -/
def AW (P : Program) (N : Nat) (code : Code) (Q : Exit → St → Prop) (st : St) : Prop :=
  ∀ c Ei a w, Holds c Ei N st a w → code.wp P (Post c Ei N Q) a w

def OpsW (P : Program) (N : Nat) (ops : Array Oper) (l : List Nat) (Q : Exit → St → Prop) (st : St) : Prop :=
  ∀ c Ei a w, Holds c Ei N st a w → wpOps P ops (Post c Ei N Q) l a w

section
variable {P : Program} {N : Nat} {Q : Exit → St → Prop} {st : St}

theorem Act.size_put (a : Act) (d : Option Tmp) (v : Value) : (a.put d v).tmps.size = a.tmps.size := by cases d <;> simp [Act.put]

theorem Step.grown {E : Env} {rt : Nat → Option Root} (h : ∀ r R, E.rt r = some R → rt r = some R) : Step E { E with rt := rt } where
  rt := fun r R hr => ⟨R, h r R hr, .inr rfl⟩
  pres := fun _ h => h
  β := fun _ _ => rfl
  S := fun _ h => h
  heap := fun _ _ => rfl
  shape := fun _ _ h => h

theorem least {p : Nat → Prop} : ∀ (n : Nat), p n → ∃ k, p k ∧ ∀ m, p m → k ≤ m := by
  intro n
  induction n using Nat.strongRecOn with
  | _ n ih =>
    intro hn
    by_cases h : ∃ m, m < n ∧ p m
    · obtain ⟨m, hm, hp⟩ := h
      exact ih m hm hp
    · exact ⟨n, hn, fun m hm => Nat.le_of_not_lt fun hlt => h ⟨m, hlt, hm⟩⟩

theorem RelAV.grown {E : Env} {rt : Nat → Option Root} (h : ∀ r R, E.rt r = some R → rt r = some R) {x : AV} {v : Value} (hx : RelAV E x v) : RelAV { E with rt := rt } x v :=
  hx.step (Step.grown h)

theorem Mem.grown {c : Ctx} {E : Env} {rt : Nat → Option Root} (hM : Mem c E) (h : ∀ r R, E.rt r = some R → rt r = some R) (h' : ∀ r R, E.pres r → rt r = some R → E.rt r = some R) : Mem c { E with rt := rt } where
  os := hM.os
  output := hM.output
  tape := hM.tape
  size := hM.size
  keep := hM.keep
  shape := hM.shape
  s0 := hM.s0
  slt := hM.slt
  snew := hM.snew
  blt := hM.blt
  bown := fun r R b hp hR => hM.bown r R b hp (h' r R hp hR)
  bkeep := fun r R hlt hp hR => hM.bkeep r R hlt hp (h' r R hp hR)
  inj := fun r r' R R' b hp hp' hR hd hR' => hM.inj r r' R R' b hp hp' (h' r R hp hR) hd (h' r' R' hp' hR')
  roots := fun r R hp hR => (hM.roots r R hp (h' r R hp hR)).step (Step.grown h) hp (fun _ _ => rfl) (fun _ _ h => h)

/-- One operation, in the text's order. -/
theorem OpsW.cons {ops : Array Oper} {i : Nat} {rest : List Nat} {o : Oper} {T : List Nat} {out : Out} (ho : ops[i]? = some o) (hd : ∀ d, o.dst = some d → d < N) (hg : ∀ p ∈ out.g, p.1 < st.rt.length + out.new.length)
    (h : OpSem P ops i T st.sl st.look st.rt.length out) (k : OpsW P N ops rest Q (st.put o.dst out)) : OpsW P N ops (i :: rest) Q st := by
  intro c Ei a w hH
  obtain ⟨E, rfl, hM, hSt, hrt, hpr, hsl, hdef, hsz, hm⟩ := hH
  obtain ⟨o', ho', H⟩ := h
  rw [ho] at ho'
  obtain rfl := Option.some.inj ho'
  rw [wpOps_cons]
  let rt' : Nat → Option Root := fun r => (st.rt ++ out.new)[r]?
  have hg1 : ∀ r R, E.rt r = some R → rt' r = some R := by
    intro r R hR
    rw [hrt] at hR
    have hR' : st.rt[r]? = some R := hR
    show (st.rt ++ out.new)[r]? = some R
    rw [List.getElem?_append_left (List.getElem?_eq_some_iff.1 hR').1]
    exact hR'
  have hg2 : ∀ r R, E.pres r → rt' r = some R → E.rt r = some R := by
    intro r R hp hR
    rw [hpr] at hp
    rw [hrt]
    have hR' : (st.rt ++ out.new)[r]? = some R := hR
    rwa [List.getElem?_append_left hp] at hR'
  have hM' := hM.grown hg1 hg2
  have hlk : Looks { E with rt := rt' } ops o st.sl a := fun t _ => (hsl t).grown hg1
  refine H c { E with rt := rt' } a hM' hlk ?_ ?_ ?_ _ _ ?_
  · intro r _
    cases hr : st.look r with
    | none => exact .inl rfl
    | some R => exact .inr (hg1 r R (by rw [hrt]; exact hr))
  · exact .inl (List.getElem?_eq_none (Nat.le_refl _))
  · refine ⟨hm, ?_, ?_⟩
    · intro k R hk
      show (st.rt ++ out.new)[st.rt.length + k]? = some R
      rw [List.getElem?_append_right (by omega)]
      simpa using hk
    · intro k _ hp
      have := (hpr _).1 hp
      omega
  · intro v E' hO
    refine k c Ei (a.put o.dst v) E'.w ⟨E', rfl, hO.mem, hSt.trans ((Step.grown hg1).trans hO.step), ?_, ?_, ?_, ?_, ?_, ?_⟩
    · rw [hO.rt]
      funext x
      exact (updL_get out.g _ (by simpa using hg) x).symm
    · intro r
      rw [hO.pres]
      simp only [hpr, St.put, updL_len, List.length_append]
      omega
    · intro t
      have old : RelAV E' (st.sl t) (a.eval (.tmp t)) := ((hsl t).grown hg1).step hO.step
      cases hdst : o.dst with
      | none => simpa [Act.put, St.put, hdst] using old
      | some d =>
        have hdN := hd d hdst
        show RelAV E' (setS st.sl d out.av t) ((a.put (some d) v).eval (.tmp t))
        unfold setS
        split
        · rename_i e
          subst e
          have : (a.put (some t) v).eval (.tmp t) = v := by simp [Act.put, Act.eval, hsz, hdN]
          rw [this]
          exact hO.rel
        · rename_i e
          have : (a.put (some d) v).eval (.tmp t) = a.eval (.tmp t) := Act.eval_put (fun d' hd' => by
            obtain rfl := Option.some.inj hd'
            intro he
            exact e (by simpa using he))
          rw [this]
          exact old
    · cases o.dst <;> exact hdef
    · rw [Act.size_put]; exact hsz
    · simp only [St.put, updL_len, List.length_append]; omega

theorem OpsW.nil {ops : Array Oper} (h : Q .normal st) : OpsW P N ops [] Q st := fun _ _ _ _ hH => ⟨st, h, hH⟩

/-- A region in the text's order. -/
theorem AW.region {id : Nat} {ops : Array Oper} (h : OpsW P N ops (List.range ops.size) Q st) : AW P N (.region id ops false) Q st :=
  fun c Ei a w hH => wp_region (h c Ei a w hH)

def Exit.thenQ (K : St → Prop) (Q : Exit → St → Prop) : Exit → St → Prop
  | .normal, st => K st
  | e, st => Q e st

theorem AW.seq {x y : Code} (h : AW P N x (Exit.thenQ (AW P N y Q) Q) st) : AW P N (.seq x y) Q st := by
  intro c Ei a w hH
  refine wp_seq (wp_mono (h c Ei a w hH) ?_)
  rintro e a' w' ⟨st', hq, hH'⟩
  cases e with
  | normal => exact hq c Ei a' w' hH'
  | _ => exact ⟨st', hq, hH'⟩

theorem AW.skip (h : Q .normal st) : AW P N .skip Q st := fun _ _ _ _ hH => wp_skip ⟨st, h, hH⟩
theorem AW.ret (h : Q .ret st) : AW P N .ret Q st := fun _ _ _ _ hH => wp_ret ⟨st, h, hH⟩
theorem AW.exit {id : Nat} (h : Q (.exit id) st) : AW P N (.exit id) Q st := fun _ _ _ _ hH => wp_exit ⟨st, h, hH⟩
theorem AW.label {l : Nat} (h : Q .normal st) : AW P N (.label l) Q st := fun _ _ _ _ hH => wp_label ⟨st, h, hH⟩

theorem holds_opd0 {c : Ctx} {Ei : Env} {a : Act} {w : World} (hH : Holds c Ei N st a w) (x : Operand) : ∃ E : Env, RelAV E (opd0 st.sl x) (a.eval x) := by
  obtain ⟨E, _, _, _, _, _, hsl, _⟩ := hH
  exact ⟨E, opd0_rel ⟨hsl, fun _ => rfl, fun _ => rfl⟩ x⟩

theorem AW.cond {x : Operand} {t e : Code} {b : Bool} (hx : opd0 st.sl x = .d (.sc (.bool b))) (h1 : b = true → AW P N t Q st) (h2 : b = false → AW P N e Q st) : AW P N (.cond x t e) Q st := by
  intro c Ei a w hH
  obtain ⟨E, hr⟩ := holds_opd0 hH x
  rw [hx] at hr
  have hv : a.eval x = .bool b := sc_rel hr
  cases b with
  | true => exact wp_cond_true hv (h1 rfl c Ei a w hH)
  | false => exact wp_cond_false hv (h2 rfl c Ei a w hH)

theorem AW.condAny {x : Operand} {t e : Code} {p : Bool} (hx : opd0 st.sl x = .anyb p) (h1 : p = true → AW P N t Q st) (h2 : AW P N e Q st) : AW P N (.cond x t e) Q st := by
  intro c Ei a w hH
  obtain ⟨E, hr⟩ := holds_opd0 hH x
  rw [hx] at hr
  have hv : ∃ b, a.eval x = .bool b ∧ (b = true → p = true) := by
    generalize a.eval x = v at hr
    cases hr with
    | anyb _ b h => exact ⟨b, rfl, h⟩
  obtain ⟨b, hv, hb⟩ := hv
  cases b with
  | true => exact wp_cond_true hv (h1 (hb rfl) c Ei a w hH)
  | false => exact wp_cond_false hv (h2 c Ei a w hH)

def Exit.blockQ (id : Nat) (Q : Exit → St → Prop) : Exit → St → Prop
  | .exit id', st => if id' = id then Q .normal st else Q (.exit id') st
  | e, st => Q e st

theorem AW.block {id : Nat} {x : Code} (h : AW P N x (Exit.blockQ id Q) st) : AW P N (.block id x) Q st := by
  intro c Ei a w hH
  refine wp_block (wp_mono (h c Ei a w hH) ?_)
  rintro e a' w' ⟨st', hq, hH'⟩
  cases e with
  | exit id' =>
    simp only [Exit.blockQ] at hq
    simp only [Exit.inBlock]
    split
    · rename_i e; rw [if_pos e] at hq; exact ⟨st', hq, hH'⟩
    · rename_i e; rw [if_neg e] at hq; exact ⟨st', hq, hH'⟩
  | _ => exact ⟨st', hq, hH'⟩

theorem AW.loop {x : Code} (I : Nat → St → Prop) (n : Nat) (h0 : I n st) (round : ∀ n st, I n st → AW P N x (Exit.thenQ (fun st' => ∃ n', n' < n ∧ I n' st') Q) st) : AW P N (.loop x) Q st := by
  intro c Ei a w hH
  let J : Act → World → Nat → Prop := fun a w n => ∃ st, I n st ∧ Holds c Ei N st a w
  let μ : Act → World → Nat := fun a w => open Classical in if h : ∃ k, J a w k ∧ ∀ m, J a w m → k ≤ m then h.choose else 0
  have hμ : ∀ {a w n}, J a w n → J a w (μ a w) ∧ μ a w ≤ n := by
    intro a w n h
    have hl := least n h
    have : μ a w = hl.choose := dif_pos hl
    rw [this]
    exact ⟨hl.choose_spec.1, hl.choose_spec.2 n h⟩
  refine wp_loop (fun a w => ∃ n, J a w n) μ ⟨n, st, h0, hH⟩ ?_
  rintro a w ⟨n, hn⟩
  obtain ⟨⟨st', hI, hH'⟩, _⟩ := hμ hn
  refine wp_mono (round _ st' hI c Ei a w hH') ?_
  rintro e a' w' ⟨st'', hq, hH''⟩
  cases e with
  | normal =>
    obtain ⟨n', hlt, hI'⟩ := hq
    have hJ : J a' w' n' := ⟨st'', hI', hH''⟩
    exact ⟨⟨n', hJ⟩, Nat.lt_of_le_of_lt (hμ hJ).2 hlt⟩
  | _ => exact ⟨st'', hq, hH''⟩

theorem AW.mono {x : Code} {Q' : Exit → St → Prop} (h : AW P N x Q st) (hq : ∀ e st, Q e st → Q' e st) : AW P N x Q' st :=
  fun c Ei a w hH => wp_mono (h c Ei a w hH) (fun _ _ _ ⟨st', q, h'⟩ => ⟨st', hq _ _ q, h'⟩)

/-- Slots may be forgotten. -/
theorem AW.weak {x : Code} {sl' : Nat → AV} (hs : ∀ t, sl' t = st.sl t ∨ sl' t = .junk) (h : AW P N x Q ⟨sl', st.rt⟩) : AW P N x Q st := by
  intro c Ei a w hH
  obtain ⟨E, hw, hM, hSt, hrt, hpr, hsl, hrest⟩ := hH
  refine h c Ei a w ⟨E, hw, hM, hSt, hrt, hpr, ?_, hrest⟩
  intro t
  rcases hs t with e | e
  · show RelAV E (sl' t) _
    rw [e]; exact hsl t
  · show RelAV E (sl' t) _
    rw [e]; exact .junk _
end

/-! Roots may be forgotten. -/
def Root.ids : Root → List Nat
  | .box _ l => AV.idss l
  | _ => []

def keepN (n : Nat) : Nat → Option Nat := fun r => if r < n then some r else none

mutual
theorem ren_keepN {n : Nat} : ∀ {x : AV}, (∀ r ∈ x.ids, r < n) → x.ren (keepN n) = some x
  | .d x, _ => rfl
  | .ref r o l, h => by have := h r (by simp [AV.ids]); simp [AV.ren, keepN, this]
  | .ptr r i j, h => by have := h r (by simp [AV.ids]); simp [AV.ren, keepN, this]
  | .rptr cs, _ => rfl
  | .agg l, h => by simp [AV.ren, rens_keepN (x := l) (by simpa [AV.ids] using h)]
  | .tup l, h => by simp [AV.ren, rens_keepN (x := l) (by simpa [AV.ids] using h)]
  | .clo g l, h => by simp [AV.ren, rens_keepN (x := l) (by simpa [AV.ids] using h)]
  | .anyb p, _ => rfl
  | .junk, _ => rfl
theorem rens_keepN {n : Nat} : ∀ {x : List AV}, (∀ r ∈ AV.idss x, r < n) → AV.rens (keepN n) x = some x
  | [], _ => rfl
  | x :: l, h => by
    have h1 := ren_keepN (n := n) (x := x) (fun r hr => h r (by simp [AV.idss, hr]))
    have h2 := rens_keepN (n := n) (x := l) (fun r hr => h r (by simp [AV.idss, hr]))
    simp [AV.rens, h1, h2]
end

theorem rootRen_keepN {n : Nat} {R : Root} (h : ∀ r ∈ R.ids, r < n) : R.ren (keepN n) = some R := by
  cases R with
  | row => rfl
  | buf => rfl
  | box t l => simp [Root.ren, rens_keepN (x := l) (by simpa [Root.ids] using h)]
  | dead => rfl

theorem Holds.drop {c : Ctx} {Ei : Env} {N : Nat} {st : St} {a : Act} {w : World} (h : Holds c Ei N st a w) {n : Nat} {sl' : Nat → AV} (hm : c.m ≤ n) (hn : n ≤ st.rt.length) (hs : ∀ t, sl' t = .junk ∨ (sl' t = st.sl t ∧ ∀ r ∈ (sl' t).ids, r < n))
    (hr : ∀ (r : Nat) R, r < n → st.rt[r]? = some R → ∀ i ∈ R.ids, i < n) : Holds c Ei N ⟨sl', st.rt.take n⟩ a w := by
  obtain ⟨E, rfl, hM, hSt, hrt, hpr, hsl, hdef, hsz, _⟩ := h
  have up : ∀ {r}, r < n → E.pres r := fun hr => (hpr _).2 (by omega)
  have e : ∀ {r R}, r < n → (if r < n then E.rt r else none) = some R → E.rt r = some R := by
    intro r R hr h
    rwa [if_pos hr] at h
  let E' : Env := ⟨fun r => if r < n then E.rt r else none, fun r => r < n, E.β, E.S, E.w⟩
  have hC : Conn (keepN n) E E' := by
    refine ⟨rfl, fun _ h => h, ?_, ?_, ?_⟩
    · intro r r' h
      obtain ⟨hr, h⟩ := Option.ite_none_right_eq_some.1 h
      obtain rfl := Option.some.inj h
      show Option.map Root.kind (if r < n then E.rt r else none) = _
      rw [if_pos hr]
    · intro r r' h
      obtain ⟨hr, h⟩ := Option.ite_none_right_eq_some.1 h
      obtain rfl := Option.some.inj h
      exact ⟨fun _ => up hr, fun _ => hr⟩
    · intro r r' h _
      obtain ⟨hr, h⟩ := Option.ite_none_right_eq_some.1 h
      obtain rfl := Option.some.inj h
      rfl
  have hM' : Mem c E' := {
    os := hM.os
    output := hM.output
    tape := hM.tape
    size := hM.size
    keep := hM.keep
    shape := hM.shape
    s0 := hM.s0
    slt := hM.slt
    snew := hM.snew
    blt := fun r b hp => hM.blt r b (up hp)
    bown := fun r R b hp hR => hM.bown r R b (up hp) (e hp hR)
    bkeep := fun r R hlt hp hR => hM.bkeep r R hlt (up hp) (e hp hR)
    inj := fun r r' R R' b hp hp' hR hd hR' => hM.inj r r' R R' b (up hp) (up hp') (e hp hR) hd (e hp' hR')
    roots := by
      intro r R hp hR
      have hR0 := e hp hR
      have hlook : st.rt[r]? = some R := by rw [hrt] at hR0; exact hR0
      exact RootRel.conn hC (fun _ h => h) (show keepN n r = some r from if_pos hp) (up hp) (rootRen_keepN (hr r R hp hlook)) (hM.roots r R (up hp) hR0) }
  refine ⟨E', rfl, hM', ?_, ?_, ?_, ?_, hdef, hsz, ?_⟩
  · refine ⟨?_, fun r hr _ => Nat.lt_of_lt_of_le hr hm, fun r hr hp => hSt.β r hr hp, hSt.S, hSt.heap, hSt.shape⟩
    intro r R hr hR
    obtain ⟨R', h1, h2⟩ := hSt.rt r R hr hR
    refine ⟨R', ?_, h2⟩
    show (if r < n then E.rt r else none) = _
    rw [if_pos (by omega)]
    exact h1
  · funext r
    show (if r < n then E.rt r else none) = (st.rt.take n)[r]?
    rw [List.getElem?_take]
    split
    · rw [hrt]; rfl
    · rfl
  · intro r
    show r < n ↔ r < (st.rt.take n).length
    rw [List.length_take]
    omega
  · intro t
    show RelAV E' (sl' t) _
    rcases hs t with h | ⟨h1, h2⟩
    · rw [h]; exact .junk _
    · exact RelAV.conn hC (by rw [h1]; exact hsl t) (ren_keepN h2)
  · show c.m ≤ (st.rt.take n).length
    rw [List.length_take]
    omega
end Go.Proofs.Ytamdgfklbjoaiaa.Ab

namespace Go.Proofs.Ytamdgfklbjoaiaa.Ab
open Go

/-! The end of a function: what the caller gets. -/
def posOf : List Nat → Nat → Nat → Option Nat
  | [], _, _ => none
  | i :: ids, r, k => if i = r then some k else posOf ids r (k + 1)

/-- The roots that are handed out: those that were handed in, and new ones. -/
def finRen (m : Nat) (ids : List Nat) : Nat → Option Nat := fun r => if r < m then some r else posOf ids r m

def keepRen (m : Nat) : Nat → Option Nat := fun r => if r < m then some r else none

def resOne (P : Program) (st : St) : ResultVar → Option AV
  | .tmp t => some (st.sl t)
  | .cell a t => (aggT P t).bind fun g => (szT P t).bind fun n => evLoad st.look n g (st.sl a)

def resAll (P : Program) (st : St) : List ResultVar → Option (List AV)
  | [] => some []
  | x :: l => (resOne P st x).bind fun y => (resAll P st l).map (y :: ·)

def resAV : List AV → AV
  | [x] => x
  | l => .tup l

/-- What is handed out at the end. -/
def FinOk (P : Program) (rs : Array ResultVar) (r0 : List Root) (o : Out) (st : St) : Prop :=
  ∃ ids l, resAll P st rs.toList = some l ∧ (resAV l).ren (finRen r0.length ids) = some o.av ∧ (∀ i ∈ ids, r0.length ≤ i) ∧ ids.Nodup ∧
    ids.length = o.new.length ∧ (∀ (k : Nat) i R, ids[k]? = some i → o.new[k]? = some R → ∃ R0, st.rt[i]? = some R0 ∧ R0.ren (finRen r0.length ids) = some R) ∧
    (∀ (r : Nat) R, r0[r]? = some R → ∃ R0 R1, st.rt[r]? = some R0 ∧ R0.ren (finRen r0.length ids) = some R1 ∧ updG o.g (fun r => r0[r]?) r = some R1) ∧ (∀ p ∈ o.g, p.1 < r0.length)

theorem posOf_some : ∀ {ids : List Nat} {r k x : Nat}, posOf ids r k = some x → k ≤ x ∧ ids[x - k]? = some r
  | [], r, k, x, h => by simp [posOf] at h
  | i :: ids, r, k, x, h => by
    simp only [posOf] at h
    split at h
    · rename_i e
      obtain rfl := Option.some.inj h
      simp [e]
    · obtain ⟨h1, h2⟩ := posOf_some h
      refine ⟨by omega, ?_⟩
      rw [show x - k = (x - (k + 1)) + 1 by omega]
      simpa using h2

theorem posOf_get : ∀ {ids : List Nat} {r k j : Nat}, ids.Nodup → ids[j]? = some r → posOf ids r k = some (k + j)
  | [], r, k, j, _, h => by simp at h
  | i :: ids, r, k, j, hn, h => by
    simp only [posOf]
    cases j with
    | zero => simp at h; subst h; simp
    | succ j =>
      simp at h
      have hne : ¬ i = r := by
        rintro rfl
        exact (List.nodup_cons.1 hn).1 (List.mem_of_getElem? h)
      rw [if_neg hne, posOf_get (List.nodup_cons.1 hn).2 h]
      congr 1
      omega

section
variable {P : Program} {c : Ctx} {E : Env}

theorem run_mapM_list {α : Type} {g : α → Sem Value} {w : World} : ∀ {rs : List α} {vs : List Value}, rs.length = vs.length →
    (∀ (k : Nat) x v, rs[k]? = some x → vs[k]? = some v → (g x).run P w = .ok v w) → (rs.mapM g).run P w = .ok vs w
  | [], [], _, _ => by simp
  | x :: rs, v :: vs, hl, h => by
    have h0 := h 0 x v rfl rfl
    have ih := run_mapM_list (rs := rs) (vs := vs) (by simpa using hl) (fun k y u hy hu => h (k + 1) y u (by simpa using hy) (by simpa using hu))
    rw [List.mapM_cons]
    simp [h0, ih]
  | [], _ :: _, hl, _ => by simp at hl
  | _ :: _, [], hl, _ => by simp at hl

theorem resOne_rel (hM : Mem c E) {st : St} {a : Act} (hrt : E.rt = st.look) (hsl : ∀ t, RelAV E (st.sl t) (a.eval (.tmp t))) {x : ResultVar} {y : AV} (h : resOne P st x = some y) :
    ∃ v, (match x with | .tmp t => pure (a.tmps.getD t undef) | .cell b t => do loadVar t (← asAddr (a.tmps.getD b undef)) : Sem Value).run P E.w = .ok v E.w ∧ RelAV E y v := by
  cases x with
  | tmp t =>
    simp only [resOne, Option.some.injEq] at h
    subst h
    exact ⟨_, rfl, hsl t⟩
  | cell b t =>
    simp only [resOne] at h
    obtain ⟨g, hg, h⟩ := Option.bind_eq_some_iff.1 h
    obtain ⟨n, hn, h⟩ := Option.bind_eq_some_iff.1 h
    rw [← hrt] at h
    have hr := hsl b
    obtain ⟨u, hu, hur⟩ := evLoad_sound hM hg hn hr h
    refine ⟨u, ?_, hur⟩
    have hv : ∃ ad : Addr, a.eval (.tmp b) = .pointer (some ad) ∧ (Instr.loadAt t (.pointer (some ad))).run P E.w = (loadVar t ad).run P E.w := by
      generalize hx : st.sl b = z at hr h
      generalize hy : a.eval (.tmp b) = v at hr
      cases hr with
      | ptr => exact ⟨_, rfl, by simp [Instr.loadAt, Instr.sureAddr]⟩
      | rptr => exact ⟨_, rfl, by simp [Instr.loadAt, Instr.sureAddr]⟩
      | dptr _ _ _ _ h1 => simp [evLoad, h1] at h
      | _ => simp [evLoad] at h
    obtain ⟨ad, h1, h2⟩ := hv
    rw [h1] at hu
    rw [h2] at hu
    have h1' : a.tmps.getD b undef = .pointer (some ad) := h1
    simp only [h1']
    simpa [asAddr] using hu

theorem resAll_rel (hM : Mem c E) {st : St} {a : Act} (hrt : E.rt = st.look) (hsl : ∀ t, RelAV E (st.sl t) (a.eval (.tmp t))) : ∀ {rs : List ResultVar} {l : List AV}, resAll P st rs = some l →
    ∃ vs : List Value, rs.length = vs.length ∧ l.length = vs.length ∧ (∀ (k : Nat) x v, rs[k]? = some x → vs[k]? = some v → (match x with | .tmp t => pure (a.tmps.getD t undef) | .cell b t => do loadVar t (← asAddr (a.tmps.getD b undef)) : Sem Value).run P E.w = .ok v E.w) ∧
      ∀ (k : Nat) y v, l[k]? = some y → vs[k]? = some v → RelAV E y v
  | [], l, h => by simp [resAll] at h; subst h; exact ⟨[], rfl, rfl, by simp, by simp⟩
  | x :: rs, l, h => by
    simp only [resAll] at h
    obtain ⟨y, hy, h⟩ := Option.bind_eq_some_iff.1 h
    obtain ⟨l', hl, rfl⟩ := Option.map_eq_some_iff.1 h
    obtain ⟨v, hv, hr⟩ := resOne_rel hM hrt hsl hy
    obtain ⟨vs, h1, h2, h3, h4⟩ := resAll_rel hM hrt hsl hl
    refine ⟨v :: vs, by simp [h1], by simp [h2], ?_, ?_⟩
    · intro k x' v' hx' hv'
      cases k with
      | zero => simp at hx' hv'; subst hx' hv'; exact hv
      | succ k => exact h3 k x' v' (by simpa using hx') (by simpa using hv')
    · intro k y' v' hy' hv'
      cases k with
      | zero => simp at hy' hv'; subst hy' hv'; exact hr
      | succ k => exact h4 k y' v' (by simpa using hy') (by simpa using hv')

theorem results_rel (hM : Mem c E) {fn : Func} {st : St} {a : Act} (hrt : E.rt = st.look) (hsl : ∀ t, RelAV E (st.sl t) (a.eval (.tmp t))) {l : List AV} (h : resAll P st fn.results.toList = some l) :
    ∃ v, (results fn a.tmps).run P E.w = .ok v E.w ∧ RelAV E (resAV l) v := by
  obtain ⟨vs, h1, h2, h3, h4⟩ := resAll_rel hM hrt hsl h
  have hrun := run_mapM_list (P := P) (w := E.w) h1 h3
  refine ⟨if h : vs.toArray.size = 1 then vs.toArray[0] else .tuple vs.toArray, ?_, ?_⟩
  · unfold results
    rw [Array.mapM_eq_mapM_toList]
    simp only [Sem.run_bind, Sem.run_map]
    erw [hrun]
    simp
  · match l, vs, h2, h4 with
    | [y], [v], _, h4 => exact h4 0 y v rfl rfl
    | [], [], _, _ => exact .tup [] #[] rfl (fun j y hy => by simp at hy)
    | y :: y' :: l, v :: v' :: vs, h2, h4 =>
      have hne : ¬ ((v :: v' :: vs).toArray.size = 1) := by simp
      rw [dif_neg hne]
      refine .tup (y :: y' :: l) (v :: v' :: vs).toArray (by simpa using h2.symm) ?_
      intro j z hz
      have hlt : j < (v :: v' :: vs).length := by rw [← h2]; exact (List.getElem?_eq_some_iff.1 hz).1
      have hv : (v :: v' :: vs)[j]? = some (v :: v' :: vs)[j] := List.getElem?_eq_getElem hlt
      have := h4 j z _ hz hv
      have e : (v :: v' :: vs).toArray.getD j undef = (v :: v' :: vs)[j] := by
        rw [Array.getD_eq_getD_getElem?, List.getElem?_toArray, hv]
        rfl
      rw [e]
      exact this
    | [], _ :: _, h2, _ => simp at h2
    | _ :: _, [], h2, _ => simp at h2
    | [_], _ :: _ :: _, h2, _ => simp at h2
    | _ :: _ :: _, [_], h2, _ => simp at h2
end
end Go.Proofs.Ytamdgfklbjoaiaa.Ab

namespace Go.Proofs.Ytamdgfklbjoaiaa.Ab
open Go

def argSlots (as : List AV) : Nat → AV := fun t => (as[t]?).getD .junk

def EndQ (P : Program) (rs : Array ResultVar) (r0 : List Root) (o : Out) : Exit → St → Prop
  | .normal, st => FinOk P rs r0 o st
  | .ret, st => FinOk P rs r0 o st
  | _, _ => False

theorem finRen_cases {m : Nat} {ids : List Nat} {r x : Nat} (h : finRen m ids r = some x) : (r < m ∧ x = r) ∨ (m ≤ r ∧ m ≤ x ∧ ids[x - m]? = some r) := by
  unfold finRen at h
  split at h
  · exact .inl ⟨by assumption, (Option.some.inj h).symm⟩
  · obtain ⟨h1, h2⟩ := posOf_some h
    exact .inr ⟨by omega, h1, h2⟩

theorem finRen_get {m : Nat} {ids : List Nat} (hn : ids.Nodup) (hm : ∀ i ∈ ids, m ≤ i) {k r : Nat} (h : ids[k]? = some r) : finRen m ids r = some (m + k) := by
  unfold finRen
  have := hm r (List.mem_of_getElem? h)
  rw [if_neg (by omega)]
  exact posOf_get hn h

theorem updG_off' : ∀ {g : List (Nat × Root)} {rt : Nat → Option Root} {r : Nat}, (∀ p ∈ g, p.1 ≠ r) → updG g rt r = rt r
  | [], _, _, _ => rfl
  | (i, R) :: g, rt, r, h => by
    simp only [updG]
    rw [if_neg (fun e => h (i, R) (by simp) e.symm)]
    exact updG_off' (fun p hp => h p (by simp [hp]))

theorem updG_congr : ∀ {g : List (Nat × Root)} {rt rt' : Nat → Option Root} {r : Nat}, rt r = rt' r → updG g rt r = updG g rt' r
  | [], _, _, _, h => h
  | (i, R) :: g, rt, rt', r, h => by
    simp only [updG]
    rw [updG_congr (g := g) h]

theorem callMem0 {w : World} {S : Nat → Prop} {β : Nat → Option Nat} {r0 new : List Root} (hM : Mem (callCtx w S β r0) (callEnv w S β r0 new)) (hw : rootsRen (keepRen r0.length) r0 = some r0) :
    Conn (keepRen r0.length) (callEnv w S β r0 new) (callEnv w S β r0 []) ∧ Mem (callCtx w S β r0) (callEnv w S β r0 []) := by
  have hrt : ∀ {r}, r < r0.length → (callEnv w S β r0 []).rt r = (callEnv w S β r0 new).rt r := by
    intro r hr
    show (r0 ++ [])[r]? = (r0 ++ new)[r]?
    rw [List.append_nil, List.getElem?_append_left hr]
  have hC : Conn (keepRen r0.length) (callEnv w S β r0 new) (callEnv w S β r0 []) := by
    refine ⟨rfl, fun _ h => h, ?_, ?_, ?_⟩
    · intro r r' h
      unfold keepRen at h
      obtain ⟨hr, h⟩ := Option.ite_none_right_eq_some.1 h
      obtain rfl := Option.some.inj h
      rw [hrt hr]
    · intro r r' h
      unfold keepRen at h
      obtain ⟨hr, h⟩ := Option.ite_none_right_eq_some.1 h
      obtain rfl := Option.some.inj h
      exact Iff.rfl
    · intro r r' h _
      unfold keepRen at h
      obtain ⟨hr, h⟩ := Option.ite_none_right_eq_some.1 h
      obtain rfl := Option.some.inj h
      rfl
  refine ⟨hC, ?_⟩
  have up : ∀ {r R}, (callEnv w S β r0 []).pres r → (callEnv w S β r0 []).rt r = some R → (callEnv w S β r0 new).rt r = some R := fun hp h => by rw [← hrt hp]; exact h
  exact {
    os := hM.os
    output := hM.output
    tape := hM.tape
    size := hM.size
    keep := hM.keep
    shape := hM.shape
    s0 := hM.s0
    slt := hM.slt
    snew := hM.snew
    blt := hM.blt
    bown := fun r R b hp hR => hM.bown r R b hp (up hp hR)
    bkeep := fun r R hlt hp hR => hM.bkeep r R hlt hp (up hp hR)
    inj := fun r r' R R' b hp hp' hR hd hR' => hM.inj r r' R R' b hp hp' (up hp hR) hd (up hp' hR')
    roots := by
      intro r R hp hR
      have hr : r < r0.length := hp
      have hf : keepRen r0.length r = some r := if_pos hr
      have hR0 : r0[r]? = some R := by
        have : (r0 ++ [])[r]? = some R := hR
        rwa [List.append_nil] at this
      obtain ⟨hlen, hget⟩ := rootsRen_get hw
      obtain ⟨R', h1, h2⟩ := hget r R hR0
      rw [hR0] at h1
      obtain rfl := Option.some.inj h1
      exact RootRel.conn hC (fun _ h => h) hf hp h2 (hM.roots r R hp (up hp hR)) }

/-- A function's body leads to what its calls come to. -/
theorem CallOk.of_body {P : Program} {f : FuncId} {fn : Func} {body : Code} {as : List AV} {r0 : List Root} {o : Out} (hf : P.funcs[f]? = some fn) (hb : fn.body = some body) (hN : as.length ≤ fn.ntmps)
    (hwa : AV.rens (keepRen r0.length) as = some as) (hwr : rootsRen (keepRen r0.length) r0 = some r0) (h : AW P fn.ntmps body (EndQ P fn.results r0 o) ⟨argSlots as, r0⟩) : CallOk P f as r0 o := by
  intro w S β vs hM hA
  obtain ⟨hC0, hM0⟩ := callMem0 hM hwr
  have hA0 : Args (callEnv w S β r0 []) as vs := by
    obtain ⟨_, hget⟩ := rens_get hwa
    refine ⟨hA.1, ?_⟩
    intro j y hy
    obtain ⟨y', h1, h2⟩ := hget j y hy
    rw [hy] at h1
    obtain rfl := Option.some.inj h1
    exact (hA.2 j y hy).conn hC0 h2
  refine calls_of_wp hf hb ?_
  refine wp_mono (h (callCtx w S β r0) (callEnv w S β r0 []) _ w ?_) ?_
  · refine ⟨callEnv w S β r0 [], rfl, hM0, (Step.refl _).toP, ?_, fun _ => Iff.rfl, ?_, rfl, ?_, Nat.le_refl _⟩
    · funext r
      show (r0 ++ [])[r]? = r0[r]?
      rw [List.append_nil]
    · intro t
      show RelAV _ ((as[t]?).getD .junk) ((vs ++ Array.replicate (fn.ntmps - vs.size) undef).getD t undef)
      cases ht : as[t]? with
      | none => exact .junk _
      | some y =>
        have hlt : t < vs.size := by rw [hA0.1]; exact (List.getElem?_eq_some_iff.1 ht).1
        have := hA0.2 t y ht
        have e : (vs ++ Array.replicate (fn.ntmps - vs.size) undef).getD t undef = vs.getD t undef := by
          rw [Array.getD_eq_getD_getElem?, Array.getD_eq_getD_getElem?, Array.getElem?_append_left hlt]
        rw [e]
        exact this
    · simp only [Array.size_append, Array.size_replicate]
      have := hA0.1
      omega
  · rintro e a' w' ⟨st, hq, hH⟩
    have main : FinOk P fn.results r0 o st → a'.defers = [] ∧ ∃ v, (results fn a'.tmps).run P w' = .ok v w' ∧ ∃ v' E', Ending.returned v = .returned v' ∧ E'.w = w' ∧ OutRel (callCtx w S β r0) (callEnv w S β r0 o.new) r0.length o v' E' := by
      rintro ⟨ids, l, hl, hav, hids, hnd, hlen, hnew, hpar, hg⟩
      obtain ⟨E, rfl, hMe, hSt, hrt, hpr, hsl, hdef, hsz, hm⟩ := hH
      obtain ⟨v, hrun, hrel⟩ := results_rel hMe hrt hsl hl
      refine ⟨hdef, v, hrun, v, ⟨updG o.g (callEnv w S β r0 o.new).rt, fun r => r < r0.length + o.new.length, fun r => if r < r0.length then E.β r else (ids[r - r0.length]?).bind E.β, E.S, E.w⟩, rfl, rfl, ?_⟩
      generalize hE1 : (⟨updG o.g (callEnv w S β r0 o.new).rt, fun r => r < r0.length + o.new.length, fun r => if r < r0.length then E.β r else (ids[r - r0.length]?).bind E.β, E.S, E.w⟩ : Env) = E1
      have e_rt : E1.rt = updG o.g (callEnv w S β r0 o.new).rt := by rw [← hE1]
      have e_pr : ∀ r, E1.pres r ↔ r < r0.length + o.new.length := by intro r; rw [← hE1]
      have e_β : ∀ r, E1.β r = if r < r0.length then E.β r else (ids[r - r0.length]?).bind E.β := by intro r; rw [← hE1]
      have e_S : E1.S = E.S := by rw [← hE1]
      have e_w : E1.w = E.w := by rw [← hE1]
      have rtnew : ∀ {k}, k < o.new.length → E1.rt (r0.length + k) = o.new[k]? := by
        intro k hk
        rw [e_rt, updG_off' (fun p hp e => by have := hg p hp; omega)]
        show (r0 ++ o.new)[r0.length + k]? = _
        rw [List.getElem?_append_right (by omega)]
        congr 1
        omega
      have rtpar : ∀ {r R}, r0[r]? = some R → ∃ R0 R1, E.rt r = some R0 ∧ R0.ren (finRen r0.length ids) = some R1 ∧ E1.rt r = some R1 := by
        intro r R hR
        obtain ⟨R0, R1, h1, h2, h3⟩ := hpar r R hR
        refine ⟨R0, R1, by rw [hrt]; exact h1, h2, ?_⟩
        rw [e_rt, ← h3]
        refine updG_congr ?_
        show (r0 ++ o.new)[r]? = r0[r]?
        rw [List.getElem?_append_left (List.getElem?_eq_some_iff.1 hR).1]
      -- each root that is handed out has its own there
      have src : ∀ {x}, x < r0.length + o.new.length → ∃ r, finRen r0.length ids r = some x ∧ E.pres r ∧ E1.β x = E.β r ∧ ∃ R0 R1, E.rt r = some R0 ∧ R0.ren (finRen r0.length ids) = some R1 ∧ E1.rt x = some R1 := by
        intro x hx
        by_cases h : x < r0.length
        · obtain ⟨R0, R1, h1, h2, h3⟩ := rtpar (List.getElem?_eq_getElem h)
          exact ⟨x, if_pos h, (hpr x).2 (Nat.lt_of_lt_of_le h hm), by rw [e_β, if_pos h], R0, R1, h1, h2, h3⟩
        · have hk : x - r0.length < ids.length := by omega
          have hgi : ids[x - r0.length]? = some ids[x - r0.length] := List.getElem?_eq_getElem hk
          have hk' : x - r0.length < o.new.length := by omega
          obtain ⟨R0, h1, h2⟩ := hnew _ _ _ hgi (List.getElem?_eq_getElem hk')
          have hf := finRen_get hnd hids hgi
          rw [show r0.length + (x - r0.length) = x by omega] at hf
          refine ⟨ids[x - r0.length], hf, ?_, ?_, R0, _, by rw [hrt]; exact h1, h2, ?_⟩
          · rw [hpr]; exact (List.getElem?_eq_some_iff.1 h1).1
          · rw [e_β, if_neg h, hgi]; rfl
          · have := rtnew hk'
            rw [show r0.length + (x - r0.length) = x by omega] at this
            rw [this]
            exact List.getElem?_eq_getElem hk'
      have dom : ∀ {r x}, finRen r0.length ids r = some x → x < r0.length + o.new.length := by
        intro r x h
        rcases finRen_cases h with ⟨h1, rfl⟩ | ⟨h1, h2, h3⟩
        · omega
        · have := (List.getElem?_eq_some_iff.1 h3).1
          omega
      have inj' : ∀ {r r' x}, finRen r0.length ids r = some x → finRen r0.length ids r' = some x → r = r' := by
        intro r r' x h h'
        rcases finRen_cases h with ⟨h1, rfl⟩ | ⟨h1, h2, h3⟩ <;> rcases finRen_cases h' with ⟨k1, k2⟩ | ⟨k1, k2, k3⟩
        · exact k2
        · omega
        · omega
        · rw [h3] at k3; exact Option.some.inj k3
      have hC : Conn (finRen r0.length ids) E E1 := by
        refine ⟨e_w, fun b hb => by rw [e_S]; exact hb, ?_, ?_, ?_⟩
        · intro r x h
          obtain ⟨r', h1, _, _, R0, R1, h2, h3, h4⟩ := src (dom h)
          rw [inj' h h1, h2, h4]
          simp [ren_kind h3]
        · intro r x h
          obtain ⟨r', h1, h2, _⟩ := src (dom h)
          rw [inj' h h1]
          exact ⟨fun _ => h2, fun _ => (e_pr x).2 (dom h)⟩
        · intro r x h _
          obtain ⟨r', h1, _, h2, _⟩ := src (dom h)
          rw [h2, inj' h h1]
      have live : ∀ {x R}, E1.pres x → E1.rt x = some R → R ≠ .dead → ∃ r R0, finRen r0.length ids r = some x ∧ E.pres r ∧ E1.β x = E.β r ∧ E.rt r = some R0 ∧ R0 ≠ .dead := by
        intro x R hp hR hd
        obtain ⟨r, h1, h2, h3, R0, R1, h4, h5, h6⟩ := src ((e_pr x).1 hp)
        rw [hR] at h6
        obtain rfl := Option.some.inj h6
        exact ⟨r, R0, h1, h2, h3, h4, fun e => hd ((ren_dead h5).2 e)⟩
      refine ⟨?_, ?_, e_rt, ?_, ?_, ?_⟩
      · exact {
          os := by rw [e_w]; exact hMe.os
          output := by rw [e_w]; exact hMe.output
          tape := by rw [e_w]; exact hMe.tape
          size := by rw [e_w]; exact hMe.size
          keep := by rw [e_w]; exact hMe.keep
          shape := by rw [e_w]; exact hMe.shape
          s0 := by rw [e_S]; exact hMe.s0
          slt := by rw [e_S, e_w]; exact hMe.slt
          snew := by rw [e_S]; exact hMe.snew
          blt := by
            intro x b hp hb
            obtain ⟨r, _, h2, h3, _⟩ := src ((e_pr x).1 hp)
            rw [h3] at hb
            rw [e_w]
            exact hMe.blt r b h2 hb
          bown := by
            intro x R b hp hR hd hb
            obtain ⟨r, R0, _, h2, h3, h4, h5⟩ := live hp hR hd
            rw [h3] at hb
            exact hMe.bown r R0 b h2 h4 h5 hb
          bkeep := by
            intro x R hlt hp hR hd
            obtain ⟨r, R0, h1, h2, h3, h4, h5⟩ := live hp hR hd
            have hlt' : x < r0.length := hlt
            rcases finRen_cases h1 with ⟨k1, rfl⟩ | ⟨k1, k2, _⟩
            · rw [h3]; exact hMe.bkeep x R0 hlt h2 h4 h5
            · omega
          inj := by
            intro x x' R R' b hp hp' hR hd hR' hd' hb hb'
            obtain ⟨r, R0, h1, h2, h3, h4, h5⟩ := live hp hR hd
            obtain ⟨r', R0', h1', h2', h3', h4', h5'⟩ := live hp' hR' hd'
            rw [h3] at hb
            rw [h3'] at hb'
            have := hMe.inj r r' R0 R0' b h2 h2' h4 h5 h4' h5' hb hb'
            subst this
            rw [h1] at h1'
            exact Option.some.inj h1'
          roots := by
            intro x R hp hR
            obtain ⟨r, h1, h2, h3, R0, R1, h4, h5, h6⟩ := src ((e_pr x).1 hp)
            rw [hR] at h6
            obtain rfl := Option.some.inj h6
            exact RootRel.conn hC (fun b hb => by rw [← e_S]; exact hb) h1 h2 h5 (hMe.roots r R0 h2 h4) }
      · refine ⟨?_, ?_, ?_, ?_, ?_, ?_⟩
        · intro r R hR
          have hR' : (r0 ++ o.new)[r]? = some R := hR
          by_cases h : r < r0.length
          · have hR0 : r0[r]? = some R := by rwa [List.getElem?_append_left h] at hR'
            obtain ⟨R0, R1, h1, h2, h3⟩ := rtpar hR0
            refine ⟨R1, h3, ?_⟩
            obtain ⟨R2, k1, k2⟩ := hSt.rt r R h (by show (r0 ++ [])[r]? = some R; rw [List.append_nil]; exact hR0)
            rw [h1] at k1
            obtain rfl := Option.some.inj k1
            rcases k2 with k2 | k2
            · exact .inl ((ren_dead h2).2 k2)
            · exact .inr ((ren_kind h2).trans k2)
          · have hlt : r < (r0 ++ o.new).length := (List.getElem?_eq_some_iff.1 hR').1
            simp only [List.length_append] at hlt
            have := rtnew (k := r - r0.length) (by omega)
            rw [show r0.length + (r - r0.length) = r by omega] at this
            rw [List.getElem?_append_right (by omega)] at hR'
            exact ⟨R, by rw [this]; exact hR', .inr rfl⟩
        · intro r hr
          have : r < r0.length := hr
          rw [e_pr]; omega
        · intro r hr
          have : r < r0.length := hr
          rw [e_β, if_pos this]
          exact hSt.β r this hr
        · intro b hb; rw [e_S]; exact hSt.S b hb
        · intro b hb; rw [e_w]; exact hSt.heap b hb
        · intro b s hs; rw [e_w]; exact hSt.shape b s hs
      · intro r
        rw [e_pr]
        show _ ↔ r < r0.length ∨ _
        omega
      · rw [e_w]; exact hMe.size
      · exact hrel.conn hC hav
    cases e with
    | normal => obtain ⟨h1, v, h2, h3⟩ := main hq; exact ⟨h1, v, h2, h3⟩
    | ret => obtain ⟨h1, v, h2, h3⟩ := main hq; exact ⟨h1, v, h2, h3⟩
    | _ => exact hq.elim
end Go.Proofs.Ytamdgfklbjoaiaa.Ab

namespace Go.Proofs.Ytamdgfklbjoaiaa.Ab
open Go

/-! Regions whose order is drawn: whatever the order, they come to what the text's order comes to. -/
def ancB (ops : Array Oper) : Nat → Nat → Nat → Bool
  | 0, _, _ => false
  | fuel + 1, j, i => match ops[j]? with
    | none => false
    | some o => o.after.any fun e => Region.binds .any e && (e.on == i || ancB ops fuel e.on i)

/-- What an operation changes, how much it makes, what it looks at. -/
structure Eff where
  g : List Nat
  n : Nat
  T : List Nat

def nbAt (nb : Nat) (eff : List Eff) : Nat → Nat
  | 0 => nb
  | i + 1 => nbAt nb eff i + ((eff[i]?).map Eff.n).getD 0

def apartB (nb : Nat) (eff : List Eff) (i j : Nat) : Bool :=
  match eff[i]?, eff[j]? with
  | some x, some y => x.g.all fun r => !y.T.contains r && !y.g.contains r && !(nbAt nb eff j ≤ r && r < nbAt nb eff j + y.n)
  | _, _ => false

def drawB (ops : Array Oper) (N nb : Nat) (eff : List Eff) : Bool :=
  (List.range ops.size).all fun j => match ops[j]? with
    | none => false
    | some o => o.after.all (fun e => !Region.binds .any e || e.on < j) && (match o.dst with | some d => d < N | none => true) &&
      (List.range ops.size).all fun i => (i == j) || (match ops[i]? with
        | none => false
        | some o' => (match o'.dst with
            | none => true
            | some d => (o.dst != some d) && (!(o.looksAt ops).contains d || (if i < j then ancB ops ops.size j i else ancB ops ops.size i j))) &&
          (ancB ops ops.size i j || ancB ops ops.size j i || apartB nb eff i j))

/-- The states in the text's order. -/
def stAt (ops : Array Oper) (st : St) (outs : Nat → Out) : Nat → St
  | 0 => st
  | i + 1 => match ops[i]? with
    | some o => (stAt ops st outs i).put o.dst (outs i)
    | none => stAt ops st outs i

noncomputable def rtUp (outs : Nat → Out) (D : Nat → Prop) (base : Nat → Option Root) : Nat → Nat → Option Root
  | 0 => base
  | i + 1 => fun r => open Classical in if D i then updG (outs i).g (rtUp outs D base i) r else rtUp outs D base i r

section
variable {P : Program} {N : Nat} {ops : Array Oper} {outs : Nat → Out} {st : St}

theorem rtUp_yes {D : Nat → Prop} {base : Nat → Option Root} {n : Nat} (h : D n) : rtUp outs D base (n + 1) = updG (outs n).g (rtUp outs D base n) := by
  funext r
  show (open Classical in if D n then updG (outs n).g (rtUp outs D base n) r else rtUp outs D base n r) = _
  rw [if_pos h]

theorem rtUp_no {D : Nat → Prop} {base : Nat → Option Root} {n : Nat} (h : ¬ D n) : rtUp outs D base (n + 1) = rtUp outs D base n := by
  funext r
  show (open Classical in if D n then updG (outs n).g (rtUp outs D base n) r else rtUp outs D base n r) = _
  rw [if_neg h]

theorem rtUp_congr {D D' : Nat → Prop} {base : Nat → Option Root} {r : Nat} : ∀ {n : Nat}, (∀ i, i < n → (∃ p ∈ (outs i).g, p.1 = r) → (D i ↔ D' i)) → rtUp outs D base n r = rtUp outs D' base n r
  | 0, _ => rfl
  | n + 1, h => by
    have ih := rtUp_congr (base := base) (n := n) (fun i hi => h i (by omega))
    by_cases hr : ∃ p ∈ (outs n).g, p.1 = r
    · have := h n (by omega) hr
      by_cases hD : D n
      · rw [rtUp_yes hD, rtUp_yes (this.1 hD)]
        exact updG_congr ih
      · rw [rtUp_no hD, rtUp_no (fun h' => hD (this.2 h'))]
        exact ih
    · have off : ∀ (rt : Nat → Option Root), updG (outs n).g rt r = rt r := fun rt => updG_off' (fun p hp e => hr ⟨p, hp, e⟩)
      have one : ∀ (D : Nat → Prop), rtUp outs D base (n + 1) r = rtUp outs D base n r := by
        intro D
        by_cases hD : D n
        · rw [rtUp_yes hD, off]
        · rw [rtUp_no hD]
      rw [one, one, ih]

theorem rtUp_off {D : Nat → Prop} {base : Nat → Option Root} {r n : Nat} (h : ∀ i, i < n → D i → ∀ p ∈ (outs i).g, p.1 ≠ r) : rtUp outs D base n r = base r := by
  induction n with
  | zero => rfl
  | succ n ih =>
    by_cases hD : D n
    · rw [rtUp_yes hD, updG_off' (h n (by omega) hD)]
      exact ih (fun i hi => h i (by omega))
    · rw [rtUp_no hD]
      exact ih (fun i hi => h i (by omega))

theorem rtUp_cut {base : Nat → Option Root} {j : Nat} : ∀ {n : Nat}, j ≤ n → rtUp outs (fun i => i < j) base n = rtUp outs (fun _ => True) base j
  | 0, h => by obtain rfl : j = 0 := by omega
               rfl
  | n + 1, h => by
    by_cases e : j = n + 1
    · subst e
      funext r
      refine (rtUp_congr (fun i hi _ => ?_))
      simp [hi]
    · have ih := rtUp_cut (base := base) (j := j) (n := n) (by omega)
      rw [rtUp_no (by omega), ih]

/-- One more is done. -/
theorem rtUp_add {D : Nat → Prop} {base : Nat → Option Root} {j : Nat} (hj : ¬ D j) : ∀ {n : Nat}, j < n → (∀ i, i < n → D i → j < i → ∀ p ∈ (outs i).g, ∀ q ∈ (outs j).g, p.1 ≠ q.1) →
    rtUp outs (fun i => D i ∨ i = j) base n = updG (outs j).g (rtUp outs D base n)
  | 0, h, _ => by omega
  | n + 1, h, hd => by
    by_cases e : j = n
    · subst e
      rw [rtUp_yes (.inr rfl), rtUp_no hj]
      funext r
      refine updG_congr (rtUp_congr fun i hi _ => ?_)
      constructor
      · rintro (h | h)
        · exact h
        · omega
      · exact .inl
    · have ih := rtUp_add (base := base) hj (n := n) (by omega) (fun i hi => hd i (by omega))
      by_cases hD : D n
      · rw [rtUp_yes (D := fun i => D i ∨ i = j) (.inl hD), rtUp_yes hD, ih]
        funext r
        by_cases hr : ∃ q ∈ (outs j).g, q.1 = r
        · obtain ⟨q, hq, rfl⟩ := hr
          have hn := hd n (by omega) hD (by omega)
          rw [updG_off' (fun p hp => hn p hp q hq)]
          exact updG_congr (updG_off' (fun p hp => hn p hp q hq)).symm
        · have off : ∀ (rt : Nat → Option Root), updG (outs j).g rt r = rt r := fun rt => updG_off' (fun p hp e => hr ⟨p, hp, e⟩)
          rw [off]
          exact updG_congr (off _)
      · have hne : ¬ (D n ∨ n = j) := by
          rintro (h | h)
          · exact hD h
          · omega
        rw [rtUp_no (D := fun i => D i ∨ i = j) hne, rtUp_no hD, ih]
end
end Go.Proofs.Ytamdgfklbjoaiaa.Ab

namespace Go.Proofs.Ytamdgfklbjoaiaa.Ab
open Go

structure DrawSpec (ops : Array Oper) (N nb : Nat) (eff : List Eff) : Prop where
  back : ∀ (j : Nat) o, ops[j]? = some o → ∀ e ∈ o.after, Region.binds .any e = true → e.on < j
  dst : ∀ (j : Nat) o d, ops[j]? = some o → o.dst = some d → d < N
  uniq : ∀ (i j : Nat) o o' d, i ≠ j → ops[i]? = some o' → ops[j]? = some o → o'.dst = some d → o.dst ≠ some d
  look : ∀ (i j : Nat) o o' d, i ≠ j → ops[i]? = some o' → ops[j]? = some o → o'.dst = some d → d ∈ o.looksAt ops → (i < j ∧ ancB ops ops.size j i = true) ∨ (j < i ∧ ancB ops ops.size i j = true)
  apart : ∀ (i j : Nat), i ≠ j → i < ops.size → j < ops.size → ancB ops ops.size i j = true ∨ ancB ops ops.size j i = true ∨ apartB nb eff i j = true

theorem drawB_spec {ops : Array Oper} {N nb : Nat} {eff : List Eff} (h : drawB ops N nb eff = true) : DrawSpec ops N nb eff := by
  unfold drawB at h
  rw [List.all_eq_true] at h
  have one : ∀ (j : Nat) o, ops[j]? = some o → (o.after.all (fun e => !Region.binds .any e || e.on < j) = true ∧ (match o.dst with | some d => decide (d < N) | none => true) = true) ∧
      ∀ i, i < ops.size → i ≠ j → (match ops[i]? with
        | none => false
        | some o' => (match o'.dst with
            | none => true
            | some d => (o.dst != some d) && (!(o.looksAt ops).contains d || (if i < j then ancB ops ops.size j i else ancB ops ops.size i j))) &&
          (ancB ops ops.size i j || ancB ops ops.size j i || apartB nb eff i j)) = true := by
    intro j o ho
    have hj : j < ops.size := (Array.getElem?_eq_some_iff.1 ho).1
    have := h j (List.mem_range.2 hj)
    simp only [ho, Bool.and_eq_true] at this
    refine ⟨this.1, ?_⟩
    intro i hi hne
    have h2 := List.all_eq_true.1 this.2 i (List.mem_range.2 hi)
    rw [Bool.or_eq_true] at h2
    rcases h2 with h2 | h2
    · exact absurd (by simpa using h2) hne
    · exact h2
  refine ⟨?_, ?_, ?_, ?_, ?_⟩
  · intro j o ho e he hb
    have := (one j o ho).1.1
    rw [Array.all_eq_true_iff_forall_mem] at this
    have := this e he
    rw [hb] at this
    simpa using this
  · intro j o d ho hd
    have := (one j o ho).1.2
    rw [hd] at this
    simpa using this
  · intro i j o o' d hne hi hj hd
    have := (one j o hj).2 i (Array.getElem?_eq_some_iff.1 hi).1 hne
    simp only [hi, hd, Bool.and_eq_true] at this
    simpa using this.1.1
  · intro i j o o' d hne hi hj hd hl
    have := (one j o hj).2 i (Array.getElem?_eq_some_iff.1 hi).1 hne
    simp only [hi, hd, Bool.and_eq_true, Bool.or_eq_true] at this
    have h2 := this.1.2
    rcases h2 with h2 | h2
    · simp [hl] at h2
    · split at h2
      · exact .inl ⟨by assumption, h2⟩
      · exact .inr ⟨by omega, h2⟩
  · intro i j hne hi hj
    have := (one j ops[j] (Array.getElem?_eq_getElem hj)).2 i hi hne
    simp only [Array.getElem?_eq_getElem hi, Bool.and_eq_true, Bool.or_eq_true] at this
    rcases this.2 with (h | h) | h
    · exact .inl h
    · exact .inr (.inl h)
    · exact .inr (.inr h)

section
variable {ops : Array Oper} {N nb : Nat} {eff : List Eff}

def Closed (ops : Array Oper) (D : Nat → Prop) : Prop := ∀ (j : Nat) o, D j → ops[j]? = some o → ∀ e ∈ o.after, Region.binds .any e = true → D e.on

theorem anc_closed {D : Nat → Prop} (hc : Closed ops D) : ∀ (fuel j i : Nat), ancB ops fuel j i = true → D j → D i
  | 0, _, _, h, _ => by simp [ancB] at h
  | fuel + 1, j, i, h, hD => by
    simp only [ancB] at h
    split at h
    · cases h
    · rename_i o ho
      obtain ⟨e, he, h⟩ := Array.any_eq_true'.1 h
      simp only [Bool.and_eq_true, Bool.or_eq_true, beq_iff_eq] at h
      have := hc j o hD ho e he h.1
      rcases h.2 with h2 | h2
      · rw [← h2]; exact this
      · exact anc_closed hc fuel e.on i h2 this

theorem anc_ready {D : Nat → Prop} (hc : Closed ops D) {j : Nat} {o : Oper} (ho : ops[j]? = some o) (hr : ∀ e ∈ o.after, Region.binds .any e = true → D e.on) : ∀ (fuel i : Nat), ancB ops fuel j i = true → D i
  | 0, _, h => by simp [ancB] at h
  | fuel + 1, i, h => by
    simp only [ancB, ho] at h
    obtain ⟨e, he, h⟩ := Array.any_eq_true'.1 h
    simp only [Bool.and_eq_true, Bool.or_eq_true, beq_iff_eq] at h
    have := hr e he h.1
    rcases h.2 with h2 | h2
    · rw [← h2]; exact this
    · exact anc_closed hc fuel e.on i h2 this

theorem anc_lt (hs : DrawSpec ops N nb eff) : ∀ (fuel j i : Nat), ancB ops fuel j i = true → i < j
  | 0, _, _, h => by simp [ancB] at h
  | fuel + 1, j, i, h => by
    simp only [ancB] at h
    split at h
    · cases h
    · rename_i o ho
      obtain ⟨e, he, h⟩ := Array.any_eq_true'.1 h
      simp only [Bool.and_eq_true, Bool.or_eq_true, beq_iff_eq] at h
      have hlt := hs.back j o ho e he h.1
      rcases h.2 with h2 | h2
      · omega
      · have := anc_lt hs fuel e.on i h2; omega

/-- What the operations of a region come to, in the text's order. -/
structure TextRun (P : Program) (ops : Array Oper) (N : Nat) (st : St) (outs : Nat → Out) (eff : List Eff) : Prop where
  sem : ∀ i, i < ops.size → ∃ e, eff[i]? = some e ∧ OpSem P ops i e.T (stAt ops st outs i).sl (stAt ops st outs i).look (stAt ops st outs i).rt.length (outs i) ∧
    e.g = (outs i).g.map (·.1) ∧ e.n = (outs i).new.length
  glt : ∀ i, i < ops.size → ∀ p ∈ (outs i).g, p.1 < (stAt ops st outs i).rt.length + (outs i).new.length

def newsTo (outs : Nat → Out) : Nat → List Root
  | 0 => []
  | i + 1 => newsTo outs i ++ (outs i).new

variable {P : Program} {st : St} {outs : Nat → Out}

theorem newsTo_pre : ∀ {i n : Nat}, i ≤ n → ∃ l, newsTo outs n = newsTo outs i ++ l
  | i, 0, h => by obtain rfl : i = 0 := by omega
                  exact ⟨[], rfl⟩
  | i, n + 1, h => by
    by_cases e : i = n + 1
    · subst e; exact ⟨[], by simp⟩
    · obtain ⟨l, hl⟩ := newsTo_pre (i := i) (n := n) (by omega)
      exact ⟨l ++ (outs n).new, by simp [newsTo, hl]⟩

theorem stAt_succ {i : Nat} {o : Oper} (ho : ops[i]? = some o) : stAt ops st outs (i + 1) = (stAt ops st outs i).put o.dst (outs i) := by simp [stAt, ho]

theorem stAt_len : ∀ {i : Nat}, i ≤ ops.size → (stAt ops st outs i).rt.length = st.rt.length + (newsTo outs i).length
  | 0, _ => rfl
  | i + 1, h => by
    have ih := stAt_len (i := i) (by omega)
    rw [stAt_succ (Array.getElem?_eq_getElem (show i < ops.size by omega))]
    simp only [St.put, updL_len, List.length_append, newsTo, ih]
    omega

theorem nbAt_eq (hrun : TextRun P ops N st outs eff) : ∀ {i : Nat}, i ≤ ops.size → nbAt st.rt.length eff i = st.rt.length + (newsTo outs i).length
  | 0, _ => rfl
  | i + 1, h => by
    have ih := nbAt_eq hrun (i := i) (by omega)
    obtain ⟨e, he, _, _, hn⟩ := hrun.sem i (by omega)
    simp only [nbAt, he, Option.map_some, Option.getD_some, hn, newsTo, List.length_append, ih]
    omega

def baseOf (ops : Array Oper) (st : St) (outs : Nat → Out) : Nat → Option Root := fun r => (st.rt ++ newsTo outs ops.size)[r]?

theorem base_new {i k : Nat} (hi : i < ops.size) (hk : k < (outs i).new.length) : baseOf ops st outs (st.rt.length + (newsTo outs i).length + k) = (outs i).new[k]? := by
  obtain ⟨l, hl⟩ := newsTo_pre (outs := outs) (show i + 1 ≤ ops.size by omega)
  show (st.rt ++ newsTo outs ops.size)[_]? = _
  rw [hl, List.getElem?_append_right (by omega)]
  simp only [newsTo, List.append_assoc]
  rw [List.getElem?_append_right (by omega), List.getElem?_append_left (by omega)]
  congr 1
  omega

theorem base_old {r : Nat} (h : r < st.rt.length) : baseOf ops st outs r = st.rt[r]? := List.getElem?_append_left h

theorem stAt_look (hrun : TextRun P ops N st outs eff) : ∀ {i r : Nat}, i ≤ ops.size → r < st.rt.length + (newsTo outs i).length → (stAt ops st outs i).look r = rtUp outs (fun _ => True) (baseOf ops st outs) i r
  | 0, r, _, hr => by
    show st.rt[r]? = baseOf ops st outs r
    rw [base_old (by simpa [newsTo] using hr)]
  | i + 1, r, h, hr => by
    have hi : i < ops.size := by omega
    have hlen := stAt_len (st := st) (outs := outs) (i := i) (by omega : i ≤ ops.size)
    rw [stAt_succ (Array.getElem?_eq_getElem hi), rtUp_yes trivial]
    show (updL (outs i).g ((stAt ops st outs i).rt ++ (outs i).new))[r]? = _
    rw [updL_get _ _ (fun p hp => by rw [List.length_append]; exact hrun.glt i hi p hp)]
    refine updG_congr ?_
    by_cases hlt : r < st.rt.length + (newsTo outs i).length
    · rw [List.getElem?_append_left (by omega)]
      exact stAt_look hrun (by omega) hlt
    · simp only [newsTo, List.length_append] at hr
      rw [List.getElem?_append_right (by omega), rtUp_off, hlen]
      · have := base_new (ops := ops) (st := st) (outs := outs) hi (k := r - (st.rt.length + (newsTo outs i).length)) (by omega)
        rw [← this]
        congr 1
        omega
      · intro i' hi' _ p hp
        have h1 := hrun.glt i' (by omega) p hp
        rw [stAt_len (by omega)] at h1
        obtain ⟨l, hl⟩ := newsTo_pre (outs := outs) (show i' + 1 ≤ i by omega)
        have h2 : (newsTo outs i).length = (newsTo outs i').length + (outs i').new.length + l.length := by rw [hl]; simp [newsTo]; omega
        omega

theorem stAt_slot (hs : DrawSpec ops N nb eff) : ∀ {j t : Nat}, j ≤ ops.size → (∀ (i : Nat) o, i < j → ops[i]? = some o → o.dst = some t → (stAt ops st outs j).sl t = (outs i).av) ∧
    ((∀ (i : Nat) o, i < j → ops[i]? = some o → o.dst ≠ some t) → (stAt ops st outs j).sl t = st.sl t)
  | 0, t, _ => ⟨fun i o h => by omega, fun _ => rfl⟩
  | j + 1, t, h => by
    have ho : ops[j]? = some ops[j] := Array.getElem?_eq_getElem (by omega)
    obtain ⟨ih1, ih2⟩ := stAt_slot hs (j := j) (t := t) (by omega)
    rw [stAt_succ ho]
    have hput : ((stAt ops st outs j).put ops[j].dst (outs j)).sl t = if ops[j].dst = some t then (outs j).av else (stAt ops st outs j).sl t := by
      cases hd : ops[j].dst with
      | none => simp [St.put]
      | some d =>
        simp only [St.put, setS]
        by_cases e : t = d
        · subst e; simp
        · rw [if_neg e, if_neg (fun e' => e (Option.some.inj e').symm)]
    rw [hput]
    refine ⟨?_, ?_⟩
    · intro i o hi hio hd
      by_cases e : i = j
      · subst e
        rw [ho] at hio
        obtain rfl := Option.some.inj hio
        rw [if_pos hd]
      · rw [if_neg (hs.uniq i j _ _ t e hio ho hd)]
        exact ih1 i o (by omega) hio hd
    · intro hn
      rw [if_neg (hn j _ (by omega) ho)]
      exact ih2 (fun i o hi => hn i o (by omega))
end
end Go.Proofs.Ytamdgfklbjoaiaa.Ab

namespace Go.Proofs.Ytamdgfklbjoaiaa.Ab
open Go

section
variable {P : Program} {N : Nat} {ops : Array Oper} {st : St} {outs : Nat → Out} {eff : List Eff}

/-- Some of the operations are done. -/
structure Part (c : Ctx) (Ei : Env) (N : Nat) (ops : Array Oper) (st : St) (outs : Nat → Out) (D : Nat → Prop) (E : Env) (a : Act) : Prop where
  mem : Mem c E
  step : StepP c.m Ei E
  rt : E.rt = rtUp outs D (baseOf ops st outs) ops.size
  pres : ∀ r, E.pres r ↔ r < st.rt.length ∨ ∃ i, i < ops.size ∧ D i ∧ st.rt.length + (newsTo outs i).length ≤ r ∧ r < st.rt.length + (newsTo outs i).length + (outs i).new.length
  done : ∀ (t i : Nat) o, D i → ops[i]? = some o → o.dst = some t → RelAV E (outs i).av (a.eval (.tmp t))
  old : ∀ t, (∀ (i : Nat) o, D i → ops[i]? = some o → o.dst ≠ some t) → RelAV E (st.sl t) (a.eval (.tmp t))
  defers : a.defers = []
  size : a.tmps.size = N
  m : c.m ≤ st.rt.length

theorem apart_g {nb : Nat} {i j : Nat} {x y : Eff} (hi : eff[i]? = some x) (hj : eff[j]? = some y) (h : apartB nb eff i j = true) : ∀ r ∈ x.g, r ∉ y.T ∧ r ∉ y.g ∧ ¬ (nbAt nb eff j ≤ r ∧ r < nbAt nb eff j + y.n) := by
  intro r hr
  simp only [apartB, hi, hj, List.all_eq_true] at h
  have := h r hr
  simp only [Bool.and_eq_true, Bool.not_eq_true', List.contains_eq_mem, decide_eq_false_iff_not, Bool.and_eq_false_iff] at this
  refine ⟨this.1.1, this.1.2, ?_⟩
  rintro ⟨h1, h2⟩
  rcases this.2 with h3 | h3
  · exact h3 h1
  · exact h3 h2

theorem Part.step_one {c : Ctx} {Ei E : Env} {a : Act} {D : Nat → Prop} (hrun : TextRun P ops N st outs eff) (hs : DrawSpec ops N st.rt.length eff)
    (hap : ∀ (i j : Nat), i ≠ j → i < ops.size → j < ops.size → ancB ops ops.size i j = true ∨ ancB ops ops.size j i = true ∨ (apartB st.rt.length eff i j = true ∧ apartB st.rt.length eff j i = true))
    (hp : Part c Ei N ops st outs D E a) (hc : Closed ops D) (hDn : ∀ i, D i → i < ops.size) {j : Nat} {o : Oper} (ho : ops[j]? = some o) (hj : ¬ D j) (hready : ∀ e ∈ o.after, Region.binds .any e = true → D e.on)
    {K : Act → World → Prop} {Q : Exit → Act → World → Prop} (k : ∀ (E' : Env) (a' : Act), Part c Ei N ops st outs (fun i => D i ∨ i = j) E' a' → K a' E'.w) : wpOp P ops Q j K a E.w := by
  have hjn : j < ops.size := (Array.getElem?_eq_some_iff.1 ho).1
  obtain ⟨e, he, ⟨o', ho', hsem⟩, heg, hen⟩ := hrun.sem j hjn
  rw [ho] at ho'
  obtain rfl := Option.some.inj ho'
  have hlenj := stAt_len (st := st) (outs := outs) (show j ≤ ops.size by omega)
  have ancR : ∀ {i}, ancB ops ops.size j i = true → D i := fun h => anc_ready hc ho hready _ _ h
  have ancN : ∀ {i}, D i → ¬ ancB ops ops.size i j = true := fun hD h => hj (anc_closed hc _ _ _ h hD)
  -- whoever is done behind it, or is not done ahead of it, is apart from it
  have apt : ∀ {i}, i < ops.size → i ≠ j → (D i ↔ ¬ i < j) → apartB st.rt.length eff i j = true ∧ apartB st.rt.length eff j i = true := by
    intro i hi hne hiff
    rcases hap i j hne hi hjn with h | h | h
    · by_cases hD : D i
      · exact absurd h (ancN hD)
      · have h1 := anc_lt hs _ _ _ h
        exact absurd (hiff.2 (by omega)) hD
    · have hD := ancR h
      have h1 := anc_lt hs _ _ _ h
      exact absurd h1 (hiff.1 hD)
    · exact h
  have gmem : ∀ {i : Nat} {x : Eff}, i < ops.size → eff[i]? = some x → ∀ {r : Nat}, (∃ p ∈ (outs i).g, p.1 = r) → r ∈ x.g := by
    intro i x hi hx r hr
    obtain ⟨x', hx', _, hg, _⟩ := hrun.sem i hi
    rw [hx] at hx'
    obtain rfl := Option.some.inj hx'
    rw [hg]
    obtain ⟨p, hp, rfl⟩ := hr
    exact List.mem_map_of_mem hp
  have hexE : ∀ {i : Nat}, i < ops.size → ∃ x, eff[i]? = some x := fun hi => let ⟨x, hx, _⟩ := hrun.sem _ hi; ⟨x, hx⟩
  have same : ∀ {r : Nat}, (∀ i, i < ops.size → i ≠ j → (D i ↔ ¬ i < j) → ¬ ∃ p ∈ (outs i).g, p.1 = r) →
      rtUp outs D (baseOf ops st outs) ops.size r = rtUp outs (fun _ => True) (baseOf ops st outs) j r := by
    intro r h
    rw [← rtUp_cut (show j ≤ ops.size by omega)]
    refine rtUp_congr ?_
    intro i hi hr
    by_cases hne : i = j
    · subst hne
      exact ⟨fun hD => absurd hD hj, fun h => absurd h (Nat.lt_irrefl _)⟩
    · by_cases hD : D i
      · refine ⟨fun _ => ?_, fun _ => hD⟩
        by_cases hlt : i < j
        · exact hlt
        · exact absurd hr (h i hi hne ⟨fun _ => hlt, fun _ => hD⟩)
      · refine ⟨fun h' => absurd h' hD, fun hlt => ?_⟩
        exact absurd hr (h i hi hne ⟨fun h' => absurd h' hD, fun h' => absurd hlt h'⟩)
  refine hsem c E a hp.mem ?_ ?_ ?_ ?_ K Q ?_
  · -- its operands
    intro t ht
    obtain ⟨sl1, sl2⟩ := stAt_slot (st := st) (outs := outs) hs (j := j) (t := t) (by omega)
    by_cases hex : ∃ (i : Nat) (o' : Oper), ops[i]? = some o' ∧ o'.dst = some t ∧ i ≠ j
    · obtain ⟨i, o', hi, hd, hne⟩ := hex
      rcases hs.look i j o o' t hne hi ho hd ht with ⟨h1, h2⟩ | ⟨h1, h2⟩
      · rw [sl1 i o' h1 hi hd]
        exact hp.done t i o' (ancR h2) hi hd
      · have none' : ∀ (i' : Nat) o'', (D i' ∨ i' < j) → ops[i']? = some o'' → o''.dst ≠ some t := by
          intro i' o'' hor hi' hd'
          by_cases e1 : i' = i
          · subst e1
            rcases hor with hD | hlt
            · exact ancN hD h2
            · omega
          · exact hs.uniq i i' o'' o' t (fun e => e1 e.symm) hi hi' hd hd'
        rw [sl2 (fun i' o'' hlt => none' i' o'' (.inr hlt))]
        exact hp.old t (fun i' o'' hD => none' i' o'' (.inl hD))
    · have none' : ∀ (i' : Nat) o'', (D i' ∨ i' < j) → ops[i']? = some o'' → o''.dst ≠ some t := by
        intro i' o'' hor hi' hd'
        refine hex ⟨i', o'', hi', hd', ?_⟩
        rintro rfl
        rcases hor with hD | hlt
        · exact hj hD
        · omega
      rw [sl2 (fun i' o'' hlt => none' i' o'' (.inr hlt))]
      exact hp.old t (fun i' o'' hD => none' i' o'' (.inl hD))
  · -- the roots that it looks at
    intro r hr
    by_cases hlt : r < st.rt.length + (newsTo outs j).length
    · right
      rw [stAt_look hrun (by omega) hlt, hp.rt]
      refine same ?_
      intro i hi hne hiff hg
      obtain ⟨x, hx⟩ := hexE hi
      exact (apart_g hx he (apt hi hne hiff).1 r (gmem hi hx hg)).1 hr
    · left
      exact List.getElem?_eq_none (by omega)
  · left
    exact List.getElem?_eq_none (Nat.le_refl _)
  · refine ⟨by have := hp.m; omega, ?_, ?_⟩
    · intro k R hk
      have hkl : k < (outs j).new.length := (List.getElem?_eq_some_iff.1 hk).1
      rw [hlenj, hp.rt, rtUp_off, base_new hjn hkl]
      · exact hk
      · intro i hi hD p hpm heq
        have hne : i ≠ j := fun e => hj (e ▸ hD)
        by_cases hlt : i < j
        · have h1 := hrun.glt i hi p hpm
          rw [stAt_len (by omega)] at h1
          obtain ⟨l, hl⟩ := newsTo_pre (outs := outs) (show i + 1 ≤ j by omega)
          have h2 : (newsTo outs j).length = (newsTo outs i).length + (outs i).new.length + l.length := by rw [hl]; simp [newsTo]; omega
          omega
        · obtain ⟨x, hx⟩ := hexE hi
          have h3 := (apart_g hx he (apt hi hne ⟨fun _ => hlt, fun _ => hD⟩).1 p.1 (gmem hi hx ⟨p, hpm, rfl⟩)).2.2
          rw [nbAt_eq hrun (by omega), hen] at h3
          omega
    · intro k hk hpr
      rw [hlenj, hp.pres] at hpr
      rcases hpr with hpr | ⟨i, hi, hD, h1, h2⟩
      · omega
      · have hne : i ≠ j := fun e => hj (e ▸ hD)
        by_cases hlt : i < j
        · obtain ⟨l, hl⟩ := newsTo_pre (outs := outs) (show i + 1 ≤ j by omega)
          have h3 : (newsTo outs j).length = (newsTo outs i).length + (outs i).new.length + l.length := by rw [hl]; simp [newsTo]; omega
          omega
        · obtain ⟨l, hl⟩ := newsTo_pre (outs := outs) (show j + 1 ≤ i by omega)
          have h3 : (newsTo outs i).length = (newsTo outs j).length + (outs j).new.length + l.length := by rw [hl]; simp [newsTo]; omega
          omega
  · -- behind it
    intro v E' hO
    refine k E' (a.put o.dst v) ⟨hO.mem, hp.step.trans hO.step, ?_, ?_, ?_, ?_, ?_, ?_, hp.m⟩
    · rw [hO.rt, hp.rt, rtUp_add hj hjn]
      intro i hi hD hlt p hpm q hq heq
      obtain ⟨x, hx⟩ := hexE hi
      have hne : i ≠ j := by omega
      have := (apart_g hx he (apt hi hne ⟨fun _ => by omega, fun _ => hD⟩).1 p.1 (gmem hi hx ⟨p, hpm, rfl⟩)).2.1
      exact this (gmem hjn he ⟨q, hq, heq.symm⟩)
    · intro r
      rw [hO.pres, hp.pres, hlenj]
      constructor
      · rintro ((h | ⟨i, hi, hD, h⟩) | h)
        · exact .inl h
        · exact .inr ⟨i, hi, .inl hD, h⟩
        · exact .inr ⟨j, hjn, .inr rfl, h⟩
      · rintro (h | ⟨i, hi, hD | rfl, h⟩)
        · exact .inl (.inl h)
        · exact .inl (.inr ⟨i, hi, hD, h⟩)
        · exact .inr h
    · intro t i o' hD hi hd
      by_cases e1 : i = j
      · subst e1
        rw [ho] at hi
        obtain rfl := Option.some.inj hi
        have hdN := hs.dst i o t ho hd
        have : (a.put o.dst v).eval (.tmp t) = v := by rw [hd]; simp [Act.put, Act.eval, hp.size, hdN]
        rw [this]
        exact hO.rel
      · have hD' : D i := hD.resolve_right e1
        have hne := hs.uniq i j o o' t e1 hi ho hd
        rw [Act.eval_put (fun d hd' he' => hne (by rw [hd']; simpa using he'.symm))]
        exact (hp.done t i o' hD' hi hd).step hO.step
    · intro t hn
      have hne : o.dst ≠ some t := hn j o (.inr rfl) ho
      rw [Act.eval_put (fun d hd' he' => hne (by rw [hd']; simpa using he'.symm))]
      exact (hp.old t (fun i o' hD => hn i o' (.inl hD))).step hO.step
    · cases o.dst <;> exact hp.defers
    · rw [Act.size_put]; exact hp.size

theorem ready_all {nb : Nat} {listed : Array Bool} (hs : DrawSpec ops N nb eff) (hr : Region.ready .any ops listed = []) (hsz : listed.size = ops.size) : ∀ i, i < ops.size → listed.getD i false = true := by
  intro i
  induction i using Nat.strongRecOn with
  | _ i ih =>
    intro hi
    by_cases h : listed.getD i false = true
    · exact h
    · have hmem : i ∈ Region.ready .any ops listed := by
        rw [mem_ready]
        refine ⟨?_, ops[i], Array.getElem?_eq_getElem hi, ?_⟩
        · have hl : i < listed.size := by omega
          simp only [Array.getD, hl, dif_pos] at h ⊢
          simpa using h
        · intro e he hb
          have := hs.back i _ (Array.getElem?_eq_getElem hi) e he hb
          exact ih e.on this (by omega)
      rw [hr] at hmem
      cases hmem

/-- The machine's run, whatever the order. -/
theorem drawn_any {c : Ctx} {Ei : Env} {Q : Exit → Act → World → Prop} (hrun : TextRun P ops N st outs eff) (hs : DrawSpec ops N st.rt.length eff)
    (hap : ∀ (i j : Nat), i ≠ j → i < ops.size → j < ops.size → ancB ops ops.size i j = true ∨ ancB ops ops.size j i = true ∨ (apartB st.rt.length eff i j = true ∧ apartB st.rt.length eff j i = true))
    (hQ : ∀ (E : Env) (a : Act), Part c Ei N ops st outs (fun i => i < ops.size) E a → Q .normal a E.w) :
    ∀ (fuel : Nat) (listed : Array Bool) (E : Env) (a : Act), listed.size = ops.size → ops.size ≤ fuel + ((List.range ops.size).filter fun i => listed.getD i false).length → Closed ops (fun i => listed.getD i false = true) → Part c Ei N ops st outs (fun i => listed.getD i false = true) E a →
      wpAny P .any ops Q fuel listed a E.w := by
  have fin : ∀ (listed : Array Bool) (E : Env) (a : Act), listed.size = ops.size → Region.ready .any ops listed = [] → Part c Ei N ops st outs (fun i => listed.getD i false = true) E a → Q .normal a E.w := by
    intro listed E a hsz hr hp
    refine hQ E a ?_
    have : (fun i => listed.getD i false = true) = (fun i => i < ops.size) := by
      funext i
      refine propext ⟨fun h => ?_, fun h => ready_all hs hr hsz i h⟩
      by_cases hi : i < listed.size
      · omega
      · simp [Array.getD, hi] at h
    rw [← this]
    exact hp
  intro fuel
  induction fuel with
  | zero =>
    intro listed E a hsz hcnt hc hp
    have hall : ∀ i, i < ops.size → listed.getD i false = true := by
      have h1 : ((List.range ops.size).filter fun i => listed.getD i false).length = (List.range ops.size).length := by
        have := List.length_filter_le (fun i => listed.getD i false) (List.range ops.size)
        simp only [List.length_range] at this ⊢
        omega
      intro i hi
      exact List.length_filter_eq_length_iff.1 h1 i (List.mem_range.2 hi)
    have hr : Region.ready .any ops listed = [] := by
      rw [List.eq_nil_iff_forall_not_mem]
      intro i hi
      obtain ⟨h1, o, h2, _⟩ := mem_ready.1 hi
      have hlt := (Array.getElem?_eq_some_iff.1 h2).1
      have h3 := hall i hlt
      have hl : i < listed.size := by omega
      simp only [Array.getD, hl, dif_pos] at h1 h3
      rw [h1] at h3
      cases h3
    exact ⟨hr, fin listed E a hsz hr hp⟩
  | succ fuel ih =>
    intro listed E a hsz hcnt hc hp
    refine ⟨fun hr => fin listed E a hsz hr hp, ?_⟩
    intro j hj
    obtain ⟨h1, o, ho, hready⟩ := mem_ready.1 hj
    have hjn := (Array.getElem?_eq_some_iff.1 ho).1
    have hjl : j < listed.size := by omega
    have hjf : listed.getD j false = false := by
      simp only [Array.getD, hjl, dif_pos] at h1 ⊢
      exact h1
    have hset : ∀ i, (listed.setIfInBounds j true).getD i false = true ↔ (listed.getD i false = true ∨ i = j) := by
      intro i
      by_cases e : i = j
      · subst e
        simp [Array.getD, hjl]
      · rw [getD_set_ne false (fun e' => e e'.symm)]
        simp [e]
    refine Part.step_one hrun hs hap hp hc (fun i hi => ?_) ho (by rw [hjf]; simp) hready ?_
    · by_cases hi' : i < listed.size
      · omega
      · simp [Array.getD, hi'] at hi
    · intro E' a' hp'
      have hD : (fun i => (listed.setIfInBounds j true).getD i false = true) = (fun i => listed.getD i false = true ∨ i = j) := funext fun i => propext (hset i)
      refine ih (listed.setIfInBounds j true) E' a' (by simpa using hsz) ?_ ?_ (by rw [hD]; exact hp')
      · have hcount : ((List.range ops.size).filter fun i => listed.getD i false).length < ((List.range ops.size).filter fun i => (listed.setIfInBounds j true).getD i false).length := by
          have sub : ∀ (l : List Nat), j ∈ l → (l.filter fun i => listed.getD i false).length < (l.filter fun i => (listed.setIfInBounds j true).getD i false).length := by
            intro l
            have le : ∀ (l : List Nat), (l.filter fun i => listed.getD i false).length ≤ (l.filter fun i => (listed.setIfInBounds j true).getD i false).length := by
              intro l
              induction l with
              | nil => simp
              | cons x l ih =>
                simp only [List.filter_cons]
                by_cases hx : listed.getD x false = true
                · rw [if_pos hx, if_pos ((hset x).2 (.inl hx))]
                  simp only [List.length_cons]
                  omega
                · rw [if_neg hx]
                  split
                  · simp only [List.length_cons]; omega
                  · exact ih
            induction l with
            | nil => intro h; cases h
            | cons x l ih =>
              intro hm
              simp only [List.filter_cons]
              by_cases e : x = j
              · subst e
                rw [if_neg (by rw [hjf]; simp), if_pos ((hset x).2 (.inr rfl))]
                simp only [List.length_cons]
                have := le l
                omega
              · have ih' := ih (by rcases List.mem_cons.1 hm with h | h; exact absurd h.symm e; exact h)
                by_cases hx : listed.getD x false = true
                · rw [if_pos hx, if_pos ((hset x).2 (.inl hx))]
                  simp only [List.length_cons]
                  omega
                · have hx' : ¬ (listed.setIfInBounds j true).getD x false = true := fun h => ((hset x).1 h).elim hx e
                  rw [if_neg hx, if_neg hx']
                  exact ih'
          exact sub _ (List.mem_range.2 hjn)
        omega
      · intro i o' hi ho' e he hb
        rw [hset] at hi ⊢
        rcases hi with hi | rfl
        · exact .inl (hc i o' hi ho' e he hb)
        · rw [ho] at ho'
          obtain rfl := Option.some.inj ho'
          exact .inl (hready e he hb)

/-- A region whose order is drawn. -/
theorem AW.drawn {id : Nat} {Q : Exit → St → Prop} (hm : P.follows .mixedOrders = true) (hrun : TextRun P ops N st outs eff) (hb : drawB ops N st.rt.length eff = true) (k : Q .normal (stAt ops st outs ops.size)) : AW P N (.region id ops true) Q st := by
  have hs := drawB_spec hb
  have hap : ∀ (i j : Nat), i ≠ j → i < ops.size → j < ops.size → ancB ops ops.size i j = true ∨ ancB ops ops.size j i = true ∨ (apartB st.rt.length eff i j = true ∧ apartB st.rt.length eff j i = true) := by
    intro i j hne hi hj
    rcases hs.apart i j hne hi hj with h | h | h
    · exact .inl h
    · exact .inr (.inl h)
    · rcases hs.apart j i hne.symm hj hi with h' | h' | h'
      · exact .inr (.inl h')
      · exact .inl h'
      · exact .inr (.inr ⟨h, h'⟩)
  intro c Ei a w hH
  obtain ⟨E, rfl, hM, hSt, hrt, hpr, hsl, hdef, hsz, hmm⟩ := hH
  let E0 : Env := { E with rt := baseOf ops st outs, w := { E.w with drawn := E.w.drawn + 1 } }
  have hbase : ∀ r R, E.rt r = some R → baseOf ops st outs r = some R := by
    intro r R hR
    rw [hrt] at hR
    have hR' : st.rt[r]? = some R := hR
    rw [base_old (List.getElem?_eq_some_iff.1 hR').1]
    exact hR'
  have hbase' : ∀ r R, E.pres r → baseOf ops st outs r = some R → E.rt r = some R := by
    intro r R hp hR
    rw [base_old ((hpr r).1 hp)] at hR
    rw [hrt]
    exact hR
  have hst0 : Step E E0 := ⟨fun r R hr => ⟨R, hbase r R hr, .inr rfl⟩, fun _ h => h, fun _ _ => rfl, fun _ h => h, fun _ _ => rfl, fun _ _ h => h⟩
  have hM0 : Mem c E0 := by
    have h1 := hM.grown hbase hbase'
    have st1 : Step { E with rt := baseOf ops st outs } E0 := ⟨fun _ R h => ⟨R, h, .inr rfl⟩, fun _ h => h, fun _ _ => rfl, fun _ h => h, fun _ _ => rfl, fun _ _ h => h⟩
    exact { h1 with roots := fun r R hp hR => (h1.roots r R hp hR).step st1 hp (fun _ _ => rfl) (fun _ _ h => h) }
  have hfalse : ∀ i, ¬ (Array.replicate ops.size false).getD i false = true := by
    intro i
    simp [Array.getD]
  refine wp_region_any hm ?_
  refine drawn_any (c := c) (Ei := Ei) hrun hs hap ?_ ops.size (Array.replicate ops.size false) E0 a (by simp) (by omega) ?_ ?_
  · intro E1 a1 hp
    refine ⟨stAt ops st outs ops.size, k, E1, rfl, hp.mem, hp.step, ?_, ?_, ?_, hp.defers, hp.size, ?_⟩
    · rw [hp.rt]
      funext r
      have hcut : rtUp outs (fun i => i < ops.size) (baseOf ops st outs) ops.size = rtUp outs (fun _ => True) (baseOf ops st outs) ops.size := rtUp_cut (Nat.le_refl _)
      rw [hcut]
      by_cases hlt : r < st.rt.length + (newsTo outs ops.size).length
      · exact (stAt_look hrun (Nat.le_refl _) hlt).symm
      · rw [rtUp_off]
        · have h1 : baseOf ops st outs r = none := List.getElem?_eq_none (by simp; omega)
          have h2 : (stAt ops st outs ops.size).look r = none := List.getElem?_eq_none (by rw [stAt_len (Nat.le_refl _)]; omega)
          rw [h1, h2]
        · intro i hi _ p hp'
          have h1 := hrun.glt i hi p hp'
          rw [stAt_len (by omega)] at h1
          obtain ⟨l, hl⟩ := newsTo_pre (outs := outs) (show i + 1 ≤ ops.size by omega)
          have h2 : (newsTo outs ops.size).length = (newsTo outs i).length + (outs i).new.length + l.length := by rw [hl]; simp [newsTo]; omega
          omega
    · intro r
      rw [hp.pres, stAt_len (Nat.le_refl _)]
      have cover : ∀ n, n ≤ ops.size → (st.rt.length ≤ r → r < st.rt.length + (newsTo outs n).length → ∃ i, i < n ∧ st.rt.length + (newsTo outs i).length ≤ r ∧ r < st.rt.length + (newsTo outs i).length + (outs i).new.length) := by
        intro n
        induction n with
        | zero => intro _ h1 h2; simp [newsTo] at h2; omega
        | succ n ih =>
          intro hn h1 h2
          by_cases hlt : r < st.rt.length + (newsTo outs n).length
          · obtain ⟨i, hi, h3⟩ := ih (by omega) h1 hlt
            exact ⟨i, by omega, h3⟩
          · simp only [newsTo, List.length_append] at h2
            exact ⟨n, by omega, by omega, by omega⟩
      constructor
      · rintro (h | ⟨i, hi, _, h1, h2⟩)
        · omega
        · obtain ⟨l, hl⟩ := newsTo_pre (outs := outs) (show i + 1 ≤ ops.size by omega)
          have h3 : (newsTo outs ops.size).length = (newsTo outs i).length + (outs i).new.length + l.length := by rw [hl]; simp [newsTo]; omega
          omega
      · intro h
        by_cases hlt : r < st.rt.length
        · exact .inl hlt
        · obtain ⟨i, hi, h1, h2⟩ := cover ops.size (Nat.le_refl _) (by omega) h
          exact .inr ⟨i, hi, hi, h1, h2⟩
    · intro t
      obtain ⟨sl1, sl2⟩ := stAt_slot (st := st) (outs := outs) hs (j := ops.size) (t := t) (Nat.le_refl _)
      by_cases hex : ∃ (i : Nat) (o' : Oper), ops[i]? = some o' ∧ o'.dst = some t
      · obtain ⟨i, o', hi, hd⟩ := hex
        have hlt := (Array.getElem?_eq_some_iff.1 hi).1
        rw [sl1 i o' hlt hi hd]
        exact hp.done t i o' hlt hi hd
      · rw [sl2 (fun i o' _ hi hd => hex ⟨i, o', hi, hd⟩)]
        exact hp.old t (fun i o' _ hi hd => hex ⟨i, o', hi, hd⟩)
    · rw [stAt_len (Nat.le_refl _)]
      omega
  · intro j o hD
    exact absurd hD (hfalse j)
  · refine ⟨hM0, hSt.trans hst0, ?_, ?_, ?_, ?_, hdef, hsz, hmm⟩
    · funext r
      exact (rtUp_off (fun i _ hD => absurd hD (hfalse i))).symm
    · intro r
      show E.pres r ↔ _
      rw [hpr]
      constructor
      · exact .inl
      · rintro (h | ⟨i, _, hD, _⟩)
        · exact h
        · exact absurd hD (hfalse i)
    · intro t i o' hD
      exact absurd hD (hfalse i)
    · intro t _
      exact (hsl t).step hst0
end
end Go.Proofs.Ytamdgfklbjoaiaa.Ab

namespace Go.Proofs.Ytamdgfklbjoaiaa.Ab
open Go

/-! Regions, gone through one operation after the other, in whichever order they run. -/

/-- What is left of a region from its i-th operation on. -/
inductive Walk (P : Program) (N : Nat) (ops : Array Oper) : Nat → St → List (Out × Eff) → St → Prop
  | done {i : Nat} {st : St} (h : i = ops.size) : Walk P N ops i st [] st
  | cons {i : Nat} {st st' : St} {o : Oper} {out : Out} {e : Eff} {l : List (Out × Eff)} (ho : ops[i]? = some o) (hd : ∀ d, o.dst = some d → d < N) (hs : OpSem P ops i e.T st.sl st.look st.rt.length out)
      (hg : e.g = out.g.map (·.1)) (hn : e.n = out.new.length) (hl : ∀ p ∈ out.g, p.1 < st.rt.length + out.new.length) (t : Walk P N ops (i + 1) (st.put o.dst out) l st') : Walk P N ops i st ((out, e) :: l) st'

section
variable {P : Program} {N : Nat} {ops : Array Oper} {Q : Exit → St → Prop}

theorem walk_ops {i : Nat} {st st' : St} {l : List (Out × Eff)} (h : Walk P N ops i st l st') (k : Q .normal st') : OpsW P N ops ((List.range (ops.size - i)).map (i + ·)) Q st := by
  induction h with
  | done h => subst h; simp only [Nat.sub_self, List.range_zero, List.map_nil]; exact OpsW.nil k
  | @cons i st st' o out e l ho hd hs hg hn hl t ih =>
    have hi : i < ops.size := (Array.getElem?_eq_some_iff.1 ho).1
    have : ops.size - i = (ops.size - (i + 1)) + 1 := by omega
    rw [this, List.range_succ_eq_map, List.map_cons, List.map_map, Nat.add_zero]
    refine OpsW.cons ho hd hl hs ?_
    have e : ((fun x => i + x) ∘ Nat.succ) = (fun x => i + 1 + x) := by funext x; simp only [Function.comp]; omega
    rw [e]
    exact ih k

def outsOf (l : List (Out × Eff)) : Nat → Out := fun i => ((l[i]?).map (·.1)).getD ⟨.junk, [], []⟩

theorem walk_len {i : Nat} {st st' : St} {l : List (Out × Eff)} (h : Walk P N ops i st l st') (hi : i ≤ ops.size) : l.length = ops.size - i := by
  induction h with
  | done h => subst h; simp
  | cons ho hd hs hg hn hl t ih =>
    have hi := (Array.getElem?_eq_some_iff.1 ho).1
    simp only [List.length_cons, ih (by omega)]
    omega

theorem walk_run {st0 st st' : St} {pre l : List (Out × Eff)} {i : Nat} (h : Walk P N ops i st l st') : pre.length = i → st = stAt ops st0 (outsOf (pre ++ l)) i →
    stAt ops st0 (outsOf (pre ++ l)) ops.size = st' ∧ ∀ j, i ≤ j → j < ops.size → ∃ e, ((pre ++ l).map (·.2))[j]? = some e ∧ OpSem P ops j e.T (stAt ops st0 (outsOf (pre ++ l)) j).sl (stAt ops st0 (outsOf (pre ++ l)) j).look (stAt ops st0 (outsOf (pre ++ l)) j).rt.length (outsOf (pre ++ l) j) ∧
      e.g = (outsOf (pre ++ l) j).g.map (·.1) ∧ e.n = (outsOf (pre ++ l) j).new.length ∧ ∀ p ∈ (outsOf (pre ++ l) j).g, p.1 < (stAt ops st0 (outsOf (pre ++ l)) j).rt.length + (outsOf (pre ++ l) j).new.length := by
  induction h generalizing pre with
  | done h => intro hp hst; subst h; exact ⟨hst.symm, fun j h1 h2 => by omega⟩
  | @cons i st st' o out e l ho hd hs hg hn hl t ih =>
    intro hp hst
    have key := ih (pre := pre ++ [(out, e)]) (by simp [hp]) (by
      rw [List.append_assoc, List.singleton_append, stAt_succ ho, ← hst]
      have : outsOf (pre ++ (out, e) :: l) i = out := by simp [outsOf, ← hp]
      rw [this])
    rw [List.append_assoc, List.singleton_append] at key
    refine ⟨key.1, ?_⟩
    intro j h1 h2
    by_cases hj : j = i
    · subst hj
      have h3 : outsOf (pre ++ (out, e) :: l) j = out := by simp [outsOf, ← hp]
      refine ⟨e, by simp [← hp], ?_⟩
      rw [h3, ← hst]
      exact ⟨hs, hg, hn, hl⟩
    · exact key.2 j (by omega) h2

/-- A region, whichever order it has. -/
theorem AW.reg {id : Nat} {draw : Bool} {st : St} (h : ∃ l st', Walk P N ops 0 st l st' ∧ (draw = true → P.follows .mixedOrders = true ∧ drawB ops N st.rt.length (l.map (·.2)) = true) ∧ Q .normal st') : AW P N (.region id ops draw) Q st := by
  obtain ⟨l, st', hw, hd, hq⟩ := h
  cases draw with
  | false =>
    refine AW.region ?_
    have := walk_ops hw hq
    simpa using this
  | true =>
    obtain ⟨h1, h2⟩ := walk_run (pre := []) (st0 := st) hw rfl rfl
    simp only [List.nil_append] at h1 h2
    refine AW.drawn (outs := outsOf l) (eff := l.map (·.2)) (hd rfl).1 ⟨?_, ?_⟩ (hd rfl).2 ?_
    · intro i hi
      obtain ⟨e, k1, k2, k3, k4, _⟩ := h2 i (Nat.zero_le _) hi
      exact ⟨e, k1, k2, k3, k4⟩
    · intro i hi
      obtain ⟨e, k1, k2, k3, k4, k5⟩ := h2 i (Nat.zero_le _) hi
      exact k5
    · rw [h1]; exact hq

/-- A walk with what has been met on the way, and what is to hold at its end. -/
def RW (P : Program) (N : Nat) (ops : Array Oper) (i : Nat) (st : St) (acc : List Eff) (K : List Eff → St → Prop) : Prop := ∃ l st', Walk P N ops i st l st' ∧ K (acc ++ l.map (·.2)) st'

theorem RW.done {i : Nat} {st : St} {acc : List Eff} {K : List Eff → St → Prop} (h : i = ops.size) (k : K acc st) : RW P N ops i st acc K := ⟨[], st, .done h, by simpa using k⟩

theorem RW.cons {i : Nat} {st : St} {acc : List Eff} {K : List Eff → St → Prop} {o : Oper} {out : Out} {T : List Nat} (ho : ops[i]? = some o) (hd : ∀ d, o.dst = some d → d < N) (hs : OpSem P ops i T st.sl st.look st.rt.length out)
    (hl : ∀ p ∈ out.g, p.1 < st.rt.length + out.new.length) (t : RW P N ops (i + 1) (st.put o.dst out) (acc ++ [⟨out.g.map (·.1), out.new.length, T⟩]) K) : RW P N ops i st acc K := by
  obtain ⟨l, st', hw, hk⟩ := t
  exact ⟨(out, ⟨out.g.map (·.1), out.new.length, T⟩) :: l, st', .cons ho hd hs rfl rfl hl hw, by simpa using hk⟩

theorem AW.reg' {id : Nat} {draw : Bool} {st : St} (h : RW P N ops 0 st [] fun effs st' => (draw = true → P.follows .mixedOrders = true ∧ drawB ops N st.rt.length effs = true) ∧ Q .normal st') : AW P N (.region id ops draw) Q st := by
  obtain ⟨l, st', hw, hd, hq⟩ := h
  exact AW.reg ⟨l, st', hw, by simpa using hd, hq⟩

def dstOk (N : Nat) (o : Oper) : Bool := match o.dst with | some d => decide (d < N) | none => true

theorem dstOk_spec {o : Oper} (h : dstOk N o = true) : ∀ d, o.dst = some d → d < N := by
  intro d hd
  simp only [dstOk, hd, decide_eq_true_eq] at h
  exact h

def isCall (o : Oper) : Bool := match o.op with | .call c => (match c.callee with | .value _ => true | _ => false) | _ => false

/-- A run of operations none of which calls. -/
def evs (P : Program) (ops : Array Oper) : List Oper → St → List Eff → Option (St × List Eff)
  | [], st, acc => some (st, acc)
  | o :: l, st, acc => (guardV ops o st.sl).bind fun g =>
    if g then (ev P st.rt.length st.sl st.look o).bind fun out =>
      if out.g.all (fun p => p.1 < st.rt.length + out.new.length) then evs P ops l (st.put o.dst out) (acc ++ [⟨out.g.map (·.1), out.new.length, Op.touched st.sl o.op⟩]) else none
    else evs P ops l (st.put o.dst ⟨.tup [], [], []⟩) (acc ++ [⟨[], 0, []⟩])

theorem RW.evs {K : List Eff → St → Prop} : ∀ {l : List Oper} {i : Nat} {st st' : St} {acc acc' : List Eff}, (∀ (k : Nat) o, l[k]? = some o → ops[i + k]? = some o ∧ dstOk N o = true) → Ab.evs P ops l st acc = some (st', acc') → RW P N ops (i + l.length) st' acc' K → RW P N ops i st acc K
  | [], i, st, st', acc, acc', _, h, k => by
    simp only [Ab.evs, Option.some.injEq, Prod.mk.injEq] at h
    obtain ⟨rfl, rfl⟩ := h
    exact k
  | o :: l, i, st, st', acc, acc', hl, h, k => by
    obtain ⟨ho, hd⟩ := hl 0 o rfl
    simp only [Nat.add_zero] at ho
    have hl' : ∀ (k : Nat) o, l[k]? = some o → ops[i + 1 + k]? = some o ∧ dstOk N o = true := by
      intro k' o' h'
      have := hl (k' + 1) o' (by simpa using h')
      rwa [show i + (k' + 1) = i + 1 + k' by omega] at this
    have hk : RW P N ops (i + 1 + l.length) st' acc' K := by
      rw [show i + 1 + l.length = i + (o :: l).length by simp; omega]; exact k
    simp only [Ab.evs] at h
    obtain ⟨g, hg, h⟩ := Option.bind_eq_some_iff.1 h
    cases g with
    | true =>
      simp only [if_true] at h
      obtain ⟨out, hout, h⟩ := Option.bind_eq_some_iff.1 h
      obtain ⟨hall, h⟩ := Option.ite_none_right_eq_some.1 h
      refine RW.cons ho (dstOk_spec hd) (OpSem.ev ho hg hout) ?_ (RW.evs hl' h hk)
      intro p hp
      simpa using List.all_eq_true.1 hall p hp
    | false =>
      simp only [Bool.false_eq_true, if_false] at h
      exact RW.cons ho (dstOk_spec hd) (OpSem.skip ho hg) (by simp) (RW.evs hl' h hk)

/-- A region without calls. -/
theorem AW.plain {id : Nat} {draw : Bool} {st st' : St} {effs : List Eff} (hd : ops.toList.all (dstOk N) = true) (h : Ab.evs P ops ops.toList st [] = some (st', effs)) (hdr : draw = true → P.follows .mixedOrders = true ∧ drawB ops N st.rt.length effs = true) (k : Q .normal st') :
    AW P N (.region id ops draw) Q st := by
  refine AW.reg' (RW.evs (l := ops.toList) (i := 0) ?_ h (RW.done (by simp) ⟨hdr, k⟩))
  intro k o hk
  refine ⟨by simpa using hk, List.all_eq_true.1 hd o (List.mem_of_getElem? hk)⟩
end
end Go.Proofs.Ytamdgfklbjoaiaa.Ab

namespace Go.Proofs.Ytamdgfklbjoaiaa.Ab
open Go

/-! The types' table, small, and what is asked of it. -/
inductive SK where
  | int (k : IntKind) | str | bool | sl (sz : Nat) | other

def skOf (P : Program) (t : TypeId) : SK :=
  match P.underlying t with
  | some (.int k) => .int k
  | some .string => .str
  | some .bool => .bool
  | some (.slice e) => .sl (((P.info? e).map (·.size)).getD 0)
  | _ => .other

/-- The kinds of a type's cells. -/
def leafSK (P : Program) : Nat → TypeId → List SK
  | 0, _ => []
  | f + 1, t =>
    match P.underlying t with
    | some (.struct fs) => fs.toList.flatMap fun g => leafSK P f g.type
    | some (.array n e) => (List.replicate n (leafSK P f e)).flatten
    | _ => [skOf P t]

structure TyRow where
  sk : SK
  sz : Option Nat
  agg : Option Bool
  el : Option (Nat × Nat)
  bsl : Bool
  leaves : List SK
  flds : List (Option (Nat × Nat × Bool))
  zero : Option (List (Value × Nat))
  ez : Option (List D × Nat × Nat)
  pl : Option (List (Nat × Nat))
  eq : Option (List EK)

def fldsT (P : Program) (t : TypeId) : List (Option (Nat × Nat × Bool)) :=
  match P.underlying t with
  | some (.struct fs) => (List.range fs.size).map fun f => fldT P t f
  | _ => []

def rowOf (P : Program) (t : TypeId) : TyRow := ⟨skOf P t, szT P t, aggT P t, elT P t, isByteSliceT P t, leafSK P 8 t, fldsT P t, zeroT P t, ezT P t, placesT P t, eqT P t⟩

def tabGet : List (Nat × TyRow) → Nat → Option TyRow
  | [], _ => none
  | (t, r) :: l, x => if t = x then some r else tabGet l x

def TabOk (P : Program) (tab : List (Nat × TyRow)) : Prop := ∀ t r, tabGet tab t = some r → r = rowOf P t

theorem TabOk.of {P : Program} {tab : List (Nat × TyRow)} (h : tab = tab.map fun p => (p.1, rowOf P p.1)) : TabOk P tab := by
  have key : ∀ l : List (Nat × TyRow), (∀ p ∈ l, p.2 = rowOf P p.1) → ∀ t r, tabGet l t = some r → r = rowOf P t := by
    intro l
    induction l with
    | nil => intro _ t r h; cases h
    | cons p l ih =>
      intro hl t r hr
      obtain ⟨x, y⟩ := p
      simp only [tabGet] at hr
      split at hr
      · rename_i e
        subst e
        obtain rfl := Option.some.inj hr
        exact hl (x, y) (by simp)
      · exact ih (fun p hp => hl p (by simp [hp])) t r hr
  refine key tab ?_
  intro p hp
  rw [h] at hp
  obtain ⟨q, _, rfl⟩ := List.mem_map.1 hp
  rfl

/-- Whatever is reckoned with values that are not known. -/
structure Ar where
  bin : BinOp → IntKind → Int → Int → Int
  sh : BinOp → IntKind → Int → Int → Int
  cmp : BinOp → Int → Int → Bool
  scmp : BinOp → ByteArray → ByteArray → Bool
  bcmp : Bool → Bool → Bool
  bnot : Bool → Bool
  neg : IntKind → Int → Int
  wrap : IntKind → Int → Int
  cat : ByteArray → ByteArray → ByteArray
  ssize : ByteArray → Int
  ssub : ByteArray → Int → Int → ByteArray
  sget : ByteArray → Int → Int
  len : List (List D) → Int
  rsub : List (List D) → Int → Int → List (List D)
  app : List (List D) → List (List D) → List (List D)
  elt : List (List D) → Int → List D
  set : List (List D) → Nat → Nat → List D → List (List D)
  nth : List D → Nat → D
  drp : List D → Nat → List D
  str : D → ByteArray
  int : D → Int
  bool : D → Bool
  row : D → List (List D)
  nat : Int → Nat
  nadd : Nat → Nat → Nat
  nsub : Nat → Nat → Nat
  band : Bool → Bool → Bool
  ofNat : Nat → Int
  strRow : ByteArray → List (List D)
  mkRow : Int → List D → List (List D)
  mx : Int → Int → Int
  mn : Int → Int → Int
  bytes : List (List D) → ByteArray
  emp : List (List D) → Bool

def valInt : Option Value → Int
  | some (.int _ n) => n
  | _ => 0
def valBool : Option Value → Bool
  | some (.bool b) => b
  | _ => false

def std : Ar where
  bin := fun op k a b => valInt (binInt op k a b)
  sh := fun op k a b => match op with | .shl => k.wrap (a * 2 ^ (min b.toNat k.bits)) | _ => a.fdiv (2 ^ (min b.toNat k.bits))
  cmp := fun op a b => valBool (binInt op .i64 a b)
  scmp := fun op a b => valBool (binStr op a b)
  bcmp := fun a b => a == b
  bnot := fun a => !a
  neg := fun k a => k.wrap (0 - a)
  wrap := fun k a => k.wrap a
  cat := fun a b => a ++ b
  ssize := fun a => a.size
  ssub := fun s a b => s.extract a.toNat b.toNat
  sget := fun s i => if h : i.toNat < s.size then (((s[i.toNat]'h).toNat : Nat) : Int) else 0
  len := fun xs => xs.length
  rsub := fun xs a b => (xs.drop a.toNat).take (b.toNat - a.toNat)
  app := fun xs ys => xs ++ ys
  elt := fun xs i => (xs[i.toNat]?).getD []
  set := fun xs i j ds => xs.set i (putAt ((xs[i]?).getD []) j ds)
  nth := fun xs j => (xs[j]?).getD (.sc undef)
  drp := fun xs j => xs.drop j
  str := fun x => match x with | .sc (.string s) => s | _ => default
  int := fun x => match x with | .sc (.int _ n) => n | _ => 0
  bool := fun x => match x with | .sc (.bool b) => b | _ => false
  row := fun x => match x with | .row _ xs => xs | _ => []
  nat := Int.toNat
  nadd := fun a b => a + b
  nsub := fun a b => a - b
  band := fun a b => a && b
  ofNat := fun n => n
  strRow := strRow
  mkRow := fun n z => List.replicate n.toNat z
  mx := fun a b => if b > a then b else a
  mn := fun a b => if b < a then b else a
  bytes := fun xs => match byteRow xs with | some ns => strOfInts ns | none => default
  emp := fun xs => xs.isEmpty
end Go.Proofs.Ytamdgfklbjoaiaa.Ab

namespace Go.Proofs.Ytamdgfklbjoaiaa.Ab
open Go

/-! What is asked on the way. -/
inductive InR (i n : Int) : Prop | mk (h0 : 0 ≤ i) (h1 : i < n) : InR i n
inductive Slc (lo hi n : Int) : Prop | mk (h0 : 0 ≤ lo) (h1 : lo ≤ hi) (h2 : hi ≤ n) : Slc lo hi n
inductive IsD (x y : D) : Prop | mk (h : x = y) : IsD x y
inductive LenGe (x : List D) (n : Nat) : Prop | mk (h : n ≤ x.length) : LenGe x n
inductive NonNeg (a : Int) : Prop | mk (h : 0 ≤ a) : NonNeg a
inductive NeZ (a : Int) : Prop | mk (h : a ≠ 0) : NeZ a
inductive CatOk (a b : ByteArray) : Prop | mk (h : ((a.size + b.size : Nat) : Int) ≤ IntKind.i64.max) : CatOk a b
inductive AppOk (off len : Nat) (xs ys : List (List D)) (bytes : Nat) : Prop
  | mk (h0 : off = 0) (h1 : len = xs.length) (h2 : (2 * (xs.length + ys.length) + 1024) * bytes ≤ 2 ^ 48) (h3 : xs.length + ys.length < 2 ^ 62) : AppOk off len xs ys bytes
inductive SubOk (off len : Nat) (xs : List (List D)) : Prop | mk (h : off + len ≤ xs.length) : SubOk off len xs
inductive MakeOk (n m : Int) (bytes : Nat) : Prop | mk (h0 : 0 ≤ n) (h1 : n ≤ m) (h2 : bytes * m ≤ 2 ^ 48) (h3 : m < 2 ^ 63) : MakeOk n m bytes
inductive ByteOk (xs : List (List D)) : Prop | mk (ns : List Int) (h : byteRow xs = some ns) : ByteOk xs

abbrev VO := Option (Out × List Prop)
abbrev VA := Option (AV × List Prop)

def vOut (x : VA) : VO := match x with | some (av, p) => some (⟨av, [], []⟩, p) | none => none

def vNorm (A : Ar) (k : SK) (x : D) : D × List Prop :=
  match k with
  | .int k => (.sc (.int k (A.int x)), [IsD x (.sc (.int k (A.int x)))])
  | .str => (.sc (.string (A.str x)), [IsD x (.sc (.string (A.str x)))])
  | .bool => (.sc (.bool (A.bool x)), [IsD x (.sc (.bool (A.bool x)))])
  | .sl sz => (.row sz (A.row x), [IsD x (.row sz (A.row x))])
  | .other => (x, [])

def vLeaves (A : Ar) (cs : List D) : Nat → List SK → List AV × List Prop
  | _, [] => ([], [])
  | j, k :: ks => (.d (vNorm A k (A.nth cs j)).1 :: (vLeaves A cs (j + 1) ks).1, (vNorm A k (A.nth cs j)).2 ++ (vLeaves A cs (j + 1) ks).2)

/-- A value out of a row's element. -/
def vTake (A : Ar) (R : TyRow) (cs : List D) : VA :=
  match R.agg, R.sz, R.leaves with
  | some true, some n, ks => if ks.length = n ∧ n ≠ 0 then some (.agg (vLeaves A cs 0 ks).1, LenGe cs n :: (vLeaves A cs 0 ks).2) else none
  | some false, some _, [k] => some (.d (vNorm A k (A.nth cs 0)).1, LenGe cs 1 :: (vNorm A k (A.nth cs 0)).2)
  | _, _, _ => none

def vLoad (A : Ar) (rt : Nat → Option Root) (R : TyRow) : AV → VA
  | .ptr r i j =>
    match rt r with
    | some (.row _ _ xs) => match vTake A R (A.drp (A.elt xs (A.ofNat i)) j) with
      | some (av, p) => some (av, InR (A.ofNat i) (A.len xs) :: p)
      | none => none
    | some (.box ty l) => match i, R.agg, R.sz with
      | 0, some g, some n => (match takeP l j n g with | some av => some (av, []) | none => none)
      | _, _, _ => none
    | _ => none
  | .rptr cs => vTake A R cs
  | _ => none

def vIndexAddr (A : Ar) (rt : Nat → Option Root) (R : TyRow) (x : AV) (i : Int) : VA :=
  match R.el with
  | none => none
  | some (esz, _) =>
    match x with
    | .ref r off len =>
      match rt r with
      | some (.row sz _ _) => if esz = sz then some (.ptr r (A.nadd off (A.nat i)) 0, [InR i (A.ofNat len)]) else none
      | _ => none
    | .d (.row sz xs) => if esz = sz then some (.rptr (A.elt xs i), [InR i (A.len xs)]) else none
    | _ => none

def vFieldAddr (A : Ar) (rt : Nat → Option Root) (fl : Option (Nat × Nat × Bool)) : AV → VA
  | .ptr r i j => if alive rt r then (match fl with | some (o, n, _) => if n = 0 then none else some (.ptr r i (j + o), []) | none => none) else none
  | .rptr cs => match fl with | some (o, n, _) => if n = 0 then none else some (.rptr (A.drp cs o), []) | none => none
  | _ => none

def isStrK : SK → Bool
  | .str => true
  | _ => false

def vSlice (A : Ar) (rt : Nat → Option Root) (R : TyRow) (x : AV) (lo hi : Option Int) : VA :=
  match x with
  | .d (.sc (.string s)) => if isStrK R.sk then some (.d (.sc (.string (A.ssub s (lo.getD 0) (hi.getD (A.ssize s))))), [Slc (lo.getD 0) (hi.getD (A.ssize s)) (A.ssize s)]) else none
  | .d (.row sz xs) => match R.el with
    | some (esz, _) => if esz = sz then some (.d (.row sz (A.rsub xs (lo.getD 0) (hi.getD (A.len xs)))), [Slc (lo.getD 0) (hi.getD (A.len xs)) (A.len xs)]) else none
    | none => none
  | .ref r off len =>
    match rt r, R.el with
    | some (.row sz _ _), some (esz, _) => if esz = sz then some (.ref r (A.nadd off (A.nat (lo.getD 0))) (A.nsub (A.nat (hi.getD (A.ofNat len))) (A.nat (lo.getD 0))), [Slc (lo.getD 0) (hi.getD (A.ofNat len)) (A.ofNat len)]) else none
    | _, _ => none
  | _ => none

def vIndexS (A : Ar) (R : TyRow) (x : AV) (i : Int) : VA :=
  match x with
  | .d (.sc (.string s)) => if isStrK R.sk then some (.d (.sc (.int .u8 (A.sget s i))), [InR i (A.ssize s)]) else none
  | _ => none

def vBinInt (A : Ar) (op : BinOp) (k : IntKind) (a b : Int) : VA :=
  match op with
  | .add | .sub | .mul | .and | .or | .xor | .andNot => some (.d (.sc (.int k (A.bin op k a b))), [])
  | .quo | .rem => some (.d (.sc (.int k (A.bin op k a b))), [NeZ b])
  | .eql | .neq | .lss | .leq | .gtr | .geq => some (.d (.sc (.bool (A.cmp op a b))), [])
  | _ => none

def vBinStr (A : Ar) (op : BinOp) (a b : ByteArray) : VA :=
  match op with
  | .add => some (.d (.sc (.string (A.cat a b))), [CatOk a b])
  | .eql | .neq | .lss | .leq | .gtr | .geq => some (.d (.sc (.bool (A.scmp op a b))), [])
  | _ => none

def isBoolK : SK → Bool
  | .bool => true
  | _ => false

def vEq (A : Ar) : List EK → List AV → List AV → Option Bool
  | [], [], [] => some true
  | .int :: ks, .d (.sc (.int k a)) :: xs, .d (.sc (.int k' b)) :: ys => if k = k' then (match vEq A ks xs ys with | some r => some (A.band (A.cmp .eql a b) r) | none => none) else none
  | .str :: ks, .d (.sc (.string a)) :: xs, .d (.sc (.string b)) :: ys => (match vEq A ks xs ys with | some r => some (A.band (A.scmp .eql a b) r) | none => none)
  | .bool :: ks, .d (.sc (.bool a)) :: xs, .d (.sc (.bool b)) :: ys => (match vEq A ks xs ys with | some r => some (A.band (A.bcmp a b) r) | none => none)
  | _, _, _ => none

def vBin (A : Ar) (R : TyRow) (op : BinOp) (x y : AV) : VA :=
  match x, y with
  | .d (.sc (.int k a)), .d (.sc (.int k' b)) =>
    match op with
    | .shl => some (.d (.sc (.int k (A.sh .shl k a b))), [NonNeg b])
    | .shr => some (.d (.sc (.int k (A.sh .shr k a b))), [NonNeg b])
    | _ => if k = k' then vBinInt A op k a b else none
  | .d (.sc (.string a)), .d (.sc (.string b)) => vBinStr A op a b
  | .d (.sc (.bool a)), .d (.sc (.bool b)) => if isBoolK R.sk then (match op with | .eql => some (.d (.sc (.bool (A.bcmp a b))), []) | .neq => some (.d (.sc (.bool (A.bnot (A.bcmp a b)))), []) | _ => none) else none
  | .agg xs, .agg ys =>
    match op, R.eq with
    | .eql, some ks => (match vEq A ks xs ys with | some b => some (.d (.sc (.bool b)), []) | none => none)
    | .neq, some ks => (match vEq A ks xs ys with | some b => some (.d (.sc (.bool (A.bnot b))), []) | none => none)
    | _, _ => none
  | _, _ => none

/-- A comparison, also of a slice with nil. -/
def vBinN (A : Ar) (rt : Nat → Option Root) (R : TyRow) (op : BinOp) (x y : AV) (yo : Operand) : VA :=
  match isNilC yo with
  | true => (match op, R.sk, x with
    | .eql, .sl _, .d (.row _ xs) => some (.anyb (A.emp xs), [])
    | .eql, .sl _, .ref r _ len => if alive rt r then some (.anyb (A.cmp .eql (A.ofNat len) 0), []) else none
    | _, _, _ => none)
  | false => vBin A R op x y

def vUn (A : Ar) (op : UnOp) : AV → VA
  | .d (.sc (.bool b)) => match op with | .not => some (.d (.sc (.bool (A.bnot b))), []) | _ => none
  | .d (.sc (.int k n)) => match op with | .neg => some (.d (.sc (.int k (A.neg k n))), []) | _ => none
  | _ => none

def vToD (A : Ar) (rt : Nat → Option Root) : AV → Option (D × List Prop)
  | .d x => some (x, [])
  | .ref r off len =>
    match rt r with
    | some (.row sz true xs) => some (.row sz (A.rsub xs (A.ofNat off) (A.ofNat (A.nadd off len))), [SubOk off len xs])
    | _ => none
  | _ => none

def vToDs (A : Ar) (rt : Nat → Option Root) : List AV → Option (List D × List Prop)
  | [] => some ([], [])
  | x :: l => match vToD A rt x, vToDs A rt l with
    | some (d, p), some (ds, q) => some (d :: ds, p ++ q)
    | _, _ => none

def vSrc (A : Ar) (rt : Nat → Option Root) : AV → Option (Nat × List (List D) × List Prop)
  | .d (.sc (.string s)) => some (1, A.strRow s, [])
  | .d (.row sz xs) => some (sz, xs, [])
  | .ref r off len =>
    match rt r with
    | some (.row sz _ xs) => some (sz, A.rsub xs (A.ofNat off) (A.ofNat (A.nadd off len)), [SubOk off len xs])
    | _ => none
  | _ => none

def vAppend (A : Ar) (rt : Nat → Option Root) (nb : Nat) (R : TyRow) (s x : AV) : VO :=
  match s, R.el, R.ez with
  | .ref r off len, some (n, bytes), some _ =>
    match rt r, vSrc A rt x with
    | some (.row sz false xs), some (sz', ys, p) =>
      if sz' = sz ∧ n = sz then some (⟨.ref nb 0 (A.nat (A.len (A.app xs ys))), [.row sz false (A.app xs ys)], [(r, .dead)]⟩, AppOk off len xs ys bytes :: p) else none
    | _, _ => none
  | _, _, _ => none

def vStore (A : Ar) (rt : Nat → Option Root) (n : Nat) (p x : AV) : Option ((Nat × Root) × List Prop) :=
  match p with
  | .ptr r i j =>
    match rt r with
    | some (.box ty l) => (match i, x.leaves with
      | 0, some ys => if ys.length = n ∧ j + ys.length ≤ l.length then some ((r, .box ty (putAt l j ys)), []) else none
      | _, _ => none)
    | some (.row sz false xs) => (match x.leaves with
      | some ys => (match vToDs A rt ys with
        | some (ds, q) => if ds.length = n then some ((r, .row sz false (A.set xs i j ds)), InR (A.ofNat i) (A.len xs) :: LenGe (A.elt xs (A.ofNat i)) (j + ds.length) :: q) else none
        | none => none)
      | none => none)
    | _ => none
  | _ => none

def vConv (A : Ar) (rt : Nat → Option Root) (S T : TyRow) (x : AV) : VA :=
  match T.sk, x with
  | .int k, .d (.sc (.int _ n)) => (match S.sk with | .int _ => some (.d (.sc (.int k (A.wrap k n))), []) | _ => none)
  | .str, .d (.sc (.string s)) => if isStrK S.sk then some (.d (.sc (.string s)), []) else none
  | .str, .d (.row sz xs) => if S.bsl ∧ sz = 1 then some (.d (.sc (.string (A.bytes xs))), [ByteOk xs]) else none
  | .str, .ref r off len => (match rt r with
    | some (.row sz _ xs) => if S.bsl ∧ sz = 1 then some (.d (.sc (.string (A.bytes (A.rsub xs (A.ofNat off) (A.ofNat (A.nadd off len)))))), [SubOk off len xs, ByteOk (A.rsub xs (A.ofNat off) (A.ofNat (A.nadd off len)))]) else none
    | _ => none)
  | _, _ => none

def vLen (A : Ar) (rt : Nat → Option Root) (R : TyRow) : AV → VA
  | .d (.sc (.string s)) => if isStrK R.sk then some (.d (.sc (.int .i64 (A.ssize s))), []) else none
  | .d (.row _ xs) => (match R.sk with | .sl _ => some (.d (.sc (.int .i64 (A.len xs))), []) | _ => none)
  | .ref r _ len => (match R.sk with | .sl _ => if alive rt r then some (.d (.sc (.int .i64 (A.ofNat len))), []) else none | _ => none)
  | _ => none

def vPartDs (A : Ar) (rt : Nat → Option Root) (sl : Nat → AV) : List (Nat × Operand) → Option (List (Nat × List D) × List Prop)
  | [] => some ([], [])
  | (i, x) :: rest => match (opd0 sl x).leaves with
    | none => none
    | some l => match vToDs A rt l, vPartDs A rt sl rest with
      | some (ds, p), some (r, q) => some ((i, ds) :: r, p ++ q)
      | _, _ => none

def vCall (A : Ar) (tab : List (Nat × TyRow)) (nb : Nat) (sl : Nat → AV) (rt : Nat → Option Root) (c : Call) : VO :=
  match c.callee, c.args.toList, c.argTypes.toList with
  | .builtin .len, [x], [t] => (match tabGet tab t with | some R => vOut (vLen A rt R (opd0 sl x)) | none => none)
  | .builtin .append, [s, x], [t, xt] => (match tabGet tab t, tabGet tab xt with
    | some R, some X => (match X.sk with | .sl _ => vAppend A rt nb R (opd0 sl s) (opd0 sl x) | .str => vAppend A rt nb R (opd0 sl s) (opd0 sl x) | _ => none)
    | _, _ => none)
  | .builtin .max, [x, y], _ => (match opd0 sl x, opd0 sl y with | .d (.sc (.int k a)), .d (.sc (.int _ b)) => some (⟨.d (.sc (.int k (A.mx a b))), [], []⟩, []) | _, _ => none)
  | .builtin .min, [x, y], _ => (match opd0 sl x, opd0 sl y with | .d (.sc (.int k a)), .d (.sc (.int _ b)) => some (⟨.d (.sc (.int k (A.mn a b))), [], []⟩, []) | _, _ => none)
  | _, _, _ => none

def hintR : Option TyRow → Nat
  | some R => (R.el.map (·.1)).getD 0
  | none => 0

def vMove (tab : List (Nat × TyRow)) (nb : Nat) (sl : Nat → AV) (ty : TypeId) (x : Operand) : VO :=
  match x with
  | .const (.slice none 0 0) => (match tabGet tab ty with | some R => some (⟨.ref nb 0 0, [.row (hintR (some R)) false []], []⟩, []) | none => none)
  | x => some (⟨opd0 sl x, [], []⟩, [])

/-- One operation. -/
def vev (A : Ar) (tab : List (Nat × TyRow)) (nb : Nat) (sl : Nat → AV) (rt : Nat → Option Root) (o : Oper) : VO :=
  match o.op with
  | .move x => vMove tab nb sl o.type x
  | .assign x => vMove tab nb sl o.type x
  | .pick c a b => (match opd0 sl c with | .d (.sc (.bool true)) => some (⟨opd0 sl a, [], []⟩, []) | .d (.sc (.bool false)) => some (⟨opd0 sl b, [], []⟩, []) | _ => none)
  | .alloc t => (match tabGet tab t with | some R => (match R.zero with | some zs => some (⟨(evAlloc nb t zs).1, (evAlloc nb t zs).2, []⟩, []) | none => none) | none => none)
  | .box t x => (match (opd0 sl x).leaves with | some l => some (⟨.ptr nb 0 0, [.box t l], []⟩, []) | none => none)
  | .build t ps => (match tabGet tab t with
    | some R => (match R.zero, R.pl, partLeaves sl ps.toList with
      | some zs, some pl, some l => (match evBuild nb zs pl l with | some r => some (⟨r.1, r.2, []⟩, []) | none => none)
      | _, _, _ => none)
    | none => none)
  | .buildSlice t n ps => (match tabGet tab t with
    | some R => (match R.ez, vPartDs A rt sl ps.toList with
      | some z, some (l, p) => (match evBuildSlice nb z n l with | some r => some (⟨r.1, r.2, []⟩, p) | none => none)
      | _, _ => none)
    | none => none)
  | .load t x => (match tabGet tab t with | some R => vOut (vLoad A rt R (opd0 sl x)) | none => none)
  | .store t p x => (match tabGet tab t with
    | some R => (match R.sz, opd nb (hintR (some R)) sl x with
      | some n, (av, new) => (match vStore A rt n (opd0 sl p) av with
        | some ((r, R'), q) => if r < nb then some (⟨.junk, new, [(r, R')]⟩, q) else none
        | none => none)
      | _, _ => none)
    | none => none)
  | .nilCheck x => (match evNil rt (opd0 sl x) with | some v => some (⟨v, [], []⟩, []) | none => none)
  | .binOp op t x y _ => (match tabGet tab t with | some R => vOut (vBinN A rt R op (opd0 sl x) (opd0 sl y) y) | none => none)
  | .unOp op _ x => vOut (vUn A op (opd0 sl x))
  | .convert s d x => (match tabGet tab s, tabGet tab d with | some S, some T => vOut (vConv A rt S T (opd0 sl x)) | _, _ => none)
  | .fieldAddr t x f => (match tabGet tab t with | some R => (match R.flds[f]? with | some fl => vOut (vFieldAddr A rt fl (opd0 sl x)) | none => none) | none => none)
  | .field t x f => (match tabGet tab t with | some R => (match R.flds[f]? with | some fl => (match evField fl (opd0 sl x) with | some v => some (⟨v, [], []⟩, []) | none => none) | none => none) | none => none)
  | .indexAddr t x i => (match tabGet tab t, opd0 sl i with | some R, .d (.sc (.int _ n)) => vOut (vIndexAddr A rt R (opd0 sl x) n) | _, _ => none)
  | .index t x i => (match tabGet tab t, opd0 sl i with | some R, .d (.sc (.int _ n)) => vOut (vIndexS A R (opd0 sl x) n) | _, _ => none)
  | .slice t x lo hi none => (match tabGet tab t, bound? sl lo, bound? sl hi with | some R, some l, some h => vOut (vSlice A rt R (opd0 sl x) l h) | _, _, _ => none)
  | .makeSlice t n m => (match tabGet tab t, opd0 sl n, opd0 sl m with
    | some R, .d (.sc (.int _ n)), .d (.sc (.int _ m)) => (match R.ez with | some z => some (⟨.ref nb 0 (A.nat n), [.row z.2.1 false (A.mkRow n z.1)], []⟩, [MakeOk n m z.2.2]) | none => none)
    | _, _, _ => none)
  | .extract x i => (match evExtract i (opd0 sl x) with | some v => some (⟨v, [], []⟩, []) | none => none)
  | .makeFunc (.func f) first caps => if first.size = 0 then some (⟨.clo f (caps.toList.map (opd0 sl)), [], []⟩, []) else none
  | .call c => vCall A tab nb sl rt c
  | _ => none
end Go.Proofs.Ytamdgfklbjoaiaa.Ab

namespace Go.Proofs.Ytamdgfklbjoaiaa.Ab
open Go

section
variable {P : Program} {rt : Nat → Option Root} {x y av : AV} {ps : List Prop}

theorem vNorm_ok {k : SK} {d : D} (h : ∀ p ∈ (vNorm std k d).2, p) : (vNorm std k d).1 = d := by
  cases k <;> simp only [vNorm] at h ⊢
  all_goals
    have := h _ (List.mem_singleton.2 rfl)
    obtain ⟨h⟩ := this
    exact h.symm

theorem vLeaves_ok {cs : List D} : ∀ {ks : List SK} {j : Nat}, j + ks.length ≤ cs.length → (∀ p ∈ (vLeaves std cs j ks).2, p) → (vLeaves std cs j ks).1 = ((cs.drop j).take ks.length).map AV.d
  | [], j, _, _ => by simp [vLeaves]
  | k :: ks, j, hl, h => by
    simp only [List.length_cons] at hl
    have hj : j < cs.length := by omega
    simp only [vLeaves] at h ⊢
    rw [vNorm_ok (fun p hp => h p (List.mem_append_left _ hp)), vLeaves_ok (by omega) (fun p hp => h p (List.mem_append_right _ hp))]
    have e : cs.drop j = cs[j] :: cs.drop (j + 1) := List.drop_eq_getElem_cons hj
    have hn : std.nth cs j = cs[j] := by show (cs[j]?).getD _ = _; rw [List.getElem?_eq_getElem hj]; rfl
    rw [e, hn]
    simp only [List.length_cons, List.take_succ_cons, List.map_cons]

theorem vTake_ok {t : TypeId} {cs : List D} (h : vTake std (rowOf P t) cs = some (av, ps)) (hp : ∀ p ∈ ps, p) : ∃ g n, aggT P t = some g ∧ szT P t = some n ∧ (g = true → n ≠ 0) ∧ takeP (cs.map AV.d) 0 n g = some av := by
  unfold vTake at h
  split at h
  · rename_i n hg hs
    split at h
    · rename_i hlen
      obtain ⟨hlen, hn0⟩ := hlen
      simp only [Option.some.injEq, Prod.mk.injEq] at h
      obtain ⟨rfl, rfl⟩ := h
      obtain ⟨hl⟩ := hp _ List.mem_cons_self
      refine ⟨true, n, hg, hs, fun _ => hn0, ?_⟩
      rw [vLeaves_ok (by omega) (fun p h => hp p (List.mem_cons_of_mem _ h)), hlen]
      have : 0 + n ≤ (cs.map AV.d).length := by simp; omega
      simp only [takeP, if_true, this, List.drop_zero, List.map_take]
    · cases h
  · rename_i n k hg hs hk
    simp only [Option.some.injEq, Prod.mk.injEq] at h
    obtain ⟨rfl, rfl⟩ := h
    obtain ⟨hl⟩ := hp _ List.mem_cons_self
    refine ⟨false, n, hg, hs, by simp, ?_⟩
    rw [vNorm_ok (fun p h => hp p (List.mem_cons_of_mem _ h))]
    have h0 : 0 < cs.length := by omega
    have hn : std.nth cs 0 = cs[0] := by show (cs[0]?).getD _ = _; rw [List.getElem?_eq_getElem h0]; rfl
    rw [hn]
    simp [takeP, h0]
  · cases h

theorem takeP_drop {cs : List D} {j n : Nat} {g : Bool} (h0 : g = true → n ≠ 0) (h : takeP ((cs.drop j).map AV.d) 0 n g = some av) : takeP (cs.map AV.d) j n g = some av := by
  cases g with
  | false => simpa [takeP] using h
  | true =>
    simp only [takeP, if_true] at h ⊢
    split at h
    · rename_i hc
      simp only [Nat.zero_add, List.length_map, List.length_drop] at hc
      by_cases hj : j ≤ cs.length
      · rw [if_pos (by simp; omega)]
        simpa using h
      · have := h0 rfl
        omega
    · cases h

theorem vLoad_ok {t : TypeId} (h : vLoad std rt (rowOf P t) x = some (av, ps)) (hp : ∀ p ∈ ps, p) : ∃ g n, aggT P t = some g ∧ szT P t = some n ∧ evLoad rt n g x = some av := by
  unfold vLoad at h
  split at h
  · rename_i r i j
    split at h
    · rename_i sz fz xs hrt
      split at h
      · rename_i av' p' ht
        simp only [Option.some.injEq, Prod.mk.injEq] at h
        obtain ⟨rfl, rfl⟩ := h
        obtain ⟨h0, h1⟩ := hp _ List.mem_cons_self
        obtain ⟨g, n, hg, hn, hn0, htk⟩ := vTake_ok ht (fun p h => hp p (List.mem_cons_of_mem _ h))
        refine ⟨g, n, hg, hn, ?_⟩
        have hi : i < xs.length := by
          have : ((i : Int)) < ((xs.length : Nat) : Int) := h1
          omega
        have he : std.elt xs (std.ofNat i) = xs[i] := by
          show (xs[((i : Nat) : Int).toNat]?).getD [] = _
          rw [Int.toNat_natCast, List.getElem?_eq_getElem hi]; rfl
        simp only [evLoad, hrt, List.getElem?_eq_getElem hi, Option.bind_some]
        rw [he] at htk
        exact takeP_drop hn0 htk
      · cases h
    · rename_i l hrt
      split at h
      · rename_i g n hg hn
        split at h
        · rename_i av' ht
          simp only [Option.some.injEq, Prod.mk.injEq] at h
          obtain ⟨rfl, rfl⟩ := h
          exact ⟨g, n, hg, hn, by simp only [evLoad, hrt, if_true]; exact ht⟩
        · cases h
      · cases h
    · cases h
  · rename_i cs
    obtain ⟨g, n, hg, hn, _, htk⟩ := vTake_ok h hp
    exact ⟨g, n, hg, hn, htk⟩
  · cases h

theorem vIndexAddr_ok {t : TypeId} {i : Int} (h : vIndexAddr std rt (rowOf P t) x i = some (av, ps)) (hp : ∀ p ∈ ps, p) : evIndexAddr rt (elT P t) x i = some av := by
  unfold vIndexAddr at h
  split at h
  · cases h
  · rename_i esz b hel
    have hel' : elT P t = some (esz, b) := hel
    split at h
    · rename_i r off len
      split at h
      · rename_i sz fz xs hrt
        split at h
        · rename_i e
          subst e
          simp only [Option.some.injEq, Prod.mk.injEq] at h
          obtain ⟨rfl, rfl⟩ := h
          obtain ⟨h0, h1⟩ := hp _ List.mem_cons_self
          have h1' : i < (len : Int) := h1
          simp only [evIndexAddr, hrt, hel', Option.map_some, true_and]
          rw [if_pos ⟨h0, h1'⟩]
          rfl
        · cases h
      · cases h
    · rename_i sz xs
      split at h
      · rename_i e
        subst e
        simp only [Option.some.injEq, Prod.mk.injEq] at h
        obtain ⟨rfl, rfl⟩ := h
        obtain ⟨h0, h1⟩ := hp _ List.mem_cons_self
        have h1' : i < (xs.length : Int) := h1
        have hi : i.toNat < xs.length := by omega
        simp only [evIndexAddr, hel', Option.map_some, true_and]
        rw [if_pos h0, List.getElem?_eq_getElem hi]
        have he : std.elt xs i = xs[i.toNat] := by
          show (xs[i.toNat]?).getD [] = _
          rw [List.getElem?_eq_getElem hi]; rfl
        rw [he]
        rfl
      · cases h
    · cases h

theorem vFieldAddr_ok {fl : Option (Nat × Nat × Bool)} (h : vFieldAddr std rt fl x = some (av, ps)) : evFieldAddr rt fl x = some av := by
  unfold vFieldAddr at h
  split at h
  · split at h
    · rename_i ha
      split at h
      · rename_i o n g
        split at h
        · cases h
        · rename_i hn
          simp only [Option.some.injEq, Prod.mk.injEq] at h
          obtain ⟨rfl, rfl⟩ := h
          simp [evFieldAddr, ha, hn]
      · cases h
    · cases h
  · split at h
    · rename_i o n g
      split at h
      · cases h
      · rename_i hn
        simp only [Option.some.injEq, Prod.mk.injEq] at h
        obtain ⟨rfl, rfl⟩ := h
        simp only [evFieldAddr, Option.bind_some, hn, if_false]
        rfl
    · cases h
  · cases h
end
end Go.Proofs.Ytamdgfklbjoaiaa.Ab

namespace Go.Proofs.Ytamdgfklbjoaiaa.Ab
open Go

section
variable {P : Program} {rt : Nat → Option Root} {x y av : AV} {ps : List Prop}

theorem skOf_str {t : TypeId} (h : isStrK (skOf P t) = true) : isStrT P t = true := by
  unfold skOf at h
  unfold isStrT
  split at h <;> simp_all [isStrK]

theorem skOf_sl {t : TypeId} {n : Nat} (h : skOf P t = .sl n) : isSliceT P t = true := by
  unfold skOf at h
  unfold isSliceT
  split at h <;> simp_all

theorem skOf_bool {t : TypeId} (h : isBoolK (skOf P t) = true) : isBoolT P t = true := by
  unfold skOf at h
  unfold isBoolT
  split at h <;> simp_all [isBoolK]

theorem vSlice_ok {t : TypeId} {lo hi : Option Int} (h : vSlice std rt (rowOf P t) x lo hi = some (av, ps)) (hp : ∀ p ∈ ps, p) : evSlice rt (elT P t) (isStrT P t) x lo hi = some av := by
  unfold vSlice at h
  split at h
  · rename_i s
    split at h
    · rename_i hs
      simp only [Option.some.injEq, Prod.mk.injEq] at h
      obtain ⟨rfl, rfl⟩ := h
      obtain ⟨h0, h1, h2⟩ := hp _ (List.mem_singleton.2 rfl)
      have h2' : hi.getD (s.size : Int) ≤ (s.size : Int) := h2
      have h1' : lo.getD 0 ≤ hi.getD (s.size : Int) := h1
      simp only [evSlice]
      rw [if_pos ⟨skOf_str hs, h0, h1', h2'⟩]
      rfl
    · cases h
  · rename_i sz xs
    split at h
    · rename_i esz b hel
      have hel' : elT P t = some (esz, b) := hel
      split at h
      · rename_i e
        subst e
        simp only [Option.some.injEq, Prod.mk.injEq] at h
        obtain ⟨rfl, rfl⟩ := h
        obtain ⟨h0, h1, h2⟩ := hp _ (List.mem_singleton.2 rfl)
        have h2' : hi.getD (xs.length : Int) ≤ (xs.length : Int) := h2
        have h1' : lo.getD 0 ≤ hi.getD (xs.length : Int) := h1
        simp only [evSlice, hel', Option.map_some, true_and]
        rw [if_pos ⟨h0, h1', h2'⟩]
        rfl
      · cases h
    · cases h
  · rename_i r off len
    split at h
    · rename_i sz fz xs esz b hrt hel
      have hel' : elT P t = some (esz, b) := hel
      split at h
      · rename_i e
        subst e
        simp only [Option.some.injEq, Prod.mk.injEq] at h
        obtain ⟨rfl, rfl⟩ := h
        obtain ⟨h0, h1, h2⟩ := hp _ (List.mem_singleton.2 rfl)
        have h2' : hi.getD (len : Int) ≤ (len : Int) := h2
        have h1' : lo.getD 0 ≤ hi.getD (len : Int) := h1
        simp only [evSlice, hrt, hel', Option.map_some, true_and]
        rw [if_pos ⟨h0, h1', h2'⟩]
        rfl
      · cases h
    · cases h
  · cases h

theorem vIndexS_ok {t : TypeId} {i : Int} (h : vIndexS std (rowOf P t) x i = some (av, ps)) (hp : ∀ p ∈ ps, p) : evIndexS (isStrT P t) x i = some av := by
  unfold vIndexS at h
  split at h
  · rename_i s
    split at h
    · rename_i hs
      simp only [Option.some.injEq, Prod.mk.injEq] at h
      obtain ⟨rfl, rfl⟩ := h
      obtain ⟨h0, h1⟩ := hp _ (List.mem_singleton.2 rfl)
      have h1' : i < (s.size : Int) := h1
      have hi : i.toNat < s.size := by omega
      simp only [evIndexS]
      rw [dif_pos ⟨skOf_str hs, h0, hi⟩]
      have e : std.sget s i = ((s[i.toNat]'hi).toNat : Int) := by
        show (if h : i.toNat < s.size then (((s[i.toNat]'h).toNat : Nat) : Int) else 0) = _
        rw [dif_pos hi]
      rw [e]
    · cases h
  · cases h

theorem vBin_ok {t : TypeId} {op : BinOp} (h : vBin std (rowOf P t) op x y = some (av, ps)) (hp : ∀ p ∈ ps, p) : evBin P op t x y = some av := by
  have eqs : ∀ {ks : List EK} {xs ys : List AV} {b : Bool}, vEq std ks xs ys = some b → eqAll ks xs ys = some b := by
    intro ks
    induction ks with
    | nil => intro xs ys b h; cases xs <;> cases ys <;> simp_all [vEq, eqAll]
    | cons k ks ih =>
      intro xs ys b h
      unfold vEq at h
      split at h
      · rename_i h1 h2 h3; first | (cases h1; done) | (cases h2; done) | (cases h3; done)
      · rename_i h1
        obtain ⟨rfl, rfl⟩ := List.cons.inj h1
        split at h
        · rename_i e
          subst e
          split at h
          · rename_i r hr
            obtain rfl := Option.some.inj h
            simp only [eqAll, eqSc, if_true, Option.bind_some, ih hr, Option.map_some]
            rfl
          · cases h
        · cases h
      · rename_i h1
        obtain ⟨rfl, rfl⟩ := List.cons.inj h1
        split at h
        · rename_i r hr
          obtain rfl := Option.some.inj h
          simp only [eqAll, eqSc, Option.bind_some, ih hr, Option.map_some]
          rfl
        · cases h
      · rename_i h1
        obtain ⟨rfl, rfl⟩ := List.cons.inj h1
        split at h
        · rename_i r hr
          obtain rfl := Option.some.inj h
          simp only [eqAll, eqSc, Option.bind_some, ih hr, Option.map_some]
          rfl
        · cases h
      · cases h
  unfold vBin at h
  split at h
  · rename_i k a k' b
    split at h
    · simp only [Option.some.injEq, Prod.mk.injEq] at h
      obtain ⟨rfl, rfl⟩ := h
      obtain ⟨h0⟩ := hp _ (List.mem_singleton.2 rfl)
      simp only [evBin, binSc]
      rw [if_neg (by omega)]
      rfl
    · simp only [Option.some.injEq, Prod.mk.injEq] at h
      obtain ⟨rfl, rfl⟩ := h
      obtain ⟨h0⟩ := hp _ (List.mem_singleton.2 rfl)
      simp only [evBin, binSc]
      rw [if_neg (by omega)]
      rfl
    · rename_i hn1 hn2
      split at h
      · rename_i e
        subst e
        cases op <;> simp only [vBinInt] at h <;> first
          | (cases h; done)
          | (simp only [Option.some.injEq, Prod.mk.injEq] at h
             obtain ⟨rfl, rfl⟩ := h
             first
               | (obtain ⟨h0⟩ := hp _ (List.mem_singleton.2 rfl)
                  simp only [evBin, binSc, binInt, if_true, if_neg h0, Option.map_some]
                  simp only [std, binInt, if_neg h0, valInt])
               | (simp only [evBin, binSc, binInt, if_true, Option.map_some]; rfl))
      · cases h
  · rename_i a b
    cases op <;> simp only [vBinStr] at h <;> first
      | (cases h; done)
      | (simp only [Option.some.injEq, Prod.mk.injEq] at h
         obtain ⟨rfl, rfl⟩ := h
         first
           | (obtain ⟨h0⟩ := hp _ (List.mem_singleton.2 rfl)
              simp only [evBin, binSc, binStr]
              rw [if_neg (by omega)]
              rfl)
           | rfl)
  · rename_i a b
    split at h
    · rename_i hb
      have hb' := skOf_bool hb
      split at h
      · simp only [Option.some.injEq, Prod.mk.injEq] at h
        obtain ⟨rfl, rfl⟩ := h
        simp only [evBin, binSc, hb', if_true]
        rfl
      · simp only [Option.some.injEq, Prod.mk.injEq] at h
        obtain ⟨rfl, rfl⟩ := h
        simp only [evBin, binSc, hb', if_true]
        rfl
      · cases h
    · cases h
  · rename_i xs ys
    split at h
    · rename_i ks he
      have he' : eqT P t = some ks := he
      split at h
      · rename_i b hb
        simp only [Option.some.injEq, Prod.mk.injEq] at h
        obtain ⟨rfl, rfl⟩ := h
        simp only [evBin, he', Option.bind_some, eqs hb, Option.map_some]
      · cases h
    · rename_i ks he
      have he' : eqT P t = some ks := he
      split at h
      · rename_i b hb
        simp only [Option.some.injEq, Prod.mk.injEq] at h
        obtain ⟨rfl, rfl⟩ := h
        simp only [evBin, he', Option.bind_some, eqs hb, Option.map_some]
        rfl
      · cases h
    · cases h
  · cases h

theorem vUn_ok {op : UnOp} (h : vUn std op x = some (av, ps)) : evUn op x = some av := by
  unfold vUn at h
  split at h
  · split at h
    · simp only [Option.some.injEq, Prod.mk.injEq] at h; obtain ⟨rfl, rfl⟩ := h; rfl
    · cases h
  · split at h
    · simp only [Option.some.injEq, Prod.mk.injEq] at h; obtain ⟨rfl, rfl⟩ := h; rfl
    · cases h
  · cases h
end
end Go.Proofs.Ytamdgfklbjoaiaa.Ab
