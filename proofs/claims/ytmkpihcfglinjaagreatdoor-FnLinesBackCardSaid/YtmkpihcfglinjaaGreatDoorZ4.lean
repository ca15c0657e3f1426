/- A relation between the machine and an abstract state, evaluators for single operations and for code, proved sound (part 4). No conditions. -/
import Derived.Test.YtmkpihcfglinjaaGreatDoorZ3
set_option linter.unusedVariables false
set_option linter.unusedSimpArgs false
namespace Go.Proofs.YtmkpihcfglinjaaGreatDoor.Ab
open Go
section
variable {P : Program} {N : Nat} {ops : Array Oper} {st : St} {outs : Nat → Out} {eff : List Eff}
structure Part (c : Ctx) (Ei : Env) (N : Nat) (ops : Array Oper) (st : St) (outs : Nat → Out) (D : Nat → Prop) (E : Env) (a : Act) : Prop where
  mem : Mem c E
  step : StepP c.m Ei E
  rt : E.rt = rtUp outs D (baseOf ops st outs) ops.size
  pres : ∀ r, E.pres r ↔ r < st.rt.length ∨ ∃ i, i < ops.size ∧ D i ∧ st.rt.length + (newsTo outs i).length ≤ r ∧ r < st.rt.length + (newsTo outs i).length + (outs i).new.length
  done : ∀ (t i : Nat) o, D i → ops[i]? = some o → o.dst = some t → RelAV E (outs i).av (a.eval (.tmp t))
  old : ∀ t, (∀ (i : Nat) o, D i → ops[i]? = some o → o.dst ≠ some t) → RelAV E (st.sl t) (a.eval (.tmp t))
  defers : a.defers = []
  size : a.tmps.size = N
  m : c.m ≤ st.rt.length
theorem apart_g {nb : Nat} {i j : Nat} {x y : Eff} (hi : eff[i]? = some x) (hj : eff[j]? = some y) (h : apartB nb eff i j = true) : ∀ r ∈ x.g, r ∉ y.T ∧ r ∉ y.g ∧ ¬ (nbAt nb eff j ≤ r ∧ r < nbAt nb eff j + y.n) := by
  intro r hr
  simp only [apartB, hi, hj, List.all_eq_true] at h
  have := h r hr
  simp only [Bool.and_eq_true, Bool.not_eq_true', List.contains_eq_mem, decide_eq_false_iff_not, Bool.and_eq_false_iff] at this
  refine ⟨this.1.1, this.1.2, ?_⟩
  rintro ⟨h1, h2⟩
  rcases this.2 with h3 | h3
  · exact h3 h1
  · exact h3 h2
theorem Part.step_one {c : Ctx} {Ei E : Env} {a : Act} {D : Nat → Prop} (hrun : TextRun P ops N st outs eff) (hs : DrawSpec ops N st.rt.length eff)
    (hap : ∀ (i j : Nat), i ≠ j → i < ops.size → j < ops.size → ancB ops ops.size i j = true ∨ ancB ops ops.size j i = true ∨ (apartB st.rt.length eff i j = true ∧ apartB st.rt.length eff j i = true))
    (hp : Part c Ei N ops st outs D E a) (hc : Closed ops D) (hDn : ∀ i, D i → i < ops.size) {j : Nat} {o : Oper} (ho : ops[j]? = some o) (hj : ¬ D j) (hready : ∀ e ∈ o.after, Region.binds .any e = true → D e.on)
    {K : Act → World → Prop} {Q : Exit → Act → World → Prop} (k : ∀ (E' : Env) (a' : Act), Part c Ei N ops st outs (fun i => D i ∨ i = j) E' a' → K a' E'.w) : wpOp P ops Q j K a E.w := by
  have hjn : j < ops.size := (Array.getElem?_eq_some_iff.1 ho).1
  obtain ⟨e, he, ⟨o', ho', hsem⟩, heg, hen⟩ := hrun.sem j hjn
  rw [ho] at ho'
  obtain rfl := Option.some.inj ho'
  have hlenj := stAt_len (st := st) (outs := outs) (show j ≤ ops.size by omega)
  have ancR : ∀ {i}, ancB ops ops.size j i = true → D i := fun h => anc_ready hc ho hready _ _ h
  have ancN : ∀ {i}, D i → ¬ ancB ops ops.size i j = true := fun hD h => hj (anc_closed hc _ _ _ h hD)
  -- whoever is done behind it, or is not done ahead of it, is apart from it
  have apt : ∀ {i}, i < ops.size → i ≠ j → (D i ↔ ¬ i < j) → apartB st.rt.length eff i j = true ∧ apartB st.rt.length eff j i = true := by
    intro i hi hne hiff
    rcases hap i j hne hi hjn with h | h | h
    · by_cases hD : D i
      · exact absurd h (ancN hD)
      · have h1 := anc_lt hs _ _ _ h
        exact absurd (hiff.2 (by omega)) hD
    · have hD := ancR h
      have h1 := anc_lt hs _ _ _ h
      exact absurd h1 (hiff.1 hD)
    · exact h
  have gmem : ∀ {i : Nat} {x : Eff}, i < ops.size → eff[i]? = some x → ∀ {r : Nat}, (∃ p ∈ (outs i).g, p.1 = r) → r ∈ x.g := by
    intro i x hi hx r hr
    obtain ⟨x', hx', _, hg, _⟩ := hrun.sem i hi
    rw [hx] at hx'
    obtain rfl := Option.some.inj hx'
    rw [hg]
    obtain ⟨p, hp, rfl⟩ := hr
    exact List.mem_map_of_mem hp
  have hexE : ∀ {i : Nat}, i < ops.size → ∃ x, eff[i]? = some x := fun hi => let ⟨x, hx, _⟩ := hrun.sem _ hi; ⟨x, hx⟩
  have same : ∀ {r : Nat}, (∀ i, i < ops.size → i ≠ j → (D i ↔ ¬ i < j) → ¬ ∃ p ∈ (outs i).g, p.1 = r) →
      rtUp outs D (baseOf ops st outs) ops.size r = rtUp outs (fun _ => True) (baseOf ops st outs) j r := by
    intro r h
    rw [← rtUp_cut (show j ≤ ops.size by omega)]
    refine rtUp_congr ?_
    intro i hi hr
    by_cases hne : i = j
    · subst hne
      exact ⟨fun hD => absurd hD hj, fun h => absurd h (Nat.lt_irrefl _)⟩
    · by_cases hD : D i
      · refine ⟨fun _ => ?_, fun _ => hD⟩
        by_cases hlt : i < j
        · exact hlt
        · exact absurd hr (h i hi hne ⟨fun _ => hlt, fun _ => hD⟩)
      · refine ⟨fun h' => absurd h' hD, fun hlt => ?_⟩
        exact absurd hr (h i hi hne ⟨fun h' => absurd h' hD, fun h' => absurd hlt h'⟩)
  refine hsem c E a hp.mem ?_ ?_ ?_ ?_ K Q ?_
  · -- its operands
    intro t ht
    obtain ⟨sl1, sl2⟩ := stAt_slot (st := st) (outs := outs) hs (j := j) (t := t) (by omega)
    by_cases hex : ∃ (i : Nat) (o' : Oper), ops[i]? = some o' ∧ o'.dst = some t ∧ i ≠ j
    · obtain ⟨i, o', hi, hd, hne⟩ := hex
      rcases hs.look i j o o' t hne hi ho hd ht with ⟨h1, h2⟩ | ⟨h1, h2⟩
      · rw [sl1 i o' h1 hi hd]
        exact hp.done t i o' (ancR h2) hi hd
      · have none' : ∀ (i' : Nat) o'', (D i' ∨ i' < j) → ops[i']? = some o'' → o''.dst ≠ some t := by
          intro i' o'' hor hi' hd'
          by_cases e1 : i' = i
          · subst e1
            rcases hor with hD | hlt
            · exact ancN hD h2
            · omega
          · exact hs.uniq i i' o'' o' t (fun e => e1 e.symm) hi hi' hd hd'
        rw [sl2 (fun i' o'' hlt => none' i' o'' (.inr hlt))]
        exact hp.old t (fun i' o'' hD => none' i' o'' (.inl hD))
    · have none' : ∀ (i' : Nat) o'', (D i' ∨ i' < j) → ops[i']? = some o'' → o''.dst ≠ some t := by
        intro i' o'' hor hi' hd'
        refine hex ⟨i', o'', hi', hd', ?_⟩
        rintro rfl
        rcases hor with hD | hlt
        · exact hj hD
        · omega
      rw [sl2 (fun i' o'' hlt => none' i' o'' (.inr hlt))]
      exact hp.old t (fun i' o'' hD => none' i' o'' (.inl hD))
  · -- the roots that it looks at
    intro r hr
    by_cases hlt : r < st.rt.length + (newsTo outs j).length
    · right
      rw [stAt_look hrun (by omega) hlt, hp.rt]
      refine same ?_
      intro i hi hne hiff hg
      obtain ⟨x, hx⟩ := hexE hi
      exact (apart_g hx he (apt hi hne hiff).1 r (gmem hi hx hg)).1 hr
    · left
      exact List.getElem?_eq_none (by omega)
  · left
    exact List.getElem?_eq_none (Nat.le_refl _)
  · refine ⟨by have := hp.m; omega, ?_, ?_⟩
    · intro k R hk
      have hkl : k < (outs j).new.length := (List.getElem?_eq_some_iff.1 hk).1
      rw [hlenj, hp.rt, rtUp_off, base_new hjn hkl]
      · exact hk
      · intro i hi hD p hpm heq
        have hne : i ≠ j := fun e => hj (e ▸ hD)
        by_cases hlt : i < j
        · have h1 := hrun.glt i hi p hpm
          rw [stAt_len (by omega)] at h1
          obtain ⟨l, hl⟩ := newsTo_pre (outs := outs) (show i + 1 ≤ j by omega)
          have h2 : (newsTo outs j).length = (newsTo outs i).length + (outs i).new.length + l.length := by rw [hl]; simp [newsTo]; omega
          omega
        · obtain ⟨x, hx⟩ := hexE hi
          have h3 := (apart_g hx he (apt hi hne ⟨fun _ => hlt, fun _ => hD⟩).1 p.1 (gmem hi hx ⟨p, hpm, rfl⟩)).2.2
          rw [nbAt_eq hrun (by omega), hen] at h3
          omega
    · intro k hk hpr
      rw [hlenj, hp.pres] at hpr
      rcases hpr with hpr | ⟨i, hi, hD, h1, h2⟩
      · omega
      · have hne : i ≠ j := fun e => hj (e ▸ hD)
        by_cases hlt : i < j
        · obtain ⟨l, hl⟩ := newsTo_pre (outs := outs) (show i + 1 ≤ j by omega)
          have h3 : (newsTo outs j).length = (newsTo outs i).length + (outs i).new.length + l.length := by rw [hl]; simp [newsTo]; omega
          omega
        · obtain ⟨l, hl⟩ := newsTo_pre (outs := outs) (show j + 1 ≤ i by omega)
          have h3 : (newsTo outs i).length = (newsTo outs j).length + (outs j).new.length + l.length := by rw [hl]; simp [newsTo]; omega
          omega
  · -- behind it
    intro v E' hO
    refine k E' (a.put o.dst v) ⟨hO.mem, hp.step.trans hO.step, ?_, ?_, ?_, ?_, ?_, ?_, hp.m⟩
    · rw [hO.rt, hp.rt, rtUp_add hj hjn]
      intro i hi hD hlt p hpm q hq heq
      obtain ⟨x, hx⟩ := hexE hi
      have hne : i ≠ j := by omega
      have := (apart_g hx he (apt hi hne ⟨fun _ => by omega, fun _ => hD⟩).1 p.1 (gmem hi hx ⟨p, hpm, rfl⟩)).2.1
      exact this (gmem hjn he ⟨q, hq, heq.symm⟩)
    · intro r
      rw [hO.pres, hp.pres, hlenj]
      constructor
      · rintro ((h | ⟨i, hi, hD, h⟩) | h)
        · exact .inl h
        · exact .inr ⟨i, hi, .inl hD, h⟩
        · exact .inr ⟨j, hjn, .inr rfl, h⟩
      · rintro (h | ⟨i, hi, hD | rfl, h⟩)
        · exact .inl (.inl h)
        · exact .inl (.inr ⟨i, hi, hD, h⟩)
        · exact .inr h
    · intro t i o' hD hi hd
      by_cases e1 : i = j
      · subst e1
        rw [ho] at hi
        obtain rfl := Option.some.inj hi
        have hdN := hs.dst i o t ho hd
        have : (a.put o.dst v).eval (.tmp t) = v := by rw [hd]; simp [Act.put, Act.eval, hp.size, hdN]
        rw [this]
        exact hO.rel
      · have hD' : D i := hD.resolve_right e1
        have hne := hs.uniq i j o o' t e1 hi ho hd
        rw [Act.eval_put (fun d hd' he' => hne (by rw [hd']; simpa using he'.symm))]
        exact (hp.done t i o' hD' hi hd).step hO.step
    · intro t hn
      have hne : o.dst ≠ some t := hn j o (.inr rfl) ho
      rw [Act.eval_put (fun d hd' he' => hne (by rw [hd']; simpa using he'.symm))]
      exact (hp.old t (fun i o' hD => hn i o' (.inl hD))).step hO.step
    · cases o.dst <;> exact hp.defers
    · rw [Act.size_put]; exact hp.size
theorem ready_all {nb : Nat} {listed : Array Bool} (hs : DrawSpec ops N nb eff) (hr : Region.ready .any ops listed = []) (hsz : listed.size = ops.size) : ∀ i, i < ops.size → listed.getD i false = true := by
  intro i
  induction i using Nat.strongRecOn with
  | _ i ih =>
    intro hi
    by_cases h : listed.getD i false = true
    · exact h
    · have hmem : i ∈ Region.ready .any ops listed := by
        rw [mem_ready]
        refine ⟨?_, ops[i], Array.getElem?_eq_getElem hi, ?_⟩
        · have hl : i < listed.size := by omega
          simp only [Array.getD, hl, dif_pos] at h ⊢
          simpa using h
        · intro e he hb
          have := hs.back i _ (Array.getElem?_eq_getElem hi) e he hb
          exact ih e.on this (by omega)
      rw [hr] at hmem
      cases hmem
theorem drawn_any {c : Ctx} {Ei : Env} {Q : Exit → Act → World → Prop} (hrun : TextRun P ops N st outs eff) (hs : DrawSpec ops N st.rt.length eff)
    (hap : ∀ (i j : Nat), i ≠ j → i < ops.size → j < ops.size → ancB ops ops.size i j = true ∨ ancB ops ops.size j i = true ∨ (apartB st.rt.length eff i j = true ∧ apartB st.rt.length eff j i = true))
    (hQ : ∀ (E : Env) (a : Act), Part c Ei N ops st outs (fun i => i < ops.size) E a → Q .normal a E.w) :
    ∀ (fuel : Nat) (listed : Array Bool) (E : Env) (a : Act), listed.size = ops.size → ops.size ≤ fuel + ((List.range ops.size).filter fun i => listed.getD i false).length → Closed ops (fun i => listed.getD i false = true) → Part c Ei N ops st outs (fun i => listed.getD i false = true) E a →
      wpAny P .any ops Q fuel listed a E.w := by
  have fin : ∀ (listed : Array Bool) (E : Env) (a : Act), listed.size = ops.size → Region.ready .any ops listed = [] → Part c Ei N ops st outs (fun i => listed.getD i false = true) E a → Q .normal a E.w := by
    intro listed E a hsz hr hp
    refine hQ E a ?_
    have : (fun i => listed.getD i false = true) = (fun i => i < ops.size) := by
      funext i
      refine propext ⟨fun h => ?_, fun h => ready_all hs hr hsz i h⟩
      by_cases hi : i < listed.size
      · omega
      · simp [Array.getD, hi] at h
    rw [← this]
    exact hp
  intro fuel
  induction fuel with
  | zero =>
    intro listed E a hsz hcnt hc hp
    have hall : ∀ i, i < ops.size → listed.getD i false = true := by
      have h1 : ((List.range ops.size).filter fun i => listed.getD i false).length = (List.range ops.size).length := by
        have := List.length_filter_le (fun i => listed.getD i false) (List.range ops.size)
        simp only [List.length_range] at this ⊢
        omega
      intro i hi
      exact List.length_filter_eq_length_iff.1 h1 i (List.mem_range.2 hi)
    have hr : Region.ready .any ops listed = [] := by
      rw [List.eq_nil_iff_forall_not_mem]
      intro i hi
      obtain ⟨h1, o, h2, _⟩ := mem_ready.1 hi
      have hlt := (Array.getElem?_eq_some_iff.1 h2).1
      have h3 := hall i hlt
      have hl : i < listed.size := by omega
      simp only [Array.getD, hl, dif_pos] at h1 h3
      rw [h1] at h3
      cases h3
    exact ⟨hr, fin listed E a hsz hr hp⟩
  | succ fuel ih =>
    intro listed E a hsz hcnt hc hp
    refine ⟨fun hr => fin listed E a hsz hr hp, ?_⟩
    intro j hj
    obtain ⟨h1, o, ho, hready⟩ := mem_ready.1 hj
    have hjn := (Array.getElem?_eq_some_iff.1 ho).1
    have hjl : j < listed.size := by omega
    have hjf : listed.getD j false = false := by
      simp only [Array.getD, hjl, dif_pos] at h1 ⊢
      exact h1
    have hset : ∀ i, (listed.setIfInBounds j true).getD i false = true ↔ (listed.getD i false = true ∨ i = j) := by
      intro i
      by_cases e : i = j
      · subst e
        simp [Array.getD, hjl]
      · rw [getD_set_ne false (fun e' => e e'.symm)]
        simp [e]
    refine Part.step_one hrun hs hap hp hc (fun i hi => ?_) ho (by rw [hjf]; simp) hready ?_
    · by_cases hi' : i < listed.size
      · omega
      · simp [Array.getD, hi'] at hi
    · intro E' a' hp'
      have hD : (fun i => (listed.setIfInBounds j true).getD i false = true) = (fun i => listed.getD i false = true ∨ i = j) := funext fun i => propext (hset i)
      refine ih (listed.setIfInBounds j true) E' a' (by simpa using hsz) ?_ ?_ (by rw [hD]; exact hp')
      · have hcount : ((List.range ops.size).filter fun i => listed.getD i false).length < ((List.range ops.size).filter fun i => (listed.setIfInBounds j true).getD i false).length := by
          have sub : ∀ (l : List Nat), j ∈ l → (l.filter fun i => listed.getD i false).length < (l.filter fun i => (listed.setIfInBounds j true).getD i false).length := by
            intro l
            have le : ∀ (l : List Nat), (l.filter fun i => listed.getD i false).length ≤ (l.filter fun i => (listed.setIfInBounds j true).getD i false).length := by
              intro l
              induction l with
              | nil => simp
              | cons x l ih =>
                simp only [List.filter_cons]
                by_cases hx : listed.getD x false = true
                · rw [if_pos hx, if_pos ((hset x).2 (.inl hx))]
                  simp only [List.length_cons]
                  omega
                · rw [if_neg hx]
                  split
                  · simp only [List.length_cons]; omega
                  · exact ih
            induction l with
            | nil => intro h; cases h
            | cons x l ih =>
              intro hm
              simp only [List.filter_cons]
              by_cases e : x = j
              · subst e
                rw [if_neg (by rw [hjf]; simp), if_pos ((hset x).2 (.inr rfl))]
                simp only [List.length_cons]
                have := le l
                omega
              · have ih' := ih (by rcases List.mem_cons.1 hm with h | h; exact absurd h.symm e; exact h)
                by_cases hx : listed.getD x false = true
                · rw [if_pos hx, if_pos ((hset x).2 (.inl hx))]
                  simp only [List.length_cons]
                  omega
                · have hx' : ¬ (listed.setIfInBounds j true).getD x false = true := fun h => ((hset x).1 h).elim hx e
                  rw [if_neg hx, if_neg hx']
                  exact ih'
          exact sub _ (List.mem_range.2 hjn)
        omega
      · intro i o' hi ho' e he hb
        rw [hset] at hi ⊢
        rcases hi with hi | rfl
        · exact .inl (hc i o' hi ho' e he hb)
        · rw [ho] at ho'
          obtain rfl := Option.some.inj ho'
          exact .inl (hready e he hb)
theorem AW.drawn {id : Nat} {Q : Exit → St → Prop} (hm : P.follows .mixedOrders = true) (hrun : TextRun P ops N st outs eff) (hb : drawB ops N st.rt.length eff = true) (k : Q .normal (stAt ops st outs ops.size)) : AW P N (.region id ops true) Q st := by
  have hs := drawB_spec hb
  have hap : ∀ (i j : Nat), i ≠ j → i < ops.size → j < ops.size → ancB ops ops.size i j = true ∨ ancB ops ops.size j i = true ∨ (apartB st.rt.length eff i j = true ∧ apartB st.rt.length eff j i = true) := by
    intro i j hne hi hj
    rcases hs.apart i j hne hi hj with h | h | h
    · exact .inl h
    · exact .inr (.inl h)
    · rcases hs.apart j i hne.symm hj hi with h' | h' | h'
      · exact .inr (.inl h')
      · exact .inl h'
      · exact .inr (.inr ⟨h, h'⟩)
  intro c Ei a w hH
  obtain ⟨E, rfl, hM, hSt, hrt, hpr, hsl, hdef, hsz, hmm⟩ := hH
  let E0 : Env := { E with rt := baseOf ops st outs, w := { E.w with drawn := E.w.drawn + 1 } }
  have hbase : ∀ r R, E.rt r = some R → baseOf ops st outs r = some R := by
    intro r R hR
    rw [hrt] at hR
    have hR' : st.rt[r]? = some R := hR
    rw [base_old (List.getElem?_eq_some_iff.1 hR').1]
    exact hR'
  have hbase' : ∀ r R, E.pres r → baseOf ops st outs r = some R → E.rt r = some R := by
    intro r R hp hR
    rw [base_old ((hpr r).1 hp)] at hR
    rw [hrt]
    exact hR
  have hst0 : Step E E0 := ⟨fun r R hr => ⟨R, hbase r R hr, .inr rfl⟩, fun _ h => h, fun _ _ => rfl, fun _ h => h, fun _ _ => rfl, fun _ _ h => h⟩
  have hM0 : Mem c E0 := by
    have h1 := hM.grown hbase hbase'
    have st1 : Step { E with rt := baseOf ops st outs } E0 := ⟨fun _ R h => ⟨R, h, .inr rfl⟩, fun _ h => h, fun _ _ => rfl, fun _ h => h, fun _ _ => rfl, fun _ _ h => h⟩
    exact { h1 with glob := Globs.step st1.S st1.heap h1.glob, roots := fun r R hp hR => (h1.roots r R hp hR).step st1 hp (fun _ _ => rfl) (fun _ _ h => h) }
  have hfalse : ∀ i, ¬ (Array.replicate ops.size false).getD i false = true := by
    intro i
    simp [Array.getD]
  refine wp_region_any hm ?_
  refine drawn_any (c := c) (Ei := Ei) hrun hs hap ?_ ops.size (Array.replicate ops.size false) E0 a (by simp) (by omega) ?_ ?_
  · intro E1 a1 hp
    refine ⟨stAt ops st outs ops.size, k, E1, rfl, hp.mem, hp.step, ?_, ?_, ?_, hp.defers, hp.size, ?_⟩
    · rw [hp.rt]
      funext r
      have hcut : rtUp outs (fun i => i < ops.size) (baseOf ops st outs) ops.size = rtUp outs (fun _ => True) (baseOf ops st outs) ops.size := rtUp_cut (Nat.le_refl _)
      rw [hcut]
      by_cases hlt : r < st.rt.length + (newsTo outs ops.size).length
      · exact (stAt_look hrun (Nat.le_refl _) hlt).symm
      · rw [rtUp_off]
        · have h1 : baseOf ops st outs r = none := List.getElem?_eq_none (by simp; omega)
          have h2 : (stAt ops st outs ops.size).look r = none := List.getElem?_eq_none (by rw [stAt_len (Nat.le_refl _)]; omega)
          rw [h1, h2]
        · intro i hi _ p hp'
          have h1 := hrun.glt i hi p hp'
          rw [stAt_len (by omega)] at h1
          obtain ⟨l, hl⟩ := newsTo_pre (outs := outs) (show i + 1 ≤ ops.size by omega)
          have h2 : (newsTo outs ops.size).length = (newsTo outs i).length + (outs i).new.length + l.length := by rw [hl]; simp [newsTo]; omega
          omega
    · intro r
      rw [hp.pres, stAt_len (Nat.le_refl _)]
      have cover : ∀ n, n ≤ ops.size → (st.rt.length ≤ r → r < st.rt.length + (newsTo outs n).length → ∃ i, i < n ∧ st.rt.length + (newsTo outs i).length ≤ r ∧ r < st.rt.length + (newsTo outs i).length + (outs i).new.length) := by
        intro n
        induction n with
        | zero => intro _ h1 h2; simp [newsTo] at h2; omega
        | succ n ih =>
          intro hn h1 h2
          by_cases hlt : r < st.rt.length + (newsTo outs n).length
          · obtain ⟨i, hi, h3⟩ := ih (by omega) h1 hlt
            exact ⟨i, by omega, h3⟩
          · simp only [newsTo, List.length_append] at h2
            exact ⟨n, by omega, by omega, by omega⟩
      constructor
      · rintro (h | ⟨i, hi, _, h1, h2⟩)
        · omega
        · obtain ⟨l, hl⟩ := newsTo_pre (outs := outs) (show i + 1 ≤ ops.size by omega)
          have h3 : (newsTo outs ops.size).length = (newsTo outs i).length + (outs i).new.length + l.length := by rw [hl]; simp [newsTo]; omega
          omega
      · intro h
        by_cases hlt : r < st.rt.length
        · exact .inl hlt
        · obtain ⟨i, hi, h1, h2⟩ := cover ops.size (Nat.le_refl _) (by omega) h
          exact .inr ⟨i, hi, hi, h1, h2⟩
    · intro t
      obtain ⟨sl1, sl2⟩ := stAt_slot (st := st) (outs := outs) hs (j := ops.size) (t := t) (Nat.le_refl _)
      by_cases hex : ∃ (i : Nat) (o' : Oper), ops[i]? = some o' ∧ o'.dst = some t
      · obtain ⟨i, o', hi, hd⟩ := hex
        have hlt := (Array.getElem?_eq_some_iff.1 hi).1
        rw [sl1 i o' hlt hi hd]
        exact hp.done t i o' hlt hi hd
      · rw [sl2 (fun i o' _ hi hd => hex ⟨i, o', hi, hd⟩)]
        exact hp.old t (fun i o' _ hi hd => hex ⟨i, o', hi, hd⟩)
    · rw [stAt_len (Nat.le_refl _)]
      omega
  · intro j o hD
    exact absurd hD (hfalse j)
  · refine ⟨hM0, hSt.trans hst0, ?_, ?_, ?_, ?_, hdef, hsz, hmm⟩
    · funext r
      exact (rtUp_off (fun i _ hD => absurd hD (hfalse i))).symm
    · intro r
      show E.pres r ↔ _
      rw [hpr]
      constructor
      · exact .inl
      · rintro (h | ⟨i, _, hD, _⟩)
        · exact h
        · exact absurd hD (hfalse i)
    · intro t i o' hD
      exact absurd hD (hfalse i)
    · intro t _
      exact (hsl t).step hst0
end
end Go.Proofs.YtmkpihcfglinjaaGreatDoor.Ab
namespace Go.Proofs.YtmkpihcfglinjaaGreatDoor.Ab
open Go
inductive Walk (P : Program) (N : Nat) (ops : Array Oper) : Nat → St → List (Out × Eff) → St → Prop
  | done {i : Nat} {st : St} (h : i = ops.size) : Walk P N ops i st [] st
  | cons {i : Nat} {st st' : St} {o : Oper} {out : Out} {e : Eff} {l : List (Out × Eff)} (ho : ops[i]? = some o) (hd : ∀ d, o.dst = some d → d < N) (hs : OpSem P ops i e.T st.sl st.look st.rt.length out)
      (hg : e.g = out.g.map (·.1)) (hn : e.n = out.new.length) (hl : ∀ p ∈ out.g, p.1 < st.rt.length + out.new.length) (t : Walk P N ops (i + 1) (st.put o.dst out) l st') : Walk P N ops i st ((out, e) :: l) st'
section
variable {P : Program} {N : Nat} {ops : Array Oper} {Q : Exit → St → Prop}
theorem walk_ops {i : Nat} {st st' : St} {l : List (Out × Eff)} (h : Walk P N ops i st l st') (k : Q .normal st') : OpsW P N ops ((List.range (ops.size - i)).map (i + ·)) Q st := by
  induction h with
  | done h => subst h; simp only [Nat.sub_self, List.range_zero, List.map_nil]; exact OpsW.nil k
  | @cons i st st' o out e l ho hd hs hg hn hl t ih =>
    have hi : i < ops.size := (Array.getElem?_eq_some_iff.1 ho).1
    have : ops.size - i = (ops.size - (i + 1)) + 1 := by omega
    rw [this, List.range_succ_eq_map, List.map_cons, List.map_map, Nat.add_zero]
    refine OpsW.cons ho hd hl hs ?_
    have e : ((fun x => i + x) ∘ Nat.succ) = (fun x => i + 1 + x) := by funext x; simp only [Function.comp]; omega
    rw [e]
    exact ih k
def outsOf (l : List (Out × Eff)) : Nat → Out := fun i => ((l[i]?).map (·.1)).getD ⟨.junk, [], []⟩
theorem walk_run {st0 st st' : St} {pre l : List (Out × Eff)} {i : Nat} (h : Walk P N ops i st l st') : pre.length = i → st = stAt ops st0 (outsOf (pre ++ l)) i →
    stAt ops st0 (outsOf (pre ++ l)) ops.size = st' ∧ ∀ j, i ≤ j → j < ops.size → ∃ e, ((pre ++ l).map (·.2))[j]? = some e ∧ OpSem P ops j e.T (stAt ops st0 (outsOf (pre ++ l)) j).sl (stAt ops st0 (outsOf (pre ++ l)) j).look (stAt ops st0 (outsOf (pre ++ l)) j).rt.length (outsOf (pre ++ l) j) ∧
      e.g = (outsOf (pre ++ l) j).g.map (·.1) ∧ e.n = (outsOf (pre ++ l) j).new.length ∧ ∀ p ∈ (outsOf (pre ++ l) j).g, p.1 < (stAt ops st0 (outsOf (pre ++ l)) j).rt.length + (outsOf (pre ++ l) j).new.length := by
  induction h generalizing pre with
  | done h => intro hp hst; subst h; exact ⟨hst.symm, fun j h1 h2 => by omega⟩
  | @cons i st st' o out e l ho hd hs hg hn hl t ih =>
    intro hp hst
    have key := ih (pre := pre ++ [(out, e)]) (by simp [hp]) (by
      rw [List.append_assoc, List.singleton_append, stAt_succ ho, ← hst]
      have : outsOf (pre ++ (out, e) :: l) i = out := by simp [outsOf, ← hp]
      rw [this])
    rw [List.append_assoc, List.singleton_append] at key
    refine ⟨key.1, ?_⟩
    intro j h1 h2
    by_cases hj : j = i
    · subst hj
      have h3 : outsOf (pre ++ (out, e) :: l) j = out := by simp [outsOf, ← hp]
      refine ⟨e, by simp [← hp], ?_⟩
      rw [h3, ← hst]
      exact ⟨hs, hg, hn, hl⟩
    · exact key.2 j (by omega) h2
theorem AW.reg {id : Nat} {draw : Bool} {st : St} (h : ∃ l st', Walk P N ops 0 st l st' ∧ (draw = true → P.follows .mixedOrders = true ∧ drawB ops N st.rt.length (l.map (·.2)) = true) ∧ Q .normal st') : AW P N (.region id ops draw) Q st := by
  obtain ⟨l, st', hw, hd, hq⟩ := h
  cases draw with
  | false =>
    refine AW.region ?_
    have := walk_ops hw hq
    simpa using this
  | true =>
    obtain ⟨h1, h2⟩ := walk_run (pre := []) (st0 := st) hw rfl rfl
    simp only [List.nil_append] at h1 h2
    refine AW.drawn (outs := outsOf l) (eff := l.map (·.2)) (hd rfl).1 ⟨?_, ?_⟩ (hd rfl).2 ?_
    · intro i hi
      obtain ⟨e, k1, k2, k3, k4, _⟩ := h2 i (Nat.zero_le _) hi
      exact ⟨e, k1, k2, k3, k4⟩
    · intro i hi
      obtain ⟨e, k1, k2, k3, k4, k5⟩ := h2 i (Nat.zero_le _) hi
      exact k5
    · rw [h1]; exact hq
def RW (P : Program) (N : Nat) (ops : Array Oper) (i : Nat) (st : St) (acc : List Eff) (K : List Eff → St → Prop) : Prop := ∃ l st', Walk P N ops i st l st' ∧ K (acc ++ l.map (·.2)) st'
theorem RW.done {i : Nat} {st : St} {acc : List Eff} {K : List Eff → St → Prop} (h : i = ops.size) (k : K acc st) : RW P N ops i st acc K := ⟨[], st, .done h, by simpa using k⟩
theorem RW.cons {i : Nat} {st : St} {acc : List Eff} {K : List Eff → St → Prop} {o : Oper} {out : Out} {T : List Nat} (ho : ops[i]? = some o) (hd : ∀ d, o.dst = some d → d < N) (hs : OpSem P ops i T st.sl st.look st.rt.length out)
    (hl : ∀ p ∈ out.g, p.1 < st.rt.length + out.new.length) (t : RW P N ops (i + 1) (st.put o.dst out) (acc ++ [⟨out.g.map (·.1), out.new.length, T⟩]) K) : RW P N ops i st acc K := by
  obtain ⟨l, st', hw, hk⟩ := t
  exact ⟨(out, ⟨out.g.map (·.1), out.new.length, T⟩) :: l, st', .cons ho hd hs rfl rfl hl hw, by simpa using hk⟩
theorem AW.reg' {id : Nat} {draw : Bool} {st : St} (h : RW P N ops 0 st [] fun effs st' => (draw = true → P.follows .mixedOrders = true ∧ drawB ops N st.rt.length effs = true) ∧ Q .normal st') : AW P N (.region id ops draw) Q st := by
  obtain ⟨l, st', hw, hd, hq⟩ := h
  exact AW.reg ⟨l, st', hw, by simpa using hd, hq⟩
def dstOk (N : Nat) (o : Oper) : Bool := match o.dst with | some d => decide (d < N) | none => true
theorem dstOk_spec {o : Oper} (h : dstOk N o = true) : ∀ d, o.dst = some d → d < N := by
  intro d hd
  simp only [dstOk, hd, decide_eq_true_eq] at h
  exact h
end
end Go.Proofs.YtmkpihcfglinjaaGreatDoor.Ab
namespace Go.Proofs.YtmkpihcfglinjaaGreatDoor.Ab
open Go
inductive SK where
  | int (k : IntKind) | str | bool | sl (sz : Nat) | other
def skOf (P : Program) (t : TypeId) : SK :=
  match P.underlying t with
  | some (.int k) => .int k
  | some .string => .str
  | some .bool => .bool
  | some (.slice e) => .sl (((P.info? e).map (·.size)).getD 0)
  | _ => .other
def leafSK (P : Program) : Nat → TypeId → List SK
  | 0, _ => []
  | f + 1, t =>
    match P.underlying t with
    | some (.struct fs) => fs.toList.flatMap fun g => leafSK P f g.type
    | some (.array n e) => (List.replicate n (leafSK P f e)).flatten
    | _ => [skOf P t]
structure TyRow where
  sk : SK
  sz : Option Nat
  agg : Option Bool
  el : Option (Nat × Nat)
  bsl : Bool
  leaves : List SK
  flds : List (Option (Nat × Nat × Bool))
  zero : Option (List (Value × Nat))
  ez : Option (List D × Nat × Nat)
  pl : Option (List (Nat × Nat))
  eq : Option (List EK)
def fldsT (P : Program) (t : TypeId) : List (Option (Nat × Nat × Bool)) :=
  match P.underlying t with
  | some (.struct fs) => (List.range fs.size).map fun f => fldT P t f
  | _ => []
def rowOf (P : Program) (t : TypeId) : TyRow := ⟨skOf P t, szT P t, aggT P t, elT P t, isByteSliceT P t, leafSK P 8 t, fldsT P t, zeroT P t, ezT P t, placesT P t, eqT P t⟩
def tabGet : List (Nat × TyRow) → Nat → Option TyRow
  | [], _ => none
  | (t, r) :: l, x => if t = x then some r else tabGet l x
def TabOk (P : Program) (tab : List (Nat × TyRow)) : Prop := ∀ t r, tabGet tab t = some r → r = rowOf P t
theorem TabOk.of {P : Program} {tab : List (Nat × TyRow)} (h : tab = tab.map fun p => (p.1, rowOf P p.1)) : TabOk P tab := by
  have key : ∀ l : List (Nat × TyRow), (∀ p ∈ l, p.2 = rowOf P p.1) → ∀ t r, tabGet l t = some r → r = rowOf P t := by
    intro l
    induction l with
    | nil => intro _ t r h; cases h
    | cons p l ih =>
      intro hl t r hr
      obtain ⟨x, y⟩ := p
      simp only [tabGet] at hr
      split at hr
      · rename_i e
        subst e
        obtain rfl := Option.some.inj hr
        exact hl (x, y) (by simp)
      · exact ih (fun p hp => hl p (by simp [hp])) t r hr
  refine key tab ?_
  intro p hp
  rw [h] at hp
  obtain ⟨q, _, rfl⟩ := List.mem_map.1 hp
  rfl
structure Ar where
  bin : BinOp → IntKind → Int → Int → Int
  sh : BinOp → IntKind → Int → Int → Int
  cmp : BinOp → Int → Int → Bool
  scmp : BinOp → ByteArray → ByteArray → Bool
  bcmp : Bool → Bool → Bool
  bnot : Bool → Bool
  neg : IntKind → Int → Int
  wrap : IntKind → Int → Int
  cat : ByteArray → ByteArray → ByteArray
  ssize : ByteArray → Int
  ssub : ByteArray → Int → Int → ByteArray
  sget : ByteArray → Int → Int
  len : List (List D) → Int
  rsub : List (List D) → Int → Int → List (List D)
  app : List (List D) → List (List D) → List (List D)
  elt : List (List D) → Int → List D
  set : List (List D) → Nat → Nat → List D → List (List D)
  nth : List D → Nat → D
  drp : List D → Nat → List D
  str : D → ByteArray
  int : D → Int
  bool : D → Bool
  row : D → List (List D)
  nat : Int → Nat
  nadd : Nat → Nat → Nat
  nsub : Nat → Nat → Nat
  band : Bool → Bool → Bool
  ofNat : Nat → Int
  strRow : ByteArray → List (List D)
  mkRow : Int → List D → List (List D)
  mx : Int → Int → Int
  mn : Int → Int → Int
  bytes : List (List D) → ByteArray
  emp : List (List D) → Bool
def valInt : Option Value → Int
  | some (.int _ n) => n
  | _ => 0
def valBool : Option Value → Bool
  | some (.bool b) => b
  | _ => false
def std : Ar where
  bin := fun op k a b => valInt (binInt op k a b)
  sh := fun op k a b => match op with | .shl => k.wrap (a * 2 ^ (min b.toNat k.bits)) | _ => a.fdiv (2 ^ (min b.toNat k.bits))
  cmp := fun op a b => valBool (binInt op .i64 a b)
  scmp := fun op a b => valBool (binStr op a b)
  bcmp := fun a b => a == b
  bnot := fun a => !a
  neg := fun k a => k.wrap (0 - a)
  wrap := fun k a => k.wrap a
  cat := fun a b => a ++ b
  ssize := fun a => a.size
  ssub := fun s a b => s.extract a.toNat b.toNat
  sget := fun s i => if h : i.toNat < s.size then (((s[i.toNat]'h).toNat : Nat) : Int) else 0
  len := fun xs => xs.length
  rsub := fun xs a b => (xs.drop a.toNat).take (b.toNat - a.toNat)
  app := fun xs ys => xs ++ ys
  elt := fun xs i => (xs[i.toNat]?).getD []
  set := fun xs i j ds => xs.set i (putAt ((xs[i]?).getD []) j ds)
  nth := fun xs j => (xs[j]?).getD (.sc undef)
  drp := fun xs j => xs.drop j
  str := fun x => match x with | .sc (.string s) => s | _ => default
  int := fun x => match x with | .sc (.int _ n) => n | _ => 0
  bool := fun x => match x with | .sc (.bool b) => b | _ => false
  row := fun x => match x with | .row _ xs => xs | _ => []
  nat := Int.toNat
  nadd := fun a b => a + b
  nsub := fun a b => a - b
  band := fun a b => a && b
  ofNat := fun n => n
  strRow := strRow
  mkRow := fun n z => List.replicate n.toNat z
  mx := fun a b => if b > a then b else a
  mn := fun a b => if b < a then b else a
  bytes := fun xs => match byteRow xs with | some ns => strOfInts ns | none => default
  emp := fun xs => xs.isEmpty
end Go.Proofs.YtmkpihcfglinjaaGreatDoor.Ab
namespace Go.Proofs.YtmkpihcfglinjaaGreatDoor.Ab
open Go
inductive InR (i n : Int) : Prop | mk (h0 : 0 ≤ i) (h1 : i < n) : InR i n
inductive Slc (lo hi n : Int) : Prop | mk (h0 : 0 ≤ lo) (h1 : lo ≤ hi) (h2 : hi ≤ n) : Slc lo hi n
inductive IsD (x y : D) : Prop | mk (h : x = y) : IsD x y
inductive LenGe (x : List D) (n : Nat) : Prop | mk (h : n ≤ x.length) : LenGe x n
inductive NonNeg (a : Int) : Prop | mk (h : 0 ≤ a) : NonNeg a
inductive NeZ (a : Int) : Prop | mk (h : a ≠ 0) : NeZ a
inductive CatOk (a b : ByteArray) : Prop | mk (h : ((a.size + b.size : Nat) : Int) ≤ IntKind.i64.max) : CatOk a b
inductive AppOk (off len : Nat) (xs ys : List (List D)) (bytes : Nat) : Prop
  | mk (h0 : off = 0) (h1 : len = xs.length) (h2 : (2 * (xs.length + ys.length) + 1024) * bytes ≤ 2 ^ 48) (h3 : xs.length + ys.length < 2 ^ 62) : AppOk off len xs ys bytes
inductive SubOk (off len : Nat) (xs : List (List D)) : Prop | mk (h : off + len ≤ xs.length) : SubOk off len xs
inductive MakeOk (n m : Int) (bytes : Nat) : Prop | mk (h0 : 0 ≤ n) (h1 : n ≤ m) (h2 : bytes * m ≤ 2 ^ 48) (h3 : m < 2 ^ 63) : MakeOk n m bytes
inductive ByteOk (xs : List (List D)) : Prop | mk (ns : List Int) (h : byteRow xs = some ns) : ByteOk xs
abbrev VO := Option (Out × List Prop)
abbrev VA := Option (AV × List Prop)
def vOut (x : VA) : VO := match x with | some (av, p) => some (⟨av, [], []⟩, p) | none => none
def vNorm (A : Ar) (k : SK) (x : D) : D × List Prop :=
  match k with
  | .int k => (.sc (.int k (A.int x)), [IsD x (.sc (.int k (A.int x)))])
  | .str => (.sc (.string (A.str x)), [IsD x (.sc (.string (A.str x)))])
  | .bool => (.sc (.bool (A.bool x)), [IsD x (.sc (.bool (A.bool x)))])
  | .sl sz => (.row sz (A.row x), [IsD x (.row sz (A.row x))])
  | .other => (x, [])
def vLeaves (A : Ar) (cs : List D) : Nat → List SK → List AV × List Prop
  | _, [] => ([], [])
  | j, k :: ks => (.d (vNorm A k (A.nth cs j)).1 :: (vLeaves A cs (j + 1) ks).1, (vNorm A k (A.nth cs j)).2 ++ (vLeaves A cs (j + 1) ks).2)
def vTake (A : Ar) (R : TyRow) (cs : List D) : VA :=
  match R.agg, R.sz, R.leaves with
  | some true, some n, ks => if ks.length = n ∧ n ≠ 0 then some (.agg (vLeaves A cs 0 ks).1, LenGe cs n :: (vLeaves A cs 0 ks).2) else none
  | some false, some _, [k] => some (.d (vNorm A k (A.nth cs 0)).1, LenGe cs 1 :: (vNorm A k (A.nth cs 0)).2)
  | _, _, _ => none
def vLoad (A : Ar) (rt : Nat → Option Root) (R : TyRow) : AV → VA
  | .ptr r i j =>
    match rt r with
    | some (.row _ _ xs) => match vTake A R (A.drp (A.elt xs (A.ofNat i)) j) with
      | some (av, p) => some (av, InR (A.ofNat i) (A.len xs) :: p)
      | none => none
    | some (.box ty l) => match i, R.agg, R.sz with
      | 0, some g, some n => (match takeP l j n g with | some av => some (av, []) | none => none)
      | _, _, _ => none
    | _ => none
  | .rptr cs => vTake A R cs
  | _ => none
def vIndexAddr (A : Ar) (rt : Nat → Option Root) (R : TyRow) (x : AV) (i : Int) : VA :=
  match R.el with
  | none => none
  | some (esz, _) =>
    match x with
    | .ref r off len =>
      match rt r with
      | some (.row sz _ _) => if esz = sz then some (.ptr r (A.nadd off (A.nat i)) 0, [InR i (A.ofNat len)]) else none
      | _ => none
    | .d (.row sz xs) => if esz = sz then some (.rptr (A.elt xs i), [InR i (A.len xs)]) else none
    | _ => none
def vFieldAddr (A : Ar) (rt : Nat → Option Root) (fl : Option (Nat × Nat × Bool)) : AV → VA
  | .ptr r i j => if alive rt r then (match fl with | some (o, n, _) => if n = 0 then none else some (.ptr r i (j + o), []) | none => none) else none
  | .rptr cs => match fl with | some (o, n, _) => if n = 0 then none else some (.rptr (A.drp cs o), []) | none => none
  | _ => none
def isStrK : SK → Bool
  | .str => true
  | _ => false
def vSlice (A : Ar) (rt : Nat → Option Root) (R : TyRow) (x : AV) (lo hi : Option Int) : VA :=
  match x with
  | .d (.sc (.string s)) => if isStrK R.sk then some (.d (.sc (.string (A.ssub s (lo.getD 0) (hi.getD (A.ssize s))))), [Slc (lo.getD 0) (hi.getD (A.ssize s)) (A.ssize s)]) else none
  | .d (.row sz xs) => match R.el with
    | some (esz, _) => if esz = sz then some (.d (.row sz (A.rsub xs (lo.getD 0) (hi.getD (A.len xs)))), [Slc (lo.getD 0) (hi.getD (A.len xs)) (A.len xs)]) else none
    | none => none
  | .ref r off len =>
    match rt r, R.el with
    | some (.row sz _ _), some (esz, _) => if esz = sz then some (.ref r (A.nadd off (A.nat (lo.getD 0))) (A.nsub (A.nat (hi.getD (A.ofNat len))) (A.nat (lo.getD 0))), [Slc (lo.getD 0) (hi.getD (A.ofNat len)) (A.ofNat len)]) else none
    | _, _ => none
  | _ => none
def vIndexS (A : Ar) (R : TyRow) (x : AV) (i : Int) : VA :=
  match x with
  | .d (.sc (.string s)) => if isStrK R.sk then some (.d (.sc (.int .u8 (A.sget s i))), [InR i (A.ssize s)]) else none
  | _ => none
def vBinInt (A : Ar) (op : BinOp) (k : IntKind) (a b : Int) : VA :=
  match op with
  | .add | .sub | .mul | .and | .or | .xor | .andNot => some (.d (.sc (.int k (A.bin op k a b))), [])
  | .quo | .rem => some (.d (.sc (.int k (A.bin op k a b))), [NeZ b])
  | .eql | .neq | .lss | .leq | .gtr | .geq => some (.d (.sc (.bool (A.cmp op a b))), [])
  | _ => none
def vBinStr (A : Ar) (op : BinOp) (a b : ByteArray) : VA :=
  match op with
  | .add => some (.d (.sc (.string (A.cat a b))), [CatOk a b])
  | .eql | .neq | .lss | .leq | .gtr | .geq => some (.d (.sc (.bool (A.scmp op a b))), [])
  | _ => none
def isBoolK : SK → Bool
  | .bool => true
  | _ => false
def vEq (A : Ar) : List EK → List AV → List AV → Option Bool
  | [], [], [] => some true
  | .int :: ks, .d (.sc (.int k a)) :: xs, .d (.sc (.int k' b)) :: ys => if k = k' then (match vEq A ks xs ys with | some r => some (A.band (A.cmp .eql a b) r) | none => none) else none
  | .str :: ks, .d (.sc (.string a)) :: xs, .d (.sc (.string b)) :: ys => (match vEq A ks xs ys with | some r => some (A.band (A.scmp .eql a b) r) | none => none)
  | .bool :: ks, .d (.sc (.bool a)) :: xs, .d (.sc (.bool b)) :: ys => (match vEq A ks xs ys with | some r => some (A.band (A.bcmp a b) r) | none => none)
  | _, _, _ => none
def vBin (A : Ar) (R : TyRow) (op : BinOp) (x y : AV) : VA :=
  match x, y with
  | .d (.sc (.int k a)), .d (.sc (.int k' b)) =>
    match op with
    | .shl => some (.d (.sc (.int k (A.sh .shl k a b))), [NonNeg b])
    | .shr => some (.d (.sc (.int k (A.sh .shr k a b))), [NonNeg b])
    | _ => if k = k' then vBinInt A op k a b else none
  | .d (.sc (.string a)), .d (.sc (.string b)) => vBinStr A op a b
  | .d (.sc (.bool a)), .d (.sc (.bool b)) => if isBoolK R.sk then (match op with | .eql => some (.d (.sc (.bool (A.bcmp a b))), []) | .neq => some (.d (.sc (.bool (A.bnot (A.bcmp a b)))), []) | _ => none) else none
  | .agg xs, .agg ys =>
    match op, R.eq with
    | .eql, some ks => (match vEq A ks xs ys with | some b => some (.d (.sc (.bool b)), []) | none => none)
    | .neq, some ks => (match vEq A ks xs ys with | some b => some (.d (.sc (.bool (A.bnot b))), []) | none => none)
    | _, _ => none
  | _, _ => none
def vBinN (A : Ar) (rt : Nat → Option Root) (R : TyRow) (op : BinOp) (x y : AV) (yo : Operand) : VA :=
  match isNilC yo with
  | true => (match op, R.sk, x with
    | .eql, .sl _, .d (.row _ xs) => some (.anyb (A.emp xs), [])
    | .eql, .sl _, .ref r _ len => if alive rt r then some (.anyb (A.cmp .eql (A.ofNat len) 0), []) else none
    | _, _, _ => none)
  | false => vBin A R op x y
def vUn (A : Ar) (op : UnOp) : AV → VA
  | .d (.sc (.bool b)) => match op with | .not => some (.d (.sc (.bool (A.bnot b))), []) | _ => none
  | .d (.sc (.int k n)) => match op with | .neg => some (.d (.sc (.int k (A.neg k n))), []) | _ => none
  | _ => none
def vToD (A : Ar) (rt : Nat → Option Root) : AV → Option (D × List Prop)
  | .d x => some (x, [])
  | .ref r off len =>
    match rt r with
    | some (.row sz true xs) => some (.row sz (A.rsub xs (A.ofNat off) (A.ofNat (A.nadd off len))), [SubOk off len xs])
    | _ => none
  | _ => none
def vToDs (A : Ar) (rt : Nat → Option Root) : List AV → Option (List D × List Prop)
  | [] => some ([], [])
  | x :: l => match vToD A rt x, vToDs A rt l with
    | some (d, p), some (ds, q) => some (d :: ds, p ++ q)
    | _, _ => none
def vSrc (A : Ar) (rt : Nat → Option Root) : AV → Option (Nat × List (List D) × List Prop)
  | .d (.sc (.string s)) => some (1, A.strRow s, [])
  | .d (.row sz xs) => some (sz, xs, [])
  | .ref r off len =>
    match rt r with
    | some (.row sz _ xs) => some (sz, A.rsub xs (A.ofNat off) (A.ofNat (A.nadd off len)), [SubOk off len xs])
    | _ => none
  | _ => none
def vAppend (A : Ar) (rt : Nat → Option Root) (nb : Nat) (R : TyRow) (s x : AV) : VO :=
  match s, R.el, R.ez with
  | .ref r off len, some (n, bytes), some _ =>
    match rt r, vSrc A rt x with
    | some (.row sz false xs), some (sz', ys, p) =>
      if sz' = sz ∧ n = sz then some (⟨.ref nb 0 (A.nat (A.len (A.app xs ys))), [.row sz false (A.app xs ys)], [(r, .dead)]⟩, AppOk off len xs ys bytes :: p) else none
    | _, _ => none
  | _, _, _ => none
def vStore (A : Ar) (rt : Nat → Option Root) (n : Nat) (p x : AV) : Option ((Nat × Root) × List Prop) :=
  match p with
  | .ptr r i j =>
    match rt r with
    | some (.box ty l) => (match i, x.leaves with
      | 0, some ys => if ys.length = n ∧ j + ys.length ≤ l.length then some ((r, .box ty (putAt l j ys)), []) else none
      | _, _ => none)
    | some (.row sz false xs) => (match x.leaves with
      | some ys => (match vToDs A rt ys with
        | some (ds, q) => if ds.length = n then some ((r, .row sz false (A.set xs i j ds)), InR (A.ofNat i) (A.len xs) :: LenGe (A.elt xs (A.ofNat i)) (j + ds.length) :: q) else none
        | none => none)
      | none => none)
    | _ => none
  | _ => none
def vConv (A : Ar) (rt : Nat → Option Root) (S T : TyRow) (x : AV) : VA :=
  match T.sk, x with
  | .int k, .d (.sc (.int _ n)) => (match S.sk with | .int _ => some (.d (.sc (.int k (A.wrap k n))), []) | _ => none)
  | .str, .d (.sc (.string s)) => if isStrK S.sk then some (.d (.sc (.string s)), []) else none
  | .str, .d (.row sz xs) => if S.bsl ∧ sz = 1 then some (.d (.sc (.string (A.bytes xs))), [ByteOk xs]) else none
  | .str, .ref r off len => (match rt r with
    | some (.row sz _ xs) => if S.bsl ∧ sz = 1 then some (.d (.sc (.string (A.bytes (A.rsub xs (A.ofNat off) (A.ofNat (A.nadd off len)))))), [SubOk off len xs, ByteOk (A.rsub xs (A.ofNat off) (A.ofNat (A.nadd off len)))]) else none
    | _ => none)
  | _, _ => none
def vLen (A : Ar) (rt : Nat → Option Root) (R : TyRow) : AV → VA
  | .d (.sc (.string s)) => if isStrK R.sk then some (.d (.sc (.int .i64 (A.ssize s))), []) else none
  | .d (.row _ xs) => (match R.sk with | .sl _ => some (.d (.sc (.int .i64 (A.len xs))), []) | _ => none)
  | .ref r _ len => (match R.sk with | .sl _ => if alive rt r then some (.d (.sc (.int .i64 (A.ofNat len))), []) else none | _ => none)
  | _ => none
def vPartDs (A : Ar) (rt : Nat → Option Root) (sl : Nat → AV) : List (Nat × Operand) → Option (List (Nat × List D) × List Prop)
  | [] => some ([], [])
  | (i, x) :: rest => match (opd0 sl x).leaves with
    | none => none
    | some l => match vToDs A rt l, vPartDs A rt sl rest with
      | some (ds, p), some (r, q) => some ((i, ds) :: r, p ++ q)
      | _, _ => none
def vCall (A : Ar) (tab : List (Nat × TyRow)) (nb : Nat) (sl : Nat → AV) (rt : Nat → Option Root) (c : Call) : VO :=
  match c.callee, c.args.toList, c.argTypes.toList with
  | .builtin .len, [x], [t] => (match tabGet tab t with | some R => vOut (vLen A rt R (opd0 sl x)) | none => none)
  | .builtin .append, [s, x], [t, xt] => (match tabGet tab t, tabGet tab xt with
    | some R, some X => (match X.sk with | .sl _ => vAppend A rt nb R (opd0 sl s) (opd0 sl x) | .str => vAppend A rt nb R (opd0 sl s) (opd0 sl x) | _ => none)
    | _, _ => none)
  | .builtin .max, [x, y], _ => (match opd0 sl x, opd0 sl y with | .d (.sc (.int k a)), .d (.sc (.int _ b)) => some (⟨.d (.sc (.int k (A.mx a b))), [], []⟩, []) | _, _ => none)
  | .builtin .min, [x, y], _ => (match opd0 sl x, opd0 sl y with | .d (.sc (.int k a)), .d (.sc (.int _ b)) => some (⟨.d (.sc (.int k (A.mn a b))), [], []⟩, []) | _, _ => none)
  | _, _, _ => none
def hintR : Option TyRow → Nat
  | some R => (R.el.map (·.1)).getD 0
  | none => 0
def vMove (tab : List (Nat × TyRow)) (nb : Nat) (sl : Nat → AV) (ty : TypeId) (x : Operand) : VO :=
  match x with
  | .const (.slice none 0 0) => (match tabGet tab ty with | some R => some (⟨.ref nb 0 0, [.row (hintR (some R)) false []], []⟩, []) | none => none)
  | x => some (⟨opd0 sl x, [], []⟩, [])
def vev (A : Ar) (tab : List (Nat × TyRow)) (nb : Nat) (sl : Nat → AV) (rt : Nat → Option Root) (o : Oper) : VO :=
  match o.op with
  | .move x => vMove tab nb sl o.type x
  | .assign x => vMove tab nb sl o.type x
  | .pick c a b => (match opd0 sl c with | .d (.sc (.bool true)) => some (⟨opd0 sl a, [], []⟩, []) | .d (.sc (.bool false)) => some (⟨opd0 sl b, [], []⟩, []) | _ => none)
  | .alloc t => (match tabGet tab t with | some R => (match R.zero with | some zs => some (⟨(evAlloc nb t zs).1, (evAlloc nb t zs).2, []⟩, []) | none => none) | none => none)
  | .box t x => (match (opd0 sl x).leaves with | some l => some (⟨.ptr nb 0 0, [.box t l], []⟩, []) | none => none)
  | .build t ps => (match tabGet tab t with
    | some R => (match R.zero, R.pl, partLeaves sl ps.toList with
      | some zs, some pl, some l => (match evBuild nb zs pl l with | some r => some (⟨r.1, r.2, []⟩, []) | none => none)
      | _, _, _ => none)
    | none => none)
  | .buildSlice t n ps => (match tabGet tab t with
    | some R => (match R.ez, vPartDs A rt sl ps.toList with
      | some z, some (l, p) => (match evBuildSlice nb z n l with | some r => some (⟨r.1, r.2, []⟩, p) | none => none)
      | _, _ => none)
    | none => none)
  | .load t x => (match tabGet tab t with | some R => vOut (vLoad A rt R (opd0 sl x)) | none => none)
  | .store t p x => (match tabGet tab t with
    | some R => (match R.sz, opd nb (hintR (some R)) sl x with
      | some n, (av, new) => (match vStore A rt n (opd0 sl p) av with
        | some ((r, R'), q) => if r < nb then some (⟨.junk, new, [(r, R')]⟩, q) else none
        | none => none)
      | _, _ => none)
    | none => none)
  | .nilCheck x => (match evNil rt (opd0 sl x) with | some v => some (⟨v, [], []⟩, []) | none => none)
  | .binOp op t x y _ => (match tabGet tab t with | some R => vOut (vBinN A rt R op (opd0 sl x) (opd0 sl y) y) | none => none)
  | .unOp op _ x => vOut (vUn A op (opd0 sl x))
  | .convert s d x => (match tabGet tab s, tabGet tab d with | some S, some T => vOut (vConv A rt S T (opd0 sl x)) | _, _ => none)
  | .fieldAddr t x f => (match tabGet tab t with | some R => (match R.flds[f]? with | some fl => vOut (vFieldAddr A rt fl (opd0 sl x)) | none => none) | none => none)
  | .field t x f => (match tabGet tab t with | some R => (match R.flds[f]? with | some fl => (match evField fl (opd0 sl x) with | some v => some (⟨v, [], []⟩, []) | none => none) | none => none) | none => none)
  | .indexAddr t x i => (match tabGet tab t, opd0 sl i with | some R, .d (.sc (.int _ n)) => vOut (vIndexAddr A rt R (opd0 sl x) n) | _, _ => none)
  | .index t x i => (match tabGet tab t, opd0 sl i with | some R, .d (.sc (.int _ n)) => vOut (vIndexS A R (opd0 sl x) n) | _, _ => none)
  | .slice t x lo hi none => (match tabGet tab t, bound? sl lo, bound? sl hi with | some R, some l, some h => vOut (vSlice A rt R (opd0 sl x) l h) | _, _, _ => none)
  | .makeSlice t n m => (match tabGet tab t, opd0 sl n, opd0 sl m with
    | some R, .d (.sc (.int _ n)), .d (.sc (.int _ m)) => (match R.ez with | some z => some (⟨.ref nb 0 (A.nat n), [.row z.2.1 false (A.mkRow n z.1)], []⟩, [MakeOk n m z.2.2]) | none => none)
    | _, _, _ => none)
  | .extract x i => (match evExtract i (opd0 sl x) with | some v => some (⟨v, [], []⟩, []) | none => none)
  | .makeFunc (.func f) first caps => if first.size = 0 then some (⟨.clo f (caps.toList.map (opd0 sl)), [], []⟩, []) else none
  | .call c => vCall A tab nb sl rt c
  | _ => none
end Go.Proofs.YtmkpihcfglinjaaGreatDoor.Ab
namespace Go.Proofs.YtmkpihcfglinjaaGreatDoor.Ab
open Go
section
variable {P : Program} {rt : Nat → Option Root} {x y av : AV} {ps : List Prop}
theorem vNorm_ok {k : SK} {d : D} (h : ∀ p ∈ (vNorm std k d).2, p) : (vNorm std k d).1 = d := by
  cases k <;> simp only [vNorm] at h ⊢
  all_goals
    have := h _ (List.mem_singleton.2 rfl)
    obtain ⟨h⟩ := this
    exact h.symm
theorem vLeaves_ok {cs : List D} : ∀ {ks : List SK} {j : Nat}, j + ks.length ≤ cs.length → (∀ p ∈ (vLeaves std cs j ks).2, p) → (vLeaves std cs j ks).1 = ((cs.drop j).take ks.length).map AV.d
  | [], j, _, _ => by simp [vLeaves]
  | k :: ks, j, hl, h => by
    simp only [List.length_cons] at hl
    have hj : j < cs.length := by omega
    simp only [vLeaves] at h ⊢
    rw [vNorm_ok (fun p hp => h p (List.mem_append_left _ hp)), vLeaves_ok (by omega) (fun p hp => h p (List.mem_append_right _ hp))]
    have e : cs.drop j = cs[j] :: cs.drop (j + 1) := List.drop_eq_getElem_cons hj
    have hn : std.nth cs j = cs[j] := by show (cs[j]?).getD _ = _; rw [List.getElem?_eq_getElem hj]; rfl
    rw [e, hn]
    simp only [List.length_cons, List.take_succ_cons, List.map_cons]
theorem vTake_ok {t : TypeId} {cs : List D} (h : vTake std (rowOf P t) cs = some (av, ps)) (hp : ∀ p ∈ ps, p) : ∃ g n, aggT P t = some g ∧ szT P t = some n ∧ (g = true → n ≠ 0) ∧ takeP (cs.map AV.d) 0 n g = some av := by
  unfold vTake at h
  split at h
  · rename_i n hg hs
    split at h
    · rename_i hlen
      obtain ⟨hlen, hn0⟩ := hlen
      simp only [Option.some.injEq, Prod.mk.injEq] at h
      obtain ⟨rfl, rfl⟩ := h
      obtain ⟨hl⟩ := hp _ List.mem_cons_self
      refine ⟨true, n, hg, hs, fun _ => hn0, ?_⟩
      rw [vLeaves_ok (by omega) (fun p h => hp p (List.mem_cons_of_mem _ h)), hlen]
      have : 0 + n ≤ (cs.map AV.d).length := by simp; omega
      simp only [takeP, if_true, this, List.drop_zero, List.map_take]
    · cases h
  · rename_i n k hg hs hk
    simp only [Option.some.injEq, Prod.mk.injEq] at h
    obtain ⟨rfl, rfl⟩ := h
    obtain ⟨hl⟩ := hp _ List.mem_cons_self
    refine ⟨false, n, hg, hs, by simp, ?_⟩
    rw [vNorm_ok (fun p h => hp p (List.mem_cons_of_mem _ h))]
    have h0 : 0 < cs.length := by omega
    have hn : std.nth cs 0 = cs[0] := by show (cs[0]?).getD _ = _; rw [List.getElem?_eq_getElem h0]; rfl
    rw [hn]
    simp [takeP, h0]
  · cases h
theorem takeP_drop {cs : List D} {j n : Nat} {g : Bool} (h0 : g = true → n ≠ 0) (h : takeP ((cs.drop j).map AV.d) 0 n g = some av) : takeP (cs.map AV.d) j n g = some av := by
  cases g with
  | false => simpa [takeP] using h
  | true =>
    simp only [takeP, if_true] at h ⊢
    split at h
    · rename_i hc
      simp only [Nat.zero_add, List.length_map, List.length_drop] at hc
      by_cases hj : j ≤ cs.length
      · rw [if_pos (by simp; omega)]
        simpa using h
      · have := h0 rfl
        omega
    · cases h
theorem vLoad_ok {t : TypeId} (h : vLoad std rt (rowOf P t) x = some (av, ps)) (hp : ∀ p ∈ ps, p) : ∃ g n, aggT P t = some g ∧ szT P t = some n ∧ evLoad rt n g x = some av := by
  unfold vLoad at h
  split at h
  · rename_i r i j
    split at h
    · rename_i sz fz xs hrt
      split at h
      · rename_i av' p' ht
        simp only [Option.some.injEq, Prod.mk.injEq] at h
        obtain ⟨rfl, rfl⟩ := h
        obtain ⟨h0, h1⟩ := hp _ List.mem_cons_self
        obtain ⟨g, n, hg, hn, hn0, htk⟩ := vTake_ok ht (fun p h => hp p (List.mem_cons_of_mem _ h))
        refine ⟨g, n, hg, hn, ?_⟩
        have hi : i < xs.length := by
          have : ((i : Int)) < ((xs.length : Nat) : Int) := h1
          omega
        have he : std.elt xs (std.ofNat i) = xs[i] := by
          show (xs[((i : Nat) : Int).toNat]?).getD [] = _
          rw [Int.toNat_natCast, List.getElem?_eq_getElem hi]; rfl
        simp only [evLoad, hrt, List.getElem?_eq_getElem hi, Option.bind_some]
        rw [he] at htk
        exact takeP_drop hn0 htk
      · cases h
    · rename_i l hrt
      split at h
      · rename_i g n hg hn
        split at h
        · rename_i av' ht
          simp only [Option.some.injEq, Prod.mk.injEq] at h
          obtain ⟨rfl, rfl⟩ := h
          exact ⟨g, n, hg, hn, by simp only [evLoad, hrt, if_true]; exact ht⟩
        · cases h
      · cases h
    · cases h
  · rename_i cs
    obtain ⟨g, n, hg, hn, _, htk⟩ := vTake_ok h hp
    exact ⟨g, n, hg, hn, htk⟩
  · cases h
theorem vIndexAddr_ok {t : TypeId} {i : Int} (h : vIndexAddr std rt (rowOf P t) x i = some (av, ps)) (hp : ∀ p ∈ ps, p) : evIndexAddr rt (elT P t) x i = some av := by
  unfold vIndexAddr at h
  split at h
  · cases h
  · rename_i esz b hel
    have hel' : elT P t = some (esz, b) := hel
    split at h
    · rename_i r off len
      split at h
      · rename_i sz fz xs hrt
        split at h
        · rename_i e
          subst e
          simp only [Option.some.injEq, Prod.mk.injEq] at h
          obtain ⟨rfl, rfl⟩ := h
          obtain ⟨h0, h1⟩ := hp _ List.mem_cons_self
          have h1' : i < (len : Int) := h1
          simp only [evIndexAddr, hrt, hel', Option.map_some, true_and]
          rw [if_pos ⟨h0, h1'⟩]
          rfl
        · cases h
      · cases h
    · rename_i sz xs
      split at h
      · rename_i e
        subst e
        simp only [Option.some.injEq, Prod.mk.injEq] at h
        obtain ⟨rfl, rfl⟩ := h
        obtain ⟨h0, h1⟩ := hp _ List.mem_cons_self
        have h1' : i < (xs.length : Int) := h1
        have hi : i.toNat < xs.length := by omega
        simp only [evIndexAddr, hel', Option.map_some, true_and]
        rw [if_pos h0, List.getElem?_eq_getElem hi]
        have he : std.elt xs i = xs[i.toNat] := by
          show (xs[i.toNat]?).getD [] = _
          rw [List.getElem?_eq_getElem hi]; rfl
        rw [he]
        rfl
      · cases h
    · cases h
theorem vFieldAddr_ok {fl : Option (Nat × Nat × Bool)} (h : vFieldAddr std rt fl x = some (av, ps)) : evFieldAddr rt fl x = some av := by
  unfold vFieldAddr at h
  split at h
  · split at h
    · rename_i ha
      split at h
      · rename_i o n g
        split at h
        · cases h
        · rename_i hn
          simp only [Option.some.injEq, Prod.mk.injEq] at h
          obtain ⟨rfl, rfl⟩ := h
          simp [evFieldAddr, ha, hn]
      · cases h
    · cases h
  · split at h
    · rename_i o n g
      split at h
      · cases h
      · rename_i hn
        simp only [Option.some.injEq, Prod.mk.injEq] at h
        obtain ⟨rfl, rfl⟩ := h
        simp only [evFieldAddr, Option.bind_some, hn, if_false]
        rfl
    · cases h
  · cases h
end
end Go.Proofs.YtmkpihcfglinjaaGreatDoor.Ab
namespace Go.Proofs.YtmkpihcfglinjaaGreatDoor.Ab
open Go
section
variable {P : Program} {rt : Nat → Option Root} {x y av : AV} {ps : List Prop}
theorem skOf_str {t : TypeId} (h : isStrK (skOf P t) = true) : isStrT P t = true := by
  unfold skOf at h
  unfold isStrT
  split at h <;> simp_all [isStrK]
theorem skOf_sl {t : TypeId} {n : Nat} (h : skOf P t = .sl n) : isSliceT P t = true := by
  unfold skOf at h
  unfold isSliceT
  split at h <;> simp_all
theorem skOf_bool {t : TypeId} (h : isBoolK (skOf P t) = true) : isBoolT P t = true := by
  unfold skOf at h
  unfold isBoolT
  split at h <;> simp_all [isBoolK]
theorem vSlice_ok {t : TypeId} {lo hi : Option Int} (h : vSlice std rt (rowOf P t) x lo hi = some (av, ps)) (hp : ∀ p ∈ ps, p) : evSlice rt (elT P t) (isStrT P t) x lo hi = some av := by
  unfold vSlice at h
  split at h
  · rename_i s
    split at h
    · rename_i hs
      simp only [Option.some.injEq, Prod.mk.injEq] at h
      obtain ⟨rfl, rfl⟩ := h
      obtain ⟨h0, h1, h2⟩ := hp _ (List.mem_singleton.2 rfl)
      have h2' : hi.getD (s.size : Int) ≤ (s.size : Int) := h2
      have h1' : lo.getD 0 ≤ hi.getD (s.size : Int) := h1
      simp only [evSlice]
      rw [if_pos ⟨skOf_str hs, h0, h1', h2'⟩]
      rfl
    · cases h
  · rename_i sz xs
    split at h
    · rename_i esz b hel
      have hel' : elT P t = some (esz, b) := hel
      split at h
      · rename_i e
        subst e
        simp only [Option.some.injEq, Prod.mk.injEq] at h
        obtain ⟨rfl, rfl⟩ := h
        obtain ⟨h0, h1, h2⟩ := hp _ (List.mem_singleton.2 rfl)
        have h2' : hi.getD (xs.length : Int) ≤ (xs.length : Int) := h2
        have h1' : lo.getD 0 ≤ hi.getD (xs.length : Int) := h1
        simp only [evSlice, hel', Option.map_some, true_and]
        rw [if_pos ⟨h0, h1', h2'⟩]
        rfl
      · cases h
    · cases h
  · rename_i r off len
    split at h
    · rename_i sz fz xs esz b hrt hel
      have hel' : elT P t = some (esz, b) := hel
      split at h
      · rename_i e
        subst e
        simp only [Option.some.injEq, Prod.mk.injEq] at h
        obtain ⟨rfl, rfl⟩ := h
        obtain ⟨h0, h1, h2⟩ := hp _ (List.mem_singleton.2 rfl)
        have h2' : hi.getD (len : Int) ≤ (len : Int) := h2
        have h1' : lo.getD 0 ≤ hi.getD (len : Int) := h1
        simp only [evSlice, hrt, hel', Option.map_some, true_and]
        rw [if_pos ⟨h0, h1', h2'⟩]
        rfl
      · cases h
    · cases h
  · cases h
theorem vIndexS_ok {t : TypeId} {i : Int} (h : vIndexS std (rowOf P t) x i = some (av, ps)) (hp : ∀ p ∈ ps, p) : evIndexS (isStrT P t) x i = some av := by
  unfold vIndexS at h
  split at h
  · rename_i s
    split at h
    · rename_i hs
      simp only [Option.some.injEq, Prod.mk.injEq] at h
      obtain ⟨rfl, rfl⟩ := h
      obtain ⟨h0, h1⟩ := hp _ (List.mem_singleton.2 rfl)
      have h1' : i < (s.size : Int) := h1
      have hi : i.toNat < s.size := by omega
      simp only [evIndexS]
      rw [dif_pos ⟨skOf_str hs, h0, hi⟩]
      have e : std.sget s i = ((s[i.toNat]'hi).toNat : Int) := by
        show (if h : i.toNat < s.size then (((s[i.toNat]'h).toNat : Nat) : Int) else 0) = _
        rw [dif_pos hi]
      rw [e]
    · cases h
  · cases h
theorem vBin_ok {t : TypeId} {op : BinOp} (h : vBin std (rowOf P t) op x y = some (av, ps)) (hp : ∀ p ∈ ps, p) : evBin P op t x y = some av := by
  have eqs : ∀ {ks : List EK} {xs ys : List AV} {b : Bool}, vEq std ks xs ys = some b → eqAll ks xs ys = some b := by
    intro ks
    induction ks with
    | nil => intro xs ys b h; cases xs <;> cases ys <;> simp_all [vEq, eqAll]
    | cons k ks ih =>
      intro xs ys b h
      unfold vEq at h
      split at h
      · rename_i h1 h2 h3; first | (cases h1; done) | (cases h2; done) | (cases h3; done)
      · rename_i h1
        obtain ⟨rfl, rfl⟩ := List.cons.inj h1
        split at h
        · rename_i e
          subst e
          split at h
          · rename_i r hr
            obtain rfl := Option.some.inj h
            simp only [eqAll, eqSc, if_true, Option.bind_some, ih hr, Option.map_some]
            rfl
          · cases h
        · cases h
      · rename_i h1
        obtain ⟨rfl, rfl⟩ := List.cons.inj h1
        split at h
        · rename_i r hr
          obtain rfl := Option.some.inj h
          simp only [eqAll, eqSc, Option.bind_some, ih hr, Option.map_some]
          rfl
        · cases h
      · rename_i h1
        obtain ⟨rfl, rfl⟩ := List.cons.inj h1
        split at h
        · rename_i r hr
          obtain rfl := Option.some.inj h
          simp only [eqAll, eqSc, Option.bind_some, ih hr, Option.map_some]
          rfl
        · cases h
      · cases h
  unfold vBin at h
  split at h
  · rename_i k a k' b
    split at h
    · simp only [Option.some.injEq, Prod.mk.injEq] at h
      obtain ⟨rfl, rfl⟩ := h
      obtain ⟨h0⟩ := hp _ (List.mem_singleton.2 rfl)
      simp only [evBin, binSc]
      rw [if_neg (by omega)]
      rfl
    · simp only [Option.some.injEq, Prod.mk.injEq] at h
      obtain ⟨rfl, rfl⟩ := h
      obtain ⟨h0⟩ := hp _ (List.mem_singleton.2 rfl)
      simp only [evBin, binSc]
      rw [if_neg (by omega)]
      rfl
    · rename_i hn1 hn2
      split at h
      · rename_i e
        subst e
        cases op <;> simp only [vBinInt] at h <;> first
          | (cases h; done)
          | (simp only [Option.some.injEq, Prod.mk.injEq] at h
             obtain ⟨rfl, rfl⟩ := h
             first
               | (obtain ⟨h0⟩ := hp _ (List.mem_singleton.2 rfl)
                  simp only [evBin, binSc, binInt, if_true, if_neg h0, Option.map_some]
                  simp only [std, binInt, if_neg h0, valInt])
               | (simp only [evBin, binSc, binInt, if_true, Option.map_some]; rfl))
      · cases h
  · rename_i a b
    cases op <;> simp only [vBinStr] at h <;> first
      | (cases h; done)
      | (simp only [Option.some.injEq, Prod.mk.injEq] at h
         obtain ⟨rfl, rfl⟩ := h
         first
           | (obtain ⟨h0⟩ := hp _ (List.mem_singleton.2 rfl)
              simp only [evBin, binSc, binStr]
              rw [if_neg (by omega)]
              rfl)
           | rfl)
  · rename_i a b
    split at h
    · rename_i hb
      have hb' := skOf_bool hb
      split at h
      · simp only [Option.some.injEq, Prod.mk.injEq] at h
        obtain ⟨rfl, rfl⟩ := h
        simp only [evBin, binSc, hb', if_true]
        rfl
      · simp only [Option.some.injEq, Prod.mk.injEq] at h
        obtain ⟨rfl, rfl⟩ := h
        simp only [evBin, binSc, hb', if_true]
        rfl
      · cases h
    · cases h
  · rename_i xs ys
    split at h
    · rename_i ks he
      have he' : eqT P t = some ks := he
      split at h
      · rename_i b hb
        simp only [Option.some.injEq, Prod.mk.injEq] at h
        obtain ⟨rfl, rfl⟩ := h
        simp only [evBin, he', Option.bind_some, eqs hb, Option.map_some]
      · cases h
    · rename_i ks he
      have he' : eqT P t = some ks := he
      split at h
      · rename_i b hb
        simp only [Option.some.injEq, Prod.mk.injEq] at h
        obtain ⟨rfl, rfl⟩ := h
        simp only [evBin, he', Option.bind_some, eqs hb, Option.map_some]
        rfl
      · cases h
    · cases h
  · cases h
theorem vUn_ok {op : UnOp} (h : vUn std op x = some (av, ps)) : evUn op x = some av := by
  unfold vUn at h
  split at h
  · split at h
    · simp only [Option.some.injEq, Prod.mk.injEq] at h; obtain ⟨rfl, rfl⟩ := h; rfl
    · cases h
  · split at h
    · simp only [Option.some.injEq, Prod.mk.injEq] at h; obtain ⟨rfl, rfl⟩ := h; rfl
    · cases h
  · cases h
end
end Go.Proofs.YtmkpihcfglinjaaGreatDoor.Ab
namespace Go.Proofs.YtmkpihcfglinjaaGreatDoor.Ab
open Go
section
variable {P : Program} {rt : Nat → Option Root} {x y av : AV} {ps : List Prop}
theorem std_rsub (xs : List (List D)) (off len : Nat) : std.rsub xs (std.ofNat off) (std.ofNat (std.nadd off len)) = (xs.drop off).take len := by
  show (xs.drop ((off : Int)).toNat).take ((((off + len : Nat) : Int)).toNat - ((off : Int)).toNat) = _
  rw [Int.toNat_natCast, Int.toNat_natCast]
  congr 1
  omega
theorem vToD_ok {d : D} (h : vToD std rt x = some (d, ps)) (hp : ∀ p ∈ ps, p) : x.toD rt = some d := by
  unfold vToD at h
  split at h
  · simp only [Option.some.injEq, Prod.mk.injEq] at h
    obtain ⟨rfl, rfl⟩ := h
    rfl
  · split at h
    · rename_i r off len sz xs hrt
      simp only [Option.some.injEq, Prod.mk.injEq] at h
      obtain ⟨rfl, rfl⟩ := h
      obtain ⟨h0⟩ := hp _ (List.mem_singleton.2 rfl)
      simp only [AV.toD, hrt, h0, if_true, std_rsub]
    · cases h
  · cases h
theorem vToDs_ok : ∀ {l : List AV} {ds : List D} {ps : List Prop}, vToDs std rt l = some (ds, ps) → (∀ p ∈ ps, p) → toDs rt l = some ds
  | [], ds, ps, h, _ => by
    simp only [vToDs, Option.some.injEq, Prod.mk.injEq] at h
    obtain ⟨rfl, _⟩ := h
    rfl
  | x :: l, ds, ps, h, hp => by
    simp only [vToDs] at h
    split at h
    · rename_i d p ds' q h1 h2
      simp only [Option.some.injEq, Prod.mk.injEq] at h
      obtain ⟨rfl, rfl⟩ := h
      simp only [toDs, vToD_ok h1 (fun r hr => hp r (List.mem_append_left _ hr)), Option.bind_some, vToDs_ok h2 (fun r hr => hp r (List.mem_append_right _ hr)), Option.map_some]
    · cases h
theorem vSrc_ok {n : Nat} {ys : List (List D)} (h : vSrc std rt x = some (n, ys, ps)) (hp : ∀ p ∈ ps, p) : x.src rt = some (n, ys) := by
  unfold vSrc at h
  split at h
  · simp only [Option.some.injEq, Prod.mk.injEq] at h
    obtain ⟨rfl, rfl, rfl⟩ := h
    rfl
  · simp only [Option.some.injEq, Prod.mk.injEq] at h
    obtain ⟨rfl, rfl, rfl⟩ := h
    rfl
  · split at h
    · rename_i r off len sz fz xs hrt
      simp only [Option.some.injEq, Prod.mk.injEq] at h
      obtain ⟨rfl, rfl, rfl⟩ := h
      obtain ⟨h0⟩ := hp _ (List.mem_singleton.2 rfl)
      simp only [AV.src, AV.view, hrt, h0, if_true, std_rsub]
    · cases h
  · cases h
theorem vAppend_ok {nb : Nat} {t : TypeId} {s : AV} {out : Out} (h : vAppend std rt nb (rowOf P t) s x = some (out, ps)) (hp : ∀ p ∈ ps, p) :
    (ezT P t).isSome = true ∧ ∃ r, evAppend rt nb (elT P t) s x = some (out.av, out.new, r) ∧ out.g = [(r, .dead)] := by
  unfold vAppend at h
  split at h
  · rename_i r off len n bytes z hel hez
    have hel' : elT P t = some (n, bytes) := hel
    have hez' : ezT P t = some z := hez
    split at h
    · rename_i sz xs sz' ys p hrt hsrc
      split at h
      · rename_i e
        obtain ⟨rfl, rfl⟩ := e
        simp only [Option.some.injEq, Prod.mk.injEq] at h
        obtain ⟨rfl, rfl⟩ := h
        obtain ⟨h0, h1, h2, h3⟩ := hp _ List.mem_cons_self
        refine ⟨by rw [hez']; rfl, r, ?_, rfl⟩
        simp only [evAppend, hrt, vSrc_ok hsrc (fun q hq => hp q (List.mem_cons_of_mem _ hq)), Option.bind_some, hel']
        rw [if_pos ⟨h0, h1, trivial, trivial, h2, h3⟩]
        have e : std.nat (std.len (std.app xs ys)) = xs.length + ys.length := by
          show (((xs ++ ys).length : Nat) : Int).toNat = _
          rw [Int.toNat_natCast, List.length_append]
        rw [e]
        rfl
      · cases h
    · cases h
  · cases h
theorem vStore_ok {n : Nat} {p : AV} {q : Nat × Root} (h : vStore std rt n p x = some (q, ps)) (hp : ∀ r ∈ ps, r) : evStore rt n p x = some q := by
  unfold vStore at h
  split at h
  · rename_i r i j
    split at h
    · rename_i l hrt
      split at h
      · rename_i ys hys
        split at h
        · rename_i hc
          simp only [Option.some.injEq, Prod.mk.injEq] at h
          obtain ⟨rfl, rfl⟩ := h
          simp only [evStore, hrt, hys, Option.bind_some, true_and]
          rw [if_pos hc]
        · cases h
      · cases h
    · rename_i sz xs hrt
      split at h
      · rename_i ys hys
        split at h
        · rename_i ds q' hds
          split at h
          · rename_i hn
            simp only [Option.some.injEq, Prod.mk.injEq] at h
            obtain ⟨rfl, rfl⟩ := h
            obtain ⟨h0, h1⟩ := hp _ List.mem_cons_self
            obtain ⟨h2⟩ := hp _ (List.mem_cons_of_mem _ List.mem_cons_self)
            have hi : i < xs.length := by
              have : (i : Int) < (xs.length : Int) := h1
              omega
            have he : std.elt xs (std.ofNat i) = xs[i] := by
              show (xs[((i : Nat) : Int).toNat]?).getD [] = _
              rw [Int.toNat_natCast, List.getElem?_eq_getElem hi]; rfl
            rw [he] at h2
            simp only [evStore, hrt, hys, Option.bind_some, vToDs_ok hds (fun r hr => hp r (List.mem_cons_of_mem _ (List.mem_cons_of_mem _ hr))), List.getElem?_eq_getElem hi]
            rw [if_pos ⟨hn, h2⟩]
            have e : std.set xs i j ds = xs.set i (putAt xs[i] j ds) := by
              show xs.set i (putAt ((xs[i]?).getD []) j ds) = _
              rw [List.getElem?_eq_getElem hi]; rfl
            rw [e]
          · cases h
        · cases h
      · cases h
    · cases h
  · cases h
theorem vConv_ok {nb : Nat} {s d : TypeId} (h : vConv std rt (rowOf P s) (rowOf P d) x = some (av, ps)) (hp : ∀ p ∈ ps, p) :
    ∃ src dst, P.underlying s = some src ∧ P.underlying d = some dst ∧ evConv rt nb src dst (isByteSliceT P s) x = some (av, []) := by
  have uInt : ∀ {t : TypeId} {k : IntKind}, skOf P t = .int k → P.underlying t = some (.int k) := by
    intro t k h
    unfold skOf at h
    split at h <;> simp_all
  have uStr : ∀ {t : TypeId}, skOf P t = .str → P.underlying t = some .string := by
    intro t h
    unfold skOf at h
    split at h <;> simp_all
  have uBs : isByteSliceT P s = true → ∃ u, P.underlying s = some u := by
    intro hb
    unfold isByteSliceT at hb
    cases hu : P.underlying s with
    | none => simp [hu] at hb
    | some u => exact ⟨u, rfl⟩
  unfold vConv at h
  split at h
  · rename_i k k' n hT
    split at h
    · rename_i k'' hS
      simp only [Option.some.injEq, Prod.mk.injEq] at h
      obtain ⟨rfl, rfl⟩ := h
      exact ⟨_, _, uInt hS, uInt hT, rfl⟩
    · cases h
  · rename_i s' hT
    split at h
    · rename_i hS
      simp only [Option.some.injEq, Prod.mk.injEq] at h
      obtain ⟨rfl, rfl⟩ := h
      have hS' : skOf P s = .str := by
        have hS0 : isStrK (skOf P s) = true := hS
        cases hk : skOf P s <;> rw [hk] at hS0 <;> first | rfl | simp [isStrK] at hS0
      exact ⟨_, _, uStr hS', uStr hT, rfl⟩
    · cases h
  · rename_i sz xs hT
    split at h
    · rename_i hc
      obtain ⟨hb, rfl⟩ := hc
      simp only [Option.some.injEq, Prod.mk.injEq] at h
      obtain ⟨rfl, rfl⟩ := h
      obtain ⟨ns, hns⟩ := hp _ (List.mem_singleton.2 rfl)
      obtain ⟨u, hu⟩ := uBs hb
      have hb' : isByteSliceT P s = true := hb
      refine ⟨u, _, hu, uStr hT, ?_⟩
      have e : std.bytes xs = strOfInts ns := by
        show (match byteRow xs with | some ns => strOfInts ns | none => default) = _
        rw [hns]
      simp only [evConv, hb', if_true, AV.view, Option.bind_some, hns, Option.map_some, e]
    · cases h
  · rename_i r off len hT
    split at h
    · rename_i sz fz xs hrt
      split at h
      · rename_i hc
        obtain ⟨hb, rfl⟩ := hc
        simp only [Option.some.injEq, Prod.mk.injEq] at h
        obtain ⟨rfl, rfl⟩ := h
        obtain ⟨h0⟩ := hp _ List.mem_cons_self
        obtain ⟨ns, hns⟩ := hp _ (List.mem_cons_of_mem _ List.mem_cons_self)
        obtain ⟨u, hu⟩ := uBs hb
        have hb' : isByteSliceT P s = true := hb
        refine ⟨u, _, hu, uStr hT, ?_⟩
        rw [std_rsub] at hns ⊢
        have e : std.bytes ((xs.drop off).take len) = strOfInts ns := by
          show (match byteRow ((xs.drop off).take len) with | some ns => strOfInts ns | none => default) = _
          rw [hns]
        simp only [evConv, hb', if_true, AV.view, hrt, h0, Option.bind_some, hns, Option.map_some, e]
      · cases h
    · cases h
  · cases h
theorem vBinN_ok {t : TypeId} {op : BinOp} {y : AV} {yo : Operand} (h : vBinN std rt (rowOf P t) op x y yo = some (av, ps)) (hp : ∀ p ∈ ps, p) : evBinN P rt op t x y yo = some av := by
  cases hn : isNilC yo with
  | false =>
    simp only [vBinN, evBinN, hn] at h ⊢
    exact vBin_ok h hp
  | true =>
    simp only [vBinN, evBinN, hn] at h ⊢
    split at h
    · rename_i n sz xs hs
      simp only [Option.some.injEq, Prod.mk.injEq] at h
      obtain ⟨rfl, rfl⟩ := h
      simp only [skOf_sl hs, if_true, evNilS, Option.map_some]
      rfl
    · rename_i n r off len hs
      split at h
      · rename_i ha
        simp only [Option.some.injEq, Prod.mk.injEq] at h
        obtain ⟨rfl, rfl⟩ := h
        simp only [skOf_sl hs, if_true, evNilS, ha, Option.map_some]
        congr 2
        show (len == 0) = ((len : Int) == 0)
        rw [Bool.eq_iff_iff]
        simp
      · cases h
    · cases h
theorem vLen_ok {t : TypeId} (h : vLen std rt (rowOf P t) x = some (av, ps)) : evLen P rt t x = some av := by
  unfold vLen at h
  split at h
  · split at h
    · rename_i hs
      simp only [Option.some.injEq, Prod.mk.injEq] at h
      obtain ⟨rfl, rfl⟩ := h
      simp only [evLen, skOf_str hs, if_true]
      rfl
    · cases h
  · split at h
    · rename_i n hs
      simp only [Option.some.injEq, Prod.mk.injEq] at h
      obtain ⟨rfl, rfl⟩ := h
      simp only [evLen, skOf_sl hs, if_true]
      rfl
    · cases h
  · split at h
    · rename_i n hs
      split at h
      · rename_i ha
        simp only [Option.some.injEq, Prod.mk.injEq] at h
        obtain ⟨rfl, rfl⟩ := h
        simp only [evLen, skOf_sl hs, ha, Bool.and_self, if_true]
        rfl
      · cases h
    · cases h
  · cases h
theorem vPartDs_ok {sl : Nat → AV} : ∀ {l : List (Nat × Operand)} {r : List (Nat × List D)} {ps : List Prop}, vPartDs std rt sl l = some (r, ps) → (∀ p ∈ ps, p) → partDs rt sl l = some r
  | [], r, ps, h, _ => by
    simp only [vPartDs, Option.some.injEq, Prod.mk.injEq] at h
    obtain ⟨rfl, _⟩ := h
    rfl
  | (i, x) :: l, r, ps, h, hp => by
    simp only [vPartDs] at h
    split at h
    · cases h
    · rename_i ls hl
      split at h
      · rename_i ds p r' q h1 h2
        simp only [Option.some.injEq, Prod.mk.injEq] at h
        obtain ⟨rfl, rfl⟩ := h
        simp only [partDs, hl, Option.bind_some, vToDs_ok h1 (fun s hs => hp s (List.mem_append_left _ hs)), vPartDs_ok h2 (fun s hs => hp s (List.mem_append_right _ hs)), Option.map_some]
      · cases h
end
end Go.Proofs.YtmkpihcfglinjaaGreatDoor.Ab
namespace Go.Proofs.YtmkpihcfglinjaaGreatDoor.Ab
open Go
section
variable {P : Program} {rt : Nat → Option Root} {ps : List Prop}
theorem vOut_some {x : VA} {out : Out} (h : vOut x = some (out, ps)) : x = some (out.av, ps) ∧ out.new = [] ∧ out.g = [] := by
  unfold vOut at h
  split at h
  · simp only [Option.some.injEq, Prod.mk.injEq] at h
    obtain ⟨rfl, rfl⟩ := h
    exact ⟨rfl, rfl, rfl⟩
  · cases h
theorem out_eta {out : Out} {av : AV} {new : List Root} {g : List (Nat × Root)} (h1 : out.av = av) (h2 : out.new = new) (h3 : out.g = g) : out = ⟨av, new, g⟩ := by cases out; simp_all
theorem vCall_ok {tab : List (Nat × TyRow)} (hT : TabOk P tab) {nb : Nat} {sl : Nat → AV} {c : Call} {out : Out} (h : vCall std tab nb sl rt c = some (out, ps)) (hp : ∀ p ∈ ps, p) : evCall P nb sl rt c = some out := by
  unfold vCall at h
  unfold evCall
  split at h
  · rename_i x t hc ha ht
    split at h
    · rename_i R hR
      obtain ⟨h1, h2, h3⟩ := vOut_some h
      rw [hT t R hR] at h1
      simp only [hc, ha, ht, vLen_ok h1, Option.map_some]
      rw [out_eta rfl h2 h3]
    · cases h
  · rename_i s x t xt hc ha ht
    simp only [hc, ha, ht]
    split at h
    · rename_i R X hR hX
      have key : ∀ (hcond : (isSliceT P xt || isStrT P xt) = true), vAppend std rt nb R (opd0 sl s) (opd0 sl x) = some (out, ps) →
          (if ((ezT P t).isSome && (isSliceT P xt || isStrT P xt)) = true then Option.map (fun x => { av := x.1, new := x.2.1, g := [(x.2.2, Root.dead)] }) (evAppend rt nb (elT P t) (opd0 sl s) (opd0 sl x)) else none) = some out := by
        intro hcond h
        rw [hT t R hR] at h
        obtain ⟨h1, r, h2, h3⟩ := vAppend_ok h hp
        rw [if_pos (by rw [h1, hcond]; rfl), h2, Option.map_some, out_eta rfl rfl h3]
      split at h
      · rename_i n hX'
        rw [hT xt X hX] at hX'
        exact key (by rw [skOf_sl hX']; rfl) h
      · rename_i hX'
        rw [hT xt X hX] at hX'
        have : isStrT P xt = true := skOf_str (by
          show isStrK (rowOf P xt).sk = true
          rw [hX']; rfl)
        exact key (by rw [this]; simp) h
      · cases h
    · cases h
  · rename_i x y hc ha
    split at h
    · rename_i k a k' b hx hy
      simp only [Option.some.injEq, Prod.mk.injEq] at h
      obtain ⟨rfl, _⟩ := h
      simp only [hc, ha, hx, hy, evMinMax, if_true, Option.map_some]
      rfl
    · cases h
  · rename_i x y hc ha
    split at h
    · rename_i k a k' b hx hy
      simp only [Option.some.injEq, Prod.mk.injEq] at h
      obtain ⟨rfl, _⟩ := h
      simp only [hc, ha, hx, hy, evMinMax, Option.map_some]
      rfl
    · cases h
  · cases h
theorem fldsT_get {t : TypeId} {f : Nat} {fl : Option (Nat × Nat × Bool)} (h : (fldsT P t)[f]? = some fl) : fldT P t f = fl := by
  unfold fldsT at h
  split at h
  · rename_i fs hu
    rw [List.getElem?_map] at h
    obtain ⟨i, hi, rfl⟩ := Option.map_eq_some_iff.1 h
    have : f < fs.size := by
      have := (List.getElem?_eq_some_iff.1 hi).1
      simpa using this
    rw [List.getElem?_range this] at hi
    rw [← Option.some.inj hi]
  · simp at h
theorem intOf_sc {sl : Nat → AV} {i : Operand} {k : IntKind} {n : Int} (h : opd0 sl i = .d (.sc (.int k n))) : intOf? (opd0 sl i) = some n := by rw [h]; rfl
theorem vMove_ok {tab : List (Nat × TyRow)} (hT : TabOk P tab) {nb : Nat} {sl : Nat → AV} {t : TypeId} {x : Operand} {out : Out} (h : vMove tab nb sl t x = some (out, ps)) : some (⟨(opd nb (hintT P t) sl x).1, (opd nb (hintT P t) sl x).2, []⟩ : Out) = some out := by
  unfold vMove at h
  split at h
  · split at h
    · rename_i R hR
      have e := hT t R hR
      subst e
      simp only [Option.some.injEq, Prod.mk.injEq] at h
      rw [← h.1]
      rfl
    · cases h
  · rename_i hx
    simp only [Option.some.injEq, Prod.mk.injEq] at h
    rw [← h.1]
    have : opd nb (hintT P t) sl x = (opd0 sl x, []) := by
      unfold opd
      split
      · exact (hx rfl).elim
      · rfl
    rw [this]
theorem vev_sound {tab : List (Nat × TyRow)} (hT : TabOk P tab) {nb : Nat} {sl : Nat → AV} {o : Oper} {out : Out} (h : vev std tab nb sl rt o = some (out, ps)) (hp : ∀ p ∈ ps, p) : ev P nb sl rt o = some out := by
  unfold vev at h
  unfold ev
  split at h
  · rename_i x ho
    simp only [ho]
    exact vMove_ok hT h
  · rename_i x ho
    simp only [ho]
    exact vMove_ok hT h
  · rename_i c a b ho
    split at h
    · rename_i hc
      simp only [Option.some.injEq, Prod.mk.injEq] at h
      simp only [ho, hc, if_true, ← h.1]
    · rename_i hc
      simp only [Option.some.injEq, Prod.mk.injEq] at h
      simp only [ho, hc, ← h.1]
      rfl
    · cases h
  · rename_i t ho
    split at h
    · rename_i R hR
      have e := hT t R hR
      subst e
      split at h
      · rename_i zs hz
        have hz' : zeroT P t = some zs := hz
        simp only [Option.some.injEq, Prod.mk.injEq] at h
        simp only [ho, hz', Option.map_some, ← h.1]
      · cases h
    · cases h
  · rename_i t x ho
    split at h
    · rename_i l hl
      simp only [Option.some.injEq, Prod.mk.injEq] at h
      simp only [ho, evBox, hl, Option.map_some, ← h.1]
    · cases h
  · rename_i t ps' ho
    split at h
    · rename_i R hR
      have e := hT t R hR
      subst e
      split at h
      · rename_i zs pl l hz hpl hl
        have hz' : zeroT P t = some zs := hz
        have hpl' : placesT P t = some pl := hpl
        split at h
        · rename_i r hr
          simp only [Option.some.injEq, Prod.mk.injEq] at h
          simp only [ho, hz', hpl', hl, Option.bind_some, hr, Option.map_some, ← h.1]
        · cases h
      · cases h
    · cases h
  · rename_i t n ps' ho
    split at h
    · rename_i R hR
      have e := hT t R hR
      subst e
      split at h
      · rename_i z l p hz hl
        have hz' : ezT P t = some z := hz
        split at h
        · rename_i r hr
          simp only [Option.some.injEq, Prod.mk.injEq] at h
          obtain ⟨h1, rfl⟩ := h
          simp only [ho, hz', vPartDs_ok hl hp, Option.bind_some, hr, Option.map_some, ← h1]
        · cases h
      · cases h
    · cases h
  · rename_i t x ho
    split at h
    · rename_i R hR
      have e := hT t R hR
      subst e
      obtain ⟨h1, h2, h3⟩ := vOut_some h
      obtain ⟨g, n, hg, hn, hl⟩ := vLoad_ok h1 hp
      simp only [ho, hg, hn, Option.bind_some, hl, Option.map_some]
      rw [out_eta rfl h2 h3]
    · cases h
  · rename_i t p x ho
    split at h
    · rename_i R hR
      have e := hT t R hR
      subst e
      split at h
      · rename_i n av new hn hopd
        have hn' : szT P t = some n := hn
        have hopd' : opd nb (hintT P t) sl x = (av, new) := hopd
        split at h
        · rename_i r R' q hst
          split at h
          · rename_i hlt
            simp only [Option.some.injEq, Prod.mk.injEq] at h
            obtain ⟨h1, rfl⟩ := h
            simp only [ho, hn', Option.bind_some, hopd', vStore_ok hst hp, hlt, if_true, ← h1]
          · cases h
        · cases h
      · cases h
    · cases h
  · rename_i x ho
    split at h
    · rename_i v hv
      simp only [Option.some.injEq, Prod.mk.injEq] at h
      simp only [ho, hv, Option.map_some, ← h.1]
    · cases h
  · rename_i op t x y yt ho
    split at h
    · rename_i R hR
      have e := hT t R hR
      subst e
      obtain ⟨h1, h2, h3⟩ := vOut_some h
      simp only [ho, vBinN_ok h1 hp, Option.map_some]
      rw [out_eta rfl h2 h3]
    · cases h
  · rename_i op t x ho
    obtain ⟨h1, h2, h3⟩ := vOut_some h
    simp only [ho, vUn_ok h1, Option.map_some]
    rw [out_eta rfl h2 h3]
  · rename_i s d x ho
    split at h
    · rename_i S T hS hT'
      have e := hT s S hS
      subst e
      have e := hT d T hT'
      subst e
      obtain ⟨h1, h2, h3⟩ := vOut_some h
      obtain ⟨src, dst, k1, k2, k3⟩ := vConv_ok (nb := nb) h1 hp
      simp only [ho, k1, k2, Option.bind_some, k3, Option.map_some]
      rw [out_eta rfl h2 h3]
    · cases h
  · rename_i t x f ho
    split at h
    · rename_i R hR
      have e := hT t R hR
      subst e
      split at h
      · rename_i fl hfl
        obtain ⟨h1, h2, h3⟩ := vOut_some h
        simp only [ho, fldsT_get hfl, vFieldAddr_ok h1, Option.map_some]
        rw [out_eta rfl h2 h3]
      · cases h
    · cases h
  · rename_i t x f ho
    split at h
    · rename_i R hR
      have e := hT t R hR
      subst e
      split at h
      · rename_i fl hfl
        split at h
        · rename_i v hv
          simp only [Option.some.injEq, Prod.mk.injEq] at h
          simp only [ho, fldsT_get hfl, hv, Option.map_some, ← h.1]
        · cases h
      · cases h
    · cases h
  · rename_i t x i ho
    split at h
    · rename_i R k n hR hi
      have e := hT t R hR
      subst e
      obtain ⟨h1, h2, h3⟩ := vOut_some h
      simp only [ho, intOf_sc hi, Option.bind_some, vIndexAddr_ok h1 hp, Option.map_some]
      rw [out_eta rfl h2 h3]
    · cases h
  · rename_i t x i ho
    split at h
    · rename_i R k n hR hi
      have e := hT t R hR
      subst e
      obtain ⟨h1, h2, h3⟩ := vOut_some h
      simp only [ho, intOf_sc hi, Option.bind_some, vIndexS_ok h1 hp, Option.map_some]
      rw [out_eta rfl h2 h3]
    · cases h
  · rename_i t x lo hi ho
    split at h
    · rename_i R l m hR hl hm
      have e := hT t R hR
      subst e
      obtain ⟨h1, h2, h3⟩ := vOut_some h
      simp only [ho, hl, hm, Option.bind_some, vSlice_ok h1 hp, Option.map_some]
      rw [out_eta rfl h2 h3]
    · cases h
  · rename_i t n m ho
    split at h
    · rename_i R k n' k' m' hR hn hm
      have e := hT t R hR
      subst e
      split at h
      · rename_i z hz
        have hz' : ezT P t = some z := hz
        simp only [Option.some.injEq, Prod.mk.injEq] at h
        obtain ⟨h1, rfl⟩ := h
        obtain ⟨k1, k2, k3, k4⟩ := hp _ (List.mem_singleton.2 rfl)
        simp only [ho, hz', intOf_sc hn, intOf_sc hm, Option.bind_some, evMake]
        rw [if_pos ⟨k1, k2, k3, k4⟩, ← h1]
        rfl
      · cases h
    · cases h
  · rename_i x i ho
    split at h
    · rename_i v hv
      simp only [Option.some.injEq, Prod.mk.injEq] at h
      simp only [ho, hv, Option.map_some, ← h.1]
    · cases h
  · rename_i f first caps ho
    obtain ⟨h0, h⟩ := Option.ite_none_right_eq_some.1 h
    simp only [Option.some.injEq, Prod.mk.injEq] at h
    simp only [ho, h0, if_true, ← h.1]
  · rename_i c ho
    simp only [ho]
    exact vCall_ok hT h hp
  · cases h
end
end Go.Proofs.YtmkpihcfglinjaaGreatDoor.Ab
namespace Go.Proofs.YtmkpihcfglinjaaGreatDoor.Ab
open Go
def br (b : Bool) (p q : Unit → Prop) : Prop := match b with | true => p () | false => q ()
def andAll : List Prop → Prop → Prop
  | [], k => k
  | p :: ps, k => p ∧ andAll ps k
inductive GV where
  | yes
  | no
  | test (t : Nat) (b w : Bool)
  | bad
def guardG (ops : Array Oper) (o : Oper) (sl : Nat → AV) : GV :=
  match o.guard with
  | none => .yes
  | some (g, w) => match ops[g]? with
    | some og => (match og.dst with
      | some t => (match sl t with | .d (.sc (.bool b)) => .test t b w | .tup [] => .no | _ => .bad)
      | none => .bad)
    | none => .bad
def bare (o : Oper) : Oper := { o with guard := none }
inductive ClW (P : Program) (o : Oper) (st : St) (k : Out → List Nat → Prop) : Prop
  | mk (out : Out) (T : List Nat) (h : OpSem P #[o] 0 T st.sl st.look st.rt.length out) (hl : ∀ p ∈ out.g, p.1 < st.rt.length + out.new.length) (hk : k out T) : ClW P o st k
inductive LpW (P : Program) (N : Nat) (body : Code) (Q : Exit → St → Prop) (st : St) : Prop
  | mk (h : AW P N (.loop body) Q st) : LpW P N body Q st
def anyB (p : Bool) (t e : Unit → Prop) : Prop := (p = true → t ()) ∧ e ()
def ifB (b : Bool) (p : Unit → Prop) : Prop := match b with | true => p () | false => False
def St.known (st : St) : Operand → Bool → St
  | .tmp t, b => ⟨setS st.sl t (.d (.sc (.bool b))), st.rt⟩
  | _, _ => st
section
variable {P : Program} {N : Nat} {tab : List (Nat × TyRow)} {Q : Exit → St → Prop}
theorem andAll_ok : ∀ {ps : List Prop} {k : Prop}, andAll ps k → (∀ p ∈ ps, p) ∧ k
  | [], k, h => ⟨by simp, h⟩
  | p :: ps, k, h => by
    obtain ⟨h1, h2⟩ := h
    obtain ⟨h3, h4⟩ := andAll_ok h2
    refine ⟨?_, h4⟩
    intro q hq
    rcases List.mem_cons.1 hq with rfl | hq
    · exact h1
    · exact h3 q hq
theorem OpSem.at {ops : Array Oper} {i nb : Nat} {o : Oper} {T : List Nat} {sl : Nat → AV} {rt : Nat → Option Root} {out : Out} (h : OpSem P #[bare o] 0 T sl rt nb out) (ho : ops[i]? = some o) (hg : guardV ops o sl = some true) : OpSem P ops i T sl rt nb out := by
  obtain ⟨o', ho', H⟩ := h
  simp at ho'
  subst ho'
  refine ⟨o, ho, ?_⟩
  intro c E a hM hl hT hnb hF K Q k
  have hl' : Looks E #[bare o] (bare o) sl a := by
    intro t ht
    refine hl t ?_
    unfold Oper.looksAt at ht ⊢
    simp only [bare, List.append_nil] at ht
    exact List.mem_append_left _ ht
  have key := H c E a hM hl' hT hnb hF K Q k
  unfold wpOp
  rw [ho]
  simp only [guardV_wanted hl hg, if_true]
  exact key
theorem setS_same {sl : Nat → AV} {t : Nat} {x : AV} (h : sl t = x) : setS sl t x = sl := by
  funext s
  unfold setS
  split
  · rename_i e; rw [e, h]
  · rfl
theorem known_same {st : St} {x : Operand} {b : Bool} (h : opd0 st.sl x = .d (.sc (.bool b))) : st.known x b = st := by
  cases x with
  | tmp t =>
    show (⟨setS st.sl t (.d (.sc (.bool b))), st.rt⟩ : St) = st
    rw [setS_same h]
  | _ => rfl
theorem guardG_test {ops : Array Oper} {o : Oper} {sl : Nat → AV} {t : Nat} {b w : Bool} (h : guardG ops o sl = .test t b w) : sl t = .d (.sc (.bool b)) ∧ guardV ops o sl = some (b == w) := by
  unfold guardG at h
  split at h
  · cases h
  · rename_i g w' hg
    split at h
    · rename_i og hog
      split at h
      · rename_i t' ht'
        split at h
        · rename_i b' hs
          simp only [GV.test.injEq] at h
          obtain ⟨rfl, rfl, rfl⟩ := h
          refine ⟨hs, ?_⟩
          simp only [guardV, hg, hog, Option.bind_some, ht', hs]
        · cases h
        · cases h
      · cases h
    · cases h
theorem guardG_no {ops : Array Oper} {o : Oper} {sl : Nat → AV} (h : guardG ops o sl = .no) : guardV ops o sl = some false := by
  unfold guardG at h
  split at h
  · cases h
  · rename_i g w' hg
    split at h
    · rename_i og hog
      split at h
      · rename_i t' ht'
        split at h
        · cases h
        · rename_i hs
          simp only [guardV, hg, hog, Option.bind_some, ht', hs]
        · cases h
      · cases h
    · cases h
theorem guardG_yes {ops : Array Oper} {o : Oper} {sl : Nat → AV} (h : guardG ops o sl = .yes) : guardV ops o sl = some true := by
  unfold guardG at h
  split at h
  · rename_i hg; simp only [guardV, hg]
  · split at h
    · split at h
      · split at h <;> cases h
      · cases h
    · cases h
end
end Go.Proofs.YtmkpihcfglinjaaGreatDoor.Ab
