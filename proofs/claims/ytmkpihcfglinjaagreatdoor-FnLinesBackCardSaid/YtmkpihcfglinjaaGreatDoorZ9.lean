/- A relation between the machine and an abstract state, evaluators for single operations and for code, proved sound (part 9). No conditions. -/
import Derived.MapKept
import Derived.Test.YtmkpihcfglinjaaGreatDoorZ8
set_option linter.unusedVariables false
set_option linter.unusedSimpArgs false
namespace Go.Proofs.YtmkpihcfglinjaaGreatDoor.Ab
open Go Go.MapKept
def mapPut (ks : List Int) (n : Int) : List Int := if n ∈ ks then ks else ks ++ [n]
section
variable {P : Program} {c : Ctx} {E : Env}
theorem Mem.updM (hM : Mem c E) {r b : Nat} {ks ks' : List Int} {w : World} {es es' : Array MapEntry} {cl cl' : Nat} (hp : E.pres r) (hr : E.rt r = some (.map ks))
    (hb : E.β r = some b) (hns : ¬ E.S b) (hblk : E.w.heap[b]? = some (.map es cl)) (hw : w = { E.w with heap := E.w.heap.setIfInBounds b (.map es' cl') }) (hks : es'.toList.map (fun e => (e.key, e.val)) = ks'.map (fun k => (Value.int .i64 k, Value.bool true))) :
    Mem c (E.upd r (.map ks') w) ∧ Step E (E.upd r (.map ks') w) := by
  obtain ⟨at_, others⟩ := heap_set (o' := .map es' cl') hblk
  have hsz : w.heap.size = E.w.heap.size := by rw [hw]; simp
  have hat : w.heap[b]? = some (.map es' cl') := by rw [hw]; exact at_
  have hot : ∀ x, x ≠ b → w.heap[x]? = E.w.heap[x]? := by intro x hx; rw [hw]; exact others x hx
  have hsh : ∀ x s, E.w.shape? x = some s → w.shape? x = some s := by
    intro x s hs
    by_cases e : x = b
    · subst e
      unfold World.shape? at hs
      rw [hblk] at hs
      cases hs
    · rw [shape_of_block (hot x e)]
      exact hs
  have st : Step E (E.upd r (.map ks') w) := Step.upd hr (.inr rfl) (fun x hx => hot x (fun e => hns (e ▸ hx))) hsh
  have live : ∀ x R0, (E.upd r (.map ks') w).rt x = some R0 → R0 ≠ .dead → ∃ R1, E.rt x = some R1 ∧ R1 ≠ .dead := by
    intro x R0 hx hR0
    by_cases e : x = r
    · subst e; exact ⟨_, hr, by simp⟩
    · exact ⟨R0, by simpa [Env.upd, e] using hx, hR0⟩
  refine ⟨?_, st⟩
  exact {
    os := by show w.os = _; rw [hw]; exact hM.os
    output := by show w.output = _; rw [hw]; exact hM.output
    tape := by show w.tape = _; rw [hw]; exact hM.tape
    size := by show _ ≤ w.heap.size; rw [hsz]; exact hM.size
    keep := by
      intro x hx ho
      have hne : x ≠ b := by
        rintro rfl
        rcases hM.bown r _ x hp hr (by simp) hb with h | h
        · omega
        · exact ho h
      exact (hot x hne).trans (hM.keep x hx ho)
    shape := fun x s hs => hsh x s (hM.shape x s hs)
    s0 := hM.s0
    slt := by intro x hx; show x < w.heap.size; rw [hsz]; exact hM.slt x hx
    glob := Globs.step (fun _ h => h) (fun x hx => hot x (fun e => hns (e ▸ hx))) hM.glob
    snew := hM.snew
    blt := by intro x y hx hy; show y < w.heap.size; rw [hsz]; exact hM.blt x y hx hy
    bown := by
      intro x R0 y hx hR0 hd0 hy
      obtain ⟨R1, h1, h2⟩ := live x R0 hR0 hd0
      exact hM.bown x R1 y hx h1 h2 hy
    bkeep := by
      intro x R0 hlt hx hR0 hd0
      obtain ⟨R1, h1, h2⟩ := live x R0 hR0 hd0
      exact hM.bkeep x R1 hlt hx h1 h2
    inj := by
      intro x y R0 R1 z hx hy hR0 hd0 hR1 hd1 hz hz'
      obtain ⟨R2, h1, h2⟩ := live x R0 hR0 hd0
      obtain ⟨R3, h3, h4⟩ := live y R1 hR1 hd1
      exact hM.inj x y R2 R3 z hx hy h1 h2 h3 h4 hz hz'
    roots := by
      intro x R0 hx hR0
      by_cases e : x = r
      · subst e
        have : Root.map ks' = R0 := by simpa [Env.upd] using hR0
        subst this
        exact ⟨b, es', cl', hb, hat, hks, hns⟩
      · have hR0' : E.rt x = some R0 := by simpa [Env.upd, e] using hR0
        by_cases hdd : R0 = .dead
        · subst hdd; trivial
        · refine (hM.roots x R0 hx hR0').step st hx ?_ (fun _ _ h => h)
          intro y hy
          refine hot y ?_
          rintro rfl
          exact e (hM.inj x r R0 _ y hx hp hR0' hdd hr (by simp) hy hb) }
theorem map_rel {r i j : Nat} {ks : List Int} {v : Value} (h : RelAV E (.ptr r i j) v) (hr : E.rt r = some (.map ks)) : ∃ b, E.pres r ∧ E.β r = some b ∧ v = .map (some b) := by
  cases h with
  | dptr _ _ _ _ h1 _ => rw [hr] at h1; cases h1
  | ptr _ _ _ R' b h1 h2 h3 =>
    rw [hr] at h1
    obtain rfl := Option.some.inj h1
    exact ⟨b, h2, h3, rfl⟩
theorem map_keys {es : Array MapEntry} {ks : List Int} (h : es.toList.map (fun e => (e.key, e.val)) = ks.map (fun k => (Value.int .i64 k, Value.bool true))) : (∀ x ∈ es.toList, IsKey (.int .i64) x.key ∧ x.val = .bool true) ∧ ∀ n : Int, (∃ x ∈ es.toList, x.key = .int .i64 n) ↔ n ∈ ks := by
  refine ⟨?_, ?_⟩
  · intro x hx
    have : (x.key, x.val) ∈ es.toList.map (fun e => (e.key, e.val)) := List.mem_map.2 ⟨x, hx, rfl⟩
    rw [h] at this
    obtain ⟨k, _, e⟩ := List.mem_map.1 this
    obtain ⟨e1, e2⟩ := Prod.mk.inj e
    rw [← e1, ← e2]
    exact ⟨rfl, rfl⟩
  · intro n
    constructor
    · rintro ⟨x, hx, hk⟩
      have : (x.key, x.val) ∈ es.toList.map (fun e => (e.key, e.val)) := List.mem_map.2 ⟨x, hx, rfl⟩
      rw [h] at this
      obtain ⟨k, hk2, e⟩ := List.mem_map.1 this
      have e1 := (Prod.mk.inj e).1
      rw [hk] at e1
      simp only [Value.int.injEq, true_and] at e1
      rw [← e1]
      exact hk2
    · intro hn
      have : (Value.int .i64 n, Value.bool true) ∈ ks.map (fun k => (Value.int .i64 k, Value.bool true)) := List.mem_map.2 ⟨n, hn, rfl⟩
      rw [← h] at this
      obtain ⟨x, hx, e⟩ := List.mem_map.1 this
      exact ⟨x, hx, (Prod.mk.inj e).1⟩
end
section
variable {P : Program} {ops : Array Oper} {i nb : Nat} {o : Oper} {sl : Nat → AV} {rt : Nat → Option Root}
theorem OpSem.mapN {t : TypeId} (ho : ops[i]? = some o) (hg : guardV ops o sl = some true) (hop : o.op = .makeMap t none) : OpSem P ops i [] sl rt nb ⟨.ptr nb 0 0, [.map []], []⟩ := by
  refine ⟨o, ho, ?_⟩
  intro c E a hM hl hT hnb hF K Q k
  unfold wpOp
  rw [ho]
  simp only [guardV_wanted hl hg, if_true]
  refine .inl (Done.wp ?_ k)
  have hrt : E.rt nb = some (.map []) := by simpa using hF.rt 0 _ rfl
  refine Done.of (nb := nb) (r := (.ptr nb 0 0, [.map []])) (s := Instr.makeMap t none) ?_ (by simp [execOp, hop])
  refine ⟨.map (some E.w.heap.size), E.withBlk nb (E.w.alloc (.map #[] 0)), ?_, ?_, ?_⟩
  · simp [Instr.makeMap, Result.andThen, Env.withBlk]
  · refine Quiet.blk hM hrt (by simpa using hF.np 0 (by simp)) hF.m (Grow.alloc _ _) ?_
    refine ⟨E.w.heap.size, #[], 0, setB_same _ _ _, (Grow.alloc E.w (.map #[] 0)).new, rfl, ?_⟩
    intro h
    have := hM.slt _ h
    omega
  · have := RelAV.ptr (E := E.withBlk nb (E.w.alloc (.map #[] 0))) nb 0 0 _ E.w.heap.size hrt (Or.inr rfl) (setB_same _ _ _)
    simpa [Root.kind] using this
theorem OpSem.mapG {t kt et : TypeId} {x y : Operand} {r : Nat} {ks : List Int} {n : Int} (ho : ops[i]? = some o) (hg : guardV ops o sl = some true) (hop : o.op = .lookup t x y false) (hx : opd0 sl x = .ptr r 0 0) (hy : opd0 sl y = .d (.sc (.int .i64 n)))
    (hu : P.underlying t = some (.map kt et)) (hk : P.underlying kt = some (.int .i64)) (hz : zeroT P et = some [(.bool false, 0)]) (hz2 : (P.info? et).bind (·.zero) = some (.bool false)) (hr : rt r = some (.map ks)) : OpSem P ops i [r] sl rt nb ⟨.d (.sc (.bool (decide (n ∈ ks)))), [], []⟩ := by
  refine ⟨o, ho, ?_⟩
  intro c E a hM hl hT hnb hF K Q kk
  unfold wpOp
  rw [ho]
  simp only [guardV_wanted hl hg, if_true]
  obtain ⟨hsl, hop0⟩ := opd0_junk hl
  have hv := opd0_rel hsl x
  rw [← hop0 x (by rw [hop]; simp [Op.operands]), hx] at hv
  have hw := opd0_rel hsl y
  rw [← hop0 y (by rw [hop]; simp [Op.operands]), hy] at hw
  have hval := relSc hw
  have hr' : E.rt r = some (.map ks) := by
    rcases hT r (by simp) with h | h
    · rw [h] at hr; cases hr
    · rw [h]; exact hr
  obtain ⟨b, hp, hb, hv'⟩ := map_rel hv hr'
  obtain ⟨b', es, cl, g1, g2, g3, g4⟩ := hM.roots r _ hp hr'
  rw [hb] at g1
  obtain rfl := Option.some.inj g1
  obtain ⟨hk1, hk2⟩ := map_keys g3
  refine .inl (Done.wp ?_ kk)
  refine Done.same hM (s := Instr.lookup t (.map (some b)) (.int .i64 n) false) ⟨.bool (decide (n ∈ ks)), ?_, .d _ _ (.sc _ rfl)⟩ (by simp [execOp, hop, hval, hv'])
  have hky : IsKey (.int .i64) (.int .i64 n) := rfl
  rcases findNow_spec hky es.toList 0 (fun x hx => (hk1 x hx).1) with ⟨h1, h2⟩ | ⟨j, e, h1, h2, h3⟩
  · obtain ⟨zv, hzr, hzc, hz1, inf, hi1, hi2⟩ := run_zeroValue (w := E.w) hz
    have hzv : zv = .bool false := by
      rw [hi1, Option.bind_some, hi2] at hz2
      exact Option.some.inj hz2
    have hnot : n ∉ ks := by
      intro hn
      obtain ⟨x, hx, e⟩ := (hk2 n).2 hn
      exact h2 x hx e
    rw [decide_eq_false hnot]
    simp [Instr.lookup, run_underlying hu, MapKept.run_getObj_map g2, MapKept.run_checkKey hk hky, MapKept.run_findKey hk h1, Result.andThen, hzr, hzv]
  · have hin : n ∈ ks := (hk2 n).1 ⟨e, List.mem_of_getElem? h2, h3⟩
    rw [decide_eq_true hin]
    have hval2 : e.val = .bool true := (hk1 e (List.mem_of_getElem? h2)).2
    simp [Instr.lookup, run_underlying hu, MapKept.run_getObj_map g2, MapKept.run_checkKey hk hky, MapKept.run_findKey hk h1, Result.andThen, hval2]
theorem OpSem.mapS {t kt et : TypeId} {x y z : Operand} {r : Nat} {ks : List Int} {n : Int} (ho : ops[i]? = some o) (hg : guardV ops o sl = some true) (hop : o.op = .mapUpdate t x y z) (hx : opd0 sl x = .ptr r 0 0) (hy : opd0 sl y = .d (.sc (.int .i64 n))) (hz : opd0 sl z = .d (.sc (.bool true)))
    (hu : P.underlying t = some (.map kt et)) (hk : P.underlying kt = some (.int .i64)) (hr : rt r = some (.map ks)) : OpSem P ops i [r] sl rt nb ⟨.junk, [], [(r, .map (mapPut ks n))]⟩ := by
  refine ⟨o, ho, ?_⟩
  intro c E a hM hl hT hnb hF K Q kk
  unfold wpOp
  rw [ho]
  simp only [guardV_wanted hl hg, if_true]
  obtain ⟨hsl, hop0⟩ := opd0_junk hl
  have hv := opd0_rel hsl x
  rw [← hop0 x (by rw [hop]; simp [Op.operands]), hx] at hv
  have hw := opd0_rel hsl y
  rw [← hop0 y (by rw [hop]; simp [Op.operands]), hy] at hw
  have hwz := opd0_rel hsl z
  rw [← hop0 z (by rw [hop]; simp [Op.operands]), hz] at hwz
  have hval := relSc hw
  have hvalz := relSc hwz
  have hr' : E.rt r = some (.map ks) := by
    rcases hT r (by simp) with h | h
    · rw [h] at hr; cases hr
    · rw [h]; exact hr
  obtain ⟨b, hp, hb, hv'⟩ := map_rel hv hr'
  obtain ⟨b', es, cl, g1, g2, g3, g4⟩ := hM.roots r _ hp hr'
  rw [hb] at g1
  obtain rfl := Option.some.inj g1
  obtain ⟨hk1, hk2⟩ := map_keys g3
  have hky : IsKey (.int .i64) (.int .i64 n) := rfl
  have fin : ∀ (es' : Array MapEntry) (cl' : Nat), (Instr.mapUpdate t (.map (some b)) (.int .i64 n) (.bool true)).run P E.w = .ok () { E.w with heap := E.w.heap.setIfInBounds b (.map es' cl') } →
      es'.toList.map (fun e => (e.key, e.val)) = (mapPut ks n).map (fun k => (Value.int .i64 k, Value.bool true)) → Done P c E nb ⟨.junk, [], [(r, .map (mapPut ks n))]⟩ (execOp a.eval o) := by
    intro es' cl' hrun he
    obtain ⟨hM', st'⟩ := hM.updM (es' := es') (cl' := cl') hp hr' hb g4 g2 rfl he
    refine ⟨undef, _, .inr ⟨?_, rfl⟩, hM', st', rfl, ?_, ?_, .junk _⟩
    · simp [execOp, hop, hval, hvalz, hv', hrun, Env.upd]
    · intro y
      constructor
      · exact fun h => .inl h
      · rintro (h | ⟨h1, h2⟩)
        · exact h
        · simp at h2; omega
    · show E.w.heap.size ≤ (E.w.heap.setIfInBounds b _).size
      simp
  refine .inl (Done.wp ?_ kk)
  rcases findNow_spec hky es.toList 0 (fun x hx => (hk1 x hx).1) with ⟨h1, h2⟩ | ⟨j, e, h1, h2, h3⟩
  · have hnot : n ∉ ks := by
      intro hn
      obtain ⟨x, hx, e⟩ := (hk2 n).2 hn
      exact h2 x hx e
    refine fin (es.push ⟨.int .i64 n, .bool true, cl⟩) (cl + 1) ?_ ?_
    · simp [Instr.mapUpdate, run_underlying hu, MapKept.run_getObj_map g2, MapKept.run_checkKey hk hky, MapKept.run_findKey hk h1, MapKept.run_setObj_map _ g2, Result.andThen]
    · unfold mapPut
      rw [if_neg hnot, Array.toList_push, List.map_append, List.map_append, g3]
      rfl
  · have hin : n ∈ ks := (hk2 n).1 ⟨e, List.mem_of_getElem? h2, h3⟩
    have hval2 : e.val = .bool true := (hk1 e (List.mem_of_getElem? h2)).2
    have hj : es[j]? = some e := by simpa using h2
    refine fin (es.modify j fun e => { e with key := .int .i64 n, val := .bool true }) cl ?_ ?_
    · simp [Instr.mapUpdate, run_underlying hu, MapKept.run_getObj_map g2, MapKept.run_checkKey hk hky, MapKept.run_findKey hk h1, hj, h3, MapKept.run_keyThatStays hky, MapKept.run_setObj_map _ g2, Result.andThen]
    · unfold mapPut
      rw [if_pos hin, ← g3, Array.toList_modify]
      refine List.ext_getElem? fun q => ?_
      rw [List.getElem?_map, List.getElem?_map, List.getElem?_modify]
      by_cases hq : j = q
      · subst hq
        simp [h2, h3, hval2]
      · simp [hq]
end
end Go.Proofs.YtmkpihcfglinjaaGreatDoor.Ab
namespace Go.Proofs.YtmkpihcfglinjaaGreatDoor.Ab
open Go
inductive BslL (rt : Nat → Option Root) : List AV → List (List D) → List Nat → Prop
  | nil : BslL rt [] [] []
  | d {x : D} {ys : List AV} {v : List (List D)} {L : List Nat} (t : BslL rt ys v L) : BslL rt (.d x :: ys) ([x] :: v) L
  | ref {r n sz : Nat} {xs : List (List D)} {ys : List AV} {v : List (List D)} {L : List Nat} (h : rt r = some (.row sz false xs)) (hn : n = xs.length) (t : BslL rt ys v L) : BslL rt (.ref r 0 n :: ys) ([.row sz xs] :: v) (r :: L)
def idxF : List (List D) → Nat → List (Nat × List D)
  | [], _ => []
  | x :: v, k => (k, x) :: idxF v (k + 1)
def idxOk : List (Nat × Operand) → Nat → Bool
  | [], _ => true
  | (i, _) :: l, k => i == k && idxOk l (k + 1)
theorem setAll_idx {z : List D} : ∀ (v : List (List D)) (a : List (List D)), setAll (a ++ List.replicate v.length z) (idxF v a.length) = a ++ v
  | [], a => by simp [idxF, setAll]
  | x :: v, a => by
    have h := setAll_idx (z := z) v (a ++ [x])
    simp only [List.length_append, List.length_singleton, List.append_assoc] at h
    simp only [idxF, setAll, List.length_cons, List.replicate_succ]
    rw [List.set_append_right _ _ (Nat.le_refl _), Nat.sub_self, List.set_cons_zero]
    simpa using h
theorem idxF_all {n : Nat} : ∀ (v : List (List D)) (k : Nat), k + v.length ≤ n → (∀ x ∈ v, x.length = 1) → (idxF v k).all (fun p => p.1 < n ∧ p.2.length = 1) = true
  | [], _, _, _ => rfl
  | x :: v, k, h, h1 => by
    rw [List.length_cons] at h
    simp only [idxF, List.all_cons, Bool.and_eq_true, decide_eq_true_eq]
    exact ⟨⟨by omega, h1 x (by simp)⟩, idxF_all v (k + 1) (by omega) fun y hy => h1 y (by simp [hy])⟩
theorem BslL.len {rt : Nat → Option Root} {ys : List AV} {v : List (List D)} {L : List Nat} (h : BslL rt ys v L) : v.length = ys.length ∧ ∀ x ∈ v, x.length = 1 := by
  induction h with
  | nil => exact ⟨rfl, by simp⟩
  | d _ ih => exact ⟨by simp [ih.1], by intro x hx; rcases List.mem_cons.1 hx with rfl | hx; rfl; exact ih.2 x hx⟩
  | ref _ _ _ ih => exact ⟨by simp [ih.1], by intro x hx; rcases List.mem_cons.1 hx with rfl | hx; rfl; exact ih.2 x hx⟩
theorem BslL.rows {rt : Nat → Option Root} {ys : List AV} {v : List (List D)} {L : List Nat} (h : BslL rt ys v L) : ∀ r ∈ L, r ∈ AV.idss ys ∧ (∃ n, AV.ref r 0 n ∈ ys) ∧ ∃ sz xs, rt r = some (.row sz false xs) := by
  induction h with
  | nil => intro r hr; cases hr
  | d _ ih =>
    intro r hr
    obtain ⟨h1, ⟨n, h2⟩, h3⟩ := ih r hr
    exact ⟨by simp [AV.idss, h1], ⟨n, by simp [h2]⟩, h3⟩
  | @ref q n sz xs ys v L h hn _ ih =>
    intro r hr
    rcases List.mem_cons.1 hr with rfl | hr
    · exact ⟨by simp [AV.idss, AV.ids], ⟨n, by simp⟩, _, _, h⟩
    · obtain ⟨h1, ⟨m, h2⟩, h3⟩ := ih r hr
      exact ⟨by simp [AV.idss, h1], ⟨m, by simp [h2]⟩, h3⟩
theorem bsl_part {rt rt' : Nat → Option Root} {sl : Nat → AV} {M : List Nat} (hrt : ∀ r ∈ M, rt' r = (rt r).map froz) : ∀ {ps : List (Nat × Operand)} {v : List (List D)} {L : List Nat} {k : Nat}, BslL rt (ps.map fun p => opd0 sl p.2) v L → (∀ r ∈ L, r ∈ M) → idxOk ps k = true → partDs rt' sl ps = some (idxF v k)
  | [], v, L, k, h, _, _ => by cases h; rfl
  | (i, x) :: ps, v, L, k, h, hs, hi => by
    simp only [idxOk, Bool.and_eq_true, beq_iff_eq] at hi
    obtain ⟨rfl, hi⟩ := hi
    rw [List.map_cons] at h
    generalize hy : opd0 sl x = y at h
    cases h with
    | d t =>
      have ih := bsl_part hrt t hs hi
      simp only [partDs, hy, AV.leaves, Option.bind_some, toDs, AV.toD, Option.map_some, ih, idxF]
    | @ref r n sz xs _ _ L h hn t =>
      have ih := bsl_part hrt t (fun q hq => hs q (List.mem_cons_of_mem _ hq)) hi
      have h1 : rt' r = some (.row sz true xs) := by rw [hrt r (hs r (by simp)), h]; rfl
      subst hn
      simp only [partDs, hy, AV.leaves, Option.bind_some, toDs, AV.toD, Option.map_some, ih, idxF, h1, Nat.zero_add, Nat.le_refl, if_true, List.drop_zero, List.take_length]
inductive BslW (P : Program) (t : TypeId) (n : Nat) (l : List AV) (rt : Nat → Option Root) (K : List Nat → List (List D) → Prop) : Prop
  | mk (z : List D × Nat × Nat) (L : List Nat) (v : List (List D)) (hz : ezT P t = some z) (h1 : z.2.1 = 1) (hl : BslL rt l v L) (hn : l.length = n) (h24 : n ≤ 2 ^ 24) (hk : K L v) : BslW P t n l rt K
section
variable {P : Program} {ops : Array Oper} {i nb : Nat} {o : Oper} {sl : Nat → AV} {rt : Nat → Option Root}
theorem OpSem.bslF {t n : Nat} {ps : Array (Nat × Operand)} {z : List D × Nat × Nat} {v : List (List D)} {L : List Nat} (ho : ops[i]? = some o) (hg : guardV ops o sl = some true) (hop : o.op = .buildSlice t n ps) (hix : idxOk ps.toList 0 = true) (hz : ezT P t = some z) (h1 : z.2.1 = 1)
    (hl : BslL rt (ps.toList.map fun p => opd0 sl p.2) v L) (hn : (ps.toList.map fun p => opd0 sl p.2).length = n) (h24 : n ≤ 2 ^ 24) :
    OpSem P ops i (AV.idss (ps.toList.map fun p => opd0 sl p.2)) sl rt nb ⟨.ref nb 0 n, [.row 1 false v], frzG rt L⟩ := by
  refine ⟨o, ho, ?_⟩
  intro c E a hM hlk hT hnb hF K Q k
  unfold wpOp
  rw [ho]
  simp only [guardV_wanted hlk hg, if_true]
  obtain ⟨hsl, hop0⟩ := opd0_junk hlk
  have hops : ∀ p ∈ ps.toList, opd0 sl p.2 = opd0 (fun t => open Classical in if t ∈ o.looksAt ops then sl t else .junk) p.2 := by
    intro p hp
    refine hop0 p.2 ?_
    rw [hop]
    simp only [Op.operands]
    rw [List.mem_toArray]
    exact List.mem_map_of_mem hp
  have hrel : ∀ p ∈ ps.toList, RelAV E (opd0 sl p.2) (a.eval p.2) := fun p hp => by rw [hops p hp]; exact opd0_rel hsl p.2
  obtain ⟨hvl, hv1⟩ := hl.len
  have hrows : ∀ r ∈ L, IsRowRoot E r ∧ rt r = E.rt r := by
    intro r hr
    obtain ⟨g1, ⟨m, g2⟩, sz, xs, g3⟩ := hl.rows r hr
    have he : E.rt r = rt r := by
      rcases hT r g1 with h | h
      · rw [h] at g3; cases g3
      · exact h
    refine ⟨?_, he.symm⟩
    obtain ⟨p, hp, hpe⟩ := List.mem_map.1 g2
    have hr2 := hrel p hp
    generalize hu : a.eval p.2 = u at hr2
    rw [hpe] at hr2
    refine ⟨?_, sz, false, xs, by rw [he]; exact g3⟩
    cases hr2 with
    | ref _ _ _ _ _ _ _ _ _ _ _ h2 => exact h2
    | refz _ _ _ _ _ _ _ h2 => exact h2
    | dref _ _ _ _ h1 _ => rw [he, g3] at h1; cases h1
  have hM1 : Mem c (E.lent L) := lent_mem hM fun r hr => (hrows r hr).1
  have hnew : nb ∉ L := by
    intro h
    have := hF.np 0 (by simp)
    rw [Nat.add_zero] at this
    exact this (hrows nb h).1.1
  have hF1 : Fresh c (E.lent L) nb [.row 1 false v] := by
    refine ⟨hF.m, ?_, hF.np⟩
    intro q R hq
    have hk0 : q = 0 := by
      have := (List.getElem?_eq_some_iff.1 hq).1
      simpa using this
    subst hk0
    show (if nb + 0 ∈ L then (E.rt (nb + 0)).map froz else E.rt (nb + 0)) = some R
    rw [Nat.add_zero, if_neg hnew]
    simpa using hF.rt 0 R hq
  have hpart : partDs (E.lent L).rt sl ps.toList = some (idxF v 0) := by
    refine bsl_part (rt := rt) (M := L) (fun r hr => ?_) hl (fun _ h => h) hix
    show (if r ∈ L then (E.rt r).map froz else E.rt r) = _
    rw [if_pos hr, (hrows r hr).2]
  obtain ⟨hlen, hgp⟩ := partDs_rel hpart
  have hcnt : v.length = n := by rw [hvl]; exact hn
  have hev : evBuildSlice nb z n (idxF v 0) = some (.ref nb 0 n, [.row 1 false v]) := by
    unfold evBuildSlice
    have hall := idxF_all (n := n) v 0 (by omega) hv1
    have hset := setAll_idx (z := z.1) v []
    simp only [List.length_nil, List.nil_append] at hset
    rw [h1, if_pos ⟨by omega, hall⟩, ← hcnt, hset]
  have hy := evBuildSlice_sound (P := P) (t := t) (vs := ps.map fun p => (p.1, a.eval p.2)) hM1 hz (by simpa using hlen) (by
    intro q e hq
    obtain ⟨p, ls, hp, hpq, g1, g2⟩ := hgp q e hq
    refine ⟨a.eval p.2, ?_, toDs_tells hM1 (leaves_rel ((hrel p (List.mem_of_getElem? hp)).step lent_step) g1) g2⟩
    rw [Array.getElem?_map]
    rw [Array.getElem?_toList] at hp
    simp [hp, hpq]) hev hF1
  obtain ⟨val, E', hrun, q, hre⟩ := hy
  have hrun' : (Instr.buildSlice t n (ps.map fun p => (p.1, a.eval p.2))).run P E.w = .ok val E'.w := hrun
  refine .inl (Done.wp (out := ⟨.ref nb 0 n, [.row 1 false v], frzG rt L⟩) ⟨val, E', .inl (by simp [execOp, hop, hrun']), ⟨q.mem, lent_step.trans q.step, q.rt.trans (frzG_lent L hrows).symm, q.pres, q.size, hre⟩⟩ k)
end
end Go.Proofs.YtmkpihcfglinjaaGreatDoor.Ab
namespace Go.Proofs.YtmkpihcfglinjaaGreatDoor.Ab
open Go
structure Fn (P : Program) (f : FuncId) (as0 : List AV) (r0 : List Root) (o : Out) : Prop where
  ent : Entered P f
  ok : CallOk P f as0 r0 o
inductive IsCall (o : Oper) (st : St) (f : FuncId) (ys : List AV) : Prop
  | mk (cl : Call) (x : Operand) (caps ys0 : List AV) (hgd : o.guard = none) (hop : o.op = .call cl) (hc : cl.callee = .value x) (hx : opd0 st.sl x = .clo f caps) (ha : ArgR st.sl cl.args.toList ys0) (e : ys0 ++ caps = ys) : IsCall o st f ys
inductive CallW (P : Program) (f : FuncId) (ys : List AV) (rt : List Root) (k : Out → List Nat → Prop) : Prop
  | mk (h : ∀ (o : Oper) (st : St), st.rt = rt → IsCall o st f ys → ClW P o st k) : CallW P f ys rt k
inductive LoopW (P : Program) (N : Nat) (body : Code) (Q : Exit → St → Prop) (st : St) : Prop
  | mk (h : LpW P N body Q st) : LoopW P N body Q st
def calleeOf (o : Oper) : Option (Operand × Call) :=
  match o.op with
  | .call c => (match c.callee with | .value x => some (x, c) | _ => none)
  | _ => none
inductive StrBW (s : ByteArray) (K : Nat → List (List D) → Prop) : Prop | mk (n : Nat) (v : List (List D)) (hn : n = s.size) (hv : v = strRow s) (hk : K n v) : StrBW s K
inductive AppBW (P : Program) (t e bytes len : Nat) (bs : List UInt8) (s : ByteArray) (K : Nat → List UInt8 → Prop) : Prop
  | mk (n : Nat) (v : List UInt8) (hu : P.underlying t = some (.slice e)) (hl : len = bs.length) (h48 : (2 * (bs.length + s.size) + 1024) * bytes ≤ 2 ^ 48) (h62 : bs.length + s.size < 2 ^ 62) (hn : n = bs.length + s.size) (hv : v = bs ++ s.data.toList) (hk : K n v) : AppBW P t e bytes len bs s K
inductive AllAW (P : Program) (t : TypeId) (K : List (List D) → Prop) : Prop | mk (n : Nat) (k : IntKind) (v : List (List D)) (hz : zeroT P t = some (List.replicate n (.int k 0, 0))) (hv : v = List.replicate n [.sc (.int k 0)]) (hk : K v) : AllAW P t K
inductive AIdxW (P : Program) (t : TypeId) (j : Int) (K : Nat → Prop) : Prop | mk (n e p : Nat) (hu : P.underlying t = some (.array n e)) (hs : szT P e = some 1) (h0 : 0 ≤ j) (h1 : j < (n : Int)) (hp : p = j.toNat) (hk : K p) : AIdxW P t j K
inductive ASlcW (P : Program) (t : TypeId) (xs : List (List D)) (lo hi : Option Int) (K : Nat → Nat → Prop) : Prop
  | mk (n e o m : Nat) (hu : P.underlying t = some (.array n e)) (hs : szT P e = some 1) (hn : xs.length = n) (h0 : 0 ≤ lo.getD 0) (h1 : lo.getD 0 ≤ hi.getD (n : Int)) (h2 : hi.getD (n : Int) ≤ (n : Int)) (ho : o = (lo.getD 0).toNat) (hm : m = (hi.getD (n : Int)).toNat - (lo.getD 0).toNat) (hk : K o m) : ASlcW P t xs lo hi K
inductive AClrW (P : Program) (t sz : Nat) (xs : List (List D)) (off len : Nat) (K : List (List D) → Prop) : Prop
  | mk (e : Nat) (zz : List (Value × Nat)) (zs : List Value) (v : List (List D)) (hu : P.underlying t = some (.slice e)) (hz : zeroT P e = some zz) (hzs : zz.map (·.1) = zs) (h0 : 0 < zs.length) (hsz : sz = zs.length) (hn : off + len ≤ xs.length) (hv : v = clrRow xs off len (zs.map D.sc)) (hk : K v) : AClrW P t sz xs off len K
inductive MapGW (P : Program) (t : TypeId) (ks : List Int) (n : Int) (K : Bool → Prop) : Prop
  | mk (kt et : TypeId) (v : Bool) (hu : P.underlying t = some (.map kt et)) (hkt : P.underlying kt = some (.int .i64)) (hz : zeroT P et = some [(.bool false, 0)]) (hz2 : (P.info? et).bind (·.zero) = some (.bool false)) (hv : v = decide (n ∈ ks)) (hk : K v) : MapGW P t ks n K
inductive MapSW (P : Program) (t : TypeId) (ks : List Int) (n : Int) (K : List Int → Prop) : Prop
  | mk (kt et : TypeId) (v : List Int) (hu : P.underlying t = some (.map kt et)) (hkt : P.underlying kt = some (.int .i64)) (hv : v = mapPut ks n) (hk : K v) : MapSW P t ks n K
inductive Sp where
  | no
  | mapN (t : Nat)
  | bslF (t n : Nat) (l : List AV)
  | mapG (t r : Nat) (ks : List Int) (n : Int)
  | mapS (t r : Nat) (ks : List Int) (n : Int)
  | clrA (t r sz : Nat) (xs : List (List D)) (off len : Nat)
  | allocA (t : Nat)
  | idxA (t r : Nat) (xs : List (List D)) (j : Int)
  | slcA (t r : Nat) (xs : List (List D)) (lo hi : Option Int)
  | strB (s : ByteArray)
  | appB (t r len e bytes : Nat) (bs : List UInt8) (s : ByteArray)
def spOf (tab : List (Nat × TyRow)) (o : Oper) (st : St) : Sp :=
  match o.op with
  | .convert s d x => (match opd0 st.sl x with
    | .d (.sc (.string str)) => (match tabGet tab s, tabGet tab d with
      | some S, some D => (match isStrK S.sk, D.bsl with
        | true, true => .strB str
        | _, _ => .no)
      | _, _ => .no)
    | _ => .no)
  | .call cl => (match cl.callee, cl.args.toList, cl.argTypes.toList with
    | .builtin .append, [x, y], [t, xT] => (match opd0 st.sl x with
      | .ref r 0 len => (match st.look r with
        | some (.buf e false bs) => (match opd0 st.sl y with
          | .d (.sc (.string s)) => (match tabGet tab t, tabGet tab xT with
            | some R, some X => (match R.el, R.ez, isStrK X.sk with
              | some (1, bytes), some _, true => .appB t r len e bytes bs s
              | _, _, _ => .no)
            | _, _ => .no)
          | _ => .no)
        | _ => .no)
      | _ => .no)
    | .builtin .clear, [x], [t] => (match opd0 st.sl x with
      | .ref r off len => (match st.look r with
        | some (.row sz false xs) => .clrA t r sz xs off len
        | _ => .no)
      | _ => .no)
    | _, _, _ => .no)
  | .alloc t => (match tabGet tab t with
    | none => .allocA t
    | some _ => .no)
  | .indexAddr t x i => (match tabGet tab t with
    | none => (match opd0 st.sl x, opd0 st.sl i with
      | .ptr r 0 0, .d (.sc (.int _ j)) => (match st.look r with
        | some (.row 1 _ xs) => .idxA t r xs j
        | _ => .no)
      | _, _ => .no)
    | some _ => .no)
  | .slice t x lo hi none => (match tabGet tab t with
    | none => (match opd0 st.sl x, bound? st.sl lo, bound? st.sl hi with
      | .ptr r 0 0, some l, some h => (match st.look r with
        | some (.row 1 _ xs) => .slcA t r xs l h
        | _ => .no)
      | _, _, _ => .no)
    | some _ => .no)
  | .makeMap t none => .mapN t
  | .lookup t x y false => (match opd0 st.sl x, opd0 st.sl y with
    | .ptr r 0 0, .d (.sc (.int .i64 n)) => (match st.look r with
      | some (.map ks) => .mapG t r ks n
      | _ => .no)
    | _, _ => .no)
  | .mapUpdate t x y z => (match opd0 st.sl x, opd0 st.sl y, opd0 st.sl z with
    | .ptr r 0 0, .d (.sc (.int .i64 n)), .d (.sc (.bool true)) => (match st.look r with
      | some (.map ks) => .mapS t r ks n
      | _ => .no)
    | _, _, _ => .no)
  | .buildSlice t n ps => (match tabGet tab t, idxOk ps.toList 0 with
    | none, true => .bslF t n (ps.toList.map fun p => opd0 st.sl p.2)
    | _, _ => .no)
  | _ => .no
def argsX (tab : List (Nat × TyRow)) (sl : Nat → AV) (m : Option TyRow) (c : Call) : List AV :=
  match m with
  | some _ => c.args.toList.map (opd0 sl)
  | none => sArgs tab sl c.args.toList c.argTypes.toList
def wStep (P : Program) (tab : List (Nat × TyRow)) (o : Oper) (st : St) (k : Out → List Nat → Prop) : Prop :=
  match calleeOf o with
  | some (x, c) => (match opd0 st.sl x with
    | .clo f caps => CallW P f (argsX tab st.sl (tabGet tab (4000000 + f)) c ++ caps) st.rt k
    | _ => False)
  | none => (match spOf tab o st with
    | .strB s => StrBW s fun n v => k ⟨.ref st.rt.length 0 n, [.row 1 false v], []⟩ []
    | .appB t r len e bytes bs s => AppBW P t e bytes len bs s fun n v => k ⟨.ref st.rt.length 0 n, [.buf e false v], [(r, .dead)]⟩ [r]
    | .clrA t r sz xs off len => AClrW P t sz xs off len fun v => k ⟨.junk, [], [(r, .row sz false v)]⟩ [r]
    | .allocA t => AllAW P t fun v => k ⟨.ptr st.rt.length 0 0, [.row 1 false v], []⟩ []
    | .idxA t r _ j => AIdxW P t j fun p => k ⟨.ptr r p 0, [], []⟩ [r]
    | .slcA t r xs lo hi => ASlcW P t xs lo hi fun o n => k ⟨.ref r o n, [], []⟩ [r]
    | .bslF t n l => BslW P t n l st.look fun L v => k ⟨.ref st.rt.length 0 n, [.row 1 false v], frzG st.look L⟩ (AV.idss l)
    | .mapN _ => k ⟨.ptr st.rt.length 0 0, [.map []], []⟩ []
    | .mapG t r ks n => MapGW P t ks n fun v => k ⟨.d (.sc (.bool v)), [], []⟩ [r]
    | .mapS t r ks n => MapSW P t ks n fun v => k ⟨.junk, [], [(r, .map v)]⟩ [r]
    | .no => sv tab st.rt.length st.sl st.look o fun out => (match out.g.all (fun p => Nat.blt p.1 (st.rt.length + out.new.length)) with
      | true => k out (Op.touched st.sl o.op)
      | false => False))
def guardD (ds : List (Option Tmp)) (o : Oper) (sl : Nat → AV) : GV :=
  match o.guard with
  | none => .yes
  | some (g, w) => match ds[g]? with
    | some (some t) => (match sl t with | .d (.sc (.bool b)) => .test t b w | .tup [] => .no | _ => .bad)
    | _ => .bad
theorem guardD_eq {ops : Array Oper} {o : Oper} {sl : Nat → AV} : guardD (ops.toList.map (·.dst)) o sl = guardG ops o sl := by
  unfold guardD guardG
  cases o.guard with
  | none => rfl
  | some p =>
    obtain ⟨g, w⟩ := p
    simp only [List.getElem?_map, Array.getElem?_toList]
    cases h : ops[g]? with
    | none => rfl
    | some og =>
      simp only [Option.map_some]
      cases og.dst <;> rfl
def wOps (P : Program) (tab : List (Nat × TyRow)) (ds : List (Option Tmp)) : List Oper → St → List Eff → (List Eff → St → Prop) → Prop
  | [], st, acc, K => K acc st
  | o :: l, st, acc, K =>
    match guardD ds o st.sl with
    | .yes => wStep P tab o st fun out T => wOps P tab ds l (st.put o.dst out) (acc ++ [⟨out.g.map (·.1), out.new.length, T⟩]) K
    | .test t b true => br b (fun _ => wStep P tab o ⟨setS st.sl t (.d (.sc (.bool true))), st.rt⟩ fun out T => wOps P tab ds l (St.put ⟨setS st.sl t (.d (.sc (.bool true))), st.rt⟩ o.dst out) (acc ++ [⟨out.g.map (·.1), out.new.length, T⟩]) K)
        (fun _ => wOps P tab ds l (St.put ⟨setS st.sl t (.d (.sc (.bool false))), st.rt⟩ o.dst ⟨.tup [], [], []⟩) (acc ++ [⟨[], 0, []⟩]) K)
    | .test t b false => br b (fun _ => wOps P tab ds l (St.put ⟨setS st.sl t (.d (.sc (.bool true))), st.rt⟩ o.dst ⟨.tup [], [], []⟩) (acc ++ [⟨[], 0, []⟩]) K)
        (fun _ => wStep P tab o ⟨setS st.sl t (.d (.sc (.bool false))), st.rt⟩ fun out T => wOps P tab ds l (St.put ⟨setS st.sl t (.d (.sc (.bool false))), st.rt⟩ o.dst out) (acc ++ [⟨out.g.map (·.1), out.new.length, T⟩]) K)
    | .no => wOps P tab ds l (st.put o.dst ⟨.tup [], [], []⟩) (acc ++ [⟨[], 0, []⟩]) K
    | .bad => False
def wReg (P : Program) (tab : List (Nat × TyRow)) (N : Nat) (ops : Array Oper) (draw : Bool) (st : St) (K : St → Prop) : Prop :=
  match draw with
  | false => wOps P tab (ops.toList.map (·.dst)) ops.toList st [] fun _ st' => ifB true fun _ => K st'
  | true => wOps P tab (ops.toList.map (·.dst)) ops.toList st [] fun effs st' => ifB (drawB ops N st.rt.length effs) fun _ => K st'
structure DrawW (f : Unit → Bool) (K : Unit → Prop) : Prop where
  h : f () = true
  k : K ()
def wRegD (P : Program) (tab : List (Nat × TyRow)) (N : Nat) (ops : Array Oper) (draw : Bool) (st : St) (K : St → Prop) : Prop :=
  match draw with
  | false => wOps P tab (ops.toList.map (·.dst)) ops.toList st [] fun _ st' => ifB true fun _ => K st'
  | true => wOps P tab (ops.toList.map (·.dst)) ops.toList st [] fun effs st' => DrawW (fun _ => drawB ops N st.rt.length effs) fun _ => K st'
def markB (tab : List (Nat × TyRow)) (n : Nat) : Bool := match tabGet tab n with | some _ => true | none => false
structure JoinW (P : Program) (N : Nat) (a b : Code) (Q : Exit → St → Prop) (st : St) : Prop where
  h : AW P N (.seq a b) Q st
def joinKey : Code → Nat
  | .cond (.tmp t) _ _ => 1000000 + t
  | .seq _ b => joinKey b
  | .block id _ => 2000000 + id
  | _ => 0
def joinB (tab : List (Nat × TyRow)) (a : Code) : Bool := match joinKey a with
  | 0 => false
  | k => markB tab k
def wc (P : Program) (tab : List (Nat × TyRow)) (N : Nat) : Code → (Exit → St → Prop) → St → Prop
  | .skip, Q, st => Q .normal st
  | .ret, Q, st => Q .ret st
  | .exit id, Q, st => Q (.exit id) st
  | .label _, Q, st => Q .normal st
  | .seq a b, Q, st => (match joinB tab a with
    | true => JoinW P N a b Q st
    | false => wc P tab N a (Exit.thenQ (fun st' => wc P tab N b Q st') Q) st)
  | .cond x t e, Q, st => (match opd0 st.sl x with
    | .d (.sc (.bool b)) => br b (fun _ => wc P tab N t Q (st.known x true)) (fun _ => wc P tab N e Q (st.known x false))
    | .anyb p => anyB p (fun _ => wc P tab N t Q st) (fun _ => wc P tab N e Q st)
    | _ => False)
  | .block id b, Q, st => wc P tab N b (Exit.blockQ id Q) st
  | .loop b, Q, st => LoopW P N b Q st
  | .region id ops draw, Q, st => ifB (ops.toList.all (dstOk N)) fun _ => (match markB tab (3000000 + id) with
    | true => wRegD P tab N ops draw st fun st' => ifB true fun _ => Q .normal st'
    | false => wReg P tab N ops draw st fun st' => ifB true fun _ => Q .normal st')
  | _, _, _ => False
section
variable {P : Program} {N : Nat} {tab : List (Nat × TyRow)} {Q : Exit → St → Prop}
theorem sArgs_argR {sl : Nat → AV} : ∀ {xs : List Operand} {ts : List TypeId}, ArgR sl xs (sArgs tab sl xs ts)
  | [], _ => .nil
  | x :: xs, [] => .cons rfl sArgs_argR
  | x :: xs, t :: ts => by
    simp only [sArgs]
    split
    · rename_i h
      unfold isNilC at h
      split at h
      · exact .nilS sArgs_argR
      · cases h
    · exact .cons rfl sArgs_argR
theorem calleeOf_some {o : Oper} {x : Operand} {c : Call} (h : calleeOf o = some (x, c)) : o.op = .call c ∧ c.callee = .value x := by
  unfold calleeOf at h
  split at h
  · rename_i c' hc
    split at h
    · rename_i x' hx
      simp only [Option.some.injEq, Prod.mk.injEq] at h
      obtain ⟨rfl, rfl⟩ := h
      exact ⟨hc, hx⟩
    · cases h
  · cases h
theorem map_argR {sl : Nat → AV} : ∀ {xs : List Operand}, ArgR sl xs (xs.map (opd0 sl))
  | [] => .nil
  | _ :: _ => .cons rfl map_argR
theorem argsX_argR {sl : Nat → AV} {m : Option TyRow} {c : Call} : ArgR sl c.args.toList (argsX tab sl m c) := by
  unfold argsX
  split
  · exact map_argR
  · exact sArgs_argR
theorem spOf_strB {o : Oper} {st : St} {s : ByteArray} (hT : TabOk P tab) (h : spOf tab o st = .strB s) : ∃ a d x e, o.op = .convert a d x ∧ opd0 st.sl x = .d (.sc (.string s)) ∧ P.underlying a = some .string ∧ P.underlying d = some (.slice e) ∧ P.underlying e = some (.int .u8) := by
  unfold spOf at h
  split at h
  · rename_i a d x hop
    split at h
    · rename_i str hx
      split at h
      · rename_i S D hS hD
        split at h
        · rename_i h1 h2
          obtain rfl := hT _ _ hS
          obtain rfl := hT _ _ hD
          simp only [Sp.strB.injEq] at h
          subst h
          have h1' : isStrK (skOf P a) = true := h1
          have h2' : isByteSliceT P d = true := h2
          have ha : P.underlying a = some .string := by
            unfold skOf at h1'
            split at h1' <;> first | assumption | (simp [isStrK] at h1')
          unfold isByteSliceT at h2'
          split at h2'
          · rename_i e he
            split at h2'
            · rename_i hu8
              exact ⟨a, d, x, e, hop, hx, ha, he, hu8⟩
            · cases h2'
          · cases h2'
        · cases h
      · cases h
    · cases h
  all_goals (repeat' (split at h))
  all_goals cases h
theorem spOf_appB {o : Oper} {st : St} {t r len e bytes : Nat} {bs : List UInt8} {s : ByteArray} (hT : TabOk P tab) (h : spOf tab o st = .appB t r len e bytes bs s) :
    ∃ cl x y xT, o.op = .call cl ∧ cl.callee = .builtin .append ∧ cl.args = #[x, y] ∧ cl.argTypes = #[t, xT] ∧ opd0 st.sl x = .ref r 0 len ∧ opd0 st.sl y = .d (.sc (.string s)) ∧ P.underlying xT = some .string ∧ (ezT P t).isSome = true ∧ elT P t = some (1, bytes) ∧ st.look r = some (.buf e false bs) := by
  unfold spOf at h
  split at h
  · repeat' (split at h)
    all_goals cases h
  · rename_i cl hop
    split at h
    · rename_i x y t' xT hc ha ht
      split at h
      · rename_i r' len' hx
        split at h
        · rename_i e' bs' hr
          split at h
          · rename_i s' hy
            split at h
            · rename_i R X hR hX
              split at h
              · rename_i b' z h1 h2 h3
                obtain rfl := hT _ _ hR
                obtain rfl := hT _ _ hX
                simp only [Sp.appB.injEq] at h
                obtain ⟨rfl, rfl, rfl, rfl, rfl, rfl, rfl⟩ := h
                have h3' : isStrK (skOf P xT) = true := h3
                have hxT : P.underlying xT = some .string := by
                  unfold skOf at h3'
                  split at h3' <;> first | assumption | (simp [isStrK] at h3')
                have h2' : ezT P t' = some z := h2
                exact ⟨cl, x, y, xT, hop, hc, by rw [← ha], by rw [← ht], hx, hy, hxT, by rw [h2']; rfl, h1, hr⟩
              · cases h
            · cases h
          · cases h
        · cases h
      · cases h
    all_goals (repeat' (split at h))
    all_goals cases h
  all_goals (repeat' (split at h))
  all_goals cases h
theorem spOf_allocA {o : Oper} {st : St} {t : Nat} (h : spOf tab o st = .allocA t) : o.op = .alloc t := by
  unfold spOf at h
  split at h
  case h_3 t' hop =>
    split at h
    · cases h; exact hop
    · cases h
  all_goals (repeat' (split at h))
  all_goals cases h
theorem spOf_idxA {o : Oper} {st : St} {t r : Nat} {xs : List (List D)} {j : Int} (h : spOf tab o st = .idxA t r xs j) : ∃ x y k fz, o.op = .indexAddr t x y ∧ opd0 st.sl x = .ptr r 0 0 ∧ opd0 st.sl y = .d (.sc (.int k j)) ∧ st.look r = some (.row 1 fz xs) := by
  unfold spOf at h
  split at h
  case h_4 t' x y hop =>
    split at h
    · split at h
      · rename_i r' k j' hx hy
        split at h
        · rename_i fz xs' hr
          cases h
          exact ⟨x, y, k, fz, hop, hx, hy, hr⟩
        · cases h
      · cases h
    · cases h
  all_goals (repeat' (split at h))
  all_goals cases h
theorem spOf_slcA {o : Oper} {st : St} {t r : Nat} {xs : List (List D)} {lo hi : Option Int} (h : spOf tab o st = .slcA t r xs lo hi) : ∃ x xlo xhi fz, o.op = .slice t x xlo xhi none ∧ opd0 st.sl x = .ptr r 0 0 ∧ bound? st.sl xlo = some lo ∧ bound? st.sl xhi = some hi ∧ st.look r = some (.row 1 fz xs) := by
  unfold spOf at h
  split at h
  case h_5 t' x xlo xhi hop =>
    split at h
    · split at h
      · rename_i r' l hh hx hl hh'
        split at h
        · rename_i fz xs' hr
          cases h
          exact ⟨x, xlo, xhi, fz, hop, hx, hl, hh', hr⟩
        · cases h
      · cases h
    · cases h
  all_goals (repeat' (split at h))
  all_goals cases h
theorem spOf_clrA {o : Oper} {st : St} {t r sz off len : Nat} {xs : List (List D)} (h : spOf tab o st = .clrA t r sz xs off len) : ∃ cl x, o.op = .call cl ∧ cl.callee = .builtin .clear ∧ cl.args = #[x] ∧ cl.argTypes = #[t] ∧ opd0 st.sl x = .ref r off len ∧ st.look r = some (.row sz false xs) := by
  unfold spOf at h
  split at h
  case h_2 cl hop =>
    split at h
    · repeat' (split at h)
      all_goals cases h
    · rename_i x t' hc ha ht
      split at h
      · rename_i r' off' len' hx
        split at h
        · rename_i sz' xs' hr
          cases h
          exact ⟨cl, x, hop, hc, Array.toList_inj.1 (by rw [ha]), Array.toList_inj.1 (by rw [ht]), hx, hr⟩
        · cases h
      · cases h
    · cases h
  all_goals (repeat' (split at h))
  all_goals cases h
theorem spOf_mapN {o : Oper} {st : St} {t : Nat} (h : spOf tab o st = .mapN t) : o.op = .makeMap t none := by
  unfold spOf at h
  split at h
  case h_6 t' hop => cases h; exact hop
  all_goals (repeat' (split at h))
  all_goals cases h
theorem spOf_mapG {o : Oper} {st : St} {t r : Nat} {ks : List Int} {n : Int} (h : spOf tab o st = .mapG t r ks n) : ∃ x y, o.op = .lookup t x y false ∧ opd0 st.sl x = .ptr r 0 0 ∧ opd0 st.sl y = .d (.sc (.int .i64 n)) ∧ st.look r = some (.map ks) := by
  unfold spOf at h
  split at h
  case h_7 t' x y hop =>
    split at h
    · rename_i hx hy
      split at h
      · rename_i hr
        cases h
        exact ⟨x, y, hop, hx, hy, hr⟩
      · cases h
    · cases h
  all_goals (repeat' (split at h))
  all_goals cases h
theorem spOf_mapS {o : Oper} {st : St} {t r : Nat} {ks : List Int} {n : Int} (h : spOf tab o st = .mapS t r ks n) : ∃ x y z, o.op = .mapUpdate t x y z ∧ opd0 st.sl x = .ptr r 0 0 ∧ opd0 st.sl y = .d (.sc (.int .i64 n)) ∧ opd0 st.sl z = .d (.sc (.bool true)) ∧ st.look r = some (.map ks) := by
  unfold spOf at h
  split at h
  case h_8 t' x y z hop =>
    split at h
    · rename_i hx hy hz
      split at h
      · rename_i hr
        cases h
        exact ⟨x, y, z, hop, hx, hy, hz, hr⟩
      · cases h
    · cases h
  all_goals (repeat' (split at h))
  all_goals cases h
theorem spOf_bslF {o : Oper} {st : St} {t n : Nat} {l : List AV} (h : spOf tab o st = .bslF t n l) : ∃ ps, o.op = .buildSlice t n ps ∧ idxOk ps.toList 0 = true ∧ l = ps.toList.map fun p => opd0 st.sl p.2 := by
  unfold spOf at h
  split at h
  case h_9 t' n' ps hop =>
    split at h
    · rename_i hx hy
      cases h
      exact ⟨ps, hop, hy, rfl⟩
    · cases h
  all_goals (repeat' (split at h))
  all_goals cases h
theorem wStep_ok (hT : TabOk P tab) {ops : Array Oper} {i : Nat} {o : Oper} {st : St} {acc : List Eff} {K : List Eff → St → Prop} {k : Out → List Nat → Prop} (h : wStep P tab o st k) (ho : ops[i]? = some o) (hd : dstOk N o = true) (hg : guardV ops o st.sl = some true)
    (hk : ∀ out T, k out T → RW P N ops (i + 1) (st.put o.dst out) (acc ++ [⟨out.g.map (·.1), out.new.length, T⟩]) K) : RW P N ops i st acc K := by
  unfold wStep at h
  split at h
  · rename_i x c hc
    obtain ⟨h1, h2⟩ := calleeOf_some hc
    split at h
    · rename_i f caps hx
      obtain ⟨h⟩ := h
      obtain ⟨out, T, h1, h2, h3⟩ := h (bare o) st rfl ⟨c, x, caps, _, rfl, h1, h2, hx, argsX_argR, rfl⟩
      exact RW.cons ho (dstOk_spec hd) (h1.at ho hg) h2 (hk out T h3)
    · exact h.elim
  · split at h
    · rename_i s hsp
      obtain ⟨a, d, x, e, hop, hx, ha, hd', he⟩ := spOf_strB hT hsp
      obtain ⟨n, v, rfl, rfl, h⟩ := h
      exact RW.cons ho (dstOk_spec hd) (OpSem.strB ho hg hop hx ha hd' he) (by simp) (hk _ _ h)
    · rename_i t r len e bytes bs s hsp
      obtain ⟨cl, x, y, xT, hop, hc, ha, ht, hx, hy, hxT, hz, hel, hr⟩ := spOf_appB hT hsp
      obtain ⟨n, v, hu, hl, h48, h62, rfl, rfl, h⟩ := h
      refine RW.cons ho (dstOk_spec hd) (OpSem.appB ho hg hop hc ha ht hx hy hxT hz hel hu hr hl h48 h62) ?_ (hk _ _ h)
      intro p hp
      have : p = (r, Root.dead) := by simpa using hp
      subst this
      have hlt : r < st.rt.length := (List.getElem?_eq_some_iff.1 (show st.rt[r]? = some _ from hr)).1
      show r < _
      omega
    · rename_i t r sz xs off len hsp
      obtain ⟨cl, x, hop, hc, ha, ht, hx, hr⟩ := spOf_clrA hsp
      obtain ⟨e, zz, zs, v, hu, hz, hzs, h0, rfl, hn, rfl, h⟩ := h
      refine RW.cons ho (dstOk_spec hd) (OpSem.clrR ho hg hop hc ha ht hx hu hz hzs h0 hr hn) ?_ (hk _ _ h)
      intro p hp
      have : p = (r, Root.row zs.length false (clrRow xs off len (zs.map D.sc))) := by simpa using hp
      subst this
      have hlt : r < st.rt.length := (List.getElem?_eq_some_iff.1 (show st.rt[r]? = some _ from hr)).1
      show r < _
      omega
    · rename_i t hsp
      obtain ⟨n, k', v, hz, rfl, h⟩ := h
      exact RW.cons ho (dstOk_spec hd) (OpSem.allocA ho hg (spOf_allocA hsp) hz) (by simp) (hk _ _ h)
    · rename_i t r xs j hsp
      obtain ⟨x, y, k', fz, hop, hx, hy, hr⟩ := spOf_idxA hsp
      obtain ⟨n, e, p, hu, hs, h0, h1, rfl, h⟩ := h
      exact RW.cons ho (dstOk_spec hd) (OpSem.idxA ho hg hop hx hy hu hs hr h0 h1) (by simp) (hk _ _ h)
    · rename_i t r xs lo hi hsp
      obtain ⟨x, xlo, xhi, fz, hop, hx, hlo, hhi, hr⟩ := spOf_slcA hsp
      obtain ⟨n, e, o', m, hu, hs, hn, h0, h1, h2, rfl, rfl, h⟩ := h
      exact RW.cons ho (dstOk_spec hd) (OpSem.slcA ho hg hop hx hlo hhi hu hs hr hn h0 h1 h2) (by simp) (hk _ _ h)
    · rename_i t n l hsp
      obtain ⟨ps, hop, hix, rfl⟩ := spOf_bslF hsp
      obtain ⟨z, L, v, hz, h1, hl, hn, h24, h⟩ := h
      refine RW.cons ho (dstOk_spec hd) (OpSem.bslF ho hg hop hix hz h1 hl hn h24) ?_ (hk _ _ h)
      intro p hp
      obtain ⟨r, hr, rfl⟩ := List.mem_map.1 hp
      obtain ⟨_, _, sz, xs, h3⟩ := hl.rows r hr
      have hlt : r < st.rt.length := (List.getElem?_eq_some_iff.1 (show st.rt[r]? = some _ from h3)).1
      show r < _
      omega
    · rename_i t hsp
      exact RW.cons ho (dstOk_spec hd) (OpSem.mapN ho hg (spOf_mapN hsp)) (by simp) (hk _ _ h)
    · rename_i t r ks n hsp
      obtain ⟨x, y, hop, hx, hy, hr⟩ := spOf_mapG hsp
      obtain ⟨kt, et, v, hu, hkt, hz, hz2, rfl, h⟩ := h
      exact RW.cons ho (dstOk_spec hd) (OpSem.mapG ho hg hop hx hy hu hkt hz hz2 hr) (by simp) (hk _ _ h)
    · rename_i t r ks n hsp
      obtain ⟨x, y, z, hop, hx, hy, hz, hr⟩ := spOf_mapS hsp
      obtain ⟨kt, et, v, hu, hkt, rfl, h⟩ := h
      refine RW.cons ho (dstOk_spec hd) (OpSem.mapS ho hg hop hx hy hz hu hkt hr) ?_ (hk _ _ h)
      intro p hp
      have : p = (r, Root.map (mapPut ks n)) := by simpa using hp
      subst this
      have hlt : r < st.rt.length := (List.getElem?_eq_some_iff.1 (show st.rt[r]? = some _ from hr)).1
      show r < _
      omega
    · obtain ⟨out, hev, h⟩ := sv_ok hT h
      split at h
      · rename_i hall
        refine RW.cons ho (dstOk_spec hd) (OpSem.ev ho hg hev) ?_ (hk out _ h)
        intro p hp
        simpa [Nat.blt_eq] using List.all_eq_true.1 hall p hp
      · exact h.elim
theorem wOps_ok (hT : TabOk P tab) {ops : Array Oper} {K : List Eff → St → Prop} : ∀ {l : List Oper} {i : Nat} {st : St} {acc : List Eff}, (∀ (k : Nat) o, l[k]? = some o → ops[i + k]? = some o ∧ dstOk N o = true) → i + l.length = ops.size → wOps P tab (ops.toList.map (·.dst)) l st acc K → RW P N ops i st acc K
  | [], i, st, acc, _, hn, h => RW.done (by simpa using hn) h
  | o :: l, i, st, acc, hl, hn, h => by
    obtain ⟨ho, hd⟩ := hl 0 o rfl
    simp only [Nat.add_zero] at ho
    have hl' : ∀ (k : Nat) o, l[k]? = some o → ops[i + 1 + k]? = some o ∧ dstOk N o = true := by
      intro k' o' h'
      have := hl (k' + 1) o' (by simpa using h')
      rwa [show i + (k' + 1) = i + 1 + k' by omega] at this
    have hn' : i + 1 + l.length = ops.size := by simp at hn; omega
    have skip : ∀ {st : St}, guardV ops o st.sl = some false → wOps P tab (ops.toList.map (·.dst)) l (st.put o.dst ⟨.tup [], [], []⟩) (acc ++ [⟨[], 0, []⟩]) K → RW P N ops i st acc K :=
      fun hg hk => RW.cons ho (dstOk_spec hd) (OpSem.skip ho hg) (by simp) (wOps_ok hT hl' hn' hk)
    have step : ∀ {st : St}, guardV ops o st.sl = some true → wStep P tab o st (fun out T => wOps P tab (ops.toList.map (·.dst)) l (st.put o.dst out) (acc ++ [⟨out.g.map (·.1), out.new.length, T⟩]) K) → RW P N ops i st acc K :=
      fun hg hk => wStep_ok hT hk ho hd hg (fun out T hk => wOps_ok hT hl' hn' hk)
    simp only [wOps, guardD_eq] at h
    split at h
    · rename_i hg
      exact step (guardG_yes hg) h
    · rename_i t b hg
      obtain ⟨h1, h2⟩ := guardG_test hg
      cases b with
      | true =>
        simp only [br] at h
        rw [setS_same h1] at h
        exact step h2 h
      | false =>
        simp only [br] at h
        rw [setS_same h1] at h
        exact skip h2 h
    · rename_i t b hg
      obtain ⟨h1, h2⟩ := guardG_test hg
      cases b with
      | true =>
        simp only [br] at h
        rw [setS_same h1] at h
        exact skip h2 h
      | false =>
        simp only [br] at h
        rw [setS_same h1] at h
        exact step h2 h
    · rename_i hg
      exact skip (guardG_no hg) h
    · exact h.elim
theorem wc_ok (hT : TabOk P tab) (hm : P.follows .mixedOrders = true) : ∀ {code : Code} {Q : Exit → St → Prop} {st : St}, wc P tab N code Q st → AW P N code Q st := by
  intro code
  induction code with
  | skip => intro Q st h; exact AW.skip h
  | ret => intro Q st h; exact AW.ret h
  | exit id => intro Q st h; exact AW.exit h
  | label l => intro Q st h; exact AW.label h
  | seq a b iha ihb =>
    intro Q st h
    unfold wc at h
    split at h
    · exact h.h
    refine AW.seq ((iha h).mono ?_)
    intro e st' he
    cases e with
    | normal => exact ihb he
    | _ => exact he
  | cond x t e iht ihe =>
    intro Q st h
    simp only [wc] at h
    split at h
    · rename_i b hx
      refine AW.cond hx ?_ ?_
      · rintro rfl
        have h' := iht h
        rwa [known_same hx] at h'
      · rintro rfl
        have h' := ihe h
        rwa [known_same hx] at h'
    · rename_i p hx
      exact AW.condAny hx (fun hb => iht (h.1 hb)) (ihe h.2)
    · exact h.elim
  | block id b ih => intro Q st h; exact AW.block (ih h)
  | loop b ih => intro Q st h; obtain ⟨⟨h⟩⟩ := h; exact h
  | region id ops draw =>
    intro Q st h
    have key : ops.toList.all (dstOk N) = true ∧ wOps P tab (ops.toList.map (·.dst)) ops.toList st [] (fun effs st' => (draw = true → drawB ops N st.rt.length effs = true) ∧ Q .normal st') := by
      cases draw with
      | false =>
        simp only [wc, wReg, wRegD, ifB] at h
        split at h
        · rename_i hd
          refine ⟨hd, ?_⟩
          split at h
          · simpa using h
          · simpa using h
        · exact h.elim
      | true =>
        simp only [wc, wReg, wRegD, ifB] at h
        split at h
        · rename_i hd
          refine ⟨hd, ?_⟩
          split at h
          · have e : (fun effs st' => DrawW (fun _ => drawB ops N st.rt.length effs) fun _ => Q .normal st') = (fun effs st' => ((true = true → drawB ops N st.rt.length effs = true) ∧ Q .normal st')) := by
              funext effs st'
              exact propext ⟨fun q => ⟨fun _ => q.h, q.k⟩, fun q => ⟨q.1 rfl, q.2⟩⟩
            rw [← e]
            exact h
          have e : (fun effs st' => (match drawB ops N st.rt.length effs with | true => Q .normal st' | false => False)) = (fun effs st' => ((true = true → drawB ops N st.rt.length effs = true) ∧ Q .normal st')) := by
            funext effs st'
            cases drawB ops N st.rt.length effs <;> simp
          rw [← e]
          exact h
        · exact h.elim
    obtain ⟨hd, h⟩ := key
    refine AW.reg' ?_
    have hK := wOps_ok (N := N) hT (l := ops.toList) (i := 0) (fun k o hk => ⟨by simpa using hk, List.all_eq_true.1 hd o (List.mem_of_getElem? hk)⟩) (by simp) h
    obtain ⟨l, st', hw, hb, hk⟩ := hK
    exact ⟨l, st', hw, fun hdr => ⟨hm, hb hdr⟩, hk⟩
  | _ => intro Q st h; exact h.elim
theorem Fn.data {f : FuncId} {fn : Func} {body : Code} {as0 : List AV} {av : AV} (he : Entered P f) (hT : TabOk P tab) (hm : P.follows .mixedOrders = true) (hf : P.funcs[f]? = some fn) (hb : fn.body = some body) (hN : as0.length ≤ fn.ntmps)
    (hwa : AV.rens (keepRen 0) as0 = some as0) (h : ∀ P', P' = P → ∀ Q : Exit → St → Prop, (∀ e st, EndD P fn.results av e st → Q e st) → wc P' tab fn.ntmps body Q ⟨argSlots as0, []⟩) : Fn P f as0 [] ⟨av, [], []⟩ :=
  ⟨he, CallOk.of_bodyD hf hb hN hwa (wc_ok hT hm (h P rfl _ fun _ _ h => h))⟩
theorem Fn.gen {f : FuncId} {fn : Func} {body : Code} {as0 : List AV} {r0 : List Root} {o : Out} (he : Entered P f) (hT : TabOk P tab) (hm : P.follows .mixedOrders = true) (hf : P.funcs[f]? = some fn) (hb : fn.body = some body) (hN : as0.length ≤ fn.ntmps)
    (hwa : AV.rens (keepRen r0.length) as0 = some as0) (hwr : rootsRen (keepRen r0.length) r0 = some r0) (h : ∀ P', P' = P → ∀ Q : Exit → St → Prop, (∀ e st, EndQ P fn.results r0 o e st → Q e st) → wc P' tab fn.ntmps body Q ⟨argSlots as0, r0⟩) : Fn P f as0 r0 o :=
  ⟨he, CallOk.of_body hf hb hN hwa hwr (wc_ok hT hm (h P rfl _ fun _ _ h => h))⟩
end
section
variable {P P' : Program} {f : FuncId} {ys as0 : List AV} {rt : List Root} {K : Out → List Nat → Prop}
theorem CallW.dd {av : AV} (hP : P' = P) (h : Fn P f ys [] ⟨av, [], []⟩) (k : K ⟨av, [], []⟩ []) (hd : AV.isDs ys = true := by rfl) (hav : av.isDT = true := by rfl) : CallW P' f ys rt K := by
  subst hP
  refine ⟨fun o st hst hc => ?_⟩
  obtain ⟨cl, x, caps, ys0, hgd, hop, hcl, hx, ha, rfl⟩ := hc
  exact ClW.dd hgd hop hcl hx ha hd h.ent h.ok hav k
theorem CallW.lnt {av : AV} (hP : P' = P) (h : Fn P f as0 [] ⟨av, [], []⟩) (hl : LendL (fun r => rt[r]?) ys as0) (k : K ⟨av, [], []⟩ (AV.idss ys)) (hav : av.isDT = true := by rfl) (hfl : av.flat = true := by rfl) : CallW P' f ys rt K := by
  subst hP
  refine ⟨fun o st hst hc => ?_⟩
  subst hst
  obtain ⟨cl, x, caps, ys0, hgd, hop, hcl, hx, ha, rfl⟩ := hc
  exact ClW.lnt hgd hop hcl hx ha hl h.ent h.ok hav hfl k
end
end Go.Proofs.YtmkpihcfglinjaaGreatDoor.Ab
namespace Go.Proofs.YtmkpihcfglinjaaGreatDoor.Ab
open Go
def rnR (r n : Nat) (R : Root) : Root := (R.ren (mvF r n)).getD R
theorem rnR_kind {r n : Nat} {R : Root} : (rnR r n R).kind = R.kind := by
  unfold rnR
  cases h : R.ren (mvF r n) with
  | none => rfl
  | some R' => exact ren_kind h
theorem rnR_dead {r n : Nat} {R : Root} : rnR r n R = .dead ↔ R = .dead := by rw [← kind_dead, rnR_kind, kind_dead]
section
variable {N : Nat} {st : St}
theorem Holds.move2 {c : Ctx} {Ei : Env} {a : Act} {w : World} (h : Holds c Ei N st a w) {r : Nat} {R00 : Root} (hcl : ∀ f, R00.ren f = some R00) (hr : st.rt[r]? = some R00) :
    Holds c Ei N ⟨mvS r st.rt.length st.sl, ((st.rt.map (rnR r st.rt.length)).set r .dead) ++ [R00]⟩ a w := by
  obtain ⟨E, rfl, hM, hSt, hrt, hpr, hsl, hdef, hsz, hm⟩ := h
  have hlt : r < st.rt.length := (List.getElem?_eq_some_iff.1 hr).1
  generalize hn : st.rt.length = n at *
  have hER : E.rt r = some R00 := by rw [hrt]; exact hr
  have hEn : ∀ x, E.rt x ≠ none → x < n := by
    intro x hx
    rw [hrt] at hx
    rcases Nat.lt_or_ge x n with h | h
    · exact h
    · exact absurd (List.getElem?_eq_none (by omega)) hx
  let rt' := ((st.rt.map (rnR r n)).set r .dead) ++ [R00]
  have hl' : rt'.length = n + 1 := by simp [rt', hn]
  have get' : ∀ x, rt'[x]? = if x = r then some .dead else if x = n then some R00 else (E.rt x).map (rnR r n) := by
    intro x
    show (((st.rt.map (rnR r n)).set r .dead) ++ [R00])[x]? = _
    by_cases h1 : x = r
    · subst h1
      rw [if_pos rfl, List.getElem?_append_left (by simp; omega), List.getElem?_set_self (by simp; omega)]
    · rw [if_neg h1]
      by_cases h2 : x = n
      · subst h2
        rw [if_pos rfl, List.getElem?_append_right (by simp; omega)]
        simp [hn]
      · rw [if_neg h2]
        by_cases h3 : x < n
        · rw [List.getElem?_append_left (by simp; omega), List.getElem?_set_ne (fun e => h1 e.symm), List.getElem?_map, hrt]; rfl
        · rw [List.getElem?_eq_none (by simp; omega)]
          cases hx : E.rt x with
          | none => rfl
          | some R => exact absurd (hEn x (by rw [hx]; simp)) h3
  let E' : Env := ⟨fun x => rt'[x]?, fun x => x < rt'.length, fun x => if x = n then E.β r else E.β x, E.S, E.w⟩
  have e_rt : ∀ x, E'.rt x = if x = r then some .dead else if x = n then some R00 else (E.rt x).map (rnR r n) := get'
  have e_pr : ∀ x, E'.pres x ↔ x < n + 1 := by intro x; show x < rt'.length ↔ _; rw [hl']
  have e_β : ∀ x, E'.β x = if x = n then E.β r else E.β x := fun _ => rfl
  have hrn : r ≠ n := by omega
  have st1 : Step E E' := by
    refine ⟨?_, ?_, ?_, fun _ h => h, fun _ _ => rfl, fun _ _ h => h⟩
    · intro x R hx
      rw [e_rt]
      by_cases h1 : x = r
      · subst h1; exact ⟨.dead, if_pos rfl, .inl rfl⟩
      · have := hEn x (by rw [hx]; simp)
        exact ⟨rnR r n R, by rw [if_neg h1, if_neg (by omega), hx]; rfl, .inr rnR_kind⟩
    · intro x hx
      rw [e_pr]
      have := (hpr x).1 hx
      omega
    · intro x hx
      have := (hpr x).1 hx
      rw [e_β, if_neg (by omega)]
  have hC : Conn (mvF r n) E E' := by
    have cases : ∀ {x x'}, mvF r n x = some x' → (x = r ∧ x' = n) ∨ (x ≠ r ∧ x < n ∧ x' = x) := by
      intro x x' h
      unfold mvF at h
      split at h
      · rename_i e; exact .inl ⟨e, (Option.some.inj h).symm⟩
      · rename_i e
        split at h
        · rename_i e2; exact .inr ⟨e, e2, (Option.some.inj h).symm⟩
        · cases h
    refine ⟨rfl, fun _ h => h, ?_, ?_, ?_⟩
    · intro x x' h
      rcases cases h with ⟨rfl, rfl⟩ | ⟨h1, h2, rfl⟩
      · rw [e_rt, if_neg (fun e => hrn e.symm), if_pos rfl, hER]
      · rw [e_rt, if_neg h1, if_neg (by omega), Option.map_map]
        congr 1
        funext R
        exact rnR_kind
    · intro x x' h
      rcases cases h with ⟨rfl, rfl⟩ | ⟨h1, h2, rfl⟩
      · rw [e_pr, hpr]; omega
      · rw [e_pr, hpr]; omega
    · intro x x' h _
      rcases cases h with ⟨rfl, rfl⟩ | ⟨h1, h2, rfl⟩
      · rw [e_β, if_pos rfl]
      · rw [e_β, if_neg (by omega)]
  have src : ∀ {x R}, E'.rt x = some R → R ≠ .dead → ∃ y R0, E.rt y = some R0 ∧ R0 ≠ .dead ∧ E.pres y ∧ E'.β x = E.β y ∧ ((x = n ∧ y = r ∧ R = R0) ∨ (x ≠ r ∧ x < n ∧ y = x ∧ R = rnR r n R0)) := by
    intro x R hx hd
    rw [e_rt] at hx
    by_cases h1 : x = r
    · rw [if_pos h1] at hx; exact absurd (Option.some.inj hx).symm hd
    · rw [if_neg h1] at hx
      by_cases h2 : x = n
      · rw [if_pos h2] at hx
        exact ⟨r, R, hER.trans hx, hd, (hpr r).2 hlt, by rw [e_β, if_pos h2], .inl ⟨h2, rfl, rfl⟩⟩
      · rw [if_neg h2] at hx
        obtain ⟨R0, hR0, rfl⟩ := Option.map_eq_some_iff.1 hx
        have h3 := hEn x (by rw [hR0]; simp)
        exact ⟨x, R0, hR0, fun e => hd (rnR_dead.2 e), (hpr x).2 h3, by rw [e_β, if_neg h2], .inr ⟨h1, h3, rfl, rfl⟩⟩
  have hM' : Mem c E' := {
    os := hM.os
    output := hM.output
    tape := hM.tape
    size := hM.size
    keep := hM.keep
    shape := hM.shape
    s0 := hM.s0
    slt := hM.slt
    glob := hM.glob
    snew := hM.snew
    blt := by
      intro x b hp hb
      rw [e_pr] at hp
      rw [e_β] at hb
      by_cases h2 : x = n
      · rw [if_pos h2] at hb; exact hM.blt r b ((hpr r).2 hlt) hb
      · rw [if_neg h2] at hb; exact hM.blt x b ((hpr x).2 (by omega)) hb
    bown := by
      intro x R b hp hR hd hb
      obtain ⟨y, R0, h1, hd0, h2, h3, _⟩ := src hR hd
      rw [h3] at hb
      exact hM.bown y R0 b h2 h1 hd0 hb
    bkeep := by
      intro x R hx hp hR hd
      obtain ⟨y, R0, h1, hd0, h2, h3, h4⟩ := src hR hd
      rcases h4 with ⟨h4, _⟩ | ⟨_, _, rfl, _⟩
      · omega
      · rw [h3]; exact hM.bkeep y R0 hx h2 h1 hd0
    inj := by
      intro x x' R R' b hp hp' hR hd hR' hd' hb hb'
      obtain ⟨y, R0, h1, hd0, h2, h3, h4⟩ := src hR hd
      obtain ⟨y', R0', h1', hd0', h2', h3', h4'⟩ := src hR' hd'
      rw [h3] at hb
      rw [h3'] at hb'
      have := hM.inj y y' R0 R0' b h2 h2' h1 hd0 h1' hd0' hb hb'
      rcases h4 with ⟨e1, e2, _⟩ | ⟨e1, e2, e3, _⟩ <;> rcases h4' with ⟨e1', e2', _⟩ | ⟨e1', e2', e3', _⟩
      · omega
      · omega
      · omega
      · omega
    roots := by
      intro x R hp hR
      by_cases hd : R = .dead
      · subst hd; trivial
      obtain ⟨y, R0, h1, hd0, h2, h3, h4⟩ := src hR hd
      rcases h4 with ⟨e1, e2, e3⟩ | ⟨e1, e2, e3, e4⟩
      · subst e2 e3
        rw [hER] at h1
        obtain rfl := Option.some.inj h1
        exact RootRel.conn hC (fun _ h => h) (show mvF y n y = some x by rw [e1]; exact if_pos rfl) h2 (hcl _) (hM.roots y _ h2 hER)
      · subst e3 e4
        have hx := hM.roots y R0 h2 h1
        unfold rnR
        cases hren : R0.ren (mvF r n) with
        | none => exact RootRel.step st1 h2 (fun _ _ => rfl) (fun _ _ h => h) hx
        | some R1 => exact RootRel.conn hC (fun _ h => h) (show mvF r n y = some y by unfold mvF; rw [if_neg e1, if_pos e2]) h2 hren hx }
  refine ⟨E', rfl, hM', hSt.trans st1, rfl, fun _ => Iff.rfl, ?_, hdef, hsz, ?_⟩
  · intro t
    show RelAV E' (((st.sl t).ren (mvF r n)).getD .junk) _
    cases hx : (st.sl t).ren (mvF r n) with
    | none => exact .junk _
    | some y => exact RelAV.conn hC (hsl t) hx
  · show c.m ≤ rt'.length
    omega
end
end Go.Proofs.YtmkpihcfglinjaaGreatDoor.Ab
