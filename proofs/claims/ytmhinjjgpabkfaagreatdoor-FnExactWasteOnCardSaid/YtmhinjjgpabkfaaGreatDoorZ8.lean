/- A relation between the machine and an abstract state, evaluators for single operations and for code, proved sound (part 8). No conditions. -/
import Derived.Lib.ConvBytes
import Derived.Laws.AppendOwn
import Derived.Test.YtmhinjjgpabkfaaGreatDoorZ7
set_option linter.unusedVariables false
set_option linter.unusedSimpArgs false
namespace Go.Proofs.YtmhinjjgpabkfaaGreatDoor.Ab
open Go
theorem bytes_yields {P : Program} {c : Ctx} {E : Env} (hM : Mem c E) {nb : Nat} {s d e : TypeId} {u : TypeDesc} {str : ByteArray} (hs : P.underlying s = some u) (hd : P.underlying d = some (.slice e)) (he : P.underlying e = some (.int .u8))
    (hF : Fresh c E nb [.row 1 false (strRow str)]) : Yields1 c P E nb (.ref nb 0 str.size, [.row 1 false (strRow str)]) (convert s d (.string str)) := by
  have hnew := Lib.bytesWorld_at_new E.w e str
  have g : Grow E.w (Lib.bytesWorld E.w e str) (.cells (Lib.bytesCells E.w e str) e ((Lib.bytesCells E.w e str).size, (Lib.bytesCells E.w e str).size + 1)) := by
    refine ⟨?_, rfl, rfl, rfl⟩
    refine Array.ext_getElem? ?_
    intro j
    rw [Array.getElem?_push]
    split
    · rename_i h; subst h; exact hnew
    · rename_i h
      by_cases hj : j < E.w.heap.size
      · exact Lib.bytesWorld_at_old E.w e str j hj
      · rw [Array.getElem?_eq_none (by rw [Lib.bytesWorld_size]; omega), Array.getElem?_eq_none (by omega)]
  have hlen : (strRow str).length = str.size := by unfold strRow; rw [List.length_map]; exact Array.length_toList
  have hsz : str.size ≤ (Lib.bytesCells E.w e str).size := by
    unfold Lib.bytesCells
    rw [Array.size_append, Array.size_map]
    show str.data.size ≤ _
    omega
  have hcap : grownCap E.w str.size 0 e ≤ (Lib.bytesCells E.w e str).size := by
    unfold Lib.bytesCells
    rw [Array.size_append, Array.size_map, Array.size_replicate]
    show _ ≤ str.data.size + _
    have : str.size = str.data.size := rfl
    omega
  have hcap0 : str.size ≤ grownCap E.w str.size 0 e := grownCap_ge _ _ _ _
  obtain ⟨q, hrel⟩ := rowed hM (r := nb) (sz := 1) (xs := strRow str) (t := e) (by simpa using hF.rt 0 _ rfl) (by simpa using hF.np 0 (by simp)) hF.m g (fun o ho hh => by omega)
    (by intro i x hx; obtain ⟨b, _, rfl⟩ := List.mem_map.1 (List.mem_of_getElem? hx); rfl)
    (by rw [hlen]; omega)
    (by
      intro i x j y hx hy
      unfold strRow at hx
      rw [List.getElem?_map] at hx
      obtain ⟨b, hb, rfl⟩ := Option.map_eq_some_iff.1 hx
      cases j with
      | succ j => simp at hy
      | zero =>
        simp at hy
        subst hy
        refine ⟨.int .u8 b.toNat, ?_, .sc _ rfl⟩
        have hi : i < str.data.size := by have := (List.getElem?_eq_some_iff.1 hb).1; simpa using this
        rw [show i * 1 + 0 = i by omega]
        unfold Lib.bytesCells
        rw [Array.getElem?_append_left (by simpa using hi), Array.getElem?_map]
        rw [Array.getElem?_toList] at hb
        rw [hb]
        rfl)
  refine ⟨_, _, Lib.run_convert_string_bytes E.w s d e str hs hd he, q, hrel _ _ hcap0 (by omega)⟩
theorem OpSem.strB {P : Program} {ops : Array Oper} {i nb : Nat} {o : Oper} {sl : Nat → AV} {rt : Nat → Option Root} {s d e : TypeId} {u : TypeDesc} {x : Operand} {str : ByteArray} (ho : ops[i]? = some o) (hg : guardV ops o sl = some true) (hop : o.op = .convert s d x)
    (hx : opd0 sl x = .d (.sc (.string str))) (hs : P.underlying s = some u) (hd : P.underlying d = some (.slice e)) (he : P.underlying e = some (.int .u8)) : OpSem P ops i [] sl rt nb ⟨.ref nb 0 str.size, [.row 1 false (strRow str)], []⟩ := by
  refine ⟨o, ho, ?_⟩
  intro c E a hM hl hT hnb hF K Q k
  unfold wpOp
  rw [ho]
  simp only [guardV_wanted hl hg, if_true]
  obtain ⟨hsl, hop0⟩ := opd0_junk hl
  have hv := opd0_rel hsl x
  rw [← hop0 x (by rw [hop]; simp [Op.operands]), hx] at hv
  have hval := relSc hv
  refine .inl (Done.wp ?_ k)
  refine Done.of (r := (.ref nb 0 str.size, [.row 1 false (strRow str)])) (s := convert s d (.string str)) (bytes_yields hM hs hd he hF) ?_
  simp [execOp, hop, hval]
theorem Mem.recast {c : Ctx} {E : Env} (hM : Mem c E) {rt1 : Nat → Option Root} (h1 : ∀ x R, E.rt x = some R → ∃ R', rt1 x = some R' ∧ R'.kind = R.kind) (h2 : ∀ x R', rt1 x = some R' → ∃ R, E.rt x = some R ∧ R'.kind = R.kind)
    (h3 : ∀ x R', E.pres x → rt1 x = some R' → RootRel E x R') : Mem c { E with rt := rt1 } ∧ Step E { E with rt := rt1 } ∧ Step { E with rt := rt1 } E := by
  have st : Step E { E with rt := rt1 } := ⟨fun x R h => by obtain ⟨R', a, b⟩ := h1 x R h; exact ⟨R', a, .inr b⟩, fun _ h => h, fun _ _ => rfl, fun _ h => h, fun _ _ => rfl, fun _ _ h => h⟩
  have st' : Step { E with rt := rt1 } E := ⟨fun x R h => by obtain ⟨R', a, b⟩ := h2 x R h; exact ⟨R', a, .inr b.symm⟩, fun _ h => h, fun _ _ => rfl, fun _ h => h, fun _ _ => rfl, fun _ _ h => h⟩
  have dd : ∀ {R R' : Root}, R'.kind = R.kind → R' ≠ .dead → R ≠ .dead := by
    intro R R' hk hd e
    exact hd (kind_dead.1 (hk.trans (kind_dead.2 e)))
  refine ⟨{ os := hM.os, output := hM.output, tape := hM.tape, size := hM.size, keep := hM.keep, shape := hM.shape, s0 := hM.s0, slt := hM.slt, snew := hM.snew, glob := hM.glob, blt := hM.blt, bown := ?_, bkeep := ?_, inj := ?_, roots := ?_ }, st, st'⟩
  · intro r R b hp hr hd hb
    obtain ⟨R0, a, k⟩ := h2 r R hr
    exact hM.bown r R0 b hp a (dd k hd) hb
  · intro r R hm hp hr hd
    obtain ⟨R0, a, k⟩ := h2 r R hr
    exact hM.bkeep r R0 hm hp a (dd k hd)
  · intro r r' R R' b hp hp' hr hd hr' hd' hb hb'
    obtain ⟨R0, a, k⟩ := h2 r R hr
    obtain ⟨R1, a', k'⟩ := h2 r' R' hr'
    exact hM.inj r r' R0 R1 b hp hp' a (dd k hd) a' (dd k' hd') hb hb'
  · intro r R hp hr
    exact (h3 r R hp hr).step st hp (fun _ _ => rfl) (fun _ _ h => h)
theorem cB_at {bs : List UInt8} {i j : Nat} {x : List D} {y : D} (hx : (bs.map cB)[i]? = some x) (hy : x[j]? = some y) : j = 0 ∧ ∃ u : UInt8, bs[i]? = some u ∧ y = .sc (.int .u8 u.toNat) := by
  rw [List.getElem?_map] at hx
  obtain ⟨u, hu, rfl⟩ := Option.map_eq_some_iff.1 hx
  cases j with
  | succ j => simp [cB] at hy
  | zero => simp [cB] at hy; exact ⟨rfl, u, hu, hy.symm⟩
theorem append_buf {P : Program} {c : Ctx} {E : Env} (hM : Mem c E) {nb t xT ty r len e inf_bytes : Nat} {bs : List UInt8} {s : ByteArray} {vs : Value} (hx : P.underlying xT = some .string) (hz : (ezT P t).isSome = true) (hel : elT P t = some (1, inf_bytes))
    (hu : P.underlying t = some (.slice e)) (hr : E.rt r = some (.buf e false bs)) (hs : RelAV E (.ref r 0 len) vs) (hlen : len = bs.length) (h48 : (2 * (bs.length + s.size) + 1024) * inf_bytes ≤ 2 ^ 48) (h62 : bs.length + s.size < 2 ^ 62)
    (hp : E.pres r) (hF : Fresh c E nb [.buf e false (bs ++ s.data.toList)]) :
    ∃ v E', (Builtin.append_ #[t, xT] ty #[vs, .string s]).run P E.w = .ok v E'.w ∧ Appended c E nb r E' ∧ RelAV E' (.ref nb 0 (bs.length + s.size)) v := by
  have hstr : strRow s = s.data.toList.map cB := rfl
  have hsl : (strRow s).length = s.size := by rw [hstr, List.length_map]; exact Array.length_toList
  have hnb : E.rt nb = some (.buf e false (bs ++ s.data.toList)) := by simpa using hF.rt 0 _ rfl
  have hnp : ¬ E.pres nb := by simpa using hF.np 0 (by simp)
  have hne : nb ≠ r := by rintro rfl; exact hnp hp
  obtain ⟨hM1, st, st'⟩ := hM.recast (rt1 := fun x => if x = r then some (.row 1 false (bs.map cB)) else if x = nb then some (.row 1 false (bs.map cB ++ strRow s)) else E.rt x)
    (by
      intro x R hR
      by_cases h : x = r
      · subst h; rw [hr] at hR; obtain rfl := Option.some.inj hR; exact ⟨_, if_pos rfl, rfl⟩
      · by_cases h' : x = nb
        · subst h'; rw [hnb] at hR; obtain rfl := Option.some.inj hR; exact ⟨.row 1 false (bs.map cB ++ strRow s), by rw [if_neg h, if_pos rfl], rfl⟩
        · exact ⟨R, by rw [if_neg h, if_neg h']; exact hR, rfl⟩)
    (by
      intro x R hR
      by_cases h : x = r
      · subst h; rw [if_pos rfl] at hR; obtain rfl := Option.some.inj hR; exact ⟨_, hr, rfl⟩
      · rw [if_neg h] at hR
        by_cases h' : x = nb
        · subst h'; rw [if_pos rfl] at hR; obtain rfl := Option.some.inj hR; exact ⟨_, hnb, rfl⟩
        · rw [if_neg h'] at hR; exact ⟨R, hR, rfl⟩)
    (by
      intro x R hpx hR
      by_cases h : x = r
      · subst h
        rw [if_pos rfl] at hR
        obtain rfl := Option.some.inj hR
        rcases hM.roots x _ hpx hr with ⟨h1, h2⟩ | ⟨b, cs, fr, h1, h2, h3, h4, h5, h6⟩
        · exact .inl ⟨h1, by rw [h2]; rfl⟩
        · refine .inr ⟨b, cs, e, fr, h1, h2, ?_, by simpa using h3, ?_, .inr ⟨rfl, h5, h6 rfl⟩⟩
          · intro i y hy
            obtain ⟨u, _, rfl⟩ := List.mem_map.1 (List.mem_of_getElem? hy)
            rfl
          · intro i y j z hy hz'
            obtain ⟨rfl, u, hu', rfl⟩ := cB_at hy hz'
            exact ⟨_, by simpa using h4 i u hu', .sc _ rfl⟩
      · rw [if_neg h] at hR
        by_cases h' : x = nb
        · subst h'; exact absurd hpx hnp
        · rw [if_neg h'] at hR; exact hM.roots x R hpx hR)
  generalize hE1 : ({ E with rt := _ } : Env) = E1 at hM1 st st'
  have e1r : E1.rt r = some (.row 1 false (bs.map cB)) := by rw [← hE1]; exact if_pos rfl
  have e1n : E1.rt nb = some (.row 1 false (bs.map cB ++ strRow s)) := by rw [← hE1]; show (if nb = r then _ else _) = _; rw [if_neg hne, if_pos rfl]
  have e1o : ∀ x, x ≠ r → x ≠ nb → E1.rt x = E.rt x := by intro x h1 h2; rw [← hE1]; show (if x = r then _ else _) = _; rw [if_neg h1, if_neg h2]
  have e1w : E1.w = E.w := by rw [← hE1]
  have e1p : E1.pres = E.pres := by rw [← hE1]
  have e1b : E1.β = E.β := by rw [← hE1]
  have e1S : E1.S = E.S := by rw [← hE1]
  have hF1 : Fresh c E1 nb [.row 1 false (bs.map cB ++ strRow s)] := ⟨hF.m, fun k R hk => by
      cases k with
      | zero => simp at hk; subst hk; exact e1n
      | succ k => simp at hk, fun k hk => by
      have : k = 0 := by simpa using hk
      subst this
      rw [e1p]; exact hnp⟩
  have hev : evAppend E1.rt nb (elT P t) (.ref r 0 len) (.d (.sc (.string s))) = some (.ref nb 0 ((bs.map cB).length + (strRow s).length), [.row 1 false (bs.map cB ++ strRow s)], r) := by
    simp only [evAppend, e1r, AV.src, Option.bind_some, hel]
    rw [if_pos (by refine ⟨trivial, ?_, trivial, trivial, ?_, ?_⟩ <;> simp only [List.length_map, hsl] <;> assumption)]
  obtain ⟨v, E2, hrun, hA, hrel, hty⟩ := evAppend_sound (ty := ty) hM1 (.inr hx) hz (hs.step st) (.d _ _ (.sc (.string s) rfl)) hev hF1
  have hlb : (bs.map cB).length + (strRow s).length = bs.length + s.size := by rw [hsl, List.length_map]
  rw [hlb] at hrel
  have e2 : ∀ x, E2.rt x = (E1.kill r).rt x := fun x => by rw [hA.rt]
  have kr : ∀ x, (E.kill r).rt x = if x = r then some .dead else E.rt x := fun x => rfl
  have kr1 : ∀ x, (E1.kill r).rt x = if x = r then some .dead else E1.rt x := fun x => rfl
  have hpn : E2.pres nb := (hA.pres nb).2 (.inr rfl)
  obtain ⟨hM2, st2, st2'⟩ := hA.mem.recast (rt1 := (E.kill r).rt)
    (by
      intro x R hR
      rw [e2, kr1] at hR
      rw [kr]
      by_cases h : x = r
      · rw [if_pos h] at hR ⊢; exact ⟨R, hR, rfl⟩
      · rw [if_neg h] at hR ⊢
        by_cases h' : x = nb
        · subst h'; rw [e1n] at hR; obtain rfl := Option.some.inj hR; exact ⟨_, hnb, rfl⟩
        · rw [e1o x h h'] at hR; exact ⟨R, hR, rfl⟩)
    (by
      intro x R hR
      rw [kr] at hR
      simp only [e2, kr1]
      by_cases h : x = r
      · rw [if_pos h] at hR ⊢; exact ⟨R, hR, rfl⟩
      · rw [if_neg h] at hR ⊢
        by_cases h' : x = nb
        · subst h'; rw [hnb] at hR; obtain rfl := Option.some.inj hR; exact ⟨_, e1n, rfl⟩
        · rw [e1o x h h']; exact ⟨R, hR, rfl⟩)
    (by
      intro x R hpx hR
      rw [kr] at hR
      by_cases h : x = r
      · rw [if_pos h] at hR; obtain rfl := Option.some.inj hR; trivial
      · rw [if_neg h] at hR
        by_cases h' : x = nb
        · subst h'
          rw [hnb] at hR
          obtain rfl := Option.some.inj hR
          have hroot := hA.mem.roots x _ hpn (by rw [e2, kr1, if_neg h]; exact e1n)
          rcases hroot with ⟨h1, h2⟩ | ⟨b, cs, tt, fr, h1, h2, h3, h4, h5, h6⟩
          · refine .inl ⟨h1, ?_⟩
            rw [hstr, ← List.map_append] at h2
            simpa using h2
          · have htt : tt = e := by
              have key : ∃ n, E2.w.shape? b = some (e, n) := by
                rcases hty e hu b h1 with hb | hb
                · rw [e1b] at hb
                  rcases hM.roots r _ hp hr with ⟨g1, _⟩ | ⟨b', cs', fr', g1, g2, _⟩
                  · rw [g1] at hb; cases hb
                  · rw [g1] at hb
                    obtain rfl := Option.some.inj hb
                    exact ⟨_, hA.step.shape b' _ (by rw [e1w]; unfold World.shape?; rw [g2])⟩
                · exact hb
              obtain ⟨n, hn⟩ := key
              unfold World.shape? at hn
              rw [h2] at hn
              simp only [Option.some.injEq, Prod.mk.injEq] at hn
              exact hn.1
            subst htt
            rw [hstr, ← List.map_append] at h4 h5
            refine .inr ⟨b, cs, fr, h1, h2, by simpa using h4, ?_, ?_⟩
            · intro i u hu'
              obtain ⟨w', hw, hd⟩ := h5 i (cB u) 0 (.sc (.int .u8 u.toNat)) (by rw [List.getElem?_map, hu']; rfl) rfl
              cases hd
              simpa using hw
            · rcases h6 with ⟨h6, _⟩ | ⟨_, h7, h8⟩
              · cases h6
              · exact ⟨h7, fun _ => h8⟩
        · rw [← e1o x h h'] at hR
          exact hA.mem.roots x R hpx (by rw [e2, kr1, if_neg h]; exact hR))
  refine ⟨v, _, ?_, ⟨hM2, (st.trans hA.step).trans st2, rfl, ?_, ?_, ?_⟩, hrel.step st2⟩
  · rw [e1w] at hrun; exact hrun
  · intro x
    have := hA.pres x
    rw [e1p] at this
    exact this
  · show E2.S = E.S
    rw [hA.S, e1S]
  · have := hA.size
    rw [e1w] at this
    exact this
theorem OpSem.appB {P : Program} {ops : Array Oper} {i nb : Nat} {o : Oper} {sl : Nat → AV} {rt : Nat → Option Root} {cl : Call} {x y : Operand} {t xT r len e bytes : Nat} {bs : List UInt8} {str : ByteArray} (ho : ops[i]? = some o) (hg : guardV ops o sl = some true) (hop : o.op = .call cl)
    (hc : cl.callee = .builtin .append) (ha : cl.args = #[x, y]) (ht : cl.argTypes = #[t, xT]) (hx : opd0 sl x = .ref r 0 len) (hy : opd0 sl y = .d (.sc (.string str))) (hxT : P.underlying xT = some .string) (hz : (ezT P t).isSome = true) (hel : elT P t = some (1, bytes))
    (hu : P.underlying t = some (.slice e)) (hr : rt r = some (.buf e false bs)) (hlen : len = bs.length) (h48 : (2 * (bs.length + str.size) + 1024) * bytes ≤ 2 ^ 48) (h62 : bs.length + str.size < 2 ^ 62) :
    OpSem P ops i [r] sl rt nb ⟨.ref nb 0 (bs.length + str.size), [.buf e false (bs ++ str.data.toList)], [(r, .dead)]⟩ := by
  refine ⟨o, ho, ?_⟩
  intro c E a hM hl hT hnb hF K Q k
  unfold wpOp
  rw [ho]
  simp only [guardV_wanted hl hg, if_true]
  obtain ⟨hsl, hop0⟩ := opd0_junk hl
  have hv := opd0_rel hsl x
  rw [← hop0 x (by rw [hop]; simp [Op.operands, Call.operands, hc, ha]), hx] at hv
  have hw := opd0_rel hsl y
  rw [← hop0 y (by rw [hop]; simp [Op.operands, Call.operands, hc, ha]), hy] at hw
  have hval := relSc hw
  have hr' : E.rt r = some (.buf e false bs) := by
    rcases hT r (by simp) with h | h
    · rw [h] at hr; cases hr
    · rw [h]; exact hr
  have hp : E.pres r := pres_of_ids hv (by simp [AV.ids]) hr' (by simp)
  obtain ⟨v, E', hrun, hA, hrel⟩ := append_buf (ty := o.type) hM hxT hz hel hu hr' hv hlen h48 h62 hp hF
  refine .inl (Done.wp ?_ k)
  refine ⟨v, E', .inl ?_, hA.mem, hA.step, ?_, ?_, hA.size, hrel⟩
  · simp [execOp, hop, resolve, hc, ha, ht, invoke, builtin, hval, hrun]
  · rw [hA.rt]; rfl
  · intro z
    rw [hA.pres]
    constructor
    · rintro (h | rfl)
      · exact .inl h
      · exact .inr ⟨Nat.le_refl _, by simp⟩
    · rintro (h | ⟨h1, h2⟩)
      · exact .inl h
      · have h2' : z < nb + 1 := by simpa using h2
        exact .inr (by omega)
end Go.Proofs.YtmhinjjgpabkfaaGreatDoor.Ab
namespace Go.Proofs.YtmhinjjgpabkfaaGreatDoor.Ab
open Go
theorem allocA_yields {P : Program} {c : Ctx} {E : Env} (hM : Mem c E) {nb : Nat} {t : TypeId} {n : Nat} {k : IntKind} (hz : zeroT P t = some (List.replicate n (.int k 0, 0))) (hF : Fresh c E nb [.row 1 false (List.replicate n [.sc (.int k 0)])]) :
    Yields1 c P E nb (.ptr nb 0 0, [.row 1 false (List.replicate n [.sc (.int k 0)])]) (Instr.alloc t true (.tuple #[])) := by
  obtain ⟨z, hrun, hcells, h1, _⟩ := run_zeroValue (w := E.w) hz
  have hsz : z.cells.size = n := by rw [← Array.length_toList, hcells]; simp
  have hcell : ∀ i, i < n → z.cells[i]? = some (.int k 0) := by
    intro i hi
    rw [← Array.getElem?_toList, hcells, List.getElem?_map, List.getElem?_replicate, if_pos hi]
    rfl
  have hrt : E.rt nb = some (.row 1 false (List.replicate n [.sc (.int k 0)])) := by simpa using hF.rt 0 _ rfl
  obtain ⟨q, _⟩ := rowed hM (r := nb) (sz := 1) (xs := List.replicate n [.sc (.int k 0)]) (t := t) (cs := z.cells) (fr := (0, 0)) (w' := E.w.alloc (.cells z.cells t)) hrt
    (by simpa using hF.np 0 (by simp)) hF.m (Grow.alloc _ _) (unfrozen_zero _)
    (by intro i x hx; rw [List.eq_of_mem_replicate (List.mem_of_getElem? hx)]; rfl)
    (by rw [List.length_replicate]; omega)
    (by
      intro i x j y hx hy
      have hi : i < n := by have := (List.getElem?_eq_some_iff.1 hx).1; simpa using this
      rw [List.eq_of_mem_replicate (List.mem_of_getElem? hx)] at hy
      cases j with
      | succ j => simp at hy
      | zero =>
        simp at hy
        subst hy
        exact ⟨.int k 0, by simpa using hcell i hi, .sc _ rfl⟩)
  refine ⟨.pointer (some ⟨E.w.heap.size, 0, none⟩), _, ?_, q, ?_⟩
  · simp [Instr.alloc, hrun, newVar, newRow, Env.withBlk]
  · have := RelAV.ptr (E := E.withBlk nb (E.w.alloc (.cells z.cells t))) nb 0 0 _ E.w.heap.size hrt (Or.inr rfl) (setB_same _ _ _)
    simpa using this
section
variable {P : Program} {ops : Array Oper} {i nb : Nat} {o : Oper} {sl : Nat → AV} {rt : Nat → Option Root}
theorem OpSem.allocA {t : TypeId} {n : Nat} {k : IntKind} (ho : ops[i]? = some o) (hg : guardV ops o sl = some true) (hop : o.op = .alloc t) (hz : zeroT P t = some (List.replicate n (.int k 0, 0))) :
    OpSem P ops i [] sl rt nb ⟨.ptr nb 0 0, [.row 1 false (List.replicate n [.sc (.int k 0)])], []⟩ := by
  refine ⟨o, ho, ?_⟩
  intro c E a hM hl hT hnb hF K Q k
  unfold wpOp
  rw [ho]
  simp only [guardV_wanted hl hg, if_true]
  refine .inl (Done.wp ?_ k)
  exact Done.of (allocA_yields hM hz hF) (by simp [execOp, hop])
theorem ptr_rel {E : Env} {r i j : Nat} {R : Root} {v : Value} (h : RelAV E (.ptr r i j) v) (hr : E.rt r = some R) (hd : R ≠ .dead) : ∃ b, E.pres r ∧ E.β r = some b ∧ v = .pointer (some ⟨b, i * R.kind.sz + j, none⟩) := by
  cases h with
  | dptr _ _ _ _ h1 _ => rw [hr] at h1; exact absurd (Option.some.inj h1) hd
  | ptr _ _ _ R' b h1 h2 h3 =>
    rw [hr] at h1
    obtain rfl := Option.some.inj h1
    exact ⟨b, h2, h3, rfl⟩
theorem OpSem.idxA {t e : TypeId} {x y : Operand} {n r : Nat} {fz : Bool} {xs : List (List D)} {k : IntKind} {j : Int} (ho : ops[i]? = some o) (hg : guardV ops o sl = some true) (hop : o.op = .indexAddr t x y) (hx : opd0 sl x = .ptr r 0 0)
    (hy : opd0 sl y = .d (.sc (.int k j))) (hu : P.underlying t = some (.array n e)) (hs : szT P e = some 1) (hr : rt r = some (.row 1 fz xs)) (h0 : 0 ≤ j) (h1 : j < (n : Int)) : OpSem P ops i [r] sl rt nb ⟨.ptr r j.toNat 0, [], []⟩ := by
  refine ⟨o, ho, ?_⟩
  intro c E a hM hl hT hnb hF K Q kk
  unfold wpOp
  rw [ho]
  simp only [guardV_wanted hl hg, if_true]
  obtain ⟨hsl, hop0⟩ := opd0_junk hl
  have hv := opd0_rel hsl x
  rw [← hop0 x (by rw [hop]; simp [Op.operands]), hx] at hv
  have hw := opd0_rel hsl y
  rw [← hop0 y (by rw [hop]; simp [Op.operands]), hy] at hw
  have hval := relSc hw
  have hr' : E.rt r = some (.row 1 fz xs) := by
    rcases hT r (by simp) with h | h
    · rw [h] at hr; cases hr
    · rw [h]; exact hr
  obtain ⟨b, hp, hb, hv'⟩ := ptr_rel hv hr' (by simp)
  refine .inl (Done.wp ?_ kk)
  refine Done.same hM (s := Instr.indexAt t (.pointer (some ⟨b, 0, none⟩)) (.int k j)) ⟨.pointer (some ⟨b, j.toNat * 1 + 0, none⟩), ?_, .ptr r _ 0 _ b hr' hp hb⟩ (by simp [execOp, hop, hval, hv'])
  simp only [Instr.indexAt, asIntOf, Sem.run_bind, Sem.run_pure, Result.andThen_ok, run_underlying hu]
  simp [h0, h1, run_sizeOf' hs, add_none, Instr.sureAddr]
theorem OpSem.slcA {t e : TypeId} {x : Operand} {xlo xhi : Option Operand} {lo hi : Option Int} {n r : Nat} {fz : Bool} {xs : List (List D)} (ho : ops[i]? = some o) (hg : guardV ops o sl = some true) (hop : o.op = .slice t x xlo xhi none) (hx : opd0 sl x = .ptr r 0 0)
    (hlo : bound? sl xlo = some lo) (hhi : bound? sl xhi = some hi) (hu : P.underlying t = some (.array n e)) (hs : szT P e = some 1) (hr : rt r = some (.row 1 fz xs)) (hn : xs.length = n) (h0 : 0 ≤ lo.getD 0) (h1 : lo.getD 0 ≤ hi.getD (n : Int)) (h2 : hi.getD (n : Int) ≤ (n : Int)) :
    OpSem P ops i [r] sl rt nb ⟨.ref r (lo.getD 0).toNat ((hi.getD (n : Int)).toNat - (lo.getD 0).toNat), [], []⟩ := by
  refine ⟨o, ho, ?_⟩
  intro c E a hM hl hT hnb hF K Q kk
  unfold wpOp
  rw [ho]
  simp only [guardV_wanted hl hg, if_true]
  obtain ⟨hsl, hop0⟩ := opd0_junk hl
  have hv := opd0_rel hsl x
  rw [← hop0 x (by rw [hop]; simp [Op.operands]), hx] at hv
  have hr' : E.rt r = some (.row 1 fz xs) := by
    rcases hT r (by simp) with h | h
    · rw [h] at hr; cases hr
    · rw [h]; exact hr
  have hbd : ∀ (q : Option Operand), (∀ z, q = some z → z ∈ o.op.operands) → bound? sl q = bound? (fun t => open Classical in if t ∈ o.looksAt ops then sl t else .junk) q := by
    intro q hq
    cases q with
    | none => rfl
    | some z => unfold bound?; simp only; rw [hop0 z (hq z rfl)]
  rw [hbd xlo (by intro z hz; rw [hop, hz]; simp [Op.operands])] at hlo
  rw [hbd xhi (by intro z hz; rw [hop, hz]; simp [Op.operands])] at hhi
  obtain ⟨kl, hkl⟩ := bound_rel hsl hlo
  obtain ⟨kh, hkh⟩ := bound_rel hsl hhi
  obtain ⟨b, hp, hb, hv'⟩ := ptr_rel hv hr' (by simp)
  have hroot := hM.roots r _ hp hr'
  refine .inl (Done.wp ?_ kk)
  have hbnd := run_sliceBounds (P := P) (w := E.w) (isSl := false) (len := n) (cap := n) (kl := kl) (kh := kh) h0 h1 h2 (Nat.le_refl _)
  generalize hL : (lo.getD 0).toNat = L at *
  generalize hH : (hi.getD (n : Int)).toNat = H at *
  have hLH : L ≤ H := by omega
  have hHn : H ≤ n := by omega
  refine Done.same hM (s := Instr.sliceAt t (.pointer (some ⟨b, 0, none⟩)) (lo.map (Value.int kl)) (hi.map (Value.int kh)) none) ⟨.slice (some (if n = L then ⟨b, 0, none⟩ else ⟨b, L * 1, none⟩)) (H - L) (n - L), ?_, ?_⟩ (by simp [execOp, hop, hkl, hkh, hv'])
  · simp [Instr.sliceAt, run_underlying hu, hbnd, run_sizeOf' hs, Instr.sureAddr, add_none]
  · rcases hroot with ⟨g1, _⟩ | ⟨b', cs, tt, fr, g1, g2, g3, g4, g5, g6⟩
    · rw [g1] at hb; cases hb
    · rw [hb] at g1
      obtain rfl := Option.some.inj g1
      by_cases hnl : n = L
      · rw [if_pos hnl, show H - L = 0 by omega, show n - L = 0 by omega]
        exact .refz r L _ 1 _ hr' rfl hp
      · rw [if_neg hnl]
        exact .ref r L (H - L) _ 1 b (n - L) tt cs.size hr' rfl hp hb (by unfold World.shape?; rw [g2]) (by omega) (by omega)
end
end Go.Proofs.YtmhinjjgpabkfaaGreatDoor.Ab
namespace Go.Proofs.YtmhinjjgpabkfaaGreatDoor.Ab
open Go
def clrRow (xs : List (List D)) (off len : Nat) (z : List D) : List (List D) := xs.take off ++ (List.replicate len z ++ xs.drop (off + len))
theorem clrRow_len {xs : List (List D)} {off len : Nat} {z : List D} (h : off + len ≤ xs.length) : (clrRow xs off len z).length = xs.length := by
  unfold clrRow
  rw [List.length_append, List.length_append, List.length_take, List.length_replicate, List.length_drop]
  omega
theorem clrRow_get {xs : List (List D)} {off len : Nat} {z : List D} (h : off + len ≤ xs.length) {i : Nat} : (clrRow xs off len z)[i]? = if off ≤ i ∧ i < off + len then some z else xs[i]? := by
  unfold clrRow
  rcases Nat.lt_or_ge i off with h1 | h1
  · rw [if_neg (by omega), List.getElem?_append_left (by rw [List.length_take]; omega), List.getElem?_take_of_lt h1]
  · rw [List.getElem?_append_right (by rw [List.length_take]; omega), List.length_take, Nat.min_eq_left (by omega)]
    rcases Nat.lt_or_ge i (off + len) with h2 | h2
    · rw [if_pos ⟨h1, h2⟩, List.getElem?_append_left (by rw [List.length_replicate]; omega), List.getElem?_replicate, if_pos (by omega)]
    · rw [if_neg (by omega), List.getElem?_append_right (by rw [List.length_replicate]; omega), List.length_replicate, List.getElem?_drop]
      congr 1
      omega
section
variable {P : Program} {c : Ctx} {E : Env}
theorem clear_row (hM : Mem c E) {r b off len : Nat} {xs : List (List D)} {z : Value} (hp : E.pres r) (hr : E.rt r = some (.row 1 false xs)) (hb : E.β r = some b) (h1 : z.oneCell' = true) (hn : off + len ≤ xs.length) (hl : 0 < len) :
    (storeCells ⟨b, off, none⟩ (List.replicate len z)).run P E.w = .ok () (E.w.setCells b off (List.replicate len z)) ∧ (E.w.setCells b off (List.replicate len z)).heap.size = E.w.heap.size ∧
      Mem c (E.upd r (.row 1 false (clrRow xs off len [.sc z])) (E.w.setCells b off (List.replicate len z))) ∧ Step E (E.upd r (.row 1 false (clrRow xs off len [.sc z])) (E.w.setCells b off (List.replicate len z))) := by
  rcases hM.roots r _ hp hr with ⟨hb', _⟩ | ⟨b', cs, ty, fr, hb', hh, hlen, hcsz, hcs, hfz⟩
  · rw [hb] at hb'; cases hb'
  rw [hb] at hb'
  obtain rfl := Option.some.inj hb'
  rcases hfz with ⟨hf, _⟩ | ⟨_, hnS, hfr⟩
  · cases hf
  have hst := run_storeCells_cells (P := P) b off (List.replicate len z) 0 E.w (by
      intro j hj
      simp at hj
      have : off + j < cs.size := by omega
      simp [World.cell?, hh, this])
    (by
      intro j hj
      simp at hj
      have hlt : off + j < cs.size := by omega
      have := hfr (off + j) hlt
      simp only [World.frozen?, Nat.add_zero, hh]
      obtain ⟨lo, hi⟩ := fr
      simp only at this ⊢
      simp only [Bool.and_eq_false_iff, decide_eq_false_iff_not]
      by_cases h : lo ≤ off + j
      · right; exact fun h' => this ⟨h, h'⟩
      · left; exact h) (by intro u hu; rw [List.eq_of_mem_replicate hu]; exact h1)
  obtain ⟨cs', hw, hget⟩ := setCells_wrote b ty fr (List.replicate len z) off E.w cs hh (by simp; omega)
  have st : Step E (E.upd r (.row 1 false (clrRow xs off len [.sc z])) (E.w.setCells b off (List.replicate len z))) := Step.upd hr (.inr rfl) (fun x hx => hw.others x (fun e => hnS (e ▸ hx))) (hw.shape hh)
  refine ⟨by simpa using hst, hw.hsize, ?_⟩
  refine hM.upd (R := .row 1 false xs) (cs' := cs') hp hr (by simp) rfl hb hnS hh hw ?_
  refine .inr ⟨b, cs', ty, fr, hb, hw.at_, ?_, by rw [hw.size, clrRow_len hn]; exact hcsz, ?_, .inr ⟨rfl, hnS, by rw [hw.size]; exact hfr⟩⟩
  · intro a x hx
    rw [clrRow_get hn] at hx
    split at hx
    · rw [← Option.some.inj hx]; rfl
    · exact hlen a x hx
  · intro a x k y hx hy
    rw [hget]
    rw [clrRow_get hn] at hx
    simp only [List.length_replicate]
    split at hx
    · rename_i hk
      obtain rfl := Option.some.inj hx
      cases k with
      | succ k => simp at hy
      | zero =>
        simp at hy
        subst hy
        rw [if_pos (by omega)]
        exact ⟨z, by simp [List.getElem?_replicate]; omega, .sc _ h1⟩
    · rename_i hk
      have hk' : k < 1 := by rw [← hlen a x hx]; exact (List.getElem?_eq_some_iff.1 hy).1
      rw [if_neg (by omega)]
      obtain ⟨u, hu, hr⟩ := hcs a x k y hx hy
      exact ⟨u, hu, hr.step st.S st.heap⟩
end
section
variable {P : Program} {ops : Array Oper} {i nb : Nat} {o : Oper} {sl : Nat → AV} {rt : Nat → Option Root}
theorem OpSem.clrR {cl : Call} {x : Operand} {t e r off len : Nat} {xs : List (List D)} {z : Value} (ho : ops[i]? = some o) (hg : guardV ops o sl = some true) (hop : o.op = .call cl) (hc : cl.callee = .builtin .clear) (ha : cl.args = #[x]) (ht : cl.argTypes = #[t])
    (hx : opd0 sl x = .ref r off len) (hu : P.underlying t = some (.slice e)) (hz : zeroT P e = some [(z, 0)]) (hr : rt r = some (.row 1 false xs)) (hn : off + len ≤ xs.length) :
    OpSem P ops i [r] sl rt nb ⟨.junk, [], [(r, .row 1 false (clrRow xs off len [.sc z]))]⟩ := by
  refine ⟨o, ho, ?_⟩
  intro c E a hM hl hT hnb hF K Q kk
  unfold wpOp
  rw [ho]
  simp only [guardV_wanted hl hg, if_true]
  obtain ⟨hsl, hop0⟩ := opd0_junk hl
  have hv := opd0_rel hsl x
  rw [← hop0 x (by rw [hop]; simp [Op.operands, Call.operands, hc, ha]), hx] at hv
  have hr' : E.rt r = some (.row 1 false xs) := by
    rcases hT r (by simp) with h | h
    · rw [h] at hr; cases hr
    · rw [h]; exact hr
  obtain ⟨zv, hzr, hzc, hz1, _⟩ := run_zeroValue (w := E.w) hz
  have hone : z.oneCell' = true := hz1 (z, 0) (by simp)
  have hzv : zv.cells = #[z] := by
    apply Array.toList_inj.1
    rw [hzc]; rfl
  have hrep : Builtin.zeroCells zv.cells len = Array.replicate len z := by
    rw [hzv]
    unfold Builtin.zeroCells
    apply Array.ext
    · simp
    · intro i h1 h2
      simp [Nat.mod_one]
  have fin : ∀ (v : Value) (w' : World), a.eval x = v → (Builtin.clear_ #[t] o.type #[v]).run P E.w = .ok (.tuple #[]) w' → w'.heap.size = E.w.heap.size → Mem c (E.upd r (.row 1 false (clrRow xs off len [.sc z])) w') → Step E (E.upd r (.row 1 false (clrRow xs off len [.sc z])) w') →
      Done P c E nb ⟨.junk, [], [(r, .row 1 false (clrRow xs off len [.sc z]))]⟩ (execOp a.eval o) := by
    intro v w' hval hrun hsz hM' st
    refine ⟨.tuple #[], _, .inl ?_, hM', st, rfl, ?_, ?_, .junk _⟩
    · simp [execOp, hop, resolve, hc, ha, ht, invoke, builtin, hval, hrun, Env.upd]
    · intro y
      constructor
      · exact fun h => .inl h
      · rintro (h | ⟨h1, h2⟩)
        · exact h
        · simp at h2; omega
    · show E.w.heap.size ≤ w'.heap.size
      omega
  have same : len = 0 → E.upd r (.row 1 false (clrRow xs off len [.sc z])) E.w = E := by
    rintro rfl
    have e1 : clrRow xs off 0 [.sc z] = xs := by unfold clrRow; simp
    rw [e1]
    unfold Env.upd
    have e2 : (fun y => if y = r then some (Root.row 1 false xs) else E.rt y) = E.rt := by
      funext y
      split
      · rename_i h; rw [h, hr']
      · rfl
    rw [e2]
  refine .inl (Done.wp ?_ kk)
  generalize hval : a.eval x = v at hv
  cases hv with
  | ref _ _ _ R sz b cap tt n h1 hk h2 h3 h4 h5 h6 =>
    rw [hr'] at h1
    obtain rfl := Option.some.inj h1
    have hs1 : sz = 1 := by simp [Root.kind] at hk; exact hk.symm
    subst hs1
    by_cases hl0 : len = 0
    · have hs := same hl0
      refine fin _ E.w hval ?_ rfl (by rw [hs]; exact hM) (by rw [hs]; exact Step.refl E)
      subst hl0
      simp [Builtin.clear_, run_underlying hu]
    · obtain ⟨g1, g2, g3, g4⟩ := clear_row (P := P) hM h2 hr' h3 hone hn (by omega)
      refine fin _ _ hval ?_ g2 g3 g4
      obtain ⟨k, rfl⟩ : ∃ k, len = k + 1 := ⟨len - 1, by omega⟩
      simp [Builtin.clear_, run_underlying hu, hzr, hrep, g1]
  | refz _ _ R sz ad h1 hk h2 =>
    have hs := same rfl
    refine fin _ E.w hval ?_ rfl (by rw [hs]; exact hM) (by rw [hs]; exact Step.refl E)
    cases ad <;> simp [Builtin.clear_, run_underlying hu]
  | dref _ _ _ _ h1 ho' =>
    rw [hr'] at h1
    cases h1
end
end Go.Proofs.YtmhinjjgpabkfaaGreatDoor.Ab
namespace Go.Proofs.YtmhinjjgpabkfaaGreatDoor.Ab
open Go
structure Fn (P : Program) (f : FuncId) (as0 : List AV) (r0 : List Root) (o : Out) : Prop where
  ent : Entered P f
  ok : CallOk P f as0 r0 o
inductive IsCall (o : Oper) (st : St) (f : FuncId) (ys : List AV) : Prop
  | mk (cl : Call) (x : Operand) (caps ys0 : List AV) (hgd : o.guard = none) (hop : o.op = .call cl) (hc : cl.callee = .value x) (hx : opd0 st.sl x = .clo f caps) (ha : ArgR st.sl cl.args.toList ys0) (e : ys0 ++ caps = ys) : IsCall o st f ys
inductive CallW (P : Program) (f : FuncId) (ys : List AV) (rt : List Root) (k : Out → List Nat → Prop) : Prop
  | mk (h : ∀ (o : Oper) (st : St), st.rt = rt → IsCall o st f ys → ClW P o st k) : CallW P f ys rt k
inductive LoopW (P : Program) (N : Nat) (body : Code) (Q : Exit → St → Prop) (st : St) : Prop
  | mk (h : LpW P N body Q st) : LoopW P N body Q st
def calleeOf (o : Oper) : Option (Operand × Call) :=
  match o.op with
  | .call c => (match c.callee with | .value x => some (x, c) | _ => none)
  | _ => none
inductive StrBW (s : ByteArray) (K : Nat → List (List D) → Prop) : Prop | mk (n : Nat) (v : List (List D)) (hn : n = s.size) (hv : v = strRow s) (hk : K n v) : StrBW s K
inductive AppBW (P : Program) (t e bytes len : Nat) (bs : List UInt8) (s : ByteArray) (K : Nat → List UInt8 → Prop) : Prop
  | mk (n : Nat) (v : List UInt8) (hu : P.underlying t = some (.slice e)) (hl : len = bs.length) (h48 : (2 * (bs.length + s.size) + 1024) * bytes ≤ 2 ^ 48) (h62 : bs.length + s.size < 2 ^ 62) (hn : n = bs.length + s.size) (hv : v = bs ++ s.data.toList) (hk : K n v) : AppBW P t e bytes len bs s K
inductive AllAW (P : Program) (t : TypeId) (K : List (List D) → Prop) : Prop | mk (n : Nat) (k : IntKind) (v : List (List D)) (hz : zeroT P t = some (List.replicate n (.int k 0, 0))) (hv : v = List.replicate n [.sc (.int k 0)]) (hk : K v) : AllAW P t K
inductive AIdxW (P : Program) (t : TypeId) (j : Int) (K : Nat → Prop) : Prop | mk (n e p : Nat) (hu : P.underlying t = some (.array n e)) (hs : szT P e = some 1) (h0 : 0 ≤ j) (h1 : j < (n : Int)) (hp : p = j.toNat) (hk : K p) : AIdxW P t j K
inductive ASlcW (P : Program) (t : TypeId) (xs : List (List D)) (lo hi : Option Int) (K : Nat → Nat → Prop) : Prop
  | mk (n e o m : Nat) (hu : P.underlying t = some (.array n e)) (hs : szT P e = some 1) (hn : xs.length = n) (h0 : 0 ≤ lo.getD 0) (h1 : lo.getD 0 ≤ hi.getD (n : Int)) (h2 : hi.getD (n : Int) ≤ (n : Int)) (ho : o = (lo.getD 0).toNat) (hm : m = (hi.getD (n : Int)).toNat - (lo.getD 0).toNat) (hk : K o m) : ASlcW P t xs lo hi K
inductive AClrW (P : Program) (t : TypeId) (xs : List (List D)) (off len : Nat) (K : List (List D) → Prop) : Prop
  | mk (e : Nat) (z : Value) (v : List (List D)) (hu : P.underlying t = some (.slice e)) (hz : zeroT P e = some [(z, 0)]) (hn : off + len ≤ xs.length) (hv : v = clrRow xs off len [.sc z]) (hk : K v) : AClrW P t xs off len K
inductive Sp where
  | no
  | clrA (t r : Nat) (xs : List (List D)) (off len : Nat)
  | allocA (t : Nat)
  | idxA (t r : Nat) (xs : List (List D)) (j : Int)
  | slcA (t r : Nat) (xs : List (List D)) (lo hi : Option Int)
  | strB (s : ByteArray)
  | appB (t r len e bytes : Nat) (bs : List UInt8) (s : ByteArray)
def spOf (tab : List (Nat × TyRow)) (o : Oper) (st : St) : Sp :=
  match o.op with
  | .convert s d x => (match opd0 st.sl x with
    | .d (.sc (.string str)) => (match tabGet tab s, tabGet tab d with
      | some S, some D => (match isStrK S.sk, D.bsl with
        | true, true => .strB str
        | _, _ => .no)
      | _, _ => .no)
    | _ => .no)
  | .call cl => (match cl.callee, cl.args.toList, cl.argTypes.toList with
    | .builtin .append, [x, y], [t, xT] => (match opd0 st.sl x with
      | .ref r 0 len => (match st.look r with
        | some (.buf e false bs) => (match opd0 st.sl y with
          | .d (.sc (.string s)) => (match tabGet tab t, tabGet tab xT with
            | some R, some X => (match R.el, R.ez, isStrK X.sk with
              | some (1, bytes), some _, true => .appB t r len e bytes bs s
              | _, _, _ => .no)
            | _, _ => .no)
          | _ => .no)
        | _ => .no)
      | _ => .no)
    | .builtin .clear, [x], [t] => (match opd0 st.sl x with
      | .ref r off len => (match st.look r with
        | some (.row 1 false xs) => .clrA t r xs off len
        | _ => .no)
      | _ => .no)
    | _, _, _ => .no)
  | .alloc t => (match tabGet tab t with
    | none => .allocA t
    | some _ => .no)
  | .indexAddr t x i => (match tabGet tab t with
    | none => (match opd0 st.sl x, opd0 st.sl i with
      | .ptr r 0 0, .d (.sc (.int _ j)) => (match st.look r with
        | some (.row 1 _ xs) => .idxA t r xs j
        | _ => .no)
      | _, _ => .no)
    | some _ => .no)
  | .slice t x lo hi none => (match tabGet tab t with
    | none => (match opd0 st.sl x, bound? st.sl lo, bound? st.sl hi with
      | .ptr r 0 0, some l, some h => (match st.look r with
        | some (.row 1 _ xs) => .slcA t r xs l h
        | _ => .no)
      | _, _, _ => .no)
    | some _ => .no)
  | _ => .no
def wStep (P : Program) (tab : List (Nat × TyRow)) (o : Oper) (st : St) (k : Out → List Nat → Prop) : Prop :=
  match calleeOf o with
  | some (x, c) => (match opd0 st.sl x with
    | .clo f caps => CallW P f (sArgs tab st.sl c.args.toList c.argTypes.toList ++ caps) st.rt k
    | _ => False)
  | none => (match spOf tab o st with
    | .strB s => StrBW s fun n v => k ⟨.ref st.rt.length 0 n, [.row 1 false v], []⟩ []
    | .appB t r len e bytes bs s => AppBW P t e bytes len bs s fun n v => k ⟨.ref st.rt.length 0 n, [.buf e false v], [(r, .dead)]⟩ [r]
    | .clrA t r xs off len => AClrW P t xs off len fun v => k ⟨.junk, [], [(r, .row 1 false v)]⟩ [r]
    | .allocA t => AllAW P t fun v => k ⟨.ptr st.rt.length 0 0, [.row 1 false v], []⟩ []
    | .idxA t r _ j => AIdxW P t j fun p => k ⟨.ptr r p 0, [], []⟩ [r]
    | .slcA t r xs lo hi => ASlcW P t xs lo hi fun o n => k ⟨.ref r o n, [], []⟩ [r]
    | .no => sv tab st.rt.length st.sl st.look o fun out => (match out.g.all (fun p => Nat.blt p.1 (st.rt.length + out.new.length)) with
      | true => k out (Op.touched st.sl o.op)
      | false => False))
def guardD (ds : List (Option Tmp)) (o : Oper) (sl : Nat → AV) : GV :=
  match o.guard with
  | none => .yes
  | some (g, w) => match ds[g]? with
    | some (some t) => (match sl t with | .d (.sc (.bool b)) => .test t b w | .tup [] => .no | _ => .bad)
    | _ => .bad
theorem guardD_eq {ops : Array Oper} {o : Oper} {sl : Nat → AV} : guardD (ops.toList.map (·.dst)) o sl = guardG ops o sl := by
  unfold guardD guardG
  cases o.guard with
  | none => rfl
  | some p =>
    obtain ⟨g, w⟩ := p
    simp only [List.getElem?_map, Array.getElem?_toList]
    cases h : ops[g]? with
    | none => rfl
    | some og =>
      simp only [Option.map_some]
      cases og.dst <;> rfl
def wOps (P : Program) (tab : List (Nat × TyRow)) (ds : List (Option Tmp)) : List Oper → St → List Eff → (List Eff → St → Prop) → Prop
  | [], st, acc, K => K acc st
  | o :: l, st, acc, K =>
    match guardD ds o st.sl with
    | .yes => wStep P tab o st fun out T => wOps P tab ds l (st.put o.dst out) (acc ++ [⟨out.g.map (·.1), out.new.length, T⟩]) K
    | .test t b true => br b (fun _ => wStep P tab o ⟨setS st.sl t (.d (.sc (.bool true))), st.rt⟩ fun out T => wOps P tab ds l (St.put ⟨setS st.sl t (.d (.sc (.bool true))), st.rt⟩ o.dst out) (acc ++ [⟨out.g.map (·.1), out.new.length, T⟩]) K)
        (fun _ => wOps P tab ds l (St.put ⟨setS st.sl t (.d (.sc (.bool false))), st.rt⟩ o.dst ⟨.tup [], [], []⟩) (acc ++ [⟨[], 0, []⟩]) K)
    | .test t b false => br b (fun _ => wOps P tab ds l (St.put ⟨setS st.sl t (.d (.sc (.bool true))), st.rt⟩ o.dst ⟨.tup [], [], []⟩) (acc ++ [⟨[], 0, []⟩]) K)
        (fun _ => wStep P tab o ⟨setS st.sl t (.d (.sc (.bool false))), st.rt⟩ fun out T => wOps P tab ds l (St.put ⟨setS st.sl t (.d (.sc (.bool false))), st.rt⟩ o.dst out) (acc ++ [⟨out.g.map (·.1), out.new.length, T⟩]) K)
    | .no => wOps P tab ds l (st.put o.dst ⟨.tup [], [], []⟩) (acc ++ [⟨[], 0, []⟩]) K
    | .bad => False
def wReg (P : Program) (tab : List (Nat × TyRow)) (N : Nat) (ops : Array Oper) (draw : Bool) (st : St) (K : St → Prop) : Prop :=
  match draw with
  | false => wOps P tab (ops.toList.map (·.dst)) ops.toList st [] fun _ st' => ifB true fun _ => K st'
  | true => wOps P tab (ops.toList.map (·.dst)) ops.toList st [] fun effs st' => ifB (drawB ops N st.rt.length effs) fun _ => K st'
structure DrawW (f : Unit → Bool) (K : Unit → Prop) : Prop where
  h : f () = true
  k : K ()
def wRegD (P : Program) (tab : List (Nat × TyRow)) (N : Nat) (ops : Array Oper) (draw : Bool) (st : St) (K : St → Prop) : Prop :=
  match draw with
  | false => wOps P tab (ops.toList.map (·.dst)) ops.toList st [] fun _ st' => ifB true fun _ => K st'
  | true => wOps P tab (ops.toList.map (·.dst)) ops.toList st [] fun effs st' => DrawW (fun _ => drawB ops N st.rt.length effs) fun _ => K st'
def markB (tab : List (Nat × TyRow)) (n : Nat) : Bool := match tabGet tab n with | some _ => true | none => false
structure JoinW (P : Program) (N : Nat) (a b : Code) (Q : Exit → St → Prop) (st : St) : Prop where
  h : AW P N (.seq a b) Q st
def joinKey : Code → Nat
  | .cond (.tmp t) _ _ => 1000000 + t
  | .seq _ b => joinKey b
  | .block id _ => 2000000 + id
  | _ => 0
def joinB (tab : List (Nat × TyRow)) (a : Code) : Bool := match joinKey a with
  | 0 => false
  | k => markB tab k
def wc (P : Program) (tab : List (Nat × TyRow)) (N : Nat) : Code → (Exit → St → Prop) → St → Prop
  | .skip, Q, st => Q .normal st
  | .ret, Q, st => Q .ret st
  | .exit id, Q, st => Q (.exit id) st
  | .label _, Q, st => Q .normal st
  | .seq a b, Q, st => (match joinB tab a with
    | true => JoinW P N a b Q st
    | false => wc P tab N a (Exit.thenQ (fun st' => wc P tab N b Q st') Q) st)
  | .cond x t e, Q, st => (match opd0 st.sl x with
    | .d (.sc (.bool b)) => br b (fun _ => wc P tab N t Q (st.known x true)) (fun _ => wc P tab N e Q (st.known x false))
    | .anyb p => anyB p (fun _ => wc P tab N t Q st) (fun _ => wc P tab N e Q st)
    | _ => False)
  | .block id b, Q, st => wc P tab N b (Exit.blockQ id Q) st
  | .loop b, Q, st => LoopW P N b Q st
  | .region id ops draw, Q, st => ifB (ops.toList.all (dstOk N)) fun _ => (match markB tab (3000000 + id) with
    | true => wRegD P tab N ops draw st fun st' => ifB true fun _ => Q .normal st'
    | false => wReg P tab N ops draw st fun st' => ifB true fun _ => Q .normal st')
  | _, _, _ => False
section
variable {P : Program} {N : Nat} {tab : List (Nat × TyRow)} {Q : Exit → St → Prop}
theorem sArgs_argR {sl : Nat → AV} : ∀ {xs : List Operand} {ts : List TypeId}, ArgR sl xs (sArgs tab sl xs ts)
  | [], _ => .nil
  | x :: xs, [] => .cons rfl sArgs_argR
  | x :: xs, t :: ts => by
    simp only [sArgs]
    split
    · rename_i h
      unfold isNilC at h
      split at h
      · exact .nilS sArgs_argR
      · cases h
    · exact .cons rfl sArgs_argR
theorem calleeOf_some {o : Oper} {x : Operand} {c : Call} (h : calleeOf o = some (x, c)) : o.op = .call c ∧ c.callee = .value x := by
  unfold calleeOf at h
  split at h
  · rename_i c' hc
    split at h
    · rename_i x' hx
      simp only [Option.some.injEq, Prod.mk.injEq] at h
      obtain ⟨rfl, rfl⟩ := h
      exact ⟨hc, hx⟩
    · cases h
  · cases h
theorem spOf_strB {o : Oper} {st : St} {s : ByteArray} (hT : TabOk P tab) (h : spOf tab o st = .strB s) : ∃ a d x e, o.op = .convert a d x ∧ opd0 st.sl x = .d (.sc (.string s)) ∧ P.underlying a = some .string ∧ P.underlying d = some (.slice e) ∧ P.underlying e = some (.int .u8) := by
  unfold spOf at h
  split at h
  · rename_i a d x hop
    split at h
    · rename_i str hx
      split at h
      · rename_i S D hS hD
        split at h
        · rename_i h1 h2
          obtain rfl := hT _ _ hS
          obtain rfl := hT _ _ hD
          simp only [Sp.strB.injEq] at h
          subst h
          have h1' : isStrK (skOf P a) = true := h1
          have h2' : isByteSliceT P d = true := h2
          have ha : P.underlying a = some .string := by
            unfold skOf at h1'
            split at h1' <;> first | assumption | (simp [isStrK] at h1')
          unfold isByteSliceT at h2'
          split at h2'
          · rename_i e he
            split at h2'
            · rename_i hu8
              exact ⟨a, d, x, e, hop, hx, ha, he, hu8⟩
            · cases h2'
          · cases h2'
        · cases h
      · cases h
    · cases h
  all_goals (repeat' (split at h))
  all_goals cases h
theorem spOf_appB {o : Oper} {st : St} {t r len e bytes : Nat} {bs : List UInt8} {s : ByteArray} (hT : TabOk P tab) (h : spOf tab o st = .appB t r len e bytes bs s) :
    ∃ cl x y xT, o.op = .call cl ∧ cl.callee = .builtin .append ∧ cl.args = #[x, y] ∧ cl.argTypes = #[t, xT] ∧ opd0 st.sl x = .ref r 0 len ∧ opd0 st.sl y = .d (.sc (.string s)) ∧ P.underlying xT = some .string ∧ (ezT P t).isSome = true ∧ elT P t = some (1, bytes) ∧ st.look r = some (.buf e false bs) := by
  unfold spOf at h
  split at h
  · repeat' (split at h)
    all_goals cases h
  · rename_i cl hop
    split at h
    · rename_i x y t' xT hc ha ht
      split at h
      · rename_i r' len' hx
        split at h
        · rename_i e' bs' hr
          split at h
          · rename_i s' hy
            split at h
            · rename_i R X hR hX
              split at h
              · rename_i b' z h1 h2 h3
                obtain rfl := hT _ _ hR
                obtain rfl := hT _ _ hX
                simp only [Sp.appB.injEq] at h
                obtain ⟨rfl, rfl, rfl, rfl, rfl, rfl, rfl⟩ := h
                have h3' : isStrK (skOf P xT) = true := h3
                have hxT : P.underlying xT = some .string := by
                  unfold skOf at h3'
                  split at h3' <;> first | assumption | (simp [isStrK] at h3')
                have h2' : ezT P t' = some z := h2
                exact ⟨cl, x, y, xT, hop, hc, by rw [← ha], by rw [← ht], hx, hy, hxT, by rw [h2']; rfl, h1, hr⟩
              · cases h
            · cases h
          · cases h
        · cases h
      · cases h
    all_goals (repeat' (split at h))
    all_goals cases h
  all_goals (repeat' (split at h))
  all_goals cases h
theorem spOf_allocA {o : Oper} {st : St} {t : Nat} (h : spOf tab o st = .allocA t) : o.op = .alloc t := by
  unfold spOf at h
  split at h
  case h_3 t' hop =>
    split at h
    · cases h; exact hop
    · cases h
  all_goals (repeat' (split at h))
  all_goals cases h
theorem spOf_idxA {o : Oper} {st : St} {t r : Nat} {xs : List (List D)} {j : Int} (h : spOf tab o st = .idxA t r xs j) : ∃ x y k fz, o.op = .indexAddr t x y ∧ opd0 st.sl x = .ptr r 0 0 ∧ opd0 st.sl y = .d (.sc (.int k j)) ∧ st.look r = some (.row 1 fz xs) := by
  unfold spOf at h
  split at h
  case h_4 t' x y hop =>
    split at h
    · split at h
      · rename_i r' k j' hx hy
        split at h
        · rename_i fz xs' hr
          cases h
          exact ⟨x, y, k, fz, hop, hx, hy, hr⟩
        · cases h
      · cases h
    · cases h
  all_goals (repeat' (split at h))
  all_goals cases h
theorem spOf_slcA {o : Oper} {st : St} {t r : Nat} {xs : List (List D)} {lo hi : Option Int} (h : spOf tab o st = .slcA t r xs lo hi) : ∃ x xlo xhi fz, o.op = .slice t x xlo xhi none ∧ opd0 st.sl x = .ptr r 0 0 ∧ bound? st.sl xlo = some lo ∧ bound? st.sl xhi = some hi ∧ st.look r = some (.row 1 fz xs) := by
  unfold spOf at h
  split at h
  case h_5 t' x xlo xhi hop =>
    split at h
    · split at h
      · rename_i r' l hh hx hl hh'
        split at h
        · rename_i fz xs' hr
          cases h
          exact ⟨x, xlo, xhi, fz, hop, hx, hl, hh', hr⟩
        · cases h
      · cases h
    · cases h
  all_goals (repeat' (split at h))
  all_goals cases h
theorem spOf_clrA {o : Oper} {st : St} {t r off len : Nat} {xs : List (List D)} (h : spOf tab o st = .clrA t r xs off len) : ∃ cl x, o.op = .call cl ∧ cl.callee = .builtin .clear ∧ cl.args = #[x] ∧ cl.argTypes = #[t] ∧ opd0 st.sl x = .ref r off len ∧ st.look r = some (.row 1 false xs) := by
  unfold spOf at h
  split at h
  case h_2 cl hop =>
    split at h
    · repeat' (split at h)
      all_goals cases h
    · rename_i x t' hc ha ht
      split at h
      · rename_i r' off' len' hx
        split at h
        · rename_i xs' hr
          cases h
          exact ⟨cl, x, hop, hc, Array.toList_inj.1 (by rw [ha]), Array.toList_inj.1 (by rw [ht]), hx, hr⟩
        · cases h
      · cases h
    · cases h
  all_goals (repeat' (split at h))
  all_goals cases h
theorem wStep_ok (hT : TabOk P tab) {ops : Array Oper} {i : Nat} {o : Oper} {st : St} {acc : List Eff} {K : List Eff → St → Prop} {k : Out → List Nat → Prop} (h : wStep P tab o st k) (ho : ops[i]? = some o) (hd : dstOk N o = true) (hg : guardV ops o st.sl = some true)
    (hk : ∀ out T, k out T → RW P N ops (i + 1) (st.put o.dst out) (acc ++ [⟨out.g.map (·.1), out.new.length, T⟩]) K) : RW P N ops i st acc K := by
  unfold wStep at h
  split at h
  · rename_i x c hc
    obtain ⟨h1, h2⟩ := calleeOf_some hc
    split at h
    · rename_i f caps hx
      obtain ⟨h⟩ := h
      obtain ⟨out, T, h1, h2, h3⟩ := h (bare o) st rfl ⟨c, x, caps, _, rfl, h1, h2, hx, sArgs_argR, rfl⟩
      exact RW.cons ho (dstOk_spec hd) (h1.at ho hg) h2 (hk out T h3)
    · exact h.elim
  · split at h
    · rename_i s hsp
      obtain ⟨a, d, x, e, hop, hx, ha, hd', he⟩ := spOf_strB hT hsp
      obtain ⟨n, v, rfl, rfl, h⟩ := h
      exact RW.cons ho (dstOk_spec hd) (OpSem.strB ho hg hop hx ha hd' he) (by simp) (hk _ _ h)
    · rename_i t r len e bytes bs s hsp
      obtain ⟨cl, x, y, xT, hop, hc, ha, ht, hx, hy, hxT, hz, hel, hr⟩ := spOf_appB hT hsp
      obtain ⟨n, v, hu, hl, h48, h62, rfl, rfl, h⟩ := h
      refine RW.cons ho (dstOk_spec hd) (OpSem.appB ho hg hop hc ha ht hx hy hxT hz hel hu hr hl h48 h62) ?_ (hk _ _ h)
      intro p hp
      have : p = (r, Root.dead) := by simpa using hp
      subst this
      have hlt : r < st.rt.length := (List.getElem?_eq_some_iff.1 (show st.rt[r]? = some _ from hr)).1
      show r < _
      omega
    · rename_i t r xs off len hsp
      obtain ⟨cl, x, hop, hc, ha, ht, hx, hr⟩ := spOf_clrA hsp
      obtain ⟨e, z, v, hu, hz, hn, rfl, h⟩ := h
      refine RW.cons ho (dstOk_spec hd) (OpSem.clrR ho hg hop hc ha ht hx hu hz hr hn) ?_ (hk _ _ h)
      intro p hp
      have : p = (r, Root.row 1 false (clrRow xs off len [.sc z])) := by simpa using hp
      subst this
      have hlt : r < st.rt.length := (List.getElem?_eq_some_iff.1 (show st.rt[r]? = some _ from hr)).1
      show r < _
      omega
    · rename_i t hsp
      obtain ⟨n, k', v, hz, rfl, h⟩ := h
      exact RW.cons ho (dstOk_spec hd) (OpSem.allocA ho hg (spOf_allocA hsp) hz) (by simp) (hk _ _ h)
    · rename_i t r xs j hsp
      obtain ⟨x, y, k', fz, hop, hx, hy, hr⟩ := spOf_idxA hsp
      obtain ⟨n, e, p, hu, hs, h0, h1, rfl, h⟩ := h
      exact RW.cons ho (dstOk_spec hd) (OpSem.idxA ho hg hop hx hy hu hs hr h0 h1) (by simp) (hk _ _ h)
    · rename_i t r xs lo hi hsp
      obtain ⟨x, xlo, xhi, fz, hop, hx, hlo, hhi, hr⟩ := spOf_slcA hsp
      obtain ⟨n, e, o', m, hu, hs, hn, h0, h1, h2, rfl, rfl, h⟩ := h
      exact RW.cons ho (dstOk_spec hd) (OpSem.slcA ho hg hop hx hlo hhi hu hs hr hn h0 h1 h2) (by simp) (hk _ _ h)
    · obtain ⟨out, hev, h⟩ := sv_ok hT h
      split at h
      · rename_i hall
        refine RW.cons ho (dstOk_spec hd) (OpSem.ev ho hg hev) ?_ (hk out _ h)
        intro p hp
        simpa [Nat.blt_eq] using List.all_eq_true.1 hall p hp
      · exact h.elim
theorem wOps_ok (hT : TabOk P tab) {ops : Array Oper} {K : List Eff → St → Prop} : ∀ {l : List Oper} {i : Nat} {st : St} {acc : List Eff}, (∀ (k : Nat) o, l[k]? = some o → ops[i + k]? = some o ∧ dstOk N o = true) → i + l.length = ops.size → wOps P tab (ops.toList.map (·.dst)) l st acc K → RW P N ops i st acc K
  | [], i, st, acc, _, hn, h => RW.done (by simpa using hn) h
  | o :: l, i, st, acc, hl, hn, h => by
    obtain ⟨ho, hd⟩ := hl 0 o rfl
    simp only [Nat.add_zero] at ho
    have hl' : ∀ (k : Nat) o, l[k]? = some o → ops[i + 1 + k]? = some o ∧ dstOk N o = true := by
      intro k' o' h'
      have := hl (k' + 1) o' (by simpa using h')
      rwa [show i + (k' + 1) = i + 1 + k' by omega] at this
    have hn' : i + 1 + l.length = ops.size := by simp at hn; omega
    have skip : ∀ {st : St}, guardV ops o st.sl = some false → wOps P tab (ops.toList.map (·.dst)) l (st.put o.dst ⟨.tup [], [], []⟩) (acc ++ [⟨[], 0, []⟩]) K → RW P N ops i st acc K :=
      fun hg hk => RW.cons ho (dstOk_spec hd) (OpSem.skip ho hg) (by simp) (wOps_ok hT hl' hn' hk)
    have step : ∀ {st : St}, guardV ops o st.sl = some true → wStep P tab o st (fun out T => wOps P tab (ops.toList.map (·.dst)) l (st.put o.dst out) (acc ++ [⟨out.g.map (·.1), out.new.length, T⟩]) K) → RW P N ops i st acc K :=
      fun hg hk => wStep_ok hT hk ho hd hg (fun out T hk => wOps_ok hT hl' hn' hk)
    simp only [wOps, guardD_eq] at h
    split at h
    · rename_i hg
      exact step (guardG_yes hg) h
    · rename_i t b hg
      obtain ⟨h1, h2⟩ := guardG_test hg
      cases b with
      | true =>
        simp only [br] at h
        rw [setS_same h1] at h
        exact step h2 h
      | false =>
        simp only [br] at h
        rw [setS_same h1] at h
        exact skip h2 h
    · rename_i t b hg
      obtain ⟨h1, h2⟩ := guardG_test hg
      cases b with
      | true =>
        simp only [br] at h
        rw [setS_same h1] at h
        exact skip h2 h
      | false =>
        simp only [br] at h
        rw [setS_same h1] at h
        exact step h2 h
    · rename_i hg
      exact skip (guardG_no hg) h
    · exact h.elim
theorem wc_ok (hT : TabOk P tab) (hm : P.follows .mixedOrders = true) : ∀ {code : Code} {Q : Exit → St → Prop} {st : St}, wc P tab N code Q st → AW P N code Q st := by
  intro code
  induction code with
  | skip => intro Q st h; exact AW.skip h
  | ret => intro Q st h; exact AW.ret h
  | exit id => intro Q st h; exact AW.exit h
  | label l => intro Q st h; exact AW.label h
  | seq a b iha ihb =>
    intro Q st h
    unfold wc at h
    split at h
    · exact h.h
    refine AW.seq ((iha h).mono ?_)
    intro e st' he
    cases e with
    | normal => exact ihb he
    | _ => exact he
  | cond x t e iht ihe =>
    intro Q st h
    simp only [wc] at h
    split at h
    · rename_i b hx
      refine AW.cond hx ?_ ?_
      · rintro rfl
        have h' := iht h
        rwa [known_same hx] at h'
      · rintro rfl
        have h' := ihe h
        rwa [known_same hx] at h'
    · rename_i p hx
      exact AW.condAny hx (fun hb => iht (h.1 hb)) (ihe h.2)
    · exact h.elim
  | block id b ih => intro Q st h; exact AW.block (ih h)
  | loop b ih => intro Q st h; obtain ⟨⟨h⟩⟩ := h; exact h
  | region id ops draw =>
    intro Q st h
    have key : ops.toList.all (dstOk N) = true ∧ wOps P tab (ops.toList.map (·.dst)) ops.toList st [] (fun effs st' => (draw = true → drawB ops N st.rt.length effs = true) ∧ Q .normal st') := by
      cases draw with
      | false =>
        simp only [wc, wReg, wRegD, ifB] at h
        split at h
        · rename_i hd
          refine ⟨hd, ?_⟩
          split at h
          · simpa using h
          · simpa using h
        · exact h.elim
      | true =>
        simp only [wc, wReg, wRegD, ifB] at h
        split at h
        · rename_i hd
          refine ⟨hd, ?_⟩
          split at h
          · have e : (fun effs st' => DrawW (fun _ => drawB ops N st.rt.length effs) fun _ => Q .normal st') = (fun effs st' => ((true = true → drawB ops N st.rt.length effs = true) ∧ Q .normal st')) := by
              funext effs st'
              exact propext ⟨fun q => ⟨fun _ => q.h, q.k⟩, fun q => ⟨q.1 rfl, q.2⟩⟩
            rw [← e]
            exact h
          have e : (fun effs st' => (match drawB ops N st.rt.length effs with | true => Q .normal st' | false => False)) = (fun effs st' => ((true = true → drawB ops N st.rt.length effs = true) ∧ Q .normal st')) := by
            funext effs st'
            cases drawB ops N st.rt.length effs <;> simp
          rw [← e]
          exact h
        · exact h.elim
    obtain ⟨hd, h⟩ := key
    refine AW.reg' ?_
    have hK := wOps_ok (N := N) hT (l := ops.toList) (i := 0) (fun k o hk => ⟨by simpa using hk, List.all_eq_true.1 hd o (List.mem_of_getElem? hk)⟩) (by simp) h
    obtain ⟨l, st', hw, hb, hk⟩ := hK
    exact ⟨l, st', hw, fun hdr => ⟨hm, hb hdr⟩, hk⟩
  | _ => intro Q st h; exact h.elim
theorem Fn.data {f : FuncId} {fn : Func} {body : Code} {as0 : List AV} {av : AV} (he : Entered P f) (hT : TabOk P tab) (hm : P.follows .mixedOrders = true) (hf : P.funcs[f]? = some fn) (hb : fn.body = some body) (hN : as0.length ≤ fn.ntmps)
    (hwa : AV.rens (keepRen 0) as0 = some as0) (h : ∀ P', P' = P → ∀ Q : Exit → St → Prop, (∀ e st, EndD P fn.results av e st → Q e st) → wc P' tab fn.ntmps body Q ⟨argSlots as0, []⟩) : Fn P f as0 [] ⟨av, [], []⟩ :=
  ⟨he, CallOk.of_bodyD hf hb hN hwa (wc_ok hT hm (h P rfl _ fun _ _ h => h))⟩
theorem Fn.gen {f : FuncId} {fn : Func} {body : Code} {as0 : List AV} {r0 : List Root} {o : Out} (he : Entered P f) (hT : TabOk P tab) (hm : P.follows .mixedOrders = true) (hf : P.funcs[f]? = some fn) (hb : fn.body = some body) (hN : as0.length ≤ fn.ntmps)
    (hwa : AV.rens (keepRen r0.length) as0 = some as0) (hwr : rootsRen (keepRen r0.length) r0 = some r0) (h : ∀ P', P' = P → ∀ Q : Exit → St → Prop, (∀ e st, EndQ P fn.results r0 o e st → Q e st) → wc P' tab fn.ntmps body Q ⟨argSlots as0, r0⟩) : Fn P f as0 r0 o :=
  ⟨he, CallOk.of_body hf hb hN hwa hwr (wc_ok hT hm (h P rfl _ fun _ _ h => h))⟩
end
section
variable {P P' : Program} {f : FuncId} {ys as0 : List AV} {rt : List Root} {K : Out → List Nat → Prop}
theorem CallW.dd {av : AV} (hP : P' = P) (h : Fn P f ys [] ⟨av, [], []⟩) (k : K ⟨av, [], []⟩ []) (hd : AV.isDs ys = true := by rfl) (hav : av.isDT = true := by rfl) : CallW P' f ys rt K := by
  subst hP
  refine ⟨fun o st hst hc => ?_⟩
  obtain ⟨cl, x, caps, ys0, hgd, hop, hcl, hx, ha, rfl⟩ := hc
  exact ClW.dd hgd hop hcl hx ha hd h.ent h.ok hav k
theorem CallW.ddA {o0 out : Out} (hP : P' = P) (h : Fn P f ys [] o0) (hog : out.g = []) (hren : o0.ren (callRen [] rt.length o0.new.length) = some out) (hfa : out.av.flat = true) (hfn : out.new.all Root.flat = true) (k : K out []) (hd : AV.isDs ys = true := by rfl) : CallW P' f ys rt K := by
  subst hP
  refine ⟨fun o st hst hc => ?_⟩
  subst hst
  obtain ⟨cl, x, caps, ys0, hgd, hop, hcl, hx, ha, rfl⟩ := hc
  exact ClW.ddA hgd hop hcl hx ha hd h.ent h.ok hren hog hfa hfn k
theorem CallW.lnt {av : AV} (hP : P' = P) (h : Fn P f as0 [] ⟨av, [], []⟩) (hl : LendL (fun r => rt[r]?) ys as0) (k : K ⟨av, [], []⟩ (AV.idss ys)) (hav : av.isDT = true := by rfl) (hfl : av.flat = true := by rfl) : CallW P' f ys rt K := by
  subst hP
  refine ⟨fun o st hst hc => ?_⟩
  subst hst
  obtain ⟨cl, x, caps, ys0, hgd, hop, hcl, hx, ha, rfl⟩ := hc
  exact ClW.lnt hgd hop hcl hx ha hl h.ent h.ok hav hfl k
end
end Go.Proofs.YtmhinjjgpabkfaaGreatDoor.Ab
namespace Go.Proofs.YtmhinjjgpabkfaaGreatDoor.Ab
open Go
def rnR (r n : Nat) (R : Root) : Root := (R.ren (mvF r n)).getD R
theorem rnR_kind {r n : Nat} {R : Root} : (rnR r n R).kind = R.kind := by
  unfold rnR
  cases h : R.ren (mvF r n) with
  | none => rfl
  | some R' => exact ren_kind h
theorem rnR_dead {r n : Nat} {R : Root} : rnR r n R = .dead ↔ R = .dead := by rw [← kind_dead, rnR_kind, kind_dead]
section
variable {N : Nat} {st : St}
theorem Holds.move2 {c : Ctx} {Ei : Env} {a : Act} {w : World} (h : Holds c Ei N st a w) {r : Nat} {R00 : Root} (hcl : ∀ f, R00.ren f = some R00) (hr : st.rt[r]? = some R00) :
    Holds c Ei N ⟨mvS r st.rt.length st.sl, ((st.rt.map (rnR r st.rt.length)).set r .dead) ++ [R00]⟩ a w := by
  obtain ⟨E, rfl, hM, hSt, hrt, hpr, hsl, hdef, hsz, hm⟩ := h
  have hlt : r < st.rt.length := (List.getElem?_eq_some_iff.1 hr).1
  generalize hn : st.rt.length = n at *
  have hER : E.rt r = some R00 := by rw [hrt]; exact hr
  have hEn : ∀ x, E.rt x ≠ none → x < n := by
    intro x hx
    rw [hrt] at hx
    rcases Nat.lt_or_ge x n with h | h
    · exact h
    · exact absurd (List.getElem?_eq_none (by omega)) hx
  let rt' := ((st.rt.map (rnR r n)).set r .dead) ++ [R00]
  have hl' : rt'.length = n + 1 := by simp [rt', hn]
  have get' : ∀ x, rt'[x]? = if x = r then some .dead else if x = n then some R00 else (E.rt x).map (rnR r n) := by
    intro x
    show (((st.rt.map (rnR r n)).set r .dead) ++ [R00])[x]? = _
    by_cases h1 : x = r
    · subst h1
      rw [if_pos rfl, List.getElem?_append_left (by simp; omega), List.getElem?_set_self (by simp; omega)]
    · rw [if_neg h1]
      by_cases h2 : x = n
      · subst h2
        rw [if_pos rfl, List.getElem?_append_right (by simp; omega)]
        simp [hn]
      · rw [if_neg h2]
        by_cases h3 : x < n
        · rw [List.getElem?_append_left (by simp; omega), List.getElem?_set_ne (fun e => h1 e.symm), List.getElem?_map, hrt]; rfl
        · rw [List.getElem?_eq_none (by simp; omega)]
          cases hx : E.rt x with
          | none => rfl
          | some R => exact absurd (hEn x (by rw [hx]; simp)) h3
  let E' : Env := ⟨fun x => rt'[x]?, fun x => x < rt'.length, fun x => if x = n then E.β r else E.β x, E.S, E.w⟩
  have e_rt : ∀ x, E'.rt x = if x = r then some .dead else if x = n then some R00 else (E.rt x).map (rnR r n) := get'
  have e_pr : ∀ x, E'.pres x ↔ x < n + 1 := by intro x; show x < rt'.length ↔ _; rw [hl']
  have e_β : ∀ x, E'.β x = if x = n then E.β r else E.β x := fun _ => rfl
  have hrn : r ≠ n := by omega
  have st1 : Step E E' := by
    refine ⟨?_, ?_, ?_, fun _ h => h, fun _ _ => rfl, fun _ _ h => h⟩
    · intro x R hx
      rw [e_rt]
      by_cases h1 : x = r
      · subst h1; exact ⟨.dead, if_pos rfl, .inl rfl⟩
      · have := hEn x (by rw [hx]; simp)
        exact ⟨rnR r n R, by rw [if_neg h1, if_neg (by omega), hx]; rfl, .inr rnR_kind⟩
    · intro x hx
      rw [e_pr]
      have := (hpr x).1 hx
      omega
    · intro x hx
      have := (hpr x).1 hx
      rw [e_β, if_neg (by omega)]
  have hC : Conn (mvF r n) E E' := by
    have cases : ∀ {x x'}, mvF r n x = some x' → (x = r ∧ x' = n) ∨ (x ≠ r ∧ x < n ∧ x' = x) := by
      intro x x' h
      unfold mvF at h
      split at h
      · rename_i e; exact .inl ⟨e, (Option.some.inj h).symm⟩
      · rename_i e
        split at h
        · rename_i e2; exact .inr ⟨e, e2, (Option.some.inj h).symm⟩
        · cases h
    refine ⟨rfl, fun _ h => h, ?_, ?_, ?_⟩
    · intro x x' h
      rcases cases h with ⟨rfl, rfl⟩ | ⟨h1, h2, rfl⟩
      · rw [e_rt, if_neg (fun e => hrn e.symm), if_pos rfl, hER]
      · rw [e_rt, if_neg h1, if_neg (by omega), Option.map_map]
        congr 1
        funext R
        exact rnR_kind
    · intro x x' h
      rcases cases h with ⟨rfl, rfl⟩ | ⟨h1, h2, rfl⟩
      · rw [e_pr, hpr]; omega
      · rw [e_pr, hpr]; omega
    · intro x x' h _
      rcases cases h with ⟨rfl, rfl⟩ | ⟨h1, h2, rfl⟩
      · rw [e_β, if_pos rfl]
      · rw [e_β, if_neg (by omega)]
  have src : ∀ {x R}, E'.rt x = some R → R ≠ .dead → ∃ y R0, E.rt y = some R0 ∧ R0 ≠ .dead ∧ E.pres y ∧ E'.β x = E.β y ∧ ((x = n ∧ y = r ∧ R = R0) ∨ (x ≠ r ∧ x < n ∧ y = x ∧ R = rnR r n R0)) := by
    intro x R hx hd
    rw [e_rt] at hx
    by_cases h1 : x = r
    · rw [if_pos h1] at hx; exact absurd (Option.some.inj hx).symm hd
    · rw [if_neg h1] at hx
      by_cases h2 : x = n
      · rw [if_pos h2] at hx
        exact ⟨r, R, hER.trans hx, hd, (hpr r).2 hlt, by rw [e_β, if_pos h2], .inl ⟨h2, rfl, rfl⟩⟩
      · rw [if_neg h2] at hx
        obtain ⟨R0, hR0, rfl⟩ := Option.map_eq_some_iff.1 hx
        have h3 := hEn x (by rw [hR0]; simp)
        exact ⟨x, R0, hR0, fun e => hd (rnR_dead.2 e), (hpr x).2 h3, by rw [e_β, if_neg h2], .inr ⟨h1, h3, rfl, rfl⟩⟩
  have hM' : Mem c E' := {
    os := hM.os
    output := hM.output
    tape := hM.tape
    size := hM.size
    keep := hM.keep
    shape := hM.shape
    s0 := hM.s0
    slt := hM.slt
    glob := hM.glob
    snew := hM.snew
    blt := by
      intro x b hp hb
      rw [e_pr] at hp
      rw [e_β] at hb
      by_cases h2 : x = n
      · rw [if_pos h2] at hb; exact hM.blt r b ((hpr r).2 hlt) hb
      · rw [if_neg h2] at hb; exact hM.blt x b ((hpr x).2 (by omega)) hb
    bown := by
      intro x R b hp hR hd hb
      obtain ⟨y, R0, h1, hd0, h2, h3, _⟩ := src hR hd
      rw [h3] at hb
      exact hM.bown y R0 b h2 h1 hd0 hb
    bkeep := by
      intro x R hx hp hR hd
      obtain ⟨y, R0, h1, hd0, h2, h3, h4⟩ := src hR hd
      rcases h4 with ⟨h4, _⟩ | ⟨_, _, rfl, _⟩
      · omega
      · rw [h3]; exact hM.bkeep y R0 hx h2 h1 hd0
    inj := by
      intro x x' R R' b hp hp' hR hd hR' hd' hb hb'
      obtain ⟨y, R0, h1, hd0, h2, h3, h4⟩ := src hR hd
      obtain ⟨y', R0', h1', hd0', h2', h3', h4'⟩ := src hR' hd'
      rw [h3] at hb
      rw [h3'] at hb'
      have := hM.inj y y' R0 R0' b h2 h2' h1 hd0 h1' hd0' hb hb'
      rcases h4 with ⟨e1, e2, _⟩ | ⟨e1, e2, e3, _⟩ <;> rcases h4' with ⟨e1', e2', _⟩ | ⟨e1', e2', e3', _⟩
      · omega
      · omega
      · omega
      · omega
    roots := by
      intro x R hp hR
      by_cases hd : R = .dead
      · subst hd; trivial
      obtain ⟨y, R0, h1, hd0, h2, h3, h4⟩ := src hR hd
      rcases h4 with ⟨e1, e2, e3⟩ | ⟨e1, e2, e3, e4⟩
      · subst e2 e3
        rw [hER] at h1
        obtain rfl := Option.some.inj h1
        exact RootRel.conn hC (fun _ h => h) (show mvF y n y = some x by rw [e1]; exact if_pos rfl) h2 (hcl _) (hM.roots y _ h2 hER)
      · subst e3 e4
        have hx := hM.roots y R0 h2 h1
        unfold rnR
        cases hren : R0.ren (mvF r n) with
        | none => exact RootRel.step st1 h2 (fun _ _ => rfl) (fun _ _ h => h) hx
        | some R1 => exact RootRel.conn hC (fun _ h => h) (show mvF r n y = some y by unfold mvF; rw [if_neg e1, if_pos e2]) h2 hren hx }
  refine ⟨E', rfl, hM', hSt.trans st1, rfl, fun _ => Iff.rfl, ?_, hdef, hsz, ?_⟩
  · intro t
    show RelAV E' (((st.sl t).ren (mvF r n)).getD .junk) _
    cases hx : (st.sl t).ren (mvF r n) with
    | none => exact .junk _
    | some y => exact RelAV.conn hC (hsl t) hx
  · show c.m ≤ rt'.length
    omega
end
end Go.Proofs.YtmhinjjgpabkfaaGreatDoor.Ab
