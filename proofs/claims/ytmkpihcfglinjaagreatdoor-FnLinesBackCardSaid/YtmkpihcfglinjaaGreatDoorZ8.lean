/- A relation between the machine and an abstract state, evaluators for single operations and for code, proved sound (part 8). No conditions. -/
import Derived.Lib.ConvBytes
import Derived.Laws.AppendOwn
import Derived.Test.YtmkpihcfglinjaaGreatDoorZ7
set_option linter.unusedVariables false
set_option linter.unusedSimpArgs false
namespace Go.Proofs.YtmkpihcfglinjaaGreatDoor.Ab
open Go
theorem bytes_yields {P : Program} {c : Ctx} {E : Env} (hM : Mem c E) {nb : Nat} {s d e : TypeId} {u : TypeDesc} {str : ByteArray} (hs : P.underlying s = some u) (hd : P.underlying d = some (.slice e)) (he : P.underlying e = some (.int .u8))
    (hF : Fresh c E nb [.row 1 false (strRow str)]) : Yields1 c P E nb (.ref nb 0 str.size, [.row 1 false (strRow str)]) (convert s d (.string str)) := by
  have hnew := Lib.bytesWorld_at_new E.w e str
  have g : Grow E.w (Lib.bytesWorld E.w e str) (.cells (Lib.bytesCells E.w e str) e ((Lib.bytesCells E.w e str).size, (Lib.bytesCells E.w e str).size + 1)) := by
    refine ⟨?_, rfl, rfl, rfl⟩
    refine Array.ext_getElem? ?_
    intro j
    rw [Array.getElem?_push]
    split
    · rename_i h; subst h; exact hnew
    · rename_i h
      by_cases hj : j < E.w.heap.size
      · exact Lib.bytesWorld_at_old E.w e str j hj
      · rw [Array.getElem?_eq_none (by rw [Lib.bytesWorld_size]; omega), Array.getElem?_eq_none (by omega)]
  have hlen : (strRow str).length = str.size := by unfold strRow; rw [List.length_map]; exact Array.length_toList
  have hsz : str.size ≤ (Lib.bytesCells E.w e str).size := by
    unfold Lib.bytesCells
    rw [Array.size_append, Array.size_map]
    show str.data.size ≤ _
    omega
  have hcap : grownCap E.w str.size 0 e ≤ (Lib.bytesCells E.w e str).size := by
    unfold Lib.bytesCells
    rw [Array.size_append, Array.size_map, Array.size_replicate]
    show _ ≤ str.data.size + _
    have : str.size = str.data.size := rfl
    omega
  have hcap0 : str.size ≤ grownCap E.w str.size 0 e := grownCap_ge _ _ _ _
  obtain ⟨q, hrel⟩ := rowed hM (r := nb) (sz := 1) (xs := strRow str) (t := e) (by simpa using hF.rt 0 _ rfl) (by simpa using hF.np 0 (by simp)) hF.m g ⟨fun o ho hh => by omega, .inl rfl⟩
    (by intro i x hx; obtain ⟨b, _, rfl⟩ := List.mem_map.1 (List.mem_of_getElem? hx); rfl)
    (by rw [hlen]; omega)
    (by
      intro i x j y hx hy
      unfold strRow at hx
      rw [List.getElem?_map] at hx
      obtain ⟨b, hb, rfl⟩ := Option.map_eq_some_iff.1 hx
      cases j with
      | succ j => simp at hy
      | zero =>
        simp at hy
        subst hy
        refine ⟨.int .u8 b.toNat, ?_, .sc _ rfl⟩
        have hi : i < str.data.size := by have := (List.getElem?_eq_some_iff.1 hb).1; simpa using this
        rw [show i * 1 + 0 = i by omega]
        unfold Lib.bytesCells
        rw [Array.getElem?_append_left (by simpa using hi), Array.getElem?_map]
        rw [Array.getElem?_toList] at hb
        rw [hb]
        rfl)
  refine ⟨_, _, Lib.run_convert_string_bytes E.w s d e str hs hd he, q, hrel _ _ hcap0 (by omega)⟩
theorem OpSem.strB {P : Program} {ops : Array Oper} {i nb : Nat} {o : Oper} {sl : Nat → AV} {rt : Nat → Option Root} {s d e : TypeId} {u : TypeDesc} {x : Operand} {str : ByteArray} (ho : ops[i]? = some o) (hg : guardV ops o sl = some true) (hop : o.op = .convert s d x)
    (hx : opd0 sl x = .d (.sc (.string str))) (hs : P.underlying s = some u) (hd : P.underlying d = some (.slice e)) (he : P.underlying e = some (.int .u8)) : OpSem P ops i [] sl rt nb ⟨.ref nb 0 str.size, [.row 1 false (strRow str)], []⟩ := by
  refine ⟨o, ho, ?_⟩
  intro c E a hM hl hT hnb hF K Q k
  unfold wpOp
  rw [ho]
  simp only [guardV_wanted hl hg, if_true]
  obtain ⟨hsl, hop0⟩ := opd0_junk hl
  have hv := opd0_rel hsl x
  rw [← hop0 x (by rw [hop]; simp [Op.operands]), hx] at hv
  have hval := relSc hv
  refine .inl (Done.wp ?_ k)
  refine Done.of (r := (.ref nb 0 str.size, [.row 1 false (strRow str)])) (s := convert s d (.string str)) (bytes_yields hM hs hd he hF) ?_
  simp [execOp, hop, hval]
theorem Mem.recast {c : Ctx} {E : Env} (hM : Mem c E) {rt1 : Nat → Option Root} (h1 : ∀ x R, E.rt x = some R → ∃ R', rt1 x = some R' ∧ R'.kind = R.kind) (h2 : ∀ x R', rt1 x = some R' → ∃ R, E.rt x = some R ∧ R'.kind = R.kind)
    (h3 : ∀ x R', E.pres x → rt1 x = some R' → RootRel E x R') : Mem c { E with rt := rt1 } ∧ Step E { E with rt := rt1 } ∧ Step { E with rt := rt1 } E := by
  have st : Step E { E with rt := rt1 } := ⟨fun x R h => by obtain ⟨R', a, b⟩ := h1 x R h; exact ⟨R', a, .inr b⟩, fun _ h => h, fun _ _ => rfl, fun _ h => h, fun _ _ => rfl, fun _ _ h => h⟩
  have st' : Step { E with rt := rt1 } E := ⟨fun x R h => by obtain ⟨R', a, b⟩ := h2 x R h; exact ⟨R', a, .inr b.symm⟩, fun _ h => h, fun _ _ => rfl, fun _ h => h, fun _ _ => rfl, fun _ _ h => h⟩
  have dd : ∀ {R R' : Root}, R'.kind = R.kind → R' ≠ .dead → R ≠ .dead := by
    intro R R' hk hd e
    exact hd (kind_dead.1 (hk.trans (kind_dead.2 e)))
  refine ⟨{ os := hM.os, output := hM.output, tape := hM.tape, size := hM.size, keep := hM.keep, shape := hM.shape, s0 := hM.s0, slt := hM.slt, snew := hM.snew, glob := hM.glob, blt := hM.blt, bown := ?_, bkeep := ?_, inj := ?_, roots := ?_ }, st, st'⟩
  · intro r R b hp hr hd hb
    obtain ⟨R0, a, k⟩ := h2 r R hr
    exact hM.bown r R0 b hp a (dd k hd) hb
  · intro r R hm hp hr hd
    obtain ⟨R0, a, k⟩ := h2 r R hr
    exact hM.bkeep r R0 hm hp a (dd k hd)
  · intro r r' R R' b hp hp' hr hd hr' hd' hb hb'
    obtain ⟨R0, a, k⟩ := h2 r R hr
    obtain ⟨R1, a', k'⟩ := h2 r' R' hr'
    exact hM.inj r r' R0 R1 b hp hp' a (dd k hd) a' (dd k' hd') hb hb'
  · intro r R hp hr
    exact (h3 r R hp hr).step st hp (fun _ _ => rfl) (fun _ _ h => h)
theorem cB_at {bs : List UInt8} {i j : Nat} {x : List D} {y : D} (hx : (bs.map cB)[i]? = some x) (hy : x[j]? = some y) : j = 0 ∧ ∃ u : UInt8, bs[i]? = some u ∧ y = .sc (.int .u8 u.toNat) := by
  rw [List.getElem?_map] at hx
  obtain ⟨u, hu, rfl⟩ := Option.map_eq_some_iff.1 hx
  cases j with
  | succ j => simp [cB] at hy
  | zero => simp [cB] at hy; exact ⟨rfl, u, hu, hy.symm⟩
theorem append_buf {P : Program} {c : Ctx} {E : Env} (hM : Mem c E) {nb t xT ty r len e inf_bytes : Nat} {bs : List UInt8} {s : ByteArray} {vs : Value} (hx : P.underlying xT = some .string) (hz : (ezT P t).isSome = true) (hel : elT P t = some (1, inf_bytes))
    (hu : P.underlying t = some (.slice e)) (hr : E.rt r = some (.buf e false bs)) (hs : RelAV E (.ref r 0 len) vs) (hlen : len = bs.length) (h48 : (2 * (bs.length + s.size) + 1024) * inf_bytes ≤ 2 ^ 48) (h62 : bs.length + s.size < 2 ^ 62)
    (hp : E.pres r) (hF : Fresh c E nb [.buf e false (bs ++ s.data.toList)]) :
    ∃ v E', (Builtin.append_ #[t, xT] ty #[vs, .string s]).run P E.w = .ok v E'.w ∧ Appended c E nb r E' ∧ RelAV E' (.ref nb 0 (bs.length + s.size)) v := by
  have hstr : strRow s = s.data.toList.map cB := rfl
  have hsl : (strRow s).length = s.size := by rw [hstr, List.length_map]; exact Array.length_toList
  have hnb : E.rt nb = some (.buf e false (bs ++ s.data.toList)) := by simpa using hF.rt 0 _ rfl
  have hnp : ¬ E.pres nb := by simpa using hF.np 0 (by simp)
  have hne : nb ≠ r := by rintro rfl; exact hnp hp
  obtain ⟨hM1, st, st'⟩ := hM.recast (rt1 := fun x => if x = r then some (.row 1 false (bs.map cB)) else if x = nb then some (.row 1 false (bs.map cB ++ strRow s)) else E.rt x)
    (by
      intro x R hR
      by_cases h : x = r
      · subst h; rw [hr] at hR; obtain rfl := Option.some.inj hR; exact ⟨_, if_pos rfl, rfl⟩
      · by_cases h' : x = nb
        · subst h'; rw [hnb] at hR; obtain rfl := Option.some.inj hR; exact ⟨.row 1 false (bs.map cB ++ strRow s), by rw [if_neg h, if_pos rfl], rfl⟩
        · exact ⟨R, by rw [if_neg h, if_neg h']; exact hR, rfl⟩)
    (by
      intro x R hR
      by_cases h : x = r
      · subst h; rw [if_pos rfl] at hR; obtain rfl := Option.some.inj hR; exact ⟨_, hr, rfl⟩
      · rw [if_neg h] at hR
        by_cases h' : x = nb
        · subst h'; rw [if_pos rfl] at hR; obtain rfl := Option.some.inj hR; exact ⟨_, hnb, rfl⟩
        · rw [if_neg h'] at hR; exact ⟨R, hR, rfl⟩)
    (by
      intro x R hpx hR
      by_cases h : x = r
      · subst h
        rw [if_pos rfl] at hR
        obtain rfl := Option.some.inj hR
        rcases hM.roots x _ hpx hr with ⟨h1, h2⟩ | ⟨b, cs, fr, h1, h2, h3, h4, h5, h6⟩
        · exact .inl ⟨h1, by rw [h2]; rfl⟩
        · refine .inr ⟨b, cs, e, fr, h1, h2, ?_, by simpa using h3, ?_, .inr ⟨rfl, h5, h6 rfl, .inl rfl⟩⟩
          · intro i y hy
            obtain ⟨u, _, rfl⟩ := List.mem_map.1 (List.mem_of_getElem? hy)
            rfl
          · intro i y j z hy hz'
            obtain ⟨rfl, u, hu', rfl⟩ := cB_at hy hz'
            exact ⟨_, by simpa using h4 i u hu', .sc _ rfl⟩
      · rw [if_neg h] at hR
        by_cases h' : x = nb
        · subst h'; exact absurd hpx hnp
        · rw [if_neg h'] at hR; exact hM.roots x R hpx hR)
  generalize hE1 : ({ E with rt := _ } : Env) = E1 at hM1 st st'
  have e1r : E1.rt r = some (.row 1 false (bs.map cB)) := by rw [← hE1]; exact if_pos rfl
  have e1n : E1.rt nb = some (.row 1 false (bs.map cB ++ strRow s)) := by rw [← hE1]; show (if nb = r then _ else _) = _; rw [if_neg hne, if_pos rfl]
  have e1o : ∀ x, x ≠ r → x ≠ nb → E1.rt x = E.rt x := by intro x h1 h2; rw [← hE1]; show (if x = r then _ else _) = _; rw [if_neg h1, if_neg h2]
  have e1w : E1.w = E.w := by rw [← hE1]
  have e1p : E1.pres = E.pres := by rw [← hE1]
  have e1b : E1.β = E.β := by rw [← hE1]
  have e1S : E1.S = E.S := by rw [← hE1]
  have hF1 : Fresh c E1 nb [.row 1 false (bs.map cB ++ strRow s)] := ⟨hF.m, fun k R hk => by
      cases k with
      | zero => simp at hk; subst hk; exact e1n
      | succ k => simp at hk, fun k hk => by
      have : k = 0 := by simpa using hk
      subst this
      rw [e1p]; exact hnp⟩
  have hev : evAppend E1.rt nb (elT P t) (.ref r 0 len) (.d (.sc (.string s))) = some (.ref nb 0 ((bs.map cB).length + (strRow s).length), [.row 1 false (bs.map cB ++ strRow s)], r) := by
    simp only [evAppend, e1r, AV.src, Option.bind_some, hel]
    rw [if_pos (by refine ⟨trivial, ?_, trivial, trivial, ?_, ?_⟩ <;> simp only [List.length_map, hsl] <;> assumption)]
  obtain ⟨v, E2, hrun, hA, hrel, hty⟩ := evAppend_sound (ty := ty) hM1 (.inr hx) hz (hs.step st) (.d _ _ (.sc (.string s) rfl)) hev hF1
  have hlb : (bs.map cB).length + (strRow s).length = bs.length + s.size := by rw [hsl, List.length_map]
  rw [hlb] at hrel
  have e2 : ∀ x, E2.rt x = (E1.kill r).rt x := fun x => by rw [hA.rt]
  have kr : ∀ x, (E.kill r).rt x = if x = r then some .dead else E.rt x := fun x => rfl
  have kr1 : ∀ x, (E1.kill r).rt x = if x = r then some .dead else E1.rt x := fun x => rfl
  have hpn : E2.pres nb := (hA.pres nb).2 (.inr rfl)
  obtain ⟨hM2, st2, st2'⟩ := hA.mem.recast (rt1 := (E.kill r).rt)
    (by
      intro x R hR
      rw [e2, kr1] at hR
      rw [kr]
      by_cases h : x = r
      · rw [if_pos h] at hR ⊢; exact ⟨R, hR, rfl⟩
      · rw [if_neg h] at hR ⊢
        by_cases h' : x = nb
        · subst h'; rw [e1n] at hR; obtain rfl := Option.some.inj hR; exact ⟨_, hnb, rfl⟩
        · rw [e1o x h h'] at hR; exact ⟨R, hR, rfl⟩)
    (by
      intro x R hR
      rw [kr] at hR
      simp only [e2, kr1]
      by_cases h : x = r
      · rw [if_pos h] at hR ⊢; exact ⟨R, hR, rfl⟩
      · rw [if_neg h] at hR ⊢
        by_cases h' : x = nb
        · subst h'; rw [hnb] at hR; obtain rfl := Option.some.inj hR; exact ⟨_, e1n, rfl⟩
        · rw [e1o x h h']; exact ⟨R, hR, rfl⟩)
    (by
      intro x R hpx hR
      rw [kr] at hR
      by_cases h : x = r
      · rw [if_pos h] at hR; obtain rfl := Option.some.inj hR; trivial
      · rw [if_neg h] at hR
        by_cases h' : x = nb
        · subst h'
          rw [hnb] at hR
          obtain rfl := Option.some.inj hR
          have hroot := hA.mem.roots x _ hpn (by rw [e2, kr1, if_neg h]; exact e1n)
          rcases hroot with ⟨h1, h2⟩ | ⟨b, cs, tt, fr, h1, h2, h3, h4, h5, h6⟩
          · refine .inl ⟨h1, ?_⟩
            rw [hstr, ← List.map_append] at h2
            simpa using h2
          · have htt : tt = e := by
              have key : ∃ n, E2.w.shape? b = some (e, n) := by
                rcases hty e hu b h1 with hb | hb
                · rw [e1b] at hb
                  rcases hM.roots r _ hp hr with ⟨g1, _⟩ | ⟨b', cs', fr', g1, g2, _⟩
                  · rw [g1] at hb; cases hb
                  · rw [g1] at hb
                    obtain rfl := Option.some.inj hb
                    exact ⟨_, hA.step.shape b' _ (by rw [e1w]; unfold World.shape?; rw [g2])⟩
                · exact hb
              obtain ⟨n, hn⟩ := key
              unfold World.shape? at hn
              rw [h2] at hn
              simp only [Option.some.injEq, Prod.mk.injEq] at hn
              exact hn.1
            subst htt
            rw [hstr, ← List.map_append] at h4 h5
            refine .inr ⟨b, cs, fr, h1, h2, by simpa using h4, ?_, ?_⟩
            · intro i u hu'
              obtain ⟨w', hw, hd⟩ := h5 i (cB u) 0 (.sc (.int .u8 u.toNat)) (by rw [List.getElem?_map, hu']; rfl) rfl
              cases hd
              simpa using hw
            · rcases h6 with ⟨h6, _⟩ | ⟨_, h7, h8⟩
              · cases h6
              · exact ⟨h7, fun _ => h8.1⟩
        · rw [← e1o x h h'] at hR
          exact hA.mem.roots x R hpx (by rw [e2, kr1, if_neg h]; exact hR))
  refine ⟨v, _, ?_, ⟨hM2, (st.trans hA.step).trans st2, rfl, ?_, ?_, ?_⟩, hrel.step st2⟩
  · rw [e1w] at hrun; exact hrun
  · intro x
    have := hA.pres x
    rw [e1p] at this
    exact this
  · show E2.S = E.S
    rw [hA.S, e1S]
  · have := hA.size
    rw [e1w] at this
    exact this
theorem OpSem.appB {P : Program} {ops : Array Oper} {i nb : Nat} {o : Oper} {sl : Nat → AV} {rt : Nat → Option Root} {cl : Call} {x y : Operand} {t xT r len e bytes : Nat} {bs : List UInt8} {str : ByteArray} (ho : ops[i]? = some o) (hg : guardV ops o sl = some true) (hop : o.op = .call cl)
    (hc : cl.callee = .builtin .append) (ha : cl.args = #[x, y]) (ht : cl.argTypes = #[t, xT]) (hx : opd0 sl x = .ref r 0 len) (hy : opd0 sl y = .d (.sc (.string str))) (hxT : P.underlying xT = some .string) (hz : (ezT P t).isSome = true) (hel : elT P t = some (1, bytes))
    (hu : P.underlying t = some (.slice e)) (hr : rt r = some (.buf e false bs)) (hlen : len = bs.length) (h48 : (2 * (bs.length + str.size) + 1024) * bytes ≤ 2 ^ 48) (h62 : bs.length + str.size < 2 ^ 62) :
    OpSem P ops i [r] sl rt nb ⟨.ref nb 0 (bs.length + str.size), [.buf e false (bs ++ str.data.toList)], [(r, .dead)]⟩ := by
  refine ⟨o, ho, ?_⟩
  intro c E a hM hl hT hnb hF K Q k
  unfold wpOp
  rw [ho]
  simp only [guardV_wanted hl hg, if_true]
  obtain ⟨hsl, hop0⟩ := opd0_junk hl
  have hv := opd0_rel hsl x
  rw [← hop0 x (by rw [hop]; simp [Op.operands, Call.operands, hc, ha]), hx] at hv
  have hw := opd0_rel hsl y
  rw [← hop0 y (by rw [hop]; simp [Op.operands, Call.operands, hc, ha]), hy] at hw
  have hval := relSc hw
  have hr' : E.rt r = some (.buf e false bs) := by
    rcases hT r (by simp) with h | h
    · rw [h] at hr; cases hr
    · rw [h]; exact hr
  have hp : E.pres r := pres_of_ids hv (by simp [AV.ids]) hr' (by simp)
  obtain ⟨v, E', hrun, hA, hrel⟩ := append_buf (ty := o.type) hM hxT hz hel hu hr' hv hlen h48 h62 hp hF
  refine .inl (Done.wp ?_ k)
  refine ⟨v, E', .inl ?_, hA.mem, hA.step, ?_, ?_, hA.size, hrel⟩
  · simp [execOp, hop, resolve, hc, ha, ht, invoke, builtin, hval, hrun]
  · rw [hA.rt]; rfl
  · intro z
    rw [hA.pres]
    constructor
    · rintro (h | rfl)
      · exact .inl h
      · exact .inr ⟨Nat.le_refl _, by simp⟩
    · rintro (h | ⟨h1, h2⟩)
      · exact .inl h
      · have h2' : z < nb + 1 := by simpa using h2
        exact .inr (by omega)
end Go.Proofs.YtmkpihcfglinjaaGreatDoor.Ab
namespace Go.Proofs.YtmkpihcfglinjaaGreatDoor.Ab
open Go
theorem allocA_yields {P : Program} {c : Ctx} {E : Env} (hM : Mem c E) {nb : Nat} {t : TypeId} {n : Nat} {k : IntKind} (hz : zeroT P t = some (List.replicate n (.int k 0, 0))) (hF : Fresh c E nb [.row 1 false (List.replicate n [.sc (.int k 0)])]) :
    Yields1 c P E nb (.ptr nb 0 0, [.row 1 false (List.replicate n [.sc (.int k 0)])]) (Instr.alloc t true (.tuple #[])) := by
  obtain ⟨z, hrun, hcells, h1, _⟩ := run_zeroValue (w := E.w) hz
  have hsz : z.cells.size = n := by rw [← Array.length_toList, hcells]; simp
  have hcell : ∀ i, i < n → z.cells[i]? = some (.int k 0) := by
    intro i hi
    rw [← Array.getElem?_toList, hcells, List.getElem?_map, List.getElem?_replicate, if_pos hi]
    rfl
  have hrt : E.rt nb = some (.row 1 false (List.replicate n [.sc (.int k 0)])) := by simpa using hF.rt 0 _ rfl
  obtain ⟨q, _⟩ := rowed hM (r := nb) (sz := 1) (xs := List.replicate n [.sc (.int k 0)]) (t := t) (cs := z.cells) (fr := (0, 0)) (w' := E.w.alloc (.cells z.cells t)) hrt
    (by simpa using hF.np 0 (by simp)) hF.m (Grow.alloc _ _) ⟨unfrozen_zero _, .inr rfl⟩
    (by intro i x hx; rw [List.eq_of_mem_replicate (List.mem_of_getElem? hx)]; rfl)
    (by rw [List.length_replicate]; omega)
    (by
      intro i x j y hx hy
      have hi : i < n := by have := (List.getElem?_eq_some_iff.1 hx).1; simpa using this
      rw [List.eq_of_mem_replicate (List.mem_of_getElem? hx)] at hy
      cases j with
      | succ j => simp at hy
      | zero =>
        simp at hy
        subst hy
        exact ⟨.int k 0, by simpa using hcell i hi, .sc _ rfl⟩)
  refine ⟨.pointer (some ⟨E.w.heap.size, 0, none⟩), _, ?_, q, ?_⟩
  · simp [Instr.alloc, hrun, newVar, newRow, Env.withBlk]
  · have := RelAV.ptr (E := E.withBlk nb (E.w.alloc (.cells z.cells t))) nb 0 0 _ E.w.heap.size hrt (Or.inr rfl) (setB_same _ _ _)
    simpa [Root.kind] using this
section
variable {P : Program} {ops : Array Oper} {i nb : Nat} {o : Oper} {sl : Nat → AV} {rt : Nat → Option Root}
theorem OpSem.allocA {t : TypeId} {n : Nat} {k : IntKind} (ho : ops[i]? = some o) (hg : guardV ops o sl = some true) (hop : o.op = .alloc t) (hz : zeroT P t = some (List.replicate n (.int k 0, 0))) :
    OpSem P ops i [] sl rt nb ⟨.ptr nb 0 0, [.row 1 false (List.replicate n [.sc (.int k 0)])], []⟩ := by
  refine ⟨o, ho, ?_⟩
  intro c E a hM hl hT hnb hF K Q k
  unfold wpOp
  rw [ho]
  simp only [guardV_wanted hl hg, if_true]
  refine .inl (Done.wp ?_ k)
  exact Done.of (allocA_yields hM hz hF) (by simp [execOp, hop])
theorem ptr_rel {E : Env} {r i j : Nat} {R : Root} {v : Value} (h : RelAV E (.ptr r i j) v) (hr : E.rt r = some R) (hd : R ≠ .dead) (hm : ∀ ks, R ≠ .map ks := by intro ks h; cases h) : ∃ b, E.pres r ∧ E.β r = some b ∧ v = .pointer (some ⟨b, i * R.kind.sz + j, none⟩) := by
  cases h with
  | dptr _ _ _ _ h1 _ => rw [hr] at h1; exact absurd (Option.some.inj h1) hd
  | ptr _ _ _ R' b h1 h2 h3 =>
    rw [hr] at h1
    obtain rfl := Option.some.inj h1
    refine ⟨b, h2, h3, ?_⟩
    cases R with
    | map ks => exact absurd rfl (hm ks)
    | _ => rfl
theorem OpSem.idxA {t e : TypeId} {x y : Operand} {n r : Nat} {fz : Bool} {xs : List (List D)} {k : IntKind} {j : Int} (ho : ops[i]? = some o) (hg : guardV ops o sl = some true) (hop : o.op = .indexAddr t x y) (hx : opd0 sl x = .ptr r 0 0)
    (hy : opd0 sl y = .d (.sc (.int k j))) (hu : P.underlying t = some (.array n e)) (hs : szT P e = some 1) (hr : rt r = some (.row 1 fz xs)) (h0 : 0 ≤ j) (h1 : j < (n : Int)) : OpSem P ops i [r] sl rt nb ⟨.ptr r j.toNat 0, [], []⟩ := by
  refine ⟨o, ho, ?_⟩
  intro c E a hM hl hT hnb hF K Q kk
  unfold wpOp
  rw [ho]
  simp only [guardV_wanted hl hg, if_true]
  obtain ⟨hsl, hop0⟩ := opd0_junk hl
  have hv := opd0_rel hsl x
  rw [← hop0 x (by rw [hop]; simp [Op.operands]), hx] at hv
  have hw := opd0_rel hsl y
  rw [← hop0 y (by rw [hop]; simp [Op.operands]), hy] at hw
  have hval := relSc hw
  have hr' : E.rt r = some (.row 1 fz xs) := by
    rcases hT r (by simp) with h | h
    · rw [h] at hr; cases hr
    · rw [h]; exact hr
  obtain ⟨b, hp, hb, hv'⟩ := ptr_rel hv hr' (by simp)
  refine .inl (Done.wp ?_ kk)
  refine Done.same hM (s := Instr.indexAt t (.pointer (some ⟨b, 0, none⟩)) (.int k j)) ⟨.pointer (some ⟨b, j.toNat * 1 + 0, none⟩), ?_, .ptr r _ 0 _ b hr' hp hb⟩ (by simp [execOp, hop, hval, hv'])
  simp only [Instr.indexAt, asIntOf, Sem.run_bind, Sem.run_pure, Result.andThen_ok, run_underlying hu]
  simp [h0, h1, run_sizeOf' hs, add_none, Instr.sureAddr]
theorem OpSem.slcA {t e : TypeId} {x : Operand} {xlo xhi : Option Operand} {lo hi : Option Int} {n r : Nat} {fz : Bool} {xs : List (List D)} (ho : ops[i]? = some o) (hg : guardV ops o sl = some true) (hop : o.op = .slice t x xlo xhi none) (hx : opd0 sl x = .ptr r 0 0)
    (hlo : bound? sl xlo = some lo) (hhi : bound? sl xhi = some hi) (hu : P.underlying t = some (.array n e)) (hs : szT P e = some 1) (hr : rt r = some (.row 1 fz xs)) (hn : xs.length = n) (h0 : 0 ≤ lo.getD 0) (h1 : lo.getD 0 ≤ hi.getD (n : Int)) (h2 : hi.getD (n : Int) ≤ (n : Int)) :
    OpSem P ops i [r] sl rt nb ⟨.ref r (lo.getD 0).toNat ((hi.getD (n : Int)).toNat - (lo.getD 0).toNat), [], []⟩ := by
  refine ⟨o, ho, ?_⟩
  intro c E a hM hl hT hnb hF K Q kk
  unfold wpOp
  rw [ho]
  simp only [guardV_wanted hl hg, if_true]
  obtain ⟨hsl, hop0⟩ := opd0_junk hl
  have hv := opd0_rel hsl x
  rw [← hop0 x (by rw [hop]; simp [Op.operands]), hx] at hv
  have hr' : E.rt r = some (.row 1 fz xs) := by
    rcases hT r (by simp) with h | h
    · rw [h] at hr; cases hr
    · rw [h]; exact hr
  have hbd : ∀ (q : Option Operand), (∀ z, q = some z → z ∈ o.op.operands) → bound? sl q = bound? (fun t => open Classical in if t ∈ o.looksAt ops then sl t else .junk) q := by
    intro q hq
    cases q with
    | none => rfl
    | some z => unfold bound?; simp only; rw [hop0 z (hq z rfl)]
  rw [hbd xlo (by intro z hz; rw [hop, hz]; simp [Op.operands])] at hlo
  rw [hbd xhi (by intro z hz; rw [hop, hz]; simp [Op.operands])] at hhi
  obtain ⟨kl, hkl⟩ := bound_rel hsl hlo
  obtain ⟨kh, hkh⟩ := bound_rel hsl hhi
  obtain ⟨b, hp, hb, hv'⟩ := ptr_rel hv hr' (by simp)
  have hroot := hM.roots r _ hp hr'
  refine .inl (Done.wp ?_ kk)
  have hbnd := run_sliceBounds (P := P) (w := E.w) (isSl := false) (len := n) (cap := n) (kl := kl) (kh := kh) h0 h1 h2 (Nat.le_refl _)
  generalize hL : (lo.getD 0).toNat = L at *
  generalize hH : (hi.getD (n : Int)).toNat = H at *
  have hLH : L ≤ H := by omega
  have hHn : H ≤ n := by omega
  refine Done.same hM (s := Instr.sliceAt t (.pointer (some ⟨b, 0, none⟩)) (lo.map (Value.int kl)) (hi.map (Value.int kh)) none) ⟨.slice (some (if n = L then ⟨b, 0, none⟩ else ⟨b, L * 1, none⟩)) (H - L) (n - L), ?_, ?_⟩ (by simp [execOp, hop, hkl, hkh, hv'])
  · simp [Instr.sliceAt, run_underlying hu, hbnd, run_sizeOf' hs, Instr.sureAddr, add_none]
  · rcases hroot with ⟨g1, _⟩ | ⟨b', cs, tt, fr, g1, g2, g3, g4, g5, g6⟩
    · rw [g1] at hb; cases hb
    · rw [hb] at g1
      obtain rfl := Option.some.inj g1
      by_cases hnl : n = L
      · rw [if_pos hnl, show H - L = 0 by omega, show n - L = 0 by omega]
        exact .refz r L _ 1 _ hr' rfl hp
      · rw [if_neg hnl]
        exact .ref r L (H - L) _ 1 b (n - L) tt cs.size hr' rfl hp hb (by unfold World.shape?; rw [g2]) (by omega) (by omega)
end
end Go.Proofs.YtmkpihcfglinjaaGreatDoor.Ab
namespace Go.Proofs.YtmkpihcfglinjaaGreatDoor.Ab
open Go
def clrRow (xs : List (List D)) (off len : Nat) (z : List D) : List (List D) := xs.take off ++ (List.replicate len z ++ xs.drop (off + len))
theorem clrRow_len {xs : List (List D)} {off len : Nat} {z : List D} (h : off + len ≤ xs.length) : (clrRow xs off len z).length = xs.length := by
  unfold clrRow
  rw [List.length_append, List.length_append, List.length_take, List.length_replicate, List.length_drop]
  omega
theorem clrRow_get {xs : List (List D)} {off len : Nat} {z : List D} (h : off + len ≤ xs.length) {i : Nat} : (clrRow xs off len z)[i]? = if off ≤ i ∧ i < off + len then some z else xs[i]? := by
  unfold clrRow
  rcases Nat.lt_or_ge i off with h1 | h1
  · rw [if_neg (by omega), List.getElem?_append_left (by rw [List.length_take]; omega), List.getElem?_take_of_lt h1]
  · rw [List.getElem?_append_right (by rw [List.length_take]; omega), List.length_take, Nat.min_eq_left (by omega)]
    rcases Nat.lt_or_ge i (off + len) with h2 | h2
    · rw [if_pos ⟨h1, h2⟩, List.getElem?_append_left (by rw [List.length_replicate]; omega), List.getElem?_replicate, if_pos (by omega)]
    · rw [if_neg (by omega), List.getElem?_append_right (by rw [List.length_replicate]; omega), List.length_replicate, List.getElem?_drop]
      congr 1
      omega
section
variable {P : Program} {c : Ctx} {E : Env}
def zNews (zs : List Value) (n : Nat) : List Value := (List.range (n * zs.length)).map fun i => zs.getD (i % zs.length) undef
theorem zNews_len {zs : List Value} {n : Nat} : (zNews zs n).length = n * zs.length := by simp [zNews]
theorem zNews_get {zs : List Value} {n k j : Nat} (hk : k < n) (hj : j < zs.length) : (zNews zs n)[k * zs.length + j]? = zs[j]? := by
  have hlt : k * zs.length + j < n * zs.length := by
    calc k * zs.length + j < k * zs.length + zs.length := by omega
      _ = (k + 1) * zs.length := by rw [Nat.succ_mul]
      _ ≤ n * zs.length := Nat.mul_le_mul_right _ hk
  have hm : (k * zs.length + j) % zs.length = j := by
    rw [Nat.mul_comm, Nat.mul_add_mod]
    exact Nat.mod_eq_of_lt hj
  unfold zNews
  rw [List.getElem?_map, List.getElem?_range hlt]
  simp [hm, hj]
theorem zNews_one {zs : List Value} {n : Nat} (h1 : ∀ z ∈ zs, z.oneCell' = true) (h0 : 0 < zs.length) : ∀ u ∈ zNews zs n, u.oneCell' = true := by
  intro u hu
  unfold zNews at hu
  obtain ⟨i, _, rfl⟩ := List.mem_map.1 hu
  have hm := Nat.mod_lt i h0
  rw [List.getD_eq_getElem?_getD, List.getElem?_eq_getElem hm]
  exact h1 _ (List.getElem_mem hm)
theorem clear_row (hM : Mem c E) {r b off len : Nat} {xs : List (List D)} {zs : List Value} (hp : E.pres r) (hr : E.rt r = some (.row zs.length false xs)) (hb : E.β r = some b) (h0 : 0 < zs.length) (h1 : ∀ z ∈ zs, z.oneCell' = true) (hn : off + len ≤ xs.length) :
    (storeCells ⟨b, off * zs.length, none⟩ (zNews zs len)).run P E.w = .ok () (E.w.setCells b (off * zs.length) (zNews zs len)) ∧ (E.w.setCells b (off * zs.length) (zNews zs len)).heap.size = E.w.heap.size ∧
      Mem c (E.upd r (.row zs.length false (clrRow xs off len (zs.map D.sc))) (E.w.setCells b (off * zs.length) (zNews zs len))) ∧ Step E (E.upd r (.row zs.length false (clrRow xs off len (zs.map D.sc))) (E.w.setCells b (off * zs.length) (zNews zs len))) := by
  rcases hM.roots r _ hp hr with ⟨hb', _⟩ | ⟨b', cs, ty, fr, hb', hh, hlen, hcsz, hcs, hfz⟩
  · rw [hb] at hb'; cases hb'
  rw [hb] at hb'
  obtain rfl := Option.some.inj hb'
  rcases hfz with ⟨hf, _⟩ | ⟨_, hnS, hfr⟩
  · cases hf
  have hle : off * zs.length + (zNews zs len).length ≤ cs.size := by
    rw [zNews_len, ← Nat.add_mul]
    exact Nat.le_trans (Nat.mul_le_mul_right _ hn) hcsz
  have hst := run_storeCells_cells (P := P) b (off * zs.length) (zNews zs len) 0 E.w (by
      intro j hj
      have : off * zs.length + j < cs.size := by omega
      simp [World.cell?, hh, this])
    (by
      intro j hj
      have hlt : off * zs.length + j < cs.size := by omega
      rw [Nat.add_zero]
      exact unfrozen_getD hh hfr.1 hlt) (zNews_one h1 h0)
  obtain ⟨cs', hw, hget⟩ := setCells_wrote b ty fr (zNews zs len) (off * zs.length) E.w cs hh hle
  have st : Step E (E.upd r (.row zs.length false (clrRow xs off len (zs.map D.sc))) (E.w.setCells b (off * zs.length) (zNews zs len))) := Step.upd hr (.inr rfl) (fun x hx => hw.others x (fun e => hnS (e ▸ hx))) (hw.shape hh)
  refine ⟨by simpa using hst, hw.hsize, ?_⟩
  refine hM.upd (R := .row zs.length false xs) (cs' := cs') hp hr (by simp) rfl hb hnS hh hw ?_
  refine .inr ⟨b, cs', ty, fr, hb, hw.at_, ?_, by rw [hw.size, clrRow_len hn]; exact hcsz, ?_, .inr ⟨rfl, hnS, by rw [hw.size]; exact hfr⟩⟩
  · intro a x hx
    rw [clrRow_get hn] at hx
    split at hx
    · rw [← Option.some.inj hx, List.length_map]
    · exact hlen a x hx
  · intro a x k y hx hy
    have hxl : x.length = zs.length := by
      rw [clrRow_get hn] at hx
      split at hx
      · rw [← Option.some.inj hx, List.length_map]
      · exact hlen a x hx
    have hk : k < zs.length := by rw [← hxl]; exact (List.getElem?_eq_some_iff.1 hy).1
    rw [hget, zNews_len, ← Nat.add_mul]
    rw [clrRow_get hn] at hx
    split at hx
    · rename_i ha
      obtain rfl := Option.some.inj hx
      rw [List.getElem?_map] at hy
      obtain ⟨z, hz, rfl⟩ := Option.map_eq_some_iff.1 hy
      have e1 : off * zs.length ≤ a * zs.length + k := Nat.le_trans (Nat.mul_le_mul_right _ ha.1) (Nat.le_add_right _ _)
      have e2 : a * zs.length + k < (off + len) * zs.length := by
        calc a * zs.length + k < a * zs.length + zs.length := by omega
          _ = (a + 1) * zs.length := by rw [Nat.succ_mul]
          _ ≤ (off + len) * zs.length := Nat.mul_le_mul_right _ ha.2
      rw [if_pos ⟨e1, e2⟩]
      have e3 : a * zs.length + k - off * zs.length = (a - off) * zs.length + k := by
        rw [Nat.sub_mul]
        have := Nat.mul_le_mul_right zs.length ha.1
        omega
      rw [e3, zNews_get (by omega) hk]
      exact ⟨z, hz, .sc _ (h1 z (List.mem_of_getElem? hz))⟩
    · rename_i ha
      have e1 : ¬ (off * zs.length ≤ a * zs.length + k ∧ a * zs.length + k < (off + len) * zs.length) := by
        rintro ⟨k1, k2⟩
        apply ha
        constructor
        · rcases Nat.lt_or_ge a off with h | h
          · have := Nat.mul_le_mul_right zs.length (show a + 1 ≤ off by omega)
            rw [Nat.succ_mul] at this
            omega
          · exact h
        · rcases Nat.lt_or_ge a (off + len) with h | h
          · exact h
          · have := Nat.mul_le_mul_right zs.length h
            omega
      rw [if_neg e1]
      obtain ⟨u, hu, hr⟩ := hcs a x k y hx hy
      exact ⟨u, hu, hr.step st.S st.heap⟩
end
section
variable {P : Program} {ops : Array Oper} {i nb : Nat} {o : Oper} {sl : Nat → AV} {rt : Nat → Option Root}
theorem OpSem.clrR {cl : Call} {x : Operand} {t e r off len : Nat} {xs : List (List D)} {zz : List (Value × Nat)} {zs : List Value} (ho : ops[i]? = some o) (hg : guardV ops o sl = some true) (hop : o.op = .call cl) (hc : cl.callee = .builtin .clear) (ha : cl.args = #[x]) (ht : cl.argTypes = #[t])
    (hx : opd0 sl x = .ref r off len) (hu : P.underlying t = some (.slice e)) (hz : zeroT P e = some zz) (hzs : zz.map (·.1) = zs) (h0 : 0 < zs.length) (hr : rt r = some (.row zs.length false xs)) (hn : off + len ≤ xs.length) :
    OpSem P ops i [r] sl rt nb ⟨.junk, [], [(r, .row zs.length false (clrRow xs off len (zs.map D.sc)))]⟩ := by
  refine ⟨o, ho, ?_⟩
  intro c E a hM hl hT hnb hF K Q kk
  unfold wpOp
  rw [ho]
  simp only [guardV_wanted hl hg, if_true]
  obtain ⟨hsl, hop0⟩ := opd0_junk hl
  have hv := opd0_rel hsl x
  rw [← hop0 x (by rw [hop]; simp [Op.operands, Call.operands, hc, ha]), hx] at hv
  have hr' : E.rt r = some (.row zs.length false xs) := by
    rcases hT r (by simp) with h | h
    · rw [h] at hr; cases hr
    · rw [h]; exact hr
  obtain ⟨zv, hzr, hzc, hz1, _⟩ := run_zeroValue (w := E.w) hz
  have hone : ∀ z ∈ zs, z.oneCell' = true := by
    intro z hz
    rw [← hzs] at hz
    obtain ⟨p, hp, rfl⟩ := List.mem_map.1 hz
    exact hz1 p hp
  have hzl : zv.cells.toList = zs := by rw [hzc, hzs]
  have hzsz : zv.cells.size = zs.length := by rw [← hzl, Array.length_toList]
  have hrep : (Builtin.zeroCells zv.cells len).toList = zNews zs len := by
    unfold Builtin.zeroCells zNews
    rw [Array.toList_map, Array.toList_range, hzsz]
    apply List.map_congr_left
    intro i _
    have hm := Nat.mod_lt i h0
    have g : zs[i % zs.length]? = zv.cells[i % zs.length]? := by rw [← Array.getElem?_toList, hzl]
    rw [List.getD_eq_getElem?_getD, g, Array.getElem?_eq_getElem (by rw [hzsz]; exact hm), getElem!_pos zv.cells _ (by rw [hzsz]; exact hm)]
    rfl
  have fin : ∀ (v : Value) (w' : World), a.eval x = v → (Builtin.clear_ #[t] o.type #[v]).run P E.w = .ok (.tuple #[]) w' → w'.heap.size = E.w.heap.size → Mem c (E.upd r (.row zs.length false (clrRow xs off len (zs.map D.sc))) w') → Step E (E.upd r (.row zs.length false (clrRow xs off len (zs.map D.sc))) w') →
      Done P c E nb ⟨.junk, [], [(r, .row zs.length false (clrRow xs off len (zs.map D.sc)))]⟩ (execOp a.eval o) := by
    intro v w' hval hrun hsz hM' st
    refine ⟨.tuple #[], _, .inl ?_, hM', st, rfl, ?_, ?_, .junk _⟩
    · simp [execOp, hop, resolve, hc, ha, ht, invoke, builtin, hval, hrun, Env.upd]
    · intro y
      constructor
      · exact fun h => .inl h
      · rintro (h | ⟨h1, h2⟩)
        · exact h
        · simp at h2; omega
    · show E.w.heap.size ≤ w'.heap.size
      omega
  have same : len = 0 → E.upd r (.row zs.length false (clrRow xs off len (zs.map D.sc))) E.w = E := by
    rintro rfl
    have e1 : clrRow xs off 0 (zs.map D.sc) = xs := by unfold clrRow; simp
    rw [e1]
    unfold Env.upd
    have e2 : (fun y => if y = r then some (Root.row zs.length false xs) else E.rt y) = E.rt := by
      funext y
      split
      · rename_i h; rw [h, hr']
      · rfl
    rw [e2]
  refine .inl (Done.wp ?_ kk)
  generalize hval : a.eval x = v at hv
  cases hv with
  | ref _ _ _ R sz b cap tt n h1 hk h2 h3 h4 h5 h6 =>
    rw [hr'] at h1
    obtain rfl := Option.some.inj h1
    have hs1 : sz = zs.length := by simp [Root.kind] at hk; exact hk.symm
    subst hs1
    by_cases hl0 : len = 0
    · have hs := same hl0
      refine fin _ E.w hval ?_ rfl (by rw [hs]; exact hM) (by rw [hs]; exact Step.refl E)
      subst hl0
      simp [Builtin.clear_, run_underlying hu]
    · obtain ⟨g1, g2, g3, g4⟩ := clear_row (P := P) hM h2 hr' h3 h0 hone hn
      refine fin _ _ hval ?_ g2 g3 g4
      obtain ⟨k, rfl⟩ : ∃ k, len = k + 1 := ⟨len - 1, by omega⟩
      simp [Builtin.clear_, run_underlying hu, hzr, hrep, g1]
  | refz _ _ R sz ad h1 hk h2 =>
    have hs := same rfl
    refine fin _ E.w hval ?_ rfl (by rw [hs]; exact hM) (by rw [hs]; exact Step.refl E)
    cases ad <;> simp [Builtin.clear_, run_underlying hu]
  | dref _ _ _ _ h1 ho' =>
    rw [hr'] at h1
    cases h1
end
end Go.Proofs.YtmkpihcfglinjaaGreatDoor.Ab
