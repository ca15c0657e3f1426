/- A relation between the machine and an abstract state, evaluators for single operations and for code, proved sound (part 5). No conditions. -/
import Derived.IntWalk
import Derived.Laws.Strings
import Derived.Test.YtmhinjjgpabkfaaGreatDoorZ4
set_option linter.unusedVariables false
set_option linter.unusedSimpArgs false
namespace Go.Proofs.YtmhinjjgpabkfaaGreatDoor.Ab
open Go
def look : List (Nat × AV) → Nat → AV
  | [], _ => .junk
  | (t, x) :: l, s => if s = t then x else look l s
def WeakL (l : List (Nat × AV)) (sl : Nat → AV) : Prop := ∀ p ∈ l, sl p.1 = p.2
theorem WeakL.nil (sl : Nat → AV) : WeakL [] sl := by intro p hp; cases hp
theorem WeakL.cons {t : Nat} {x : AV} {l : List (Nat × AV)} {sl : Nat → AV} (h : sl t = x) (k : WeakL l sl) : WeakL ((t, x) :: l) sl := by
  intro p hp
  rcases List.mem_cons.1 hp with rfl | hp
  · exact h
  · exact k p hp
theorem WeakL.look {sl : Nat → AV} : ∀ {l : List (Nat × AV)}, WeakL l sl → ∀ t, look l t = sl t ∨ look l t = .junk
  | [], _, t => .inr rfl
  | (s, x) :: l, h, t => by
    simp only [Ab.look]
    split
    · rename_i e
      subst e
      exact .inl (h (t, x) List.mem_cons_self).symm
    · exact WeakL.look (fun p hp => h p (List.mem_cons_of_mem _ hp)) t
section
variable {P : Program} {N : Nat} {Q : Exit → St → Prop} {st : St}
theorem LpW.of {κ : Type} {body : Code} (inv : κ → Prop) (μ : κ → Nat) (sl : κ → List (Nat × AV)) (rt : κ → List Root) (k0 : κ) (h0 : inv k0) (hw : WeakL (sl k0) st.sl) (hrt : st.rt = rt k0)
    (round : ∀ k, inv k → AW P N body (Exit.thenQ (fun st' => ∃ k', inv k' ∧ μ k' < μ k ∧ WeakL (sl k') st'.sl ∧ st'.rt = rt k') Q) ⟨look (sl k), rt k⟩) : LpW P N body Q st := by
  refine ⟨AW.loop (fun n st => ∃ k, inv k ∧ μ k = n ∧ WeakL (sl k) st.sl ∧ st.rt = rt k) (μ k0) ⟨k0, h0, rfl, hw, hrt⟩ ?_⟩
  rintro n st ⟨k, hk, rfl, hwk, hrk⟩
  refine AW.weak (sl' := look (sl k)) hwk.look ?_
  rw [hrk]
  refine (round k hk).mono ?_
  intro e st' he
  cases e with
  | normal =>
    obtain ⟨k', h1, h2, h3, h4⟩ := he
    exact ⟨μ k', h2, k', h1, rfl, h3, h4⟩
  | _ => exact he
end
theorem bytes_inj {a b : ByteArray} (h : a.toList = b.toList) : a = b := by
  rw [ByteArray.toList_eq, ByteArray.toList_eq] at h
  cases a; cases b
  simp only [ByteArray.mk.injEq]
  exact Array.toList_inj.1 h
theorem std_seql {a b : ByteArray} : std.scmp .eql a b = decide (a = b) := by
  show (a.toList == b.toList) = _
  by_cases h : a = b
  · subst h; simp
  · have : ¬ a.toList = b.toList := fun e => h (bytes_inj e)
    simp [h, this]
theorem std_sneq {a b : ByteArray} : std.scmp .neq a b = !decide (a = b) := by
  show (!(a.toList == b.toList)) = _
  rw [show (a.toList == b.toList) = decide (a = b) from std_seql]
theorem std_lss {a b : Int} : std.cmp .lss a b = decide (a < b) := rfl
theorem std_leq {a b : Int} : std.cmp .leq a b = decide (a ≤ b) := rfl
theorem std_gtr {a b : Int} : std.cmp .gtr a b = decide (b < a) := rfl
theorem std_geq {a b : Int} : std.cmp .geq a b = decide (b ≤ a) := rfl
theorem std_eql {a b : Int} : std.cmp .eql a b = decide (a = b) := by show (a == b) = _; exact Bool.eq_iff_iff.2 (by simp)
theorem std_neq {a b : Int} : std.cmp .neq a b = !decide (a = b) := by show (!(a == b)) = _; rw [show (a == b) = decide (a = b) from std_eql]
theorem std_len {xs : List (List D)} : std.len xs = (xs.length : Int) := rfl
theorem std_add {k : IntKind} {a b : Int} : std.bin .add k a b = k.wrap (a + b) := rfl
theorem std_subI {k : IntKind} {a b : Int} : std.bin .sub k a b = k.wrap (a - b) := rfl
theorem std_mulI {k : IntKind} {a b : Int} : std.bin .mul k a b = k.wrap (a * b) := rfl
def cS (s : ByteArray) : List D := [.sc (.string s)]
def cI (n : Int) : List D := [.sc (.int .i64 n)]
section
variable {α : Type} {c : α → List D} {a : List α} {xs : List (List D)} {k : Nat}
end
theorem i64_wrap {n : Int} (h0 : -9223372036854775808 ≤ n) (h1 : n < 9223372036854775808) : IntKind.i64.wrap n = n := by
  rw [IntKind.wrap_i64]; omega
end Go.Proofs.YtmhinjjgpabkfaaGreatDoor.Ab
namespace Go.Proofs.YtmhinjjgpabkfaaGreatDoor.Ab
open Go
section
variable {P : Program} {o : Oper} {st : St} {K : Out → List Nat → Prop} {cl : Call} {x : Operand} {f : FuncId} {caps ys as0 zs : List AV} {L π : List Nat} {r0 : List Root} {o0 out : Out}
theorem guardV_none {ops : Array Oper} {sl : Nat → AV} (h : o.guard = none) : guardV ops o sl = some true := by simp only [guardV, h]
theorem ClW.pure (hgd : o.guard = none) (hop : o.op = .call cl) (hc : cl.callee = .value x) (hx : opd0 st.sl x = .clo f caps) (ha : ArgR st.sl cl.args.toList ys) (hl : AV.lendAs st.look (ys ++ caps) = some (as0, L)) (he : Entered P f) (hcall : CallOk P f as0 [] o0)
    (hren : o0.ren (callRen [] st.rt.length o0.new.length) = some out) (hog : out.g = []) (hfa : out.av.flat = true) (hfn : out.new.all Root.flat = true) (k : K out (AV.idss (ys ++ caps))) : ClW P o st K :=
  .mk out _ (OpSem.pure rfl (guardV_none hgd) hop hc hx ha hl he hcall hren hog hfa hfn) (by rw [hog]; simp) k
theorem ClW.val {av : AV} (hgd : o.guard = none) (hop : o.op = .call cl) (hc : cl.callee = .value x) (hx : opd0 st.sl x = .clo f caps) (ha : ArgR st.sl cl.args.toList ys) (hl : AV.lendAs st.look (ys ++ caps) = some (as0, L)) (he : Entered P f) (hcall : CallOk P f as0 [] ⟨av, [], []⟩)
    (hren : av.ren (callRen [] st.rt.length 0) = some av) (hfa : av.flat = true) (k : K ⟨av, [], []⟩ (AV.idss (ys ++ caps))) : ClW P o st K :=
  ClW.pure (o0 := ⟨av, [], []⟩) (out := ⟨av, [], []⟩) hgd hop hc hx ha hl he hcall (by
    show (av.ren (callRen [] st.rt.length 0)).bind _ = _
    rw [hren]
    rfl) rfl hfa rfl k
theorem ClW.call (hgd : o.guard = none) (hop : o.op = .call cl) (hc : cl.callee = .value x) (hx : opd0 st.sl x = .clo f caps) (ha : ArgR st.sl cl.args.toList ys) (hz : LendsR st.look L (ys ++ caps) zs) (hL : ∀ r ∈ L, r ∈ AV.idss (ys ++ caps) ∧ ∃ sz xs, st.look r = some (.row sz false xs)) (he : Entered P f)
    (has : AV.rens (callRen π st.rt.length o0.new.length) as0 = some zs) (hcall : CallOk P f as0 r0 o0) (hren : o0.ren (callRen π st.rt.length o0.new.length) = some out) (hlen : π.length = r0.length) (hnd : π.Nodup) (hlt : ∀ r ∈ π, r < st.rt.length) (hdis : ∀ r ∈ π, r ∉ L) (hin : ∀ r ∈ π, r ∈ AV.idss (ys ++ caps))
    (hrt : ∀ (j : Nat) r R, π[j]? = some r → r0[j]? = some R → ∃ R', st.look r = some R' ∧ R ≠ .dead ∧ R.ren (callRen π st.rt.length o0.new.length) = some R')
    (hg : ∀ p ∈ out.g ++ frzG st.look L, p.1 < st.rt.length + out.new.length) (k : K ⟨out.av, out.new, out.g ++ frzG st.look L⟩ (AV.idss (ys ++ caps))) : ClW P o st K :=
  .mk _ _ (OpSem.call rfl (guardV_none hgd) hop hc hx ha hz hL he has hcall hren hlen hnd hlt hdis hin hrt) hg k
end
end Go.Proofs.YtmhinjjgpabkfaaGreatDoor.Ab
namespace Go.Proofs.YtmhinjjgpabkfaaGreatDoor.Ab
open Go
def AV.rdo (rt : Nat → Option Root) : AV → Option (AV × List Nat)
  | .tup l => (AV.lendAs rt l).map fun p => (.tup p.1, p.2)
  | x => x.lendA rt
section
variable {P : Program} {c : Ctx} {E : Env} {rt : Nat → Option Root}
theorem rdo_ren (f : Nat → Option Nat) {x y : AV} {L : List Nat} (h : x.rdo rt = some (y, L)) : y.ren f = some y := by
  cases x with
  | tup l =>
    simp only [AV.rdo] at h
    obtain ⟨q, hq, h⟩ := Option.map_eq_some_iff.1 h
    simp only [Prod.mk.injEq] at h
    obtain ⟨rfl, _⟩ := h
    simp [AV.ren, lendAs_ren f hq]
  | _ => exact lendA_ren f h
theorem rdo_sound (hM : Mem c E) {x y : AV} {v : Value} {L : List Nat} (h : RelAV E x v) (hy : x.rdo E.rt = some (y, L)) : RelAV (E.lent L) y v ∧ ∀ r ∈ L, IsRowRoot E r := by
  cases h with
  | tup l us hs hr =>
    simp only [AV.rdo] at hy
    obtain ⟨q, hq, hy⟩ := Option.map_eq_some_iff.1 hy
    simp only [Prod.mk.injEq] at hy
    obtain ⟨rfl, rfl⟩ := hy
    obtain ⟨hlen, hg⟩ := lendAs_get hq
    have hex : ∀ (j : Nat) y, l[j]? = some y → RelAV E y (us.getD j undef) := hr
    refine ⟨.tup _ us (hs.trans hlen.symm) ?_, ?_⟩
    · intro j y hy
      obtain ⟨x, L1, h1, h2, h3⟩ := hg j y hy
      exact lendA_sound hM (hex j x h1) h2 h3
    · intro r hr'
      exact lendAs_rows_aux (E := E) (fun j y hy {y'} {L'} h => lendA_rows (hex j y hy) h) hq r hr'
  | d x v h => exact ⟨lendA_sound hM (.d x v h) hy (fun _ h => h), lendA_rows (.d x v h) hy⟩
  | ref r off len R sz b cap t n h1 hk h2 h3 h4 h5 h6 => exact ⟨lendA_sound hM (.ref r off len R sz b cap t n h1 hk h2 h3 h4 h5 h6) hy (fun _ h => h), lendA_rows (.ref r off len R sz b cap t n h1 hk h2 h3 h4 h5 h6) hy⟩
  | refz r off R sz a h1 hk h2 => exact ⟨lendA_sound hM (.refz r off R sz a h1 hk h2) hy (fun _ h => h), lendA_rows (.refz r off R sz a h1 hk h2) hy⟩
  | ptr r i j R b h1 h2 h3 => exact ⟨lendA_sound hM (.ptr r i j R b h1 h2 h3) hy (fun _ h => h), lendA_rows (.ptr r i j R b h1 h2 h3) hy⟩
  | dref r off len v h1 ho => exact ⟨lendA_sound hM (.dref r off len v h1 ho) hy (fun _ h => h), lendA_rows (.dref r off len v h1 ho) hy⟩
  | dptr r i j v h1 ho => exact ⟨lendA_sound hM (.dptr r i j v h1 ho) hy (fun _ h => h), lendA_rows (.dptr r i j v h1 ho) hy⟩
  | rptr cs b o us hS hu hr => exact ⟨lendA_sound hM (.rptr cs b o us hS hu hr) hy (fun _ h => h), lendA_rows (.rptr cs b o us hS hu hr) hy⟩
  | agg l us hs hr ho => exact ⟨lendA_sound hM (.agg l us hs hr ho) hy (fun _ h => h), lendA_rows (.agg l us hs hr ho) hy⟩
  | clo f caps us hs hr => exact ⟨lendA_sound hM (.clo f caps us hs hr) hy (fun _ h => h), lendA_rows (.clo f caps us hs hr) hy⟩
  | anyb p b hb => exact ⟨lendA_sound hM (.anyb p b hb) hy (fun _ h => h), lendA_rows (.anyb p b hb) hy⟩
  | junk v => exact ⟨lendA_sound hM (.junk v) hy (fun _ h => h), lendA_rows (.junk v) hy⟩
def EndD (P : Program) (rs : Array ResultVar) (av : AV) : Exit → St → Prop
  | .normal, st => ∃ l L, resAll P st rs.toList = some l ∧ (resAV l).rdo st.look = some (av, L)
  | .ret, st => ∃ l L, resAll P st rs.toList = some l ∧ (resAV l).rdo st.look = some (av, L)
  | _, _ => False
theorem CallOk.of_bodyD {f : FuncId} {fn : Func} {body : Code} {as0 : List AV} {av : AV} (hf : P.funcs[f]? = some fn) (hb : fn.body = some body) (hN : as0.length ≤ fn.ntmps)
    (hwa : AV.rens (keepRen 0) as0 = some as0) (h : AW P fn.ntmps body (EndD P fn.results av) ⟨argSlots as0, []⟩) : CallOk P f as0 [] ⟨av, [], []⟩ := by
  intro w S β vs hM hA
  obtain ⟨hC0, hM0⟩ := callMem0 hM (r0 := []) rfl
  refine calls_of_wp hf hb ?_
  refine wp_mono (h (callCtx w S β []) (callEnv w S β [] []) _ w ?_) ?_
  · refine ⟨callEnv w S β [] [], rfl, hM0, (Step.refl _).toP, ?_, fun _ => Iff.rfl, ?_, rfl, ?_, Nat.le_refl _⟩
    · funext r
      show ([] ++ [])[r]? = [][r]?
      rfl
    · intro t
      show RelAV _ ((as0[t]?).getD .junk) ((vs ++ Array.replicate (fn.ntmps - vs.size) undef).getD t undef)
      cases ht : as0[t]? with
      | none => exact .junk _
      | some y =>
        have hlt : t < vs.size := by rw [hA.1]; exact (List.getElem?_eq_some_iff.1 ht).1
        have := hA.2 t y ht
        have e : (vs ++ Array.replicate (fn.ntmps - vs.size) undef).getD t undef = vs.getD t undef := by
          rw [Array.getD_eq_getD_getElem?, Array.getD_eq_getD_getElem?, Array.getElem?_append_left hlt]
        rw [e]
        exact this
    · simp only [Array.size_append, Array.size_replicate]
      have := hA.1
      omega
  · rintro e a' w' ⟨st, hq, hH⟩
    have main : (∃ l L, resAll P st fn.results.toList = some l ∧ (resAV l).rdo st.look = some (av, L)) → a'.defers = [] ∧ ∃ v, (results fn a'.tmps).run P w' = .ok v w' ∧ ∃ v' E', Ending.returned v = .returned v' ∧ E'.w = w' ∧ OutRel (callCtx w S β []) (callEnv w S β [] []) 0 ⟨av, [], []⟩ v' E' := by
      rintro ⟨l, L, hl, hav⟩
      obtain ⟨E, rfl, hMe, hSt, hrt, hpr, hsl, hdef, hsz, hm⟩ := hH
      obtain ⟨v, hrun, hrel⟩ := results_rel hMe hrt hsl hl
      rw [← hrt] at hav
      obtain ⟨hrel', hrows⟩ := rdo_sound hMe hrel hav
      have hML := lent_mem hMe hrows
      have hren := rdo_ren (fun _ => none) hav
      refine ⟨hdef, v, hrun, v, ⟨fun _ => none, fun _ => False, E.β, (E.lent L).S, E.w⟩, rfl, rfl, ?_⟩
      refine ⟨?_, ?_, ?_, ?_, hMe.size, ?_⟩
      · exact {
          os := hMe.os
          output := hMe.output
          tape := hMe.tape
          size := hMe.size
          keep := hMe.keep
          shape := hMe.shape
          s0 := hML.s0
          slt := hML.slt
          glob := hML.glob
          snew := hML.snew
          blt := fun r b h => h.elim
          bown := fun r R b h => h.elim
          bkeep := fun r R _ h => h.elim
          inj := fun r r' R R' b h => h.elim
          roots := fun r R h => h.elim }
      · refine ⟨?_, ?_, ?_, ?_, ?_, ?_⟩
        · intro r R hR
          have : ([] ++ ([] : List Root))[r]? = some R := hR
          simp at this
        · intro r hr
          have : r < 0 := hr
          omega
        · intro r hr
          have : r < 0 := hr
          omega
        · intro b hb; exact .inl (hSt.S b hb)
        · intro b hb; exact hSt.heap b hb
        · intro b s hs; exact hSt.shape b s hs
      · funext r
        show none = ([] ++ ([] : List Root))[r]?
        simp
      · intro r
        show False ↔ r < 0 ∨ (0 ≤ r ∧ r < 0 + 0)
        exact ⟨fun h => h.elim, fun h => by omega⟩
      · show RelAV _ av v
        refine RelAV.conn (E' := ⟨fun _ => none, fun _ => False, E.β, (E.lent L).S, E.w⟩) (f := fun _ => none) (E := E.lent L) ⟨rfl, fun _ h => h, ?_, ?_, ?_⟩ hrel' hren
        · intro r r' h; cases h
        · intro r r' h; cases h
        · intro r r' h; cases h
    cases e with
    | normal => obtain ⟨h1, v, h2, h3⟩ := main hq; exact ⟨h1, v, h2, h3⟩
    | ret => obtain ⟨h1, v, h2, h3⟩ := main hq; exact ⟨h1, v, h2, h3⟩
    | _ => exact hq.elim
theorem endD_one {t : Nat} {av av' : AV} {L : List Nat} {st : St} (h : st.sl t = av') (hr : av'.rdo st.look = some (av, L)) : EndD P #[.tmp t] av .ret st := ⟨[av'], L, by simp [resAll, resOne, h], hr⟩
end
section
variable {P : Program} {o : Oper} {st : St} {K : Out → List Nat → Prop} {cl : Call} {x : Operand} {f : FuncId} {caps ys zs : List AV} {L : List Nat}
theorem ClW.data {av : AV} (hgd : o.guard = none) (hop : o.op = .call cl) (hc : cl.callee = .value x) (hx : opd0 st.sl x = .clo f caps) (ha : ArgR st.sl cl.args.toList ys) (hl : AV.lendAs st.look (ys ++ caps) = some (zs, L)) (hL : ∀ r ∈ L, r ∈ AV.idss (ys ++ caps) ∧ ∃ sz xs, st.look r = some (.row sz false xs)) (he : Entered P f)
    (hcall : CallOk P f zs [] ⟨av, [], []⟩) (hren : av.ren (callRen [] st.rt.length 0) = some av) (hg : ∀ p ∈ frzG st.look L, p.1 < st.rt.length) (k : K ⟨av, [], frzG st.look L⟩ (AV.idss (ys ++ caps))) : ClW P o st K := by
  refine ClW.call (out := ⟨av, [], []⟩) (π := []) (r0 := []) hgd hop hc hx ha (LendsR.of hl (fun r hr => hr)) hL he (lendAs_ren _ hl) hcall ?_ rfl .nil (by simp) (by simp) (by simp) (by simp) ?_ k
  · show (av.ren (callRen [] st.rt.length 0)).bind _ = _
    rw [hren]
    rfl
  · intro p hp
    simpa using hg p (by simpa using hp)
end
end Go.Proofs.YtmhinjjgpabkfaaGreatDoor.Ab
namespace Go.Proofs.YtmhinjjgpabkfaaGreatDoor.Ab
open Go
mutual
def AV.isD : AV → Bool
  | .d _ => true
  | .rptr _ => true
  | .agg l => AV.isDs l
  | .clo _ l => AV.isDs l
  | .anyb _ => true
  | .junk => true
  | _ => false
def AV.isDs : List AV → Bool
  | [] => true
  | x :: l => match x.isD with | true => AV.isDs l | false => false
end
theorem isDs_cons {x : AV} {l : List AV} (h : AV.isDs (x :: l) = true) : x.isD = true ∧ AV.isDs l = true := by
  simp only [AV.isDs] at h
  split at h
  · exact ⟨by assumption, h⟩
  · cases h
mutual
theorem isD_lend (rt : Nat → Option Root) : ∀ {x : AV}, x.isD = true → x.lendA rt = some (x, []) ∧ x.ids = []
  | .d x, _ => ⟨rfl, rfl⟩
  | .rptr cs, _ => ⟨rfl, rfl⟩
  | .agg l, h => by
    have := isDs_lend rt (x := l) (by simpa [AV.isD] using h)
    refine ⟨by simp [AV.lendA, this.1], by simp [AV.ids, this.2]⟩
  | .clo f l, h => by
    have := isDs_lend rt (x := l) (by simpa [AV.isD] using h)
    refine ⟨by simp [AV.lendA, this.1], by simp [AV.ids, this.2]⟩
  | .anyb _, _ => ⟨rfl, rfl⟩
  | .junk, _ => ⟨rfl, rfl⟩
  | .ref .., h => by simp [AV.isD] at h
  | .ptr .., h => by simp [AV.isD] at h
  | .tup .., h => by simp [AV.isD] at h
theorem isDs_lend (rt : Nat → Option Root) : ∀ {x : List AV}, AV.isDs x = true → AV.lendAs rt x = some (x, []) ∧ AV.idss x = []
  | [], _ => ⟨rfl, rfl⟩
  | x :: l, h => by
    obtain ⟨h1, h2⟩ := isDs_cons h
    have a := isD_lend rt h1
    have b := isDs_lend rt h2
    refine ⟨by simp [AV.lendAs, a.1, b.1], by simp [AV.idss, a.2, b.2]⟩
end
def AV.isDT : AV → Bool
  | .tup l => AV.isDs l
  | x => x.isD
theorem isDT_ren (f : Nat → Option Nat) {x : AV} (h : x.isDT = true) : x.ren f = some x := by
  cases x with
  | tup l => exact rdo_ren (x := .tup l) (rt := fun _ => none) (L := []) f (by simp [AV.rdo, (isDs_lend (fun _ => none) (x := l) h).1])
  | ref => simp [AV.isDT, AV.isD] at h
  | ptr => simp [AV.isDT, AV.isD] at h
  | d x => exact lendA_ren (rt := fun _ => none) f (isD_lend (fun _ => none) (x := .d x) h).1
  | rptr cs => exact lendA_ren (rt := fun _ => none) f (isD_lend (fun _ => none) (x := .rptr cs) h).1
  | agg l => exact lendA_ren (rt := fun _ => none) f (isD_lend (fun _ => none) (x := .agg l) h).1
  | clo g l => exact lendA_ren (rt := fun _ => none) f (isD_lend (fun _ => none) (x := .clo g l) h).1
  | anyb p => rfl
  | junk => rfl
section
variable {P : Program} {o : Oper} {st : St} {K : Out → List Nat → Prop} {cl : Call} {x : Operand} {f : FuncId} {caps ys : List AV}
theorem ClW.dd {av : AV} (hgd : o.guard = none) (hop : o.op = .call cl) (hc : cl.callee = .value x) (hx : opd0 st.sl x = .clo f caps) (ha : ArgR st.sl cl.args.toList ys) (hd : AV.isDs (ys ++ caps) = true) (he : Entered P f)
    (hcall : CallOk P f (ys ++ caps) [] ⟨av, [], []⟩) (hav : av.isDT = true) (k : K ⟨av, [], []⟩ []) : ClW P o st K := by
  have h := isDs_lend st.look hd
  refine ClW.data (L := []) hgd hop hc hx ha h.1 (by simp) he hcall (isDT_ren _ hav) (by simp [frzG]) ?_
  rw [h.2]
  exact k
end
def szOf (t left : Int) : Int := if t ≤ left then left - t else -1
theorem szOf_ge {t left : Int} (h : 0 ≤ szOf t left) : t ≤ left ∧ szOf t left = left - t := by
  unfold szOf at *
  split at h
  · rename_i h1; exact ⟨h1, by rw [if_pos h1]⟩
  · omega
def sumF {α : Type} (f : α → Int) : List α → Int
  | [] => 0
  | x :: l => f x + sumF f l
theorem sumF_append {α : Type} (f : α → Int) : ∀ (a b : List α), sumF f (a ++ b) = sumF f a + sumF f b
  | [], b => by simp [sumF]
  | x :: a, b => by simp [sumF, sumF_append f a b]; omega
theorem sumF_succ {α : Type} (f : α → Int) (a : List α) {k : Nat} (h : k < a.length) : sumF f (a.take (k + 1)) = sumF f (a.take k) + f a[k] := by
  rw [List.take_succ_eq_append_getElem h, sumF_append]
  simp [sumF]
theorem sumF_split {α : Type} (f : α → Int) (a : List α) (k : Nat) : sumF f a = sumF f (a.take k) + sumF f (a.drop k) := by
  rw [← sumF_append, List.take_append_drop]
theorem sumF_nonneg {α : Type} (f : α → Int) : ∀ (a : List α), (∀ x ∈ a, 0 ≤ f x) → 0 ≤ sumF f a
  | [], _ => by simp [sumF]
  | x :: a, h => by
    have := sumF_nonneg f a (fun y hy => h y (by simp [hy]))
    have := h x (by simp)
    simp only [sumF]
    omega
theorem sumF_take_le {α : Type} (f : α → Int) (a : List α) (h : ∀ x ∈ a, 0 ≤ f x) (k : Nat) : sumF f (a.take k) ≤ sumF f a := by
  have := sumF_split f a k
  have := sumF_nonneg f (a.drop k) (fun x hx => h x (List.mem_of_mem_drop hx))
  omega
end Go.Proofs.YtmhinjjgpabkfaaGreatDoor.Ab
namespace Go.Proofs.YtmhinjjgpabkfaaGreatDoor.Ab
open Go
theorem Ar.eqs {A : Ar} (h : std = A) : A.bin = std.bin ∧ A.sh = std.sh ∧ A.cmp = std.cmp ∧ A.scmp = std.scmp ∧ A.bcmp = std.bcmp ∧ A.bnot = std.bnot ∧ A.neg = std.neg ∧ A.wrap = std.wrap ∧ A.cat = std.cat ∧ A.ssize = std.ssize ∧ A.ssub = std.ssub ∧ A.sget = std.sget ∧ A.len = std.len ∧ A.rsub = std.rsub ∧ A.app = std.app ∧ A.elt = std.elt ∧ A.set = std.set ∧ A.nth = std.nth ∧ A.drp = std.drp ∧ A.str = std.str ∧ A.int = std.int ∧ A.bool = std.bool ∧ A.row = std.row ∧ A.nat = std.nat ∧ A.nadd = std.nadd ∧ A.nsub = std.nsub ∧ A.band = std.band ∧ A.ofNat = std.ofNat ∧ A.strRow = std.strRow ∧ A.mkRow = std.mkRow ∧ A.mx = std.mx ∧ A.mn = std.mn ∧ A.bytes = std.bytes ∧ A.emp = std.emp := by subst h; exact ⟨rfl, rfl, rfl, rfl, rfl, rfl, rfl, rfl, rfl, rfl, rfl, rfl, rfl, rfl, rfl, rfl, rfl, rfl, rfl, rfl, rfl, rfl, rfl, rfl, rfl, rfl, rfl, rfl, rfl, rfl, rfl, rfl, rfl, rfl⟩
section
variable {α : Type} {c : α → List D} {a : List α} {xs : List (List D)} {k : Nat} {i : Int}
theorem rd_elt (hx : a.map c = xs) (hi : (k : Int) = i) (h : k < a.length) : std.elt xs i = c a[k] := by
  subst hx hi
  show (((a.map c)[(Int.ofNat k).toNat]?)).getD [] = _
  rw [show (Int.ofNat k).toNat = k from rfl]
  simp [h]
theorem rd_inR (hx : a.map c = xs) (hi : (k : Int) = i) (h : k < a.length) : InR i (std.len xs) := by
  subst hx hi
  refine ⟨Int.natCast_nonneg k, ?_⟩
  show (k : Int) < ((a.map c).length : Int)
  rw [List.length_map]
  omega
end
theorem std_ssize {s : ByteArray} : std.ssize s = (s.size : Int) := rfl
theorem std_not {b : Bool} : std.bnot b = !b := rfl
theorem std_band {a b : Bool} : std.band a b = (a && b) := rfl
theorem std_bcmp {a b : Bool} : std.bcmp a b = (a == b) := rfl
theorem std_nat {n : Int} : std.nat n = n.toNat := rfl
theorem std_ofNat {n : Nat} : std.ofNat n = (n : Int) := rfl
theorem std_nadd {a b : Nat} : std.nadd a b = a + b := rfl
theorem std_nsub {a b : Nat} : std.nsub a b = a - b := rfl
theorem std_wrapK {k : IntKind} {n : Int} : std.wrap k n = k.wrap n := rfl
theorem wrap_in {n : Int} (h : -9223372036854775808 ≤ n ∧ n < 9223372036854775808) : IntKind.i64.wrap n = n := i64_wrap h.1 h.2
theorem std_emp {xs : List (List D)} : std.emp xs = xs.isEmpty := rfl
theorem nc {n : Nat} : @NatCast.natCast Int instNatCastInt n = (n : Int) := rfl
theorem rd_n {α : Type} {c : α → List D} {a : List α} {xs : List (List D)} (hx : a.map c = xs) : (xs.length : Int) = (a.length : Int) := by rw [← hx, List.length_map]
section
variable {α : Type} {c : α → List D} {a : List α} {zs : List (List D)} {z : List D} {k : Nat} {i : Int}
def cpRow (c : α → List D) (a : List α) (z : List D) (k : Nat) : List (List D) := (a.take k).map c ++ List.replicate (a.length - k) z
theorem cp_length (hk : k ≤ a.length) : (cpRow c a z k).length = a.length := by unfold cpRow; simp; omega
theorem cp_get (hk : k < a.length) : (cpRow c a z k)[k]? = some z := by
  unfold cpRow
  rw [List.getElem?_append_right (by simp; omega), List.getElem?_replicate, if_pos (by simp; omega)]
theorem cp_end : cpRow c a z a.length = a.map c := by unfold cpRow; simp
theorem cp_zero : cpRow c a z 0 = List.replicate a.length z := by unfold cpRow; simp
theorem putAt_all {z ds : List D} (h : z.length = ds.length) : putAt z 0 ds = ds := by
  unfold putAt
  rw [List.take_zero, List.nil_append, List.drop_of_length_le (by omega), List.append_nil]
theorem cp_inR (hk : k < a.length) (hz : cpRow c a z k = zs) (hi : (k : Int) = i) : InR (std.ofNat (std.nadd 0 (std.nat i))) (std.len zs) := by
  subst hz hi
  refine ⟨Int.natCast_nonneg _, ?_⟩
  rw [std_len, cp_length (by omega)]
  show ((0 + (k : Int).toNat : Nat) : Int) < _
  omega
theorem cp_lenGe {n : Nat} (hk : k < a.length) (hz : cpRow c a z k = zs) (hi : (k : Int) = i) (hn : n ≤ z.length) : LenGe (std.elt zs (std.ofNat (std.nadd 0 (std.nat i)))) n := by
  subst hz hi
  refine ⟨?_⟩
  show n ≤ (((cpRow c a z k)[(((0 + (k : Int).toNat : Nat) : Int)).toNat]?).getD []).length
  rw [show (((0 + (k : Int).toNat : Nat) : Int)).toNat = k by omega, cp_get hk]
  exact hn
theorem cp_set (hk : k < a.length) (hz : cpRow c a z k = zs) (hi : (k : Int) = i) (hl : z.length = (c a[k]).length) : std.set zs (std.nadd 0 (std.nat i)) 0 (c a[k]) = cpRow c a z (k + 1) := by
  subst hz hi
  show (cpRow c a z k).set (0 + (k : Int).toNat) (putAt (((cpRow c a z k)[0 + (k : Int).toNat]?).getD []) 0 (c a[k])) = _
  rw [show 0 + (k : Int).toNat = k by omega, cp_get hk, Option.getD_some, putAt_all hl]
  unfold cpRow
  have e : a.length - k = (a.length - (k + 1)) + 1 := by omega
  have hl : ((a.take k).map c).length = k := by simp; omega
  rw [e, List.replicate_succ, List.set_append, if_neg (by omega), hl, Nat.sub_self, List.set_cons_zero, List.take_succ_eq_append_getElem hk, List.map_append, List.append_assoc]
  rfl
end
theorem i_next {k : Nat} {i : Int} (hi : (k : Int) = i) (h : k < 2 ^ 62) : std.bin .add .i64 i 1 = ((k + 1 : Nat) : Int) := by rw [std_add, i64_wrap (by omega) (by omega)]; omega
theorem endD_ref {P : Program} {st : St} {t r n sz : Nat} {fz : Bool} {xs : List (List D)} (h : st.sl t = .ref r 0 n) (hr : st.look r = some (.row sz fz xs)) (hn : n = xs.length) : EndD P #[.tmp t] (.d (.row sz xs)) .ret st := by
  refine endD_one (L := if fz then [] else [r]) h ?_
  subst hn
  show AV.lendA st.look (.ref r 0 xs.length) = _
  simp only [AV.lendA, hr]
  rw [if_pos (by omega), List.drop_zero, List.take_length]
end Go.Proofs.YtmhinjjgpabkfaaGreatDoor.Ab
