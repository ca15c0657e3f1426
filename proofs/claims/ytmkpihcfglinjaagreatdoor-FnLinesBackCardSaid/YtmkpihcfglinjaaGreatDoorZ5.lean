/- A relation between the machine and an abstract state, evaluators for single operations and for code, proved sound (part 5). No conditions. -/
import Derived.IntWalk
import Derived.Laws.Strings
import Derived.Test.YtmkpihcfglinjaaGreatDoorZ4
set_option linter.unusedVariables false
set_option linter.unusedSimpArgs false
namespace Go.Proofs.YtmkpihcfglinjaaGreatDoor.Ab
open Go
def look : List (Nat × AV) → Nat → AV
  | [], _ => .junk
  | (t, x) :: l, s => if s = t then x else look l s
def WeakL (l : List (Nat × AV)) (sl : Nat → AV) : Prop := ∀ p ∈ l, sl p.1 = p.2
theorem WeakL.nil (sl : Nat → AV) : WeakL [] sl := by intro p hp; cases hp
theorem WeakL.cons {t : Nat} {x : AV} {l : List (Nat × AV)} {sl : Nat → AV} (h : sl t = x) (k : WeakL l sl) : WeakL ((t, x) :: l) sl := by
  intro p hp
  rcases List.mem_cons.1 hp with rfl | hp
  · exact h
  · exact k p hp
theorem WeakL.look {sl : Nat → AV} : ∀ {l : List (Nat × AV)}, WeakL l sl → ∀ t, look l t = sl t ∨ look l t = .junk
  | [], _, t => .inr rfl
  | (s, x) :: l, h, t => by
    simp only [Ab.look]
    split
    · rename_i e
      subst e
      exact .inl (h (t, x) List.mem_cons_self).symm
    · exact WeakL.look (fun p hp => h p (List.mem_cons_of_mem _ hp)) t
section
variable {P : Program} {N : Nat} {Q : Exit → St → Prop} {st : St}
end
theorem bytes_inj {a b : ByteArray} (h : a.toList = b.toList) : a = b := by
  rw [ByteArray.toList_eq, ByteArray.toList_eq] at h
  cases a; cases b
  simp only [ByteArray.mk.injEq]
  exact Array.toList_inj.1 h
def cS (s : ByteArray) : List D := [.sc (.string s)]
def cI (n : Int) : List D := [.sc (.int .i64 n)]
section
variable {α : Type} {c : α → List D} {a : List α} {xs : List (List D)} {k : Nat}
end
theorem i64_wrap {n : Int} (h0 : -9223372036854775808 ≤ n) (h1 : n < 9223372036854775808) : IntKind.i64.wrap n = n := by
  rw [IntKind.wrap_i64]; omega
end Go.Proofs.YtmkpihcfglinjaaGreatDoor.Ab
namespace Go.Proofs.YtmkpihcfglinjaaGreatDoor.Ab
open Go
section
variable {P : Program} {o : Oper} {st : St} {K : Out → List Nat → Prop} {cl : Call} {x : Operand} {f : FuncId} {caps ys as0 zs : List AV} {L π : List Nat} {r0 : List Root} {o0 out : Out}
theorem guardV_none {ops : Array Oper} {sl : Nat → AV} (h : o.guard = none) : guardV ops o sl = some true := by simp only [guardV, h]
theorem ClW.pure (hgd : o.guard = none) (hop : o.op = .call cl) (hc : cl.callee = .value x) (hx : opd0 st.sl x = .clo f caps) (ha : ArgR st.sl cl.args.toList ys) (hl : AV.lendAs st.look (ys ++ caps) = some (as0, L)) (he : Entered P f) (hcall : CallOk P f as0 [] o0)
    (hren : o0.ren (callRen [] st.rt.length o0.new.length) = some out) (hog : out.g = []) (hfa : out.av.flat = true) (hfn : out.new.all Root.flat = true) (k : K out (AV.idss (ys ++ caps))) : ClW P o st K :=
  .mk out _ (OpSem.pure rfl (guardV_none hgd) hop hc hx ha hl he hcall hren hog hfa hfn) (by rw [hog]; simp) k
theorem ClW.val {av : AV} (hgd : o.guard = none) (hop : o.op = .call cl) (hc : cl.callee = .value x) (hx : opd0 st.sl x = .clo f caps) (ha : ArgR st.sl cl.args.toList ys) (hl : AV.lendAs st.look (ys ++ caps) = some (as0, L)) (he : Entered P f) (hcall : CallOk P f as0 [] ⟨av, [], []⟩)
    (hren : av.ren (callRen [] st.rt.length 0) = some av) (hfa : av.flat = true) (k : K ⟨av, [], []⟩ (AV.idss (ys ++ caps))) : ClW P o st K :=
  ClW.pure (o0 := ⟨av, [], []⟩) (out := ⟨av, [], []⟩) hgd hop hc hx ha hl he hcall (by
    show (av.ren (callRen [] st.rt.length 0)).bind _ = _
    rw [hren]
    rfl) rfl hfa rfl k
theorem ClW.call (hgd : o.guard = none) (hop : o.op = .call cl) (hc : cl.callee = .value x) (hx : opd0 st.sl x = .clo f caps) (ha : ArgR st.sl cl.args.toList ys) (hz : LendsR st.look L (ys ++ caps) zs) (hL : ∀ r ∈ L, r ∈ AV.idss (ys ++ caps) ∧ ∃ sz xs, st.look r = some (.row sz false xs)) (he : Entered P f)
    (has : AV.rens (callRen π st.rt.length o0.new.length) as0 = some zs) (hcall : CallOk P f as0 r0 o0) (hren : o0.ren (callRen π st.rt.length o0.new.length) = some out) (hlen : π.length = r0.length) (hnd : π.Nodup) (hlt : ∀ r ∈ π, r < st.rt.length) (hdis : ∀ r ∈ π, r ∉ L) (hin : ∀ r ∈ π, r ∈ AV.idss (ys ++ caps))
    (hrt : ∀ (j : Nat) r R, π[j]? = some r → r0[j]? = some R → ∃ R', st.look r = some R' ∧ R ≠ .dead ∧ R.ren (callRen π st.rt.length o0.new.length) = some R')
    (hg : ∀ p ∈ out.g ++ frzG st.look L, p.1 < st.rt.length + out.new.length) (k : K ⟨out.av, out.new, out.g ++ frzG st.look L⟩ (AV.idss (ys ++ caps))) : ClW P o st K :=
  .mk _ _ (OpSem.call rfl (guardV_none hgd) hop hc hx ha hz hL he has hcall hren hlen hnd hlt hdis hin hrt) hg k
end
end Go.Proofs.YtmkpihcfglinjaaGreatDoor.Ab
namespace Go.Proofs.YtmkpihcfglinjaaGreatDoor.Ab
open Go
def AV.rdo (rt : Nat → Option Root) : AV → Option (AV × List Nat)
  | .tup l => (AV.lendAs rt l).map fun p => (.tup p.1, p.2)
  | x => x.lendA rt
section
variable {P : Program} {c : Ctx} {E : Env} {rt : Nat → Option Root}
theorem rdo_ren (f : Nat → Option Nat) {x y : AV} {L : List Nat} (h : x.rdo rt = some (y, L)) : y.ren f = some y := by
  cases x with
  | tup l =>
    simp only [AV.rdo] at h
    obtain ⟨q, hq, h⟩ := Option.map_eq_some_iff.1 h
    simp only [Prod.mk.injEq] at h
    obtain ⟨rfl, _⟩ := h
    simp [AV.ren, lendAs_ren f hq]
  | _ => exact lendA_ren f h
theorem rdo_sound (hM : Mem c E) {x y : AV} {v : Value} {L : List Nat} (h : RelAV E x v) (hy : x.rdo E.rt = some (y, L)) : RelAV (E.lent L) y v ∧ ∀ r ∈ L, IsRowRoot E r := by
  cases h with
  | tup l us hs hr =>
    simp only [AV.rdo] at hy
    obtain ⟨q, hq, hy⟩ := Option.map_eq_some_iff.1 hy
    simp only [Prod.mk.injEq] at hy
    obtain ⟨rfl, rfl⟩ := hy
    obtain ⟨hlen, hg⟩ := lendAs_get hq
    have hex : ∀ (j : Nat) y, l[j]? = some y → RelAV E y (us.getD j undef) := hr
    refine ⟨.tup _ us (hs.trans hlen.symm) ?_, ?_⟩
    · intro j y hy
      obtain ⟨x, L1, h1, h2, h3⟩ := hg j y hy
      exact lendA_sound hM (hex j x h1) h2 h3
    · intro r hr'
      exact lendAs_rows_aux (E := E) (fun j y hy {y'} {L'} h => lendA_rows (hex j y hy) h) hq r hr'
  | d x v h => exact ⟨lendA_sound hM (.d x v h) hy (fun _ h => h), lendA_rows (.d x v h) hy⟩
  | ref r off len R sz b cap t n h1 hk h2 h3 h4 h5 h6 => exact ⟨lendA_sound hM (.ref r off len R sz b cap t n h1 hk h2 h3 h4 h5 h6) hy (fun _ h => h), lendA_rows (.ref r off len R sz b cap t n h1 hk h2 h3 h4 h5 h6) hy⟩
  | refz r off R sz a h1 hk h2 => exact ⟨lendA_sound hM (.refz r off R sz a h1 hk h2) hy (fun _ h => h), lendA_rows (.refz r off R sz a h1 hk h2) hy⟩
  | ptr r i j R b h1 h2 h3 => exact ⟨lendA_sound hM (.ptr r i j R b h1 h2 h3) hy (fun _ h => h), lendA_rows (.ptr r i j R b h1 h2 h3) hy⟩
  | dref r off len v h1 ho => exact ⟨lendA_sound hM (.dref r off len v h1 ho) hy (fun _ h => h), lendA_rows (.dref r off len v h1 ho) hy⟩
  | dptr r i j v h1 ho => exact ⟨lendA_sound hM (.dptr r i j v h1 ho) hy (fun _ h => h), lendA_rows (.dptr r i j v h1 ho) hy⟩
  | rptr cs b o us hS hu hr => exact ⟨lendA_sound hM (.rptr cs b o us hS hu hr) hy (fun _ h => h), lendA_rows (.rptr cs b o us hS hu hr) hy⟩
  | agg l us hs hr ho => exact ⟨lendA_sound hM (.agg l us hs hr ho) hy (fun _ h => h), lendA_rows (.agg l us hs hr ho) hy⟩
  | clo f caps us hs hr => exact ⟨lendA_sound hM (.clo f caps us hs hr) hy (fun _ h => h), lendA_rows (.clo f caps us hs hr) hy⟩
  | anyb p b hb => exact ⟨lendA_sound hM (.anyb p b hb) hy (fun _ h => h), lendA_rows (.anyb p b hb) hy⟩
  | junk v => exact ⟨lendA_sound hM (.junk v) hy (fun _ h => h), lendA_rows (.junk v) hy⟩
def EndD (P : Program) (rs : Array ResultVar) (av : AV) : Exit → St → Prop
  | .normal, st => ∃ l L, resAll P st rs.toList = some l ∧ (resAV l).rdo st.look = some (av, L)
  | .ret, st => ∃ l L, resAll P st rs.toList = some l ∧ (resAV l).rdo st.look = some (av, L)
  | _, _ => False
theorem CallOk.of_bodyD {f : FuncId} {fn : Func} {body : Code} {as0 : List AV} {av : AV} (hf : P.funcs[f]? = some fn) (hb : fn.body = some body) (hN : as0.length ≤ fn.ntmps)
    (hwa : AV.rens (keepRen 0) as0 = some as0) (h : AW P fn.ntmps body (EndD P fn.results av) ⟨argSlots as0, []⟩) : CallOk P f as0 [] ⟨av, [], []⟩ := by
  intro w S β vs hM hA
  obtain ⟨hC0, hM0⟩ := callMem0 hM (r0 := []) rfl
  refine calls_of_wp hf hb ?_
  refine wp_mono (h (callCtx w S β []) (callEnv w S β [] []) _ w ?_) ?_
  · refine ⟨callEnv w S β [] [], rfl, hM0, (Step.refl _).toP, ?_, fun _ => Iff.rfl, ?_, rfl, ?_, Nat.le_refl _⟩
    · funext r
      show ([] ++ [])[r]? = [][r]?
      rfl
    · intro t
      show RelAV _ ((as0[t]?).getD .junk) ((vs ++ Array.replicate (fn.ntmps - vs.size) undef).getD t undef)
      cases ht : as0[t]? with
      | none => exact .junk _
      | some y =>
        have hlt : t < vs.size := by rw [hA.1]; exact (List.getElem?_eq_some_iff.1 ht).1
        have := hA.2 t y ht
        have e : (vs ++ Array.replicate (fn.ntmps - vs.size) undef).getD t undef = vs.getD t undef := by
          rw [Array.getD_eq_getD_getElem?, Array.getD_eq_getD_getElem?, Array.getElem?_append_left hlt]
        rw [e]
        exact this
    · simp only [Array.size_append, Array.size_replicate]
      have := hA.1
      omega
  · rintro e a' w' ⟨st, hq, hH⟩
    have main : (∃ l L, resAll P st fn.results.toList = some l ∧ (resAV l).rdo st.look = some (av, L)) → a'.defers = [] ∧ ∃ v, (results fn a'.tmps).run P w' = .ok v w' ∧ ∃ v' E', Ending.returned v = .returned v' ∧ E'.w = w' ∧ OutRel (callCtx w S β []) (callEnv w S β [] []) 0 ⟨av, [], []⟩ v' E' := by
      rintro ⟨l, L, hl, hav⟩
      obtain ⟨E, rfl, hMe, hSt, hrt, hpr, hsl, hdef, hsz, hm⟩ := hH
      obtain ⟨v, hrun, hrel⟩ := results_rel hMe hrt hsl hl
      rw [← hrt] at hav
      obtain ⟨hrel', hrows⟩ := rdo_sound hMe hrel hav
      have hML := lent_mem hMe hrows
      have hren := rdo_ren (fun _ => none) hav
      refine ⟨hdef, v, hrun, v, ⟨fun _ => none, fun _ => False, E.β, (E.lent L).S, E.w⟩, rfl, rfl, ?_⟩
      refine ⟨?_, ?_, ?_, ?_, hMe.size, ?_⟩
      · exact {
          os := hMe.os
          output := hMe.output
          tape := hMe.tape
          size := hMe.size
          keep := hMe.keep
          shape := hMe.shape
          s0 := hML.s0
          slt := hML.slt
          glob := hML.glob
          snew := hML.snew
          blt := fun r b h => h.elim
          bown := fun r R b h => h.elim
          bkeep := fun r R _ h => h.elim
          inj := fun r r' R R' b h => h.elim
          roots := fun r R h => h.elim }
      · refine ⟨?_, ?_, ?_, ?_, ?_, ?_⟩
        · intro r R hR
          have : ([] ++ ([] : List Root))[r]? = some R := hR
          simp at this
        · intro r hr
          have : r < 0 := hr
          omega
        · intro r hr
          have : r < 0 := hr
          omega
        · intro b hb; exact .inl (hSt.S b hb)
        · intro b hb; exact hSt.heap b hb
        · intro b s hs; exact hSt.shape b s hs
      · funext r
        show none = ([] ++ ([] : List Root))[r]?
        simp
      · intro r
        show False ↔ r < 0 ∨ (0 ≤ r ∧ r < 0 + 0)
        exact ⟨fun h => h.elim, fun h => by omega⟩
      · show RelAV _ av v
        refine RelAV.conn (E' := ⟨fun _ => none, fun _ => False, E.β, (E.lent L).S, E.w⟩) (f := fun _ => none) (E := E.lent L) ⟨rfl, fun _ h => h, ?_, ?_, ?_⟩ hrel' hren
        · intro r r' h; cases h
        · intro r r' h; cases h
        · intro r r' h; cases h
    cases e with
    | normal => obtain ⟨h1, v, h2, h3⟩ := main hq; exact ⟨h1, v, h2, h3⟩
    | ret => obtain ⟨h1, v, h2, h3⟩ := main hq; exact ⟨h1, v, h2, h3⟩
    | _ => exact hq.elim
theorem endD_one {t : Nat} {av av' : AV} {L : List Nat} {st : St} (h : st.sl t = av') (hr : av'.rdo st.look = some (av, L)) : EndD P #[.tmp t] av .ret st := ⟨[av'], L, by simp [resAll, resOne, h], hr⟩
end
section
variable {P : Program} {o : Oper} {st : St} {K : Out → List Nat → Prop} {cl : Call} {x : Operand} {f : FuncId} {caps ys zs : List AV} {L : List Nat}
theorem ClW.data {av : AV} (hgd : o.guard = none) (hop : o.op = .call cl) (hc : cl.callee = .value x) (hx : opd0 st.sl x = .clo f caps) (ha : ArgR st.sl cl.args.toList ys) (hl : AV.lendAs st.look (ys ++ caps) = some (zs, L)) (hL : ∀ r ∈ L, r ∈ AV.idss (ys ++ caps) ∧ ∃ sz xs, st.look r = some (.row sz false xs)) (he : Entered P f)
    (hcall : CallOk P f zs [] ⟨av, [], []⟩) (hren : av.ren (callRen [] st.rt.length 0) = some av) (hg : ∀ p ∈ frzG st.look L, p.1 < st.rt.length) (k : K ⟨av, [], frzG st.look L⟩ (AV.idss (ys ++ caps))) : ClW P o st K := by
  refine ClW.call (out := ⟨av, [], []⟩) (π := []) (r0 := []) hgd hop hc hx ha (LendsR.of hl (fun r hr => hr)) hL he (lendAs_ren _ hl) hcall ?_ rfl .nil (by simp) (by simp) (by simp) (by simp) ?_ k
  · show (av.ren (callRen [] st.rt.length 0)).bind _ = _
    rw [hren]
    rfl
  · intro p hp
    simpa using hg p (by simpa using hp)
end
end Go.Proofs.YtmkpihcfglinjaaGreatDoor.Ab
namespace Go.Proofs.YtmkpihcfglinjaaGreatDoor.Ab
open Go
mutual
def AV.isD : AV → Bool
  | .d _ => true
  | .rptr _ => true
  | .agg l => AV.isDs l
  | .clo _ l => AV.isDs l
  | .anyb _ => true
  | .junk => true
  | _ => false
def AV.isDs : List AV → Bool
  | [] => true
  | x :: l => match x.isD with | true => AV.isDs l | false => false
end
theorem isDs_cons {x : AV} {l : List AV} (h : AV.isDs (x :: l) = true) : x.isD = true ∧ AV.isDs l = true := by
  simp only [AV.isDs] at h
  split at h
  · exact ⟨by assumption, h⟩
  · cases h
mutual
theorem isD_lend (rt : Nat → Option Root) : ∀ {x : AV}, x.isD = true → x.lendA rt = some (x, []) ∧ x.ids = []
  | .d x, _ => ⟨rfl, rfl⟩
  | .rptr cs, _ => ⟨rfl, rfl⟩
  | .agg l, h => by
    have := isDs_lend rt (x := l) (by simpa [AV.isD] using h)
    refine ⟨by simp [AV.lendA, this.1], by simp [AV.ids, this.2]⟩
  | .clo f l, h => by
    have := isDs_lend rt (x := l) (by simpa [AV.isD] using h)
    refine ⟨by simp [AV.lendA, this.1], by simp [AV.ids, this.2]⟩
  | .anyb _, _ => ⟨rfl, rfl⟩
  | .junk, _ => ⟨rfl, rfl⟩
  | .ref .., h => by simp [AV.isD] at h
  | .ptr .., h => by simp [AV.isD] at h
  | .tup .., h => by simp [AV.isD] at h
theorem isDs_lend (rt : Nat → Option Root) : ∀ {x : List AV}, AV.isDs x = true → AV.lendAs rt x = some (x, []) ∧ AV.idss x = []
  | [], _ => ⟨rfl, rfl⟩
  | x :: l, h => by
    obtain ⟨h1, h2⟩ := isDs_cons h
    have a := isD_lend rt h1
    have b := isDs_lend rt h2
    refine ⟨by simp [AV.lendAs, a.1, b.1], by simp [AV.idss, a.2, b.2]⟩
end
def AV.isDT : AV → Bool
  | .tup l => AV.isDs l
  | x => x.isD
theorem isDT_ren (f : Nat → Option Nat) {x : AV} (h : x.isDT = true) : x.ren f = some x := by
  cases x with
  | tup l => exact rdo_ren (x := .tup l) (rt := fun _ => none) (L := []) f (by simp [AV.rdo, (isDs_lend (fun _ => none) (x := l) h).1])
  | ref => simp [AV.isDT, AV.isD] at h
  | ptr => simp [AV.isDT, AV.isD] at h
  | d x => exact lendA_ren (rt := fun _ => none) f (isD_lend (fun _ => none) (x := .d x) h).1
  | rptr cs => exact lendA_ren (rt := fun _ => none) f (isD_lend (fun _ => none) (x := .rptr cs) h).1
  | agg l => exact lendA_ren (rt := fun _ => none) f (isD_lend (fun _ => none) (x := .agg l) h).1
  | clo g l => exact lendA_ren (rt := fun _ => none) f (isD_lend (fun _ => none) (x := .clo g l) h).1
  | anyb p => rfl
  | junk => rfl
section
variable {P : Program} {o : Oper} {st : St} {K : Out → List Nat → Prop} {cl : Call} {x : Operand} {f : FuncId} {caps ys : List AV}
theorem ClW.dd {av : AV} (hgd : o.guard = none) (hop : o.op = .call cl) (hc : cl.callee = .value x) (hx : opd0 st.sl x = .clo f caps) (ha : ArgR st.sl cl.args.toList ys) (hd : AV.isDs (ys ++ caps) = true) (he : Entered P f)
    (hcall : CallOk P f (ys ++ caps) [] ⟨av, [], []⟩) (hav : av.isDT = true) (k : K ⟨av, [], []⟩ []) : ClW P o st K := by
  have h := isDs_lend st.look hd
  refine ClW.data (L := []) hgd hop hc hx ha h.1 (by simp) he hcall (isDT_ren _ hav) (by simp [frzG]) ?_
  rw [h.2]
  exact k
end
end Go.Proofs.YtmkpihcfglinjaaGreatDoor.Ab
namespace Go.Proofs.YtmkpihcfglinjaaGreatDoor.Ab
open Go
section
variable {α : Type} {c : α → List D} {a : List α} {xs : List (List D)} {k : Nat} {i : Int}
end
theorem wrap_in {n : Int} (h : -9223372036854775808 ≤ n ∧ n < 9223372036854775808) : IntKind.i64.wrap n = n := i64_wrap h.1 h.2
theorem nc {n : Nat} : @NatCast.natCast Int instNatCastInt n = (n : Int) := rfl
section
variable {α : Type} {c : α → List D} {a : List α} {zs : List (List D)} {z : List D} {k : Nat} {i : Int}
theorem putAt_all {z ds : List D} (h : z.length = ds.length) : putAt z 0 ds = ds := by
  unfold putAt
  rw [List.take_zero, List.nil_append, List.drop_of_length_le (by omega), List.append_nil]
end
theorem endD_ref {P : Program} {st : St} {t r n sz : Nat} {fz : Bool} {xs : List (List D)} (h : st.sl t = .ref r 0 n) (hr : st.look r = some (.row sz fz xs)) (hn : n = xs.length) : EndD P #[.tmp t] (.d (.row sz xs)) .ret st := by
  refine endD_one (L := if fz then [] else [r]) h ?_
  subst hn
  show AV.lendA st.look (.ref r 0 xs.length) = _
  simp only [AV.lendA, hr]
  rw [if_pos (by omega), List.drop_zero, List.take_length]
end Go.Proofs.YtmkpihcfglinjaaGreatDoor.Ab
