/- A relation between the machine and an abstract state, evaluators for single operations and for code, proved sound (part 4). No conditions. -/
import Derived.IntWalk
import Derived.Laws.Strings
import Derived.WalkKit
import Derived.ProofKit
import Derived.OpenShut
import Derived.ShutString
import Derived.ChangeOld
import Derived.Below
import Derived.SizedLaws
import Derived.Carry
import Derived.Test.YtamdgfklbjoaiaaZ3
set_option linter.unusedVariables false
set_option linter.unusedSimpArgs false
namespace Go.Proofs.Ytamdgfklbjoaiaa.Ab
open Go

section
variable {P : Program} {rt : Nat → Option Root} {x y av : AV} {ps : List Prop}

theorem std_rsub (xs : List (List D)) (off len : Nat) : std.rsub xs (std.ofNat off) (std.ofNat (std.nadd off len)) = (xs.drop off).take len := by
  show (xs.drop ((off : Int)).toNat).take ((((off + len : Nat) : Int)).toNat - ((off : Int)).toNat) = _
  rw [Int.toNat_natCast, Int.toNat_natCast]
  congr 1
  omega

theorem vToD_ok {d : D} (h : vToD std rt x = some (d, ps)) (hp : ∀ p ∈ ps, p) : x.toD rt = some d := by
  unfold vToD at h
  split at h
  · simp only [Option.some.injEq, Prod.mk.injEq] at h
    obtain ⟨rfl, rfl⟩ := h
    rfl
  · split at h
    · rename_i r off len sz xs hrt
      simp only [Option.some.injEq, Prod.mk.injEq] at h
      obtain ⟨rfl, rfl⟩ := h
      obtain ⟨h0⟩ := hp _ (List.mem_singleton.2 rfl)
      simp only [AV.toD, hrt, h0, if_true, std_rsub]
    · cases h
  · cases h

theorem vToDs_ok : ∀ {l : List AV} {ds : List D} {ps : List Prop}, vToDs std rt l = some (ds, ps) → (∀ p ∈ ps, p) → toDs rt l = some ds
  | [], ds, ps, h, _ => by
    simp only [vToDs, Option.some.injEq, Prod.mk.injEq] at h
    obtain ⟨rfl, _⟩ := h
    rfl
  | x :: l, ds, ps, h, hp => by
    simp only [vToDs] at h
    split at h
    · rename_i d p ds' q h1 h2
      simp only [Option.some.injEq, Prod.mk.injEq] at h
      obtain ⟨rfl, rfl⟩ := h
      simp only [toDs, vToD_ok h1 (fun r hr => hp r (List.mem_append_left _ hr)), Option.bind_some, vToDs_ok h2 (fun r hr => hp r (List.mem_append_right _ hr)), Option.map_some]
    · cases h

theorem vSrc_ok {n : Nat} {ys : List (List D)} (h : vSrc std rt x = some (n, ys, ps)) (hp : ∀ p ∈ ps, p) : x.src rt = some (n, ys) := by
  unfold vSrc at h
  split at h
  · simp only [Option.some.injEq, Prod.mk.injEq] at h
    obtain ⟨rfl, rfl, rfl⟩ := h
    rfl
  · simp only [Option.some.injEq, Prod.mk.injEq] at h
    obtain ⟨rfl, rfl, rfl⟩ := h
    rfl
  · split at h
    · rename_i r off len sz fz xs hrt
      simp only [Option.some.injEq, Prod.mk.injEq] at h
      obtain ⟨rfl, rfl, rfl⟩ := h
      obtain ⟨h0⟩ := hp _ (List.mem_singleton.2 rfl)
      simp only [AV.src, AV.view, hrt, h0, if_true, std_rsub]
    · cases h
  · cases h

theorem vAppend_ok {nb : Nat} {t : TypeId} {s : AV} {out : Out} (h : vAppend std rt nb (rowOf P t) s x = some (out, ps)) (hp : ∀ p ∈ ps, p) :
    (ezT P t).isSome = true ∧ ∃ r, evAppend rt nb (elT P t) s x = some (out.av, out.new, r) ∧ out.g = [(r, .dead)] := by
  unfold vAppend at h
  split at h
  · rename_i r off len n bytes z hel hez
    have hel' : elT P t = some (n, bytes) := hel
    have hez' : ezT P t = some z := hez
    split at h
    · rename_i sz xs sz' ys p hrt hsrc
      split at h
      · rename_i e
        obtain ⟨rfl, rfl⟩ := e
        simp only [Option.some.injEq, Prod.mk.injEq] at h
        obtain ⟨rfl, rfl⟩ := h
        obtain ⟨h0, h1, h2, h3⟩ := hp _ List.mem_cons_self
        refine ⟨by rw [hez']; rfl, r, ?_, rfl⟩
        simp only [evAppend, hrt, vSrc_ok hsrc (fun q hq => hp q (List.mem_cons_of_mem _ hq)), Option.bind_some, hel']
        rw [if_pos ⟨h0, h1, trivial, trivial, h2, h3⟩]
        have e : std.nat (std.len (std.app xs ys)) = xs.length + ys.length := by
          show (((xs ++ ys).length : Nat) : Int).toNat = _
          rw [Int.toNat_natCast, List.length_append]
        rw [e]
        rfl
      · cases h
    · cases h
  · cases h

theorem vStore_ok {n : Nat} {p : AV} {q : Nat × Root} (h : vStore std rt n p x = some (q, ps)) (hp : ∀ r ∈ ps, r) : evStore rt n p x = some q := by
  unfold vStore at h
  split at h
  · rename_i r i j
    split at h
    · rename_i l hrt
      split at h
      · rename_i ys hys
        split at h
        · rename_i hc
          simp only [Option.some.injEq, Prod.mk.injEq] at h
          obtain ⟨rfl, rfl⟩ := h
          simp only [evStore, hrt, hys, Option.bind_some, true_and]
          rw [if_pos hc]
        · cases h
      · cases h
    · rename_i sz xs hrt
      split at h
      · rename_i ys hys
        split at h
        · rename_i ds q' hds
          split at h
          · rename_i hn
            simp only [Option.some.injEq, Prod.mk.injEq] at h
            obtain ⟨rfl, rfl⟩ := h
            obtain ⟨h0, h1⟩ := hp _ List.mem_cons_self
            obtain ⟨h2⟩ := hp _ (List.mem_cons_of_mem _ List.mem_cons_self)
            have hi : i < xs.length := by
              have : (i : Int) < (xs.length : Int) := h1
              omega
            have he : std.elt xs (std.ofNat i) = xs[i] := by
              show (xs[((i : Nat) : Int).toNat]?).getD [] = _
              rw [Int.toNat_natCast, List.getElem?_eq_getElem hi]; rfl
            rw [he] at h2
            simp only [evStore, hrt, hys, Option.bind_some, vToDs_ok hds (fun r hr => hp r (List.mem_cons_of_mem _ (List.mem_cons_of_mem _ hr))), List.getElem?_eq_getElem hi]
            rw [if_pos ⟨hn, h2⟩]
            have e : std.set xs i j ds = xs.set i (putAt xs[i] j ds) := by
              show xs.set i (putAt ((xs[i]?).getD []) j ds) = _
              rw [List.getElem?_eq_getElem hi]; rfl
            rw [e]
          · cases h
        · cases h
      · cases h
    · cases h
  · cases h

theorem vConv_ok {nb : Nat} {s d : TypeId} (h : vConv std rt (rowOf P s) (rowOf P d) x = some (av, ps)) (hp : ∀ p ∈ ps, p) :
    ∃ src dst, P.underlying s = some src ∧ P.underlying d = some dst ∧ evConv rt nb src dst (isByteSliceT P s) x = some (av, []) := by
  have uInt : ∀ {t : TypeId} {k : IntKind}, skOf P t = .int k → P.underlying t = some (.int k) := by
    intro t k h
    unfold skOf at h
    split at h <;> simp_all
  have uStr : ∀ {t : TypeId}, skOf P t = .str → P.underlying t = some .string := by
    intro t h
    unfold skOf at h
    split at h <;> simp_all
  have uBs : isByteSliceT P s = true → ∃ u, P.underlying s = some u := by
    intro hb
    unfold isByteSliceT at hb
    cases hu : P.underlying s with
    | none => simp [hu] at hb
    | some u => exact ⟨u, rfl⟩
  unfold vConv at h
  split at h
  · rename_i k k' n hT
    split at h
    · rename_i k'' hS
      simp only [Option.some.injEq, Prod.mk.injEq] at h
      obtain ⟨rfl, rfl⟩ := h
      exact ⟨_, _, uInt hS, uInt hT, rfl⟩
    · cases h
  · rename_i s' hT
    split at h
    · rename_i hS
      simp only [Option.some.injEq, Prod.mk.injEq] at h
      obtain ⟨rfl, rfl⟩ := h
      have hS' : skOf P s = .str := by
        have hS0 : isStrK (skOf P s) = true := hS
        cases hk : skOf P s <;> rw [hk] at hS0 <;> first | rfl | simp [isStrK] at hS0
      exact ⟨_, _, uStr hS', uStr hT, rfl⟩
    · cases h
  · rename_i sz xs hT
    split at h
    · rename_i hc
      obtain ⟨hb, rfl⟩ := hc
      simp only [Option.some.injEq, Prod.mk.injEq] at h
      obtain ⟨rfl, rfl⟩ := h
      obtain ⟨ns, hns⟩ := hp _ (List.mem_singleton.2 rfl)
      obtain ⟨u, hu⟩ := uBs hb
      have hb' : isByteSliceT P s = true := hb
      refine ⟨u, _, hu, uStr hT, ?_⟩
      have e : std.bytes xs = strOfInts ns := by
        show (match byteRow xs with | some ns => strOfInts ns | none => default) = _
        rw [hns]
      simp only [evConv, hb', if_true, AV.view, Option.bind_some, hns, Option.map_some, e]
    · cases h
  · rename_i r off len hT
    split at h
    · rename_i sz fz xs hrt
      split at h
      · rename_i hc
        obtain ⟨hb, rfl⟩ := hc
        simp only [Option.some.injEq, Prod.mk.injEq] at h
        obtain ⟨rfl, rfl⟩ := h
        obtain ⟨h0⟩ := hp _ List.mem_cons_self
        obtain ⟨ns, hns⟩ := hp _ (List.mem_cons_of_mem _ List.mem_cons_self)
        obtain ⟨u, hu⟩ := uBs hb
        have hb' : isByteSliceT P s = true := hb
        refine ⟨u, _, hu, uStr hT, ?_⟩
        rw [std_rsub] at hns ⊢
        have e : std.bytes ((xs.drop off).take len) = strOfInts ns := by
          show (match byteRow ((xs.drop off).take len) with | some ns => strOfInts ns | none => default) = _
          rw [hns]
        simp only [evConv, hb', if_true, AV.view, hrt, h0, Option.bind_some, hns, Option.map_some, e]
      · cases h
    · cases h
  · cases h

theorem vBinN_ok {t : TypeId} {op : BinOp} {y : AV} {yo : Operand} (h : vBinN std rt (rowOf P t) op x y yo = some (av, ps)) (hp : ∀ p ∈ ps, p) : evBinN P rt op t x y yo = some av := by
  cases hn : isNilC yo with
  | false =>
    simp only [vBinN, evBinN, hn] at h ⊢
    exact vBin_ok h hp
  | true =>
    simp only [vBinN, evBinN, hn] at h ⊢
    split at h
    · rename_i n sz xs hs
      simp only [Option.some.injEq, Prod.mk.injEq] at h
      obtain ⟨rfl, rfl⟩ := h
      simp only [skOf_sl hs, if_true, evNilS, Option.map_some]
      rfl
    · rename_i n r off len hs
      split at h
      · rename_i ha
        simp only [Option.some.injEq, Prod.mk.injEq] at h
        obtain ⟨rfl, rfl⟩ := h
        simp only [skOf_sl hs, if_true, evNilS, ha, Option.map_some]
        congr 2
        show (len == 0) = ((len : Int) == 0)
        rw [Bool.eq_iff_iff]
        simp
      · cases h
    · cases h

theorem vLen_ok {t : TypeId} (h : vLen std rt (rowOf P t) x = some (av, ps)) : evLen P rt t x = some av := by
  unfold vLen at h
  split at h
  · split at h
    · rename_i hs
      simp only [Option.some.injEq, Prod.mk.injEq] at h
      obtain ⟨rfl, rfl⟩ := h
      simp only [evLen, skOf_str hs, if_true]
      rfl
    · cases h
  · split at h
    · rename_i n hs
      simp only [Option.some.injEq, Prod.mk.injEq] at h
      obtain ⟨rfl, rfl⟩ := h
      simp only [evLen, skOf_sl hs, if_true]
      rfl
    · cases h
  · split at h
    · rename_i n hs
      split at h
      · rename_i ha
        simp only [Option.some.injEq, Prod.mk.injEq] at h
        obtain ⟨rfl, rfl⟩ := h
        simp only [evLen, skOf_sl hs, ha, Bool.and_self, if_true]
        rfl
      · cases h
    · cases h
  · cases h

theorem vPartDs_ok {sl : Nat → AV} : ∀ {l : List (Nat × Operand)} {r : List (Nat × List D)} {ps : List Prop}, vPartDs std rt sl l = some (r, ps) → (∀ p ∈ ps, p) → partDs rt sl l = some r
  | [], r, ps, h, _ => by
    simp only [vPartDs, Option.some.injEq, Prod.mk.injEq] at h
    obtain ⟨rfl, _⟩ := h
    rfl
  | (i, x) :: l, r, ps, h, hp => by
    simp only [vPartDs] at h
    split at h
    · cases h
    · rename_i ls hl
      split at h
      · rename_i ds p r' q h1 h2
        simp only [Option.some.injEq, Prod.mk.injEq] at h
        obtain ⟨rfl, rfl⟩ := h
        simp only [partDs, hl, Option.bind_some, vToDs_ok h1 (fun s hs => hp s (List.mem_append_left _ hs)), vPartDs_ok h2 (fun s hs => hp s (List.mem_append_right _ hs)), Option.map_some]
      · cases h
end
end Go.Proofs.Ytamdgfklbjoaiaa.Ab

namespace Go.Proofs.Ytamdgfklbjoaiaa.Ab
open Go

section
variable {P : Program} {rt : Nat → Option Root} {ps : List Prop}

theorem hintR_ok {tab : List (Nat × TyRow)} (hT : TabOk P tab) (t : TypeId) (h : (tabGet tab t).isSome = true) : hintR (tabGet tab t) = hintT P t := by
  cases hr : tabGet tab t with
  | none => rw [hr] at h; cases h
  | some R =>
    rw [hT t R hr]
    rfl

theorem opd_hint {nb h h' : Nat} {sl : Nat → AV} {x : Operand} (hx : x ≠ .const (.slice none 0 0)) : opd nb h sl x = opd nb h' sl x := by
  unfold opd
  split
  · exact absurd rfl hx
  · rfl

theorem vOut_some {x : VA} {out : Out} (h : vOut x = some (out, ps)) : x = some (out.av, ps) ∧ out.new = [] ∧ out.g = [] := by
  unfold vOut at h
  split at h
  · simp only [Option.some.injEq, Prod.mk.injEq] at h
    obtain ⟨rfl, rfl⟩ := h
    exact ⟨rfl, rfl, rfl⟩
  · cases h

theorem out_eta {out : Out} {av : AV} {new : List Root} {g : List (Nat × Root)} (h1 : out.av = av) (h2 : out.new = new) (h3 : out.g = g) : out = ⟨av, new, g⟩ := by cases out; simp_all

theorem vCall_ok {tab : List (Nat × TyRow)} (hT : TabOk P tab) {nb : Nat} {sl : Nat → AV} {c : Call} {out : Out} (h : vCall std tab nb sl rt c = some (out, ps)) (hp : ∀ p ∈ ps, p) : evCall P nb sl rt c = some out := by
  unfold vCall at h
  unfold evCall
  split at h
  · rename_i x t hc ha ht
    split at h
    · rename_i R hR
      obtain ⟨h1, h2, h3⟩ := vOut_some h
      rw [hT t R hR] at h1
      simp only [hc, ha, ht, vLen_ok h1, Option.map_some]
      rw [out_eta rfl h2 h3]
    · cases h
  · rename_i s x t xt hc ha ht
    simp only [hc, ha, ht]
    split at h
    · rename_i R X hR hX
      have key : ∀ (hcond : (isSliceT P xt || isStrT P xt) = true), vAppend std rt nb R (opd0 sl s) (opd0 sl x) = some (out, ps) →
          (if ((ezT P t).isSome && (isSliceT P xt || isStrT P xt)) = true then Option.map (fun x => { av := x.1, new := x.2.1, g := [(x.2.2, Root.dead)] }) (evAppend rt nb (elT P t) (opd0 sl s) (opd0 sl x)) else none) = some out := by
        intro hcond h
        rw [hT t R hR] at h
        obtain ⟨h1, r, h2, h3⟩ := vAppend_ok h hp
        rw [if_pos (by rw [h1, hcond]; rfl), h2, Option.map_some, out_eta rfl rfl h3]
      split at h
      · rename_i n hX'
        rw [hT xt X hX] at hX'
        exact key (by rw [skOf_sl hX']; rfl) h
      · rename_i hX'
        rw [hT xt X hX] at hX'
        have : isStrT P xt = true := skOf_str (by
          show isStrK (rowOf P xt).sk = true
          rw [hX']; rfl)
        exact key (by rw [this]; simp) h
      · cases h
    · cases h
  · rename_i x y hc ha
    split at h
    · rename_i k a k' b hx hy
      simp only [Option.some.injEq, Prod.mk.injEq] at h
      obtain ⟨rfl, _⟩ := h
      simp only [hc, ha, hx, hy, evMinMax, if_true, Option.map_some]
      rfl
    · cases h
  · rename_i x y hc ha
    split at h
    · rename_i k a k' b hx hy
      simp only [Option.some.injEq, Prod.mk.injEq] at h
      obtain ⟨rfl, _⟩ := h
      simp only [hc, ha, hx, hy, evMinMax, Option.map_some]
      rfl
    · cases h
  · cases h

theorem fldsT_get {t : TypeId} {f : Nat} {fl : Option (Nat × Nat × Bool)} (h : (fldsT P t)[f]? = some fl) : fldT P t f = fl := by
  unfold fldsT at h
  split at h
  · rename_i fs hu
    rw [List.getElem?_map] at h
    obtain ⟨i, hi, rfl⟩ := Option.map_eq_some_iff.1 h
    have : f < fs.size := by
      have := (List.getElem?_eq_some_iff.1 hi).1
      simpa using this
    rw [List.getElem?_range this] at hi
    rw [← Option.some.inj hi]
  · simp at h

theorem intOf_sc {sl : Nat → AV} {i : Operand} {k : IntKind} {n : Int} (h : opd0 sl i = .d (.sc (.int k n))) : intOf? (opd0 sl i) = some n := by rw [h]; rfl

theorem vMove_ok {tab : List (Nat × TyRow)} (hT : TabOk P tab) {nb : Nat} {sl : Nat → AV} {t : TypeId} {x : Operand} {out : Out} (h : vMove tab nb sl t x = some (out, ps)) : some (⟨(opd nb (hintT P t) sl x).1, (opd nb (hintT P t) sl x).2, []⟩ : Out) = some out := by
  unfold vMove at h
  split at h
  · split at h
    · rename_i R hR
      have e := hT t R hR
      subst e
      simp only [Option.some.injEq, Prod.mk.injEq] at h
      rw [← h.1]
      rfl
    · cases h
  · rename_i hx
    simp only [Option.some.injEq, Prod.mk.injEq] at h
    rw [← h.1]
    have : opd nb (hintT P t) sl x = (opd0 sl x, []) := by
      unfold opd
      split
      · exact (hx rfl).elim
      · rfl
    rw [this]

theorem vev_sound {tab : List (Nat × TyRow)} (hT : TabOk P tab) {nb : Nat} {sl : Nat → AV} {o : Oper} {out : Out} (h : vev std tab nb sl rt o = some (out, ps)) (hp : ∀ p ∈ ps, p) : ev P nb sl rt o = some out := by
  unfold vev at h
  unfold ev
  split at h
  · rename_i x ho
    simp only [ho]
    exact vMove_ok hT h
  · rename_i x ho
    simp only [ho]
    exact vMove_ok hT h
  · rename_i c a b ho
    split at h
    · rename_i hc
      simp only [Option.some.injEq, Prod.mk.injEq] at h
      simp only [ho, hc, if_true, ← h.1]
    · rename_i hc
      simp only [Option.some.injEq, Prod.mk.injEq] at h
      simp only [ho, hc, ← h.1]
      rfl
    · cases h
  · rename_i t ho
    split at h
    · rename_i R hR
      have e := hT t R hR
      subst e
      split at h
      · rename_i zs hz
        have hz' : zeroT P t = some zs := hz
        simp only [Option.some.injEq, Prod.mk.injEq] at h
        simp only [ho, hz', Option.map_some, ← h.1]
      · cases h
    · cases h
  · rename_i t x ho
    split at h
    · rename_i l hl
      simp only [Option.some.injEq, Prod.mk.injEq] at h
      simp only [ho, evBox, hl, Option.map_some, ← h.1]
    · cases h
  · rename_i t ps' ho
    split at h
    · rename_i R hR
      have e := hT t R hR
      subst e
      split at h
      · rename_i zs pl l hz hpl hl
        have hz' : zeroT P t = some zs := hz
        have hpl' : placesT P t = some pl := hpl
        split at h
        · rename_i r hr
          simp only [Option.some.injEq, Prod.mk.injEq] at h
          simp only [ho, hz', hpl', hl, Option.bind_some, hr, Option.map_some, ← h.1]
        · cases h
      · cases h
    · cases h
  · rename_i t n ps' ho
    split at h
    · rename_i R hR
      have e := hT t R hR
      subst e
      split at h
      · rename_i z l p hz hl
        have hz' : ezT P t = some z := hz
        split at h
        · rename_i r hr
          simp only [Option.some.injEq, Prod.mk.injEq] at h
          obtain ⟨h1, rfl⟩ := h
          simp only [ho, hz', vPartDs_ok hl hp, Option.bind_some, hr, Option.map_some, ← h1]
        · cases h
      · cases h
    · cases h
  · rename_i t x ho
    split at h
    · rename_i R hR
      have e := hT t R hR
      subst e
      obtain ⟨h1, h2, h3⟩ := vOut_some h
      obtain ⟨g, n, hg, hn, hl⟩ := vLoad_ok h1 hp
      simp only [ho, hg, hn, Option.bind_some, hl, Option.map_some]
      rw [out_eta rfl h2 h3]
    · cases h
  · rename_i t p x ho
    split at h
    · rename_i R hR
      have e := hT t R hR
      subst e
      split at h
      · rename_i n av new hn hopd
        have hn' : szT P t = some n := hn
        have hopd' : opd nb (hintT P t) sl x = (av, new) := hopd
        split at h
        · rename_i r R' q hst
          split at h
          · rename_i hlt
            simp only [Option.some.injEq, Prod.mk.injEq] at h
            obtain ⟨h1, rfl⟩ := h
            simp only [ho, hn', Option.bind_some, hopd', vStore_ok hst hp, hlt, if_true, ← h1]
          · cases h
        · cases h
      · cases h
    · cases h
  · rename_i x ho
    split at h
    · rename_i v hv
      simp only [Option.some.injEq, Prod.mk.injEq] at h
      simp only [ho, hv, Option.map_some, ← h.1]
    · cases h
  · rename_i op t x y yt ho
    split at h
    · rename_i R hR
      have e := hT t R hR
      subst e
      obtain ⟨h1, h2, h3⟩ := vOut_some h
      simp only [ho, vBinN_ok h1 hp, Option.map_some]
      rw [out_eta rfl h2 h3]
    · cases h
  · rename_i op t x ho
    obtain ⟨h1, h2, h3⟩ := vOut_some h
    simp only [ho, vUn_ok h1, Option.map_some]
    rw [out_eta rfl h2 h3]
  · rename_i s d x ho
    split at h
    · rename_i S T hS hT'
      have e := hT s S hS
      subst e
      have e := hT d T hT'
      subst e
      obtain ⟨h1, h2, h3⟩ := vOut_some h
      obtain ⟨src, dst, k1, k2, k3⟩ := vConv_ok (nb := nb) h1 hp
      simp only [ho, k1, k2, Option.bind_some, k3, Option.map_some]
      rw [out_eta rfl h2 h3]
    · cases h
  · rename_i t x f ho
    split at h
    · rename_i R hR
      have e := hT t R hR
      subst e
      split at h
      · rename_i fl hfl
        obtain ⟨h1, h2, h3⟩ := vOut_some h
        simp only [ho, fldsT_get hfl, vFieldAddr_ok h1, Option.map_some]
        rw [out_eta rfl h2 h3]
      · cases h
    · cases h
  · rename_i t x f ho
    split at h
    · rename_i R hR
      have e := hT t R hR
      subst e
      split at h
      · rename_i fl hfl
        split at h
        · rename_i v hv
          simp only [Option.some.injEq, Prod.mk.injEq] at h
          simp only [ho, fldsT_get hfl, hv, Option.map_some, ← h.1]
        · cases h
      · cases h
    · cases h
  · rename_i t x i ho
    split at h
    · rename_i R k n hR hi
      have e := hT t R hR
      subst e
      obtain ⟨h1, h2, h3⟩ := vOut_some h
      simp only [ho, intOf_sc hi, Option.bind_some, vIndexAddr_ok h1 hp, Option.map_some]
      rw [out_eta rfl h2 h3]
    · cases h
  · rename_i t x i ho
    split at h
    · rename_i R k n hR hi
      have e := hT t R hR
      subst e
      obtain ⟨h1, h2, h3⟩ := vOut_some h
      simp only [ho, intOf_sc hi, Option.bind_some, vIndexS_ok h1 hp, Option.map_some]
      rw [out_eta rfl h2 h3]
    · cases h
  · rename_i t x lo hi ho
    split at h
    · rename_i R l m hR hl hm
      have e := hT t R hR
      subst e
      obtain ⟨h1, h2, h3⟩ := vOut_some h
      simp only [ho, hl, hm, Option.bind_some, vSlice_ok h1 hp, Option.map_some]
      rw [out_eta rfl h2 h3]
    · cases h
  · rename_i t n m ho
    split at h
    · rename_i R k n' k' m' hR hn hm
      have e := hT t R hR
      subst e
      split at h
      · rename_i z hz
        have hz' : ezT P t = some z := hz
        simp only [Option.some.injEq, Prod.mk.injEq] at h
        obtain ⟨h1, rfl⟩ := h
        obtain ⟨k1, k2, k3, k4⟩ := hp _ (List.mem_singleton.2 rfl)
        simp only [ho, hz', intOf_sc hn, intOf_sc hm, Option.bind_some, evMake]
        rw [if_pos ⟨k1, k2, k3, k4⟩, ← h1]
        rfl
      · cases h
    · cases h
  · rename_i x i ho
    split at h
    · rename_i v hv
      simp only [Option.some.injEq, Prod.mk.injEq] at h
      simp only [ho, hv, Option.map_some, ← h.1]
    · cases h
  · rename_i f first caps ho
    obtain ⟨h0, h⟩ := Option.ite_none_right_eq_some.1 h
    simp only [Option.some.injEq, Prod.mk.injEq] at h
    simp only [ho, h0, if_true, ← h.1]
  · rename_i c ho
    simp only [ho]
    exact vCall_ok hT h hp
  · cases h
end
end Go.Proofs.Ytamdgfklbjoaiaa.Ab

namespace Go.Proofs.Ytamdgfklbjoaiaa.Ab
open Go

/-! Code, gone through by reckoning. -/
def br (b : Bool) (p q : Unit → Prop) : Prop := match b with | true => p () | false => q ()

def andAll : List Prop → Prop → Prop
  | [], k => k
  | p :: ps, k => p ∧ andAll ps k

inductive GV where
  | yes
  | no
  | test (t : Nat) (b w : Bool)
  | bad

def guardG (ops : Array Oper) (o : Oper) (sl : Nat → AV) : GV :=
  match o.guard with
  | none => .yes
  | some (g, w) => match ops[g]? with
    | some og => (match og.dst with
      | some t => (match sl t with | .d (.sc (.bool b)) => .test t b w | .tup [] => .no | _ => .bad)
      | none => .bad)
    | none => .bad

def bare (o : Oper) : Oper := { o with guard := none }

/-- A call that is still to be told. -/
inductive ClW (P : Program) (o : Oper) (st : St) (k : Out → List Nat → Prop) : Prop
  | mk (out : Out) (T : List Nat) (h : OpSem P #[o] 0 T st.sl st.look st.rt.length out) (hl : ∀ p ∈ out.g, p.1 < st.rt.length + out.new.length) (hk : k out T) : ClW P o st k

/-- A loop that is still to be told. -/
inductive LpW (P : Program) (N : Nat) (body : Code) (Q : Exit → St → Prop) (st : St) : Prop
  | mk (h : AW P N (.loop body) Q st) : LpW P N body Q st

def vStep (P : Program) (A : Ar) (tab : List (Nat × TyRow)) (o : Oper) (st : St) (k : Out → List Nat → Prop) : Prop :=
  match isCall o with
  | true => ClW P (bare o) st k
  | false => match vev A tab st.rt.length st.sl st.look o with
    | some (out, ps) => (match out.g.all (fun p => p.1 < st.rt.length + out.new.length) with
      | true => andAll ps (k out (Op.touched st.sl o.op))
      | false => False)
    | none => False

def vOps (P : Program) (A : Ar) (tab : List (Nat × TyRow)) (ops : Array Oper) : List Oper → St → List Eff → (List Eff → St → Prop) → Prop
  | [], st, acc, K => K acc st
  | o :: l, st, acc, K =>
    match guardG ops o st.sl with
    | .yes => vStep P A tab o st fun out T => vOps P A tab ops l (st.put o.dst out) (acc ++ [⟨out.g.map (·.1), out.new.length, T⟩]) K
    | .test t b true => br b (fun _ => vStep P A tab o ⟨setS st.sl t (.d (.sc (.bool true))), st.rt⟩ fun out T => vOps P A tab ops l (St.put ⟨setS st.sl t (.d (.sc (.bool true))), st.rt⟩ o.dst out) (acc ++ [⟨out.g.map (·.1), out.new.length, T⟩]) K)
        (fun _ => vOps P A tab ops l (St.put ⟨setS st.sl t (.d (.sc (.bool false))), st.rt⟩ o.dst ⟨.tup [], [], []⟩) (acc ++ [⟨[], 0, []⟩]) K)
    | .test t b false => br b (fun _ => vOps P A tab ops l (St.put ⟨setS st.sl t (.d (.sc (.bool true))), st.rt⟩ o.dst ⟨.tup [], [], []⟩) (acc ++ [⟨[], 0, []⟩]) K)
        (fun _ => vStep P A tab o ⟨setS st.sl t (.d (.sc (.bool false))), st.rt⟩ fun out T => vOps P A tab ops l (St.put ⟨setS st.sl t (.d (.sc (.bool false))), st.rt⟩ o.dst out) (acc ++ [⟨out.g.map (·.1), out.new.length, T⟩]) K)
    | .no => vOps P A tab ops l (st.put o.dst ⟨.tup [], [], []⟩) (acc ++ [⟨[], 0, []⟩]) K
    | .bad => False

/-- A test of which is known when it may come out true. -/
def anyB (p : Bool) (t e : Unit → Prop) : Prop := (p = true → t ()) ∧ e ()

def ifB (b : Bool) (p : Unit → Prop) : Prop := match b with | true => p () | false => False

/-- A test that came out. -/
def St.known (st : St) : Operand → Bool → St
  | .tmp t, b => ⟨setS st.sl t (.d (.sc (.bool b))), st.rt⟩
  | _, _ => st

def vc (P : Program) (A : Ar) (tab : List (Nat × TyRow)) (N : Nat) : Code → (Exit → St → Prop) → St → Prop
  | .skip, Q, st => Q .normal st
  | .ret, Q, st => Q .ret st
  | .exit id, Q, st => Q (.exit id) st
  | .label _, Q, st => Q .normal st
  | .seq a b, Q, st => vc P A tab N a (Exit.thenQ (fun st' => vc P A tab N b Q st') Q) st
  | .cond x t e, Q, st => (match opd0 st.sl x with
    | .d (.sc (.bool b)) => br b (fun _ => vc P A tab N t Q (st.known x true)) (fun _ => vc P A tab N e Q (st.known x false))
    | .anyb p => anyB p (fun _ => vc P A tab N t Q st) (fun _ => vc P A tab N e Q st)
    | _ => False)
  | .block id b, Q, st => vc P A tab N b (Exit.blockQ id Q) st
  | .loop b, Q, st => LpW P N b Q st
  | .region _ ops draw, Q, st => ifB (ops.toList.all (dstOk N)) fun _ => vOps P A tab ops ops.toList st [] fun effs st' => ifB (!draw || drawB ops N st.rt.length effs) fun _ => Q .normal st'
  | _, _, _ => False

section
variable {P : Program} {N : Nat} {tab : List (Nat × TyRow)} {Q : Exit → St → Prop}

theorem andAll_ok : ∀ {ps : List Prop} {k : Prop}, andAll ps k → (∀ p ∈ ps, p) ∧ k
  | [], k, h => ⟨by simp, h⟩
  | p :: ps, k, h => by
    obtain ⟨h1, h2⟩ := h
    obtain ⟨h3, h4⟩ := andAll_ok h2
    refine ⟨?_, h4⟩
    intro q hq
    rcases List.mem_cons.1 hq with rfl | hq
    · exact h1
    · exact h3 q hq

theorem OpSem.at {ops : Array Oper} {i nb : Nat} {o : Oper} {T : List Nat} {sl : Nat → AV} {rt : Nat → Option Root} {out : Out} (h : OpSem P #[bare o] 0 T sl rt nb out) (ho : ops[i]? = some o) (hg : guardV ops o sl = some true) : OpSem P ops i T sl rt nb out := by
  obtain ⟨o', ho', H⟩ := h
  simp at ho'
  subst ho'
  refine ⟨o, ho, ?_⟩
  intro c E a hM hl hT hnb hF K Q k
  have hl' : Looks E #[bare o] (bare o) sl a := by
    intro t ht
    refine hl t ?_
    unfold Oper.looksAt at ht ⊢
    simp only [bare, List.append_nil] at ht
    exact List.mem_append_left _ ht
  have key := H c E a hM hl' hT hnb hF K Q k
  unfold wpOp
  rw [ho]
  simp only [guardV_wanted hl hg, if_true]
  exact key

theorem setS_same {sl : Nat → AV} {t : Nat} {x : AV} (h : sl t = x) : setS sl t x = sl := by
  funext s
  unfold setS
  split
  · rename_i e; rw [e, h]
  · rfl

theorem known_same {st : St} {x : Operand} {b : Bool} (h : opd0 st.sl x = .d (.sc (.bool b))) : st.known x b = st := by
  cases x with
  | tmp t =>
    show (⟨setS st.sl t (.d (.sc (.bool b))), st.rt⟩ : St) = st
    rw [setS_same h]
  | _ => rfl

theorem guardG_test {ops : Array Oper} {o : Oper} {sl : Nat → AV} {t : Nat} {b w : Bool} (h : guardG ops o sl = .test t b w) : sl t = .d (.sc (.bool b)) ∧ guardV ops o sl = some (b == w) := by
  unfold guardG at h
  split at h
  · cases h
  · rename_i g w' hg
    split at h
    · rename_i og hog
      split at h
      · rename_i t' ht'
        split at h
        · rename_i b' hs
          simp only [GV.test.injEq] at h
          obtain ⟨rfl, rfl, rfl⟩ := h
          refine ⟨hs, ?_⟩
          simp only [guardV, hg, hog, Option.bind_some, ht', hs]
        · cases h
        · cases h
      · cases h
    · cases h

theorem guardG_no {ops : Array Oper} {o : Oper} {sl : Nat → AV} (h : guardG ops o sl = .no) : guardV ops o sl = some false := by
  unfold guardG at h
  split at h
  · cases h
  · rename_i g w' hg
    split at h
    · rename_i og hog
      split at h
      · rename_i t' ht'
        split at h
        · cases h
        · rename_i hs
          simp only [guardV, hg, hog, Option.bind_some, ht', hs]
        · cases h
      · cases h
    · cases h

theorem guardG_yes {ops : Array Oper} {o : Oper} {sl : Nat → AV} (h : guardG ops o sl = .yes) : guardV ops o sl = some true := by
  unfold guardG at h
  split at h
  · rename_i hg; simp only [guardV, hg]
  · split at h
    · split at h
      · split at h <;> cases h
      · cases h
    · cases h

theorem vStep_ok (hT : TabOk P tab) {ops : Array Oper} {i : Nat} {o : Oper} {st : St} {acc : List Eff} {K : List Eff → St → Prop} {k : Out → List Nat → Prop} (h : vStep P std tab o st k) (ho : ops[i]? = some o) (hd : dstOk N o = true) (hg : guardV ops o st.sl = some true)
    (hk : ∀ out T, k out T → RW P N ops (i + 1) (st.put o.dst out) (acc ++ [⟨out.g.map (·.1), out.new.length, T⟩]) K) : RW P N ops i st acc K := by
  unfold vStep at h
  split at h
  · obtain ⟨out, T, h1, h2, h3⟩ := h
    exact RW.cons ho (dstOk_spec hd) (h1.at ho hg) h2 (hk out T h3)
  · split at h
    · rename_i out ps hv
      split at h
      · rename_i hall
        obtain ⟨h1, h2⟩ := andAll_ok h
        have hev := vev_sound hT hv h1
        refine RW.cons ho (dstOk_spec hd) (OpSem.ev ho hg hev) ?_ (hk out _ h2)
        intro p hp
        simpa using List.all_eq_true.1 hall p hp
      · exact h.elim
    · exact h.elim

theorem vOps_ok (hT : TabOk P tab) {ops : Array Oper} {K : List Eff → St → Prop} : ∀ {l : List Oper} {i : Nat} {st : St} {acc : List Eff}, (∀ (k : Nat) o, l[k]? = some o → ops[i + k]? = some o ∧ dstOk N o = true) → i + l.length = ops.size → vOps P std tab ops l st acc K → RW P N ops i st acc K
  | [], i, st, acc, _, hn, h => RW.done (by simpa using hn) h
  | o :: l, i, st, acc, hl, hn, h => by
    obtain ⟨ho, hd⟩ := hl 0 o rfl
    simp only [Nat.add_zero] at ho
    have hl' : ∀ (k : Nat) o, l[k]? = some o → ops[i + 1 + k]? = some o ∧ dstOk N o = true := by
      intro k' o' h'
      have := hl (k' + 1) o' (by simpa using h')
      rwa [show i + (k' + 1) = i + 1 + k' by omega] at this
    have hn' : i + 1 + l.length = ops.size := by simp at hn; omega
    have skip : ∀ {st : St}, guardV ops o st.sl = some false → vOps P std tab ops l (st.put o.dst ⟨.tup [], [], []⟩) (acc ++ [⟨[], 0, []⟩]) K → RW P N ops i st acc K :=
      fun hg hk => RW.cons ho (dstOk_spec hd) (OpSem.skip ho hg) (by simp) (vOps_ok hT hl' hn' hk)
    have step : ∀ {st : St}, guardV ops o st.sl = some true → vStep P std tab o st (fun out T => vOps P std tab ops l (st.put o.dst out) (acc ++ [⟨out.g.map (·.1), out.new.length, T⟩]) K) → RW P N ops i st acc K :=
      fun hg hk => vStep_ok hT hk ho hd hg (fun out T hk => vOps_ok hT hl' hn' hk)
    simp only [vOps] at h
    split at h
    · rename_i hg
      exact step (guardG_yes hg) h
    · rename_i t b hg
      obtain ⟨h1, h2⟩ := guardG_test hg
      cases b with
      | true =>
        simp only [br] at h
        rw [setS_same h1] at h
        exact step h2 h
      | false =>
        simp only [br] at h
        rw [setS_same h1] at h
        exact skip h2 h
    · rename_i t b hg
      obtain ⟨h1, h2⟩ := guardG_test hg
      cases b with
      | true =>
        simp only [br] at h
        rw [setS_same h1] at h
        exact skip h2 h
      | false =>
        simp only [br] at h
        rw [setS_same h1] at h
        exact step h2 h
    · rename_i hg
      exact skip (guardG_no hg) h
    · exact h.elim

theorem vc_ok (hT : TabOk P tab) (hm : P.follows .mixedOrders = true) : ∀ {code : Code} {Q : Exit → St → Prop} {st : St}, vc P std tab N code Q st → AW P N code Q st := by
  intro code
  induction code with
  | skip => intro Q st h; exact AW.skip h
  | ret => intro Q st h; exact AW.ret h
  | exit id => intro Q st h; exact AW.exit h
  | label l => intro Q st h; exact AW.label h
  | seq a b iha ihb =>
    intro Q st h
    refine AW.seq ((iha h).mono ?_)
    intro e st' he
    cases e with
    | normal => exact ihb he
    | _ => exact he
  | cond x t e iht ihe =>
    intro Q st h
    simp only [vc] at h
    split at h
    · rename_i b hx
      refine AW.cond hx ?_ ?_
      · rintro rfl
        have h' := iht h
        rwa [known_same hx] at h'
      · rintro rfl
        have h' := ihe h
        rwa [known_same hx] at h'
    · rename_i p hx
      exact AW.condAny hx (fun hb => iht (h.1 hb)) (ihe h.2)
    · exact h.elim
  | block id b ih => intro Q st h; exact AW.block (ih h)
  | loop b ih => intro Q st h; obtain ⟨h⟩ := h; exact h
  | region id ops draw =>
    intro Q st h
    simp only [vc, ifB] at h
    split at h
    · rename_i hd
      refine AW.reg' ?_
      have hK := vOps_ok (N := N) hT (l := ops.toList) (i := 0) (fun k o hk => ⟨by simpa using hk, List.all_eq_true.1 hd o (List.mem_of_getElem? hk)⟩) (by simp) h
      obtain ⟨l, st', hw, hk⟩ := hK
      refine ⟨l, st', hw, ?_⟩
      split at hk
      · rename_i hb
        refine ⟨?_, hk⟩
        rintro rfl
        exact ⟨hm, by simpa using hb⟩
      · exact hk.elim
    · exact h.elim
  | _ => intro Q st h; exact h.elim
end
end Go.Proofs.Ytamdgfklbjoaiaa.Ab

namespace Go.Proofs.Ytamdgfklbjoaiaa.Ab
open Go

/-! Slots by a list; loops; the end. -/
def look : List (Nat × AV) → Nat → AV
  | [], _ => .junk
  | (t, x) :: l, s => if s = t then x else look l s

def WeakL (l : List (Nat × AV)) (sl : Nat → AV) : Prop := ∀ p ∈ l, sl p.1 = p.2

theorem WeakL.nil (sl : Nat → AV) : WeakL [] sl := by intro p hp; cases hp
theorem WeakL.cons {t : Nat} {x : AV} {l : List (Nat × AV)} {sl : Nat → AV} (h : sl t = x) (k : WeakL l sl) : WeakL ((t, x) :: l) sl := by
  intro p hp
  rcases List.mem_cons.1 hp with rfl | hp
  · exact h
  · exact k p hp

theorem WeakL.look {sl : Nat → AV} : ∀ {l : List (Nat × AV)}, WeakL l sl → ∀ t, look l t = sl t ∨ look l t = .junk
  | [], _, t => .inr rfl
  | (s, x) :: l, h, t => by
    simp only [Ab.look]
    split
    · rename_i e
      subst e
      exact .inl (h (t, x) List.mem_cons_self).symm
    · exact WeakL.look (fun p hp => h p (List.mem_cons_of_mem _ hp)) t

section
variable {P : Program} {N : Nat} {Q : Exit → St → Prop} {st : St}

theorem LpW.of {κ : Type} {body : Code} (inv : κ → Prop) (μ : κ → Nat) (sl : κ → List (Nat × AV)) (rt : κ → List Root) (k0 : κ) (h0 : inv k0) (hw : WeakL (sl k0) st.sl) (hrt : st.rt = rt k0)
    (round : ∀ k, inv k → AW P N body (Exit.thenQ (fun st' => ∃ k', inv k' ∧ μ k' < μ k ∧ WeakL (sl k') st'.sl ∧ st'.rt = rt k') Q) ⟨look (sl k), rt k⟩) : LpW P N body Q st := by
  refine ⟨AW.loop (fun n st => ∃ k, inv k ∧ μ k = n ∧ WeakL (sl k) st.sl ∧ st.rt = rt k) (μ k0) ⟨k0, h0, rfl, hw, hrt⟩ ?_⟩
  rintro n st ⟨k, hk, rfl, hwk, hrk⟩
  refine AW.weak (sl' := look (sl k)) hwk.look ?_
  rw [hrk]
  refine (round k hk).mono ?_
  intro e st' he
  cases e with
  | normal =>
    obtain ⟨k', h1, h2, h3, h4⟩ := he
    exact ⟨μ k', h2, k', h1, rfl, h3, h4⟩
  | _ => exact he

/-- The end of a function that hands out one value and no memory. -/
theorem end_one {t : Nat} {av : AV} (h : st.sl t = av) (hr : av.ren (finRen 0 []) = some av) : EndQ P #[.tmp t] [] ⟨av, [], []⟩ .ret st := by
  refine ⟨[], [av], ?_, hr, by simp, by simp, rfl, by simp, by simp, by simp⟩
  simp [resAll, resOne, h]
end

theorem std_cmp {op : BinOp} {a b : Int} : std.cmp op a b = valBool (binInt op .i64 a b) := rfl
theorem bytes_inj {a b : ByteArray} (h : a.toList = b.toList) : a = b := by
  rw [ByteArray.toList_eq, ByteArray.toList_eq] at h
  cases a; cases b
  simp only [ByteArray.mk.injEq]
  exact Array.toList_inj.1 h
theorem std_seql {a b : ByteArray} : std.scmp .eql a b = decide (a = b) := by
  show (a.toList == b.toList) = _
  by_cases h : a = b
  · subst h; simp
  · have : ¬ a.toList = b.toList := fun e => h (bytes_inj e)
    simp [h, this]
theorem std_sneq {a b : ByteArray} : std.scmp .neq a b = !decide (a = b) := by
  show (!(a.toList == b.toList)) = _
  rw [show (a.toList == b.toList) = decide (a = b) from std_seql]
theorem std_lss {a b : Int} : std.cmp .lss a b = decide (a < b) := rfl
theorem std_leq {a b : Int} : std.cmp .leq a b = decide (a ≤ b) := rfl
theorem std_gtr {a b : Int} : std.cmp .gtr a b = decide (b < a) := rfl
theorem std_geq {a b : Int} : std.cmp .geq a b = decide (b ≤ a) := rfl
theorem std_eql {a b : Int} : std.cmp .eql a b = decide (a = b) := by show (a == b) = _; exact Bool.eq_iff_iff.2 (by simp)
theorem std_neq {a b : Int} : std.cmp .neq a b = !decide (a = b) := by show (!(a == b)) = _; rw [show (a == b) = decide (a = b) from std_eql]
theorem std_len {xs : List (List D)} : std.len xs = (xs.length : Int) := rfl
theorem std_add {k : IntKind} {a b : Int} : std.bin .add k a b = k.wrap (a + b) := rfl
theorem std_subI {k : IntKind} {a b : Int} : std.bin .sub k a b = k.wrap (a - b) := rfl
theorem std_mulI {k : IntKind} {a b : Int} : std.bin .mul k a b = k.wrap (a * b) := rfl
theorem std_elt {xs : List (List D)} {i : Int} : std.elt xs i = (xs[i.toNat]?).getD [] := rfl
theorem std_nth {xs : List D} {j : Nat} : std.nth xs j = (xs[j]?).getD (.sc undef) := rfl
theorem std_str {s : ByteArray} : std.str (.sc (.string s)) = s := rfl
theorem std_int {k : IntKind} {n : Int} : std.int (.sc (.int k n)) = n := rfl
theorem std_bool {b : Bool} : std.bool (.sc (.bool b)) = b := rfl
theorem std_row {sz : Nat} {xs : List (List D)} : std.row (.row sz xs) = xs := rfl

/-- Texts, numbers as rows. -/
def cS (s : ByteArray) : List D := [.sc (.string s)]
def cI (n : Int) : List D := [.sc (.int .i64 n)]
def rowS (a : List ByteArray) : D := .row 1 (a.map cS)
def rowI (a : List Int) : D := .row 1 (a.map cI)

section
variable {α : Type} {c : α → List D} {a : List α} {xs : List (List D)} {k : Nat}
theorem ok_elt (hx : a.map c = xs) (h : k < a.length) : std.elt xs (Int.ofNat k) = c a[k] := by
  subst hx
  show (((a.map c)[(Int.ofNat k).toNat]?)).getD [] = _
  rw [show (Int.ofNat k).toNat = k from rfl]
  simp [h]
theorem ok_inR (hx : a.map c = xs) (h : k < a.length) : InR (Int.ofNat k) (std.len xs) := by
  subst hx
  refine ⟨Int.natCast_nonneg k, ?_⟩
  show (k : Int) < ((a.map c).length : Int)
  rw [List.length_map]
  omega
theorem ok_len {n : Nat} (hx : a.map c = xs) (h : k < a.length) (hc : n ≤ (c a[k]).length) : LenGe (std.elt xs (Int.ofNat k)) n := ⟨by rw [ok_elt hx h]; exact hc⟩
theorem ok_str {ss : List ByteArray} (hx : ss.map cS = xs) (h : k < ss.length) : IsD (std.nth (std.elt xs (Int.ofNat k)) 0) (.sc (.string (std.str (std.nth (std.elt xs (Int.ofNat k)) 0)))) := ⟨by rw [ok_elt hx h]; rfl⟩
theorem val_str {ss : List ByteArray} (hx : ss.map cS = xs) (h : k < ss.length) : std.str (std.nth (std.elt xs (Int.ofNat k)) 0) = ss[k] := by rw [ok_elt hx h]; rfl
end
theorem i64_wrap {n : Int} (h0 : -9223372036854775808 ≤ n) (h1 : n < 9223372036854775808) : IntKind.i64.wrap n = n := by
  rw [IntKind.wrap_i64]; omega
/-- A number one more. -/
theorem ok_succ {k : Nat} (h : k < 2 ^ 62) : std.bin .add .i64 (Int.ofNat k) 1 = ((k + 1 : Nat) : Int) := by
  show IntKind.i64.wrap ((k : Int) + 1) = _
  rw [i64_wrap (by omega) (by omega)]
  rfl
end Go.Proofs.Ytamdgfklbjoaiaa.Ab

namespace Go.Proofs.Ytamdgfklbjoaiaa.Ab
open Go

section
variable {P : Program} {o : Oper} {st : St} {K : Out → List Nat → Prop} {cl : Call} {x : Operand} {f : FuncId} {caps ys as zs : List AV} {L π : List Nat} {r0 : List Root} {o0 out : Out}

theorem guardV_none {ops : Array Oper} {sl : Nat → AV} (h : o.guard = none) : guardV ops o sl = some true := by simp only [guardV, h]

/-- A call of a function that reads alone. -/
theorem ClW.pure (hgd : o.guard = none) (hop : o.op = .call cl) (hc : cl.callee = .value x) (hx : opd0 st.sl x = .clo f caps) (ha : ArgR st.sl cl.args.toList ys) (hl : AV.lendAs st.look (ys ++ caps) = some (as, L)) (he : Entered P f) (hcall : CallOk P f as [] o0)
    (hren : o0.ren (callRen [] st.rt.length o0.new.length) = some out) (hog : out.g = []) (hfa : out.av.flat = true) (hfn : out.new.all Root.flat = true) (k : K out (AV.idss (ys ++ caps))) : ClW P o st K :=
  .mk out _ (OpSem.pure rfl (guardV_none hgd) hop hc hx ha hl he hcall hren hog hfa hfn) (by rw [hog]; simp) k

/-- The same, when what comes back is one value without memory. -/
theorem ClW.val {av : AV} (hgd : o.guard = none) (hop : o.op = .call cl) (hc : cl.callee = .value x) (hx : opd0 st.sl x = .clo f caps) (ha : ArgR st.sl cl.args.toList ys) (hl : AV.lendAs st.look (ys ++ caps) = some (as, L)) (he : Entered P f) (hcall : CallOk P f as [] ⟨av, [], []⟩)
    (hren : av.ren (callRen [] st.rt.length 0) = some av) (hfa : av.flat = true) (k : K ⟨av, [], []⟩ (AV.idss (ys ++ caps))) : ClW P o st K :=
  ClW.pure (o0 := ⟨av, [], []⟩) (out := ⟨av, [], []⟩) hgd hop hc hx ha hl he hcall (by
    show (av.ren (callRen [] st.rt.length 0)).bind _ = _
    rw [hren]
    rfl) rfl hfa rfl k

/-- A call in general. -/
theorem ClW.call (hgd : o.guard = none) (hop : o.op = .call cl) (hc : cl.callee = .value x) (hx : opd0 st.sl x = .clo f caps) (ha : ArgR st.sl cl.args.toList ys) (hz : LendsR st.look L (ys ++ caps) zs) (hL : ∀ r ∈ L, r ∈ AV.idss (ys ++ caps) ∧ ∃ sz xs, st.look r = some (.row sz false xs)) (he : Entered P f)
    (has : AV.rens (callRen π st.rt.length o0.new.length) as = some zs) (hcall : CallOk P f as r0 o0) (hren : o0.ren (callRen π st.rt.length o0.new.length) = some out) (hlen : π.length = r0.length) (hnd : π.Nodup) (hlt : ∀ r ∈ π, r < st.rt.length) (hdis : ∀ r ∈ π, r ∉ L) (hin : ∀ r ∈ π, r ∈ AV.idss (ys ++ caps))
    (hrt : ∀ (j : Nat) r R, π[j]? = some r → r0[j]? = some R → ∃ R', st.look r = some R' ∧ R ≠ .dead ∧ R.ren (callRen π st.rt.length o0.new.length) = some R')
    (hg : ∀ p ∈ out.g ++ frzG st.look L, p.1 < st.rt.length + out.new.length) (k : K ⟨out.av, out.new, out.g ++ frzG st.look L⟩ (AV.idss (ys ++ caps))) : ClW P o st K :=
  .mk _ _ (OpSem.call rfl (guardV_none hgd) hop hc hx ha hz hL he has hcall hren hlen hnd hlt hdis hin hrt) hg k
end
end Go.Proofs.Ytamdgfklbjoaiaa.Ab

namespace Go.Proofs.Ytamdgfklbjoaiaa.Ab
open Go

/-! What a call returns, as data that is only read. -/
def AV.rdo (rt : Nat → Option Root) : AV → Option (AV × List Nat)
  | .tup l => (AV.lendAs rt l).map fun p => (.tup p.1, p.2)
  | x => x.lendA rt

section
variable {P : Program} {c : Ctx} {E : Env} {rt : Nat → Option Root}

theorem rdo_ren (f : Nat → Option Nat) {x y : AV} {L : List Nat} (h : x.rdo rt = some (y, L)) : y.ren f = some y := by
  cases x with
  | tup l =>
    simp only [AV.rdo] at h
    obtain ⟨q, hq, h⟩ := Option.map_eq_some_iff.1 h
    simp only [Prod.mk.injEq] at h
    obtain ⟨rfl, _⟩ := h
    simp [AV.ren, lendAs_ren f hq]
  | _ => exact lendA_ren f h

theorem rdo_sound (hM : Mem c E) {x y : AV} {v : Value} {L : List Nat} (h : RelAV E x v) (hy : x.rdo E.rt = some (y, L)) : RelAV (E.lent L) y v ∧ ∀ r ∈ L, IsRowRoot E r := by
  cases h with
  | tup l us hs hr =>
    simp only [AV.rdo] at hy
    obtain ⟨q, hq, hy⟩ := Option.map_eq_some_iff.1 hy
    simp only [Prod.mk.injEq] at hy
    obtain ⟨rfl, rfl⟩ := hy
    obtain ⟨hlen, hg⟩ := lendAs_get hq
    have hex : ∀ (j : Nat) y, l[j]? = some y → RelAV E y (us.getD j undef) := hr
    refine ⟨.tup _ us (hs.trans hlen.symm) ?_, ?_⟩
    · intro j y hy
      obtain ⟨x, L1, h1, h2, h3⟩ := hg j y hy
      exact lendA_sound hM (hex j x h1) h2 h3
    · intro r hr'
      exact lendAs_rows_aux (E := E) (fun j y hy {y'} {L'} h => lendA_rows (hex j y hy) h) hq r hr'
  | d x v h => exact ⟨lendA_sound hM (.d x v h) hy (fun _ h => h), lendA_rows (.d x v h) hy⟩
  | ref r off len R sz b cap t n h1 hk h2 h3 h4 h5 h6 => exact ⟨lendA_sound hM (.ref r off len R sz b cap t n h1 hk h2 h3 h4 h5 h6) hy (fun _ h => h), lendA_rows (.ref r off len R sz b cap t n h1 hk h2 h3 h4 h5 h6) hy⟩
  | refz r off R sz a h1 hk h2 => exact ⟨lendA_sound hM (.refz r off R sz a h1 hk h2) hy (fun _ h => h), lendA_rows (.refz r off R sz a h1 hk h2) hy⟩
  | ptr r i j R b h1 h2 h3 => exact ⟨lendA_sound hM (.ptr r i j R b h1 h2 h3) hy (fun _ h => h), lendA_rows (.ptr r i j R b h1 h2 h3) hy⟩
  | dref r off len v h1 ho => exact ⟨lendA_sound hM (.dref r off len v h1 ho) hy (fun _ h => h), lendA_rows (.dref r off len v h1 ho) hy⟩
  | dptr r i j v h1 ho => exact ⟨lendA_sound hM (.dptr r i j v h1 ho) hy (fun _ h => h), lendA_rows (.dptr r i j v h1 ho) hy⟩
  | rptr cs b o us hS hu hr => exact ⟨lendA_sound hM (.rptr cs b o us hS hu hr) hy (fun _ h => h), lendA_rows (.rptr cs b o us hS hu hr) hy⟩
  | agg l us hs hr ho => exact ⟨lendA_sound hM (.agg l us hs hr ho) hy (fun _ h => h), lendA_rows (.agg l us hs hr ho) hy⟩
  | clo f caps us hs hr => exact ⟨lendA_sound hM (.clo f caps us hs hr) hy (fun _ h => h), lendA_rows (.clo f caps us hs hr) hy⟩
  | anyb p b hb => exact ⟨lendA_sound hM (.anyb p b hb) hy (fun _ h => h), lendA_rows (.anyb p b hb) hy⟩
  | junk v => exact ⟨lendA_sound hM (.junk v) hy (fun _ h => h), lendA_rows (.junk v) hy⟩

/-- The end of a function that hands out data. -/
def EndD (P : Program) (rs : Array ResultVar) (av : AV) : Exit → St → Prop
  | .normal, st => ∃ l L, resAll P st rs.toList = some l ∧ (resAV l).rdo st.look = some (av, L)
  | .ret, st => ∃ l L, resAll P st rs.toList = some l ∧ (resAV l).rdo st.look = some (av, L)
  | _, _ => False

/-- A function's body leads to what its calls come to: data. -/
theorem CallOk.of_bodyD {f : FuncId} {fn : Func} {body : Code} {as : List AV} {av : AV} (hf : P.funcs[f]? = some fn) (hb : fn.body = some body) (hN : as.length ≤ fn.ntmps)
    (hwa : AV.rens (keepRen 0) as = some as) (h : AW P fn.ntmps body (EndD P fn.results av) ⟨argSlots as, []⟩) : CallOk P f as [] ⟨av, [], []⟩ := by
  intro w S β vs hM hA
  obtain ⟨hC0, hM0⟩ := callMem0 hM (r0 := []) rfl
  refine calls_of_wp hf hb ?_
  refine wp_mono (h (callCtx w S β []) (callEnv w S β [] []) _ w ?_) ?_
  · refine ⟨callEnv w S β [] [], rfl, hM0, (Step.refl _).toP, ?_, fun _ => Iff.rfl, ?_, rfl, ?_, Nat.le_refl _⟩
    · funext r
      show ([] ++ [])[r]? = [][r]?
      rfl
    · intro t
      show RelAV _ ((as[t]?).getD .junk) ((vs ++ Array.replicate (fn.ntmps - vs.size) undef).getD t undef)
      cases ht : as[t]? with
      | none => exact .junk _
      | some y =>
        have hlt : t < vs.size := by rw [hA.1]; exact (List.getElem?_eq_some_iff.1 ht).1
        have := hA.2 t y ht
        have e : (vs ++ Array.replicate (fn.ntmps - vs.size) undef).getD t undef = vs.getD t undef := by
          rw [Array.getD_eq_getD_getElem?, Array.getD_eq_getD_getElem?, Array.getElem?_append_left hlt]
        rw [e]
        exact this
    · simp only [Array.size_append, Array.size_replicate]
      have := hA.1
      omega
  · rintro e a' w' ⟨st, hq, hH⟩
    have main : (∃ l L, resAll P st fn.results.toList = some l ∧ (resAV l).rdo st.look = some (av, L)) → a'.defers = [] ∧ ∃ v, (results fn a'.tmps).run P w' = .ok v w' ∧ ∃ v' E', Ending.returned v = .returned v' ∧ E'.w = w' ∧ OutRel (callCtx w S β []) (callEnv w S β [] []) 0 ⟨av, [], []⟩ v' E' := by
      rintro ⟨l, L, hl, hav⟩
      obtain ⟨E, rfl, hMe, hSt, hrt, hpr, hsl, hdef, hsz, hm⟩ := hH
      obtain ⟨v, hrun, hrel⟩ := results_rel hMe hrt hsl hl
      rw [← hrt] at hav
      obtain ⟨hrel', hrows⟩ := rdo_sound hMe hrel hav
      have hML := lent_mem hMe hrows
      have hren := rdo_ren (fun _ => none) hav
      refine ⟨hdef, v, hrun, v, ⟨fun _ => none, fun _ => False, E.β, (E.lent L).S, E.w⟩, rfl, rfl, ?_⟩
      refine ⟨?_, ?_, ?_, ?_, hMe.size, ?_⟩
      · exact {
          os := hMe.os
          output := hMe.output
          tape := hMe.tape
          size := hMe.size
          keep := hMe.keep
          shape := hMe.shape
          s0 := hML.s0
          slt := hML.slt
          snew := hML.snew
          blt := fun r b h => h.elim
          bown := fun r R b h => h.elim
          bkeep := fun r R _ h => h.elim
          inj := fun r r' R R' b h => h.elim
          roots := fun r R h => h.elim }
      · refine ⟨?_, ?_, ?_, ?_, ?_, ?_⟩
        · intro r R hR
          have : ([] ++ ([] : List Root))[r]? = some R := hR
          simp at this
        · intro r hr
          have : r < 0 := hr
          omega
        · intro r hr
          have : r < 0 := hr
          omega
        · intro b hb; exact .inl (hSt.S b hb)
        · intro b hb; exact hSt.heap b hb
        · intro b s hs; exact hSt.shape b s hs
      · funext r
        show none = ([] ++ ([] : List Root))[r]?
        simp
      · intro r
        show False ↔ r < 0 ∨ (0 ≤ r ∧ r < 0 + 0)
        exact ⟨fun h => h.elim, fun h => by omega⟩
      · show RelAV _ av v
        refine RelAV.conn (E' := ⟨fun _ => none, fun _ => False, E.β, (E.lent L).S, E.w⟩) (f := fun _ => none) (E := E.lent L) ⟨rfl, fun _ h => h, ?_, ?_, ?_⟩ hrel' hren
        · intro r r' h; cases h
        · intro r r' h; cases h
        · intro r r' h; cases h
    cases e with
    | normal => obtain ⟨h1, v, h2, h3⟩ := main hq; exact ⟨h1, v, h2, h3⟩
    | ret => obtain ⟨h1, v, h2, h3⟩ := main hq; exact ⟨h1, v, h2, h3⟩
    | _ => exact hq.elim

/-- The ends. -/
theorem endD_one {t : Nat} {av av' : AV} {L : List Nat} {st : St} (h : st.sl t = av') (hr : av'.rdo st.look = some (av, L)) : EndD P #[.tmp t] av .ret st := ⟨[av'], L, by simp [resAll, resOne, h], hr⟩
end

section
variable {P : Program} {o : Oper} {st : St} {K : Out → List Nat → Prop} {cl : Call} {x : Operand} {f : FuncId} {caps ys zs : List AV} {L : List Nat}

/-- A call of a function that hands out data; rows that it reads are only read from then on. -/
theorem ClW.data {av : AV} (hgd : o.guard = none) (hop : o.op = .call cl) (hc : cl.callee = .value x) (hx : opd0 st.sl x = .clo f caps) (ha : ArgR st.sl cl.args.toList ys) (hl : AV.lendAs st.look (ys ++ caps) = some (zs, L)) (hL : ∀ r ∈ L, r ∈ AV.idss (ys ++ caps) ∧ ∃ sz xs, st.look r = some (.row sz false xs)) (he : Entered P f)
    (hcall : CallOk P f zs [] ⟨av, [], []⟩) (hren : av.ren (callRen [] st.rt.length 0) = some av) (hg : ∀ p ∈ frzG st.look L, p.1 < st.rt.length) (k : K ⟨av, [], frzG st.look L⟩ (AV.idss (ys ++ caps))) : ClW P o st K := by
  refine ClW.call (out := ⟨av, [], []⟩) (π := []) (r0 := []) hgd hop hc hx ha (LendsR.of hl (fun r hr => hr)) hL he (lendAs_ren _ hl) hcall ?_ rfl .nil (by simp) (by simp) (by simp) (by simp) ?_ k
  · show (av.ren (callRen [] st.rt.length 0)).bind _ = _
    rw [hren]
    rfl
  · intro p hp
    simpa using hg p (by simpa using hp)
end
end Go.Proofs.Ytamdgfklbjoaiaa.Ab

namespace Go.Proofs.Ytamdgfklbjoaiaa.Ab
open Go

/-! Calls with arguments that are data, and results that are data. -/
mutual
def AV.isD : AV → Bool
  | .d _ => true
  | .rptr _ => true
  | .agg l => AV.isDs l
  | .clo _ l => AV.isDs l
  | .anyb _ => true
  | .junk => true
  | _ => false
def AV.isDs : List AV → Bool
  | [] => true
  | x :: l => match x.isD with | true => AV.isDs l | false => false
end

theorem isDs_cons {x : AV} {l : List AV} (h : AV.isDs (x :: l) = true) : x.isD = true ∧ AV.isDs l = true := by
  simp only [AV.isDs] at h
  split at h
  · exact ⟨by assumption, h⟩
  · cases h

mutual
theorem isD_lend (rt : Nat → Option Root) : ∀ {x : AV}, x.isD = true → x.lendA rt = some (x, []) ∧ x.ids = []
  | .d x, _ => ⟨rfl, rfl⟩
  | .rptr cs, _ => ⟨rfl, rfl⟩
  | .agg l, h => by
    have := isDs_lend rt (x := l) (by simpa [AV.isD] using h)
    refine ⟨by simp [AV.lendA, this.1], by simp [AV.ids, this.2]⟩
  | .clo f l, h => by
    have := isDs_lend rt (x := l) (by simpa [AV.isD] using h)
    refine ⟨by simp [AV.lendA, this.1], by simp [AV.ids, this.2]⟩
  | .anyb _, _ => ⟨rfl, rfl⟩
  | .junk, _ => ⟨rfl, rfl⟩
  | .ref .., h => by simp [AV.isD] at h
  | .ptr .., h => by simp [AV.isD] at h
  | .tup .., h => by simp [AV.isD] at h
theorem isDs_lend (rt : Nat → Option Root) : ∀ {x : List AV}, AV.isDs x = true → AV.lendAs rt x = some (x, []) ∧ AV.idss x = []
  | [], _ => ⟨rfl, rfl⟩
  | x :: l, h => by
    obtain ⟨h1, h2⟩ := isDs_cons h
    have a := isD_lend rt h1
    have b := isDs_lend rt h2
    refine ⟨by simp [AV.lendAs, a.1, b.1], by simp [AV.idss, a.2, b.2]⟩
end

def AV.isDT : AV → Bool
  | .tup l => AV.isDs l
  | x => x.isD

theorem isDT_ren (f : Nat → Option Nat) {x : AV} (h : x.isDT = true) : x.ren f = some x := by
  cases x with
  | tup l => exact rdo_ren (x := .tup l) (rt := fun _ => none) (L := []) f (by simp [AV.rdo, (isDs_lend (fun _ => none) (x := l) h).1])
  | ref => simp [AV.isDT, AV.isD] at h
  | ptr => simp [AV.isDT, AV.isD] at h
  | d x => exact lendA_ren (rt := fun _ => none) f (isD_lend (fun _ => none) (x := .d x) h).1
  | rptr cs => exact lendA_ren (rt := fun _ => none) f (isD_lend (fun _ => none) (x := .rptr cs) h).1
  | agg l => exact lendA_ren (rt := fun _ => none) f (isD_lend (fun _ => none) (x := .agg l) h).1
  | clo g l => exact lendA_ren (rt := fun _ => none) f (isD_lend (fun _ => none) (x := .clo g l) h).1
  | anyb p => rfl
  | junk => rfl

section
variable {P : Program} {o : Oper} {st : St} {K : Out → List Nat → Prop} {cl : Call} {x : Operand} {f : FuncId} {caps ys : List AV}

theorem ClW.dd {av : AV} (hgd : o.guard = none) (hop : o.op = .call cl) (hc : cl.callee = .value x) (hx : opd0 st.sl x = .clo f caps) (ha : ArgR st.sl cl.args.toList ys) (hd : AV.isDs (ys ++ caps) = true) (he : Entered P f)
    (hcall : CallOk P f (ys ++ caps) [] ⟨av, [], []⟩) (hav : av.isDT = true) (k : K ⟨av, [], []⟩ []) : ClW P o st K := by
  have h := isDs_lend st.look hd
  refine ClW.data (L := []) hgd hop hc hx ha h.1 (by simp) he hcall (isDT_ren _ hav) (by simp [frzG]) ?_
  rw [h.2]
  exact k
end

/-! The numbers that say how great arguments are. -/
def iD (n : Int) : D := .sc (.int .i64 n)
def bD (b : Bool) : D := .sc (.bool b)
def sD (s : ByteArray) : D := .sc (.string s)

def szOf (t left : Int) : Int := if t ≤ left then left - t else -1
theorem szOf_ge {t left : Int} (h : 0 ≤ szOf t left) : t ≤ left ∧ szOf t left = left - t := by
  unfold szOf at *
  split at h
  · rename_i h1; exact ⟨h1, by rw [if_pos h1]⟩
  · omega

def sumF {α : Type} (f : α → Int) : List α → Int
  | [] => 0
  | x :: l => f x + sumF f l

theorem sumF_append {α : Type} (f : α → Int) : ∀ (a b : List α), sumF f (a ++ b) = sumF f a + sumF f b
  | [], b => by simp [sumF]
  | x :: a, b => by simp [sumF, sumF_append f a b]; omega

theorem sumF_succ {α : Type} (f : α → Int) (a : List α) {k : Nat} (h : k < a.length) : sumF f (a.take (k + 1)) = sumF f (a.take k) + f a[k] := by
  rw [List.take_succ_eq_append_getElem h, sumF_append]
  simp [sumF]

theorem sumF_split {α : Type} (f : α → Int) (a : List α) (k : Nat) : sumF f a = sumF f (a.take k) + sumF f (a.drop k) := by
  rw [← sumF_append, List.take_append_drop]

theorem sumF_nonneg {α : Type} (f : α → Int) : ∀ (a : List α), (∀ x ∈ a, 0 ≤ f x) → 0 ≤ sumF f a
  | [], _ => by simp [sumF]
  | x :: a, h => by
    have := sumF_nonneg f a (fun y hy => h y (by simp [hy]))
    have := h x (by simp)
    simp only [sumF]
    omega

theorem sumF_take_le {α : Type} (f : α → Int) (a : List α) (h : ∀ x ∈ a, 0 ≤ f x) (k : Nat) : sumF f (a.take k) ≤ sumF f a := by
  have := sumF_split f a k
  have := sumF_nonneg f (a.drop k) (fun x hx => h x (List.mem_of_mem_drop hx))
  omega
end Go.Proofs.Ytamdgfklbjoaiaa.Ab

namespace Go.Proofs.Ytamdgfklbjoaiaa.Ab
open Go

/-! The fields of the variable structure, by names. -/
theorem Ar.eqs {A : Ar} (h : std = A) : A.bin = std.bin ∧ A.sh = std.sh ∧ A.cmp = std.cmp ∧ A.scmp = std.scmp ∧ A.bcmp = std.bcmp ∧ A.bnot = std.bnot ∧ A.neg = std.neg ∧ A.wrap = std.wrap ∧ A.cat = std.cat ∧ A.ssize = std.ssize ∧ A.ssub = std.ssub ∧ A.sget = std.sget ∧ A.len = std.len ∧ A.rsub = std.rsub ∧ A.app = std.app ∧ A.elt = std.elt ∧ A.set = std.set ∧ A.nth = std.nth ∧ A.drp = std.drp ∧ A.str = std.str ∧ A.int = std.int ∧ A.bool = std.bool ∧ A.row = std.row ∧ A.nat = std.nat ∧ A.nadd = std.nadd ∧ A.nsub = std.nsub ∧ A.band = std.band ∧ A.ofNat = std.ofNat ∧ A.strRow = std.strRow ∧ A.mkRow = std.mkRow ∧ A.mx = std.mx ∧ A.mn = std.mn ∧ A.bytes = std.bytes ∧ A.emp = std.emp := by subst h; exact ⟨rfl, rfl, rfl, rfl, rfl, rfl, rfl, rfl, rfl, rfl, rfl, rfl, rfl, rfl, rfl, rfl, rfl, rfl, rfl, rfl, rfl, rfl, rfl, rfl, rfl, rfl, rfl, rfl, rfl, rfl, rfl, rfl, rfl, rfl⟩

section
variable {α : Type} {c : α → List D} {a : List α} {xs : List (List D)} {k : Nat} {i : Int}
theorem rd_elt (hx : a.map c = xs) (hi : (k : Int) = i) (h : k < a.length) : std.elt xs i = c a[k] := by
  subst hx hi
  show (((a.map c)[(Int.ofNat k).toNat]?)).getD [] = _
  rw [show (Int.ofNat k).toNat = k from rfl]
  simp [h]
theorem rd_inR (hx : a.map c = xs) (hi : (k : Int) = i) (h : k < a.length) : InR i (std.len xs) := by
  subst hx hi
  refine ⟨Int.natCast_nonneg k, ?_⟩
  show (k : Int) < ((a.map c).length : Int)
  rw [List.length_map]
  omega
theorem rd_len (hx : a.map c = xs) : std.len xs = (a.length : Int) := by subst hx; rw [std_len, List.length_map]
end
theorem std_ssize {s : ByteArray} : std.ssize s = (s.size : Int) := rfl
theorem std_not {b : Bool} : std.bnot b = !b := rfl
theorem std_band {a b : Bool} : std.band a b = (a && b) := rfl
theorem std_bcmp {a b : Bool} : std.bcmp a b = (a == b) := rfl
theorem std_nat {n : Int} : std.nat n = n.toNat := rfl
theorem std_ofNat {n : Nat} : std.ofNat n = (n : Int) := rfl
theorem std_nadd {a b : Nat} : std.nadd a b = a + b := rfl
theorem std_nsub {a b : Nat} : std.nsub a b = a - b := rfl
theorem std_app {a b : List (List D)} : std.app a b = a ++ b := rfl
theorem std_wrapK {k : IntKind} {n : Int} : std.wrap k n = k.wrap n := rfl
theorem wrap_in {n : Int} (h : -9223372036854775808 ≤ n ∧ n < 9223372036854775808) : IntKind.i64.wrap n = n := i64_wrap h.1 h.2
theorem std_emp {xs : List (List D)} : std.emp xs = xs.isEmpty := rfl
theorem nc {n : Nat} : @NatCast.natCast Int instNatCastInt n = (n : Int) := rfl
theorem rd_n {α : Type} {c : α → List D} {a : List α} {xs : List (List D)} (hx : a.map c = xs) : (xs.length : Int) = (a.length : Int) := by rw [← hx, List.length_map]

/-! A row that is filled from the front. -/
section
variable {α : Type} {c : α → List D} {a : List α} {zs : List (List D)} {z : List D} {k : Nat} {i : Int}
def cpRow (c : α → List D) (a : List α) (z : List D) (k : Nat) : List (List D) := (a.take k).map c ++ List.replicate (a.length - k) z
theorem cp_length (hk : k ≤ a.length) : (cpRow c a z k).length = a.length := by unfold cpRow; simp; omega
theorem cp_get (hk : k < a.length) : (cpRow c a z k)[k]? = some z := by
  unfold cpRow
  rw [List.getElem?_append_right (by simp; omega), List.getElem?_replicate, if_pos (by simp; omega)]
theorem cp_end : cpRow c a z a.length = a.map c := by unfold cpRow; simp
theorem cp_zero : cpRow c a z 0 = List.replicate a.length z := by unfold cpRow; simp
theorem putAt_all {z ds : List D} (h : z.length = ds.length) : putAt z 0 ds = ds := by
  unfold putAt
  rw [List.take_zero, List.nil_append, List.drop_of_length_le (by omega), List.append_nil]
theorem cp_inR (hk : k < a.length) (hz : cpRow c a z k = zs) (hi : (k : Int) = i) : InR (std.ofNat (std.nadd 0 (std.nat i))) (std.len zs) := by
  subst hz hi
  refine ⟨Int.natCast_nonneg _, ?_⟩
  rw [std_len, cp_length (by omega)]
  show ((0 + (k : Int).toNat : Nat) : Int) < _
  omega
theorem cp_lenGe {n : Nat} (hk : k < a.length) (hz : cpRow c a z k = zs) (hi : (k : Int) = i) (hn : n ≤ z.length) : LenGe (std.elt zs (std.ofNat (std.nadd 0 (std.nat i)))) n := by
  subst hz hi
  refine ⟨?_⟩
  show n ≤ (((cpRow c a z k)[(((0 + (k : Int).toNat : Nat) : Int)).toNat]?).getD []).length
  rw [show (((0 + (k : Int).toNat : Nat) : Int)).toNat = k by omega, cp_get hk]
  exact hn
theorem cp_set (hk : k < a.length) (hz : cpRow c a z k = zs) (hi : (k : Int) = i) (hl : z.length = (c a[k]).length) : std.set zs (std.nadd 0 (std.nat i)) 0 (c a[k]) = cpRow c a z (k + 1) := by
  subst hz hi
  show (cpRow c a z k).set (0 + (k : Int).toNat) (putAt (((cpRow c a z k)[0 + (k : Int).toNat]?).getD []) 0 (c a[k])) = _
  rw [show 0 + (k : Int).toNat = k by omega, cp_get hk, Option.getD_some, putAt_all hl]
  unfold cpRow
  have e : a.length - k = (a.length - (k + 1)) + 1 := by omega
  have hl : ((a.take k).map c).length = k := by simp; omega
  rw [e, List.replicate_succ, List.set_append, if_neg (by omega), hl, Nat.sub_self, List.set_cons_zero, List.take_succ_eq_append_getElem hk, List.map_append, List.append_assoc]
  rfl
end
theorem i_next {k : Nat} {i : Int} (hi : (k : Int) = i) (h : k < 2 ^ 62) : std.bin .add .i64 i 1 = ((k + 1 : Nat) : Int) := by rw [std_add, i64_wrap (by omega) (by omega)]; omega
theorem endD_ref {P : Program} {st : St} {t r n sz : Nat} {fz : Bool} {xs : List (List D)} (h : st.sl t = .ref r 0 n) (hr : st.look r = some (.row sz fz xs)) (hn : n = xs.length) : EndD P #[.tmp t] (.d (.row sz xs)) .ret st := by
  refine endD_one (L := if fz then [] else [r]) h ?_
  subst hn
  show AV.lendA st.look (.ref r 0 xs.length) = _
  simp only [AV.lendA, hr]
  rw [if_pos (by omega), List.drop_zero, List.take_length]
end Go.Proofs.Ytamdgfklbjoaiaa.Ab

namespace Go.Proofs.Ytamdgfklbjoaiaa.Ab
open Go

/-! The arguments of a statement, as data of a known form. -/
def laidF (P : Program) : Nat → List Field → Bool
  | _, [] => true
  | o, f :: l => f.offset == o && laidF P (o + P.cellsOf f.type) l
def sumC (P : Program) : List Field → Nat
  | [] => 0
  | f :: l => P.cellsOf f.type + sumC P l

/-- Types of numbers, texts, tests, slices and structs alone. -/
def plainT (P : Program) : Nat → TypeId → Bool
  | 0, _ => false
  | g + 1, t =>
    match P.underlying t with
    | some .bool => P.cellsOf t == 1
    | some (.int _) => P.cellsOf t == 1
    | some .string => P.cellsOf t == 1
    | some (.slice e) => P.cellsOf t == 1 && decide (0 < P.cellsOf e) && plainT P g e
    | some (.struct fs) => laidF P 0 fs.toList && sumC P fs.toList == P.cellsOf t && fs.toList.all fun f => plainT P g f.type
    | _ => false

mutual
inductive ShD (P : Program) : TypeId → List D → Prop
  | bool {t : TypeId} (b : Bool) (h : P.underlying t = some .bool) : ShD P t [.sc (.bool b)]
  | int {t : TypeId} {k : IntKind} (n : Int) (h : P.underlying t = some (.int k)) (hw : (Lit.int k n).wf = true) : ShD P t [.sc (.int k n)]
  | str {t : TypeId} (s : ByteArray) (h : P.underlying t = some .string) (hs : s.size ≤ reachBytes) : ShD P t [.sc (.string s)]
  | sl {t e : TypeId} (xs : List (List D)) (h : P.underlying t = some (.slice e)) (hl : xs.length * P.bytesOf e ≤ reachBytes) (hx : ∀ x ∈ xs, ShD P e x) : ShD P t [.row (P.cellsOf e) xs]
  | st {t : TypeId} {fs : Array Field} (xs : List D) (h : P.underlying t = some (.struct fs)) (hx : ShDs P fs.toList xs) : ShD P t xs
inductive ShDs (P : Program) : List Field → List D → Prop
  | nil : ShDs P [] []
  | cons {f : Field} {l : List Field} {a b : List D} (h : ShD P f.type a) (t : ShDs P l b) : ShDs P (f :: l) (a ++ b)
end

inductive RelDs (w : World) (S : Nat → Prop) : List D → List Value → Prop
  | nil : RelDs w S [] []
  | cons {x : D} {v : Value} {xs : List D} {vs : List Value} (h : RelD w S x v) (t : RelDs w S xs vs) : RelDs w S (x :: xs) (v :: vs)

theorem RelDs.one {w : World} {S : Nat → Prop} {x : D} {v : Value} (h : RelD w S x v) : RelDs w S [x] [v] := .cons h .nil
theorem RelDs.append {w : World} {S : Nat → Prop} {a b : List D} {c d : List Value} (h : RelDs w S a c) (k : RelDs w S b d) : RelDs w S (a ++ b) (c ++ d) := by
  induction h with
  | nil => exact k
  | cons h _ ih => exact .cons h ih
theorem RelDs.length {w : World} {S : Nat → Prop} {a : List D} {c : List Value} (h : RelDs w S a c) : a.length = c.length := by
  induction h with
  | nil => rfl
  | cons h _ ih => simp [ih]
theorem RelDs.get {w : World} {S : Nat → Prop} {a : List D} {c : List Value} (h : RelDs w S a c) : ∀ (j : Nat) x, a[j]? = some x → ∃ v, c[j]? = some v ∧ RelD w S x v := by
  induction h with
  | nil => intro j x h; simp at h
  | cons h _ ih =>
    intro j x hj
    cases j with
    | zero => simp at hj; subst hj; exact ⟨_, rfl, h⟩
    | succ j => simp at hj; simpa using ih j x hj

theorem addr_add (b off i : Nat) : (⟨b, off, none⟩ : Addr).add i = ⟨b, off + i, none⟩ := by
  unfold Addr.add
  split
  · rename_i h; subst h; rfl
  · rfl
theorem addr_add2 (b off i j : Nat) : ((⟨b, off, none⟩ : Addr).add i).add j = ⟨b, off + i + j, none⟩ := by rw [addr_add, addr_add]

section
variable {H : Type} {enc : TypeId × Value → H} {P : Program} {w : World} {base : Nat} {spare : Nat → Bool} {held : Bool}

theorem weightsAll_mem {e : TypeId} : ∀ {ds : List (DataW H)} {d : DataW H}, d ∈ ds → ∀ n ∈ d.weights P e, n ∈ DataW.weightsAll P e ds
  | [], d, h, _, _ => by simp at h
  | x :: l, d, h, n, hn => by
    simp only [DataW.weightsAll, List.mem_append]
    rcases List.mem_cons.1 h with rfl | h
    · exact .inl hn
    · exact .inr (weightsAll_mem h n hn)

theorem pick {α β : Type} {l : List α} {R : Nat → β → Prop} : ∀ {n : Nat}, (∀ i, i < n → ∃ y, R i y) → ∃ ys : List β, ys.length = n ∧ ∀ (i : Nat) y, ys[i]? = some y → R i y
  | 0, _ => ⟨[], rfl, by simp⟩
  | n + 1, h => by
    obtain ⟨ys, h1, h2⟩ := pick (l := l) (R := R) (n := n) (fun i hi => h i (by omega))
    obtain ⟨y, hy⟩ := h n (by omega)
    refine ⟨ys ++ [y], by simp [h1], ?_⟩
    intro i z hz
    by_cases hi : i < n
    · rw [List.getElem?_append_left (by omega)] at hz
      exact h2 i z hz
    · have hlt := (List.getElem?_eq_some_iff.1 hz).1
      simp at hlt
      have : i = n := by omega
      subst this
      rw [List.getElem?_append_right (by omega)] at hz
      simp [h1] at hz
      subst hz
      exact hy

theorem fields_sh {g n : Nat} {fs0 : List Field} {xs : List (DataW H × List MemPlace)} (ih : ∀ {t : TypeId} {cs : List Value} {x : DataW H × List MemPlace}, plainT P g t = true → DataW.trod enc P w base spare held n t cs = some x → (∀ m ∈ x.1.weights P t, m ≤ reachBytes) →
      ∃ ys, RelDs w (fun b => b < w.heap.size) ys cs ∧ ShD P t ys ∧ cs.length = P.cellsOf t) :
    ∀ {fs : List Field} {o i : Nat} {cs : List Value}, laidF P o fs = true → fs.all (fun f => plainT P g f.type) = true → (∀ (k : Nat) f, fs[k]? = some f → DataW.trod enc P w base spare held n f.type ((cs.drop f.offset).take (P.cellsOf f.type)) = xs[i + k]?) →
      i + fs.length = xs.length → (∀ m ∈ DataW.weightsEach P (fs.map (·.type)) ((xs.drop i).map (·.1)), m ≤ reachBytes) → cs.length = o + sumC P fs → ∃ ys, RelDs w (fun b => b < w.heap.size) ys (cs.drop o) ∧ ShDs P fs ys
  | [], o, i, cs, _, _, _, _, _, hlen => by
    refine ⟨[], ?_, .nil⟩
    rw [List.drop_of_length_le (by simp [sumC] at hlen; omega)]
    exact .nil
  | f :: fs, o, i, cs, hl, ha, ht, hn, hw, hlen => by
    simp only [laidF, Bool.and_eq_true, beq_iff_eq] at hl
    simp only [List.all_cons, Bool.and_eq_true] at ha
    have hi : i < xs.length := by simp at hn; omega
    have h0 := ht 0 f rfl
    simp only [Nat.add_zero] at h0
    have hx : xs[i]? = some xs[i] := List.getElem?_eq_getElem hi
    rw [hx, hl.1] at h0
    have hd : xs.drop i = xs[i] :: xs.drop (i + 1) := List.drop_eq_getElem_cons hi
    have hw' : ∀ m ∈ DataW.weights P f.type xs[i].1 ++ DataW.weightsEach P (fs.map (·.type)) ((xs.drop (i + 1)).map (·.1)), m ≤ reachBytes := by
      rw [hd] at hw
      simpa only [List.map_cons, DataW.weightsEach] using hw
    obtain ⟨ys, h1, h2, h3⟩ := ih ha.1 h0 (fun m hm => hw' m (List.mem_append_left _ hm))
    simp only [sumC] at hlen
    obtain ⟨zs, k1, k2⟩ := fields_sh (fs0 := fs0) ih (fs := fs) (o := o + P.cellsOf f.type) (i := i + 1) (cs := cs) hl.2 ha.2 (fun k f' hf => by
      have := ht (k + 1) f' (by simpa using hf)
      rwa [show i + (k + 1) = i + 1 + k by omega] at this) (by simp at hn; omega) (fun m hm => hw' m (List.mem_append_right _ hm)) (by omega)
    refine ⟨ys ++ zs, ?_, .cons h2 k2⟩
    rw [show cs.drop o = (cs.drop o).take (P.cellsOf f.type) ++ cs.drop (o + P.cellsOf f.type) by rw [← List.drop_drop, List.take_append_drop]]
    exact h1.append k1

theorem trod_sh : ∀ {g n : Nat} {t : TypeId} {cs : List Value} {x : DataW H × List MemPlace}, plainT P g t = true → DataW.trod enc P w base spare held n t cs = some x → (∀ m ∈ x.1.weights P t, m ≤ reachBytes) →
    ∃ ys, RelDs w (fun b => b < w.heap.size) ys cs ∧ ShD P t ys ∧ cs.length = P.cellsOf t
  | 0, n, t, cs, x, hp, _, _ => by simp [plainT] at hp
  | g + 1, n, t, cs, x, hp, h, hw => by
    unfold plainT at hp
    split at hp
    · rename_i hu
      obtain ⟨b, rfl, rfl⟩ := DataW.trod_bool hu h
      exact ⟨_, .one (.sc _ rfl), .bool b hu, by simpa using (beq_iff_eq.1 hp).symm⟩
    · rename_i k hu
      obtain ⟨m, rfl, rfl, hwf⟩ := DataW.trod_int hu h
      exact ⟨_, .one (.sc _ rfl), .int m hu hwf, by simpa using (beq_iff_eq.1 hp).symm⟩
    · rename_i hu
      obtain ⟨s, rfl, rfl, _⟩ := DataW.trod_string hu h
      refine ⟨_, .one (.sc _ rfl), .str s hu ?_, by simpa using (beq_iff_eq.1 hp).symm⟩
      have := hw s.data.toList.length (by simp [DataW.weights])
      simpa using this
    · rename_i e hu
      simp only [Bool.and_eq_true, beq_iff_eq, decide_eq_true_eq] at hp
      obtain ⟨⟨hc1, he0⟩, hpe⟩ := hp
      rcases DataW.trod_slice hu h with ⟨rfl, rfl⟩ | ⟨a, len, cap, elems, rest, n', rfl, rfl, rfl, hb, hl, hm, hlen, hel, hsp, hns⟩
      · exact ⟨[.row (P.cellsOf e) []], .one (.nil _ _ _), .sl [] hu (by simp) (by simp), hc1.symm⟩
      · simp only [DataW.weights, hu, List.length_map, List.mem_cons, List.mem_append] at hw
        have each : ∀ i, i < len → ∃ ys, ∃ cs', w.cells? base (a.add (i * P.cellsOf e)) (P.cellsOf e) = some cs' ∧ RelDs w (fun b => b < w.heap.size) ys cs' ∧ ShD P e ys ∧ cs'.length = P.cellsOf e := by
          intro i hi
          have h1 := hel i hi
          have hx : elems[i]? = some (elems[i]'(by omega)) := List.getElem?_eq_getElem (by omega)
          rw [hx] at h1
          obtain ⟨cs', hcs, htr⟩ := Option.bind_eq_some_iff.1 h1
          obtain ⟨ys, k1, k2, k3⟩ := trod_sh hpe htr (fun m hm => hw m (.inr (.inl (weightsAll_mem (List.mem_map.2 ⟨_, List.getElem_mem (by omega), rfl⟩) m hm))))
          exact ⟨ys, cs', hcs, k1, k2, k3⟩
        obtain ⟨ys, hyl, hy⟩ := pick (l := ([] : List Nat)) each
        refine ⟨[.row (P.cellsOf e) ys], .one ?_, .sl ys hu ?_ ?_, hc1.symm⟩
        · cases len with
          | zero =>
            obtain rfl : ys = [] := by simpa using hyl
            exact .nil _ _ _
          | succ len =>
            have cellAt : ∀ (i : Nat) z, ys[i]? = some z → ∃ cs', z.length = P.cellsOf e ∧ cs'.length = P.cellsOf e ∧ (∀ j, j < P.cellsOf e → w.cell? ((a.add (i * P.cellsOf e)).add j) = cs'[j]?) ∧ RelDs w (fun b => b < w.heap.size) z cs' := by
              intro i z hz
              obtain ⟨cs', h1, h2, h3, h4⟩ := hy i z hz
              obtain ⟨_, _, h5⟩ := World.cells?_some h1
              exact ⟨cs', h2.length.trans h4, h4, h5, h2⟩
            have h00 : 0 < ys.length := by omega
            obtain ⟨cs0, _, hl0, hc0, _⟩ := cellAt 0 ys[0] (List.getElem?_eq_getElem h00)
            have hc00 := hc0 0 he0
            have hc00' : w.cell? ((a.add (0 * P.cellsOf e)).add 0) = some (cs0[0]'(by omega)) := hc00.trans (List.getElem?_eq_getElem (by omega))
            have hspot : a.spot = none := by simpa [Addr.add] using World.cell?_spot hc00'
            have hblk : a.block < w.heap.size := by
              obtain ⟨cs', h1, _⟩ := hy 0 ys[0] (List.getElem?_eq_getElem h00)
              have := World.cells?_block h1 he0
              simpa [Addr.add] using this
            obtain ⟨b, off, spot⟩ := a
            simp only at hspot hblk
            subst hspot
            rw [← hyl]
            refine .row (P.cellsOf e) ys b off cap (fun i j => ((w.cell? ⟨b, off + i * P.cellsOf e + j, none⟩).getD undef)) hblk (by omega) ?_ ?_ ?_
            · intro i z hz
              obtain ⟨_, h, _⟩ := cellAt i z hz
              exact h
            · intro i z j y hz hy'
              obtain ⟨cs', h1, h2, h3, h4⟩ := cellAt i z hz
              have hj : j < P.cellsOf e := by rw [← h1]; exact (List.getElem?_eq_some_iff.1 hy').1
              have h5 := h3 j hj
              rw [List.getElem?_eq_getElem (by omega)] at h5
              have h6 : w.cell? ⟨b, off + i * P.cellsOf e + j, none⟩ = some (cs'[j]'(by omega)) := by rw [addr_add2] at h5; exact h5
              rw [h6]
              rfl
            · intro i z j y hz hy'
              obtain ⟨cs', h1, h2, h3, h4⟩ := cellAt i z hz
              have hj : j < P.cellsOf e := by rw [← h1]; exact (List.getElem?_eq_some_iff.1 hy').1
              have h5 := h3 j hj
              rw [List.getElem?_eq_getElem (by omega)] at h5
              have h6 : w.cell? ⟨b, off + i * P.cellsOf e + j, none⟩ = some (cs'[j]'(by omega)) := by rw [addr_add2] at h5; exact h5
              rw [h6]
              obtain ⟨v, hv, hr⟩ := h4.get j y hy'
              rw [List.getElem?_eq_getElem (by omega)] at hv
              obtain rfl := Option.some.inj hv
              exact hr
        · have h1 := hw _ (.inl rfl)
          refine Nat.le_trans (Nat.mul_le_mul_right _ ?_) h1
          omega
        · intro z hz
          obtain ⟨i, hi⟩ := List.getElem?_of_mem hz
          obtain ⟨_, _, _, h, _⟩ := hy i z hi
          exact h
    · rename_i fs hu
      simp only [Bool.and_eq_true, beq_iff_eq] at hp
      obtain ⟨⟨hlay, hsum⟩, hall⟩ := hp
      obtain ⟨xs, n', rfl, rfl, hlen, hxl, hel⟩ := DataW.trod_struct hu h
      simp only [DataW.weights, hu] at hw
      obtain ⟨ys, h1, h2⟩ := fields_sh (fs0 := fs.toList) (xs := xs) (fun {t} {cs} {x} a b c => trod_sh (g := g) a b c) (fs := fs.toList) (o := 0) (i := 0) (cs := cs) hlay hall (fun k f hf => by
        rw [Nat.zero_add]; exact hel k f (by simpa using hf)) (by simp [hxl]) (by simpa using hw) (by omega)
      exact ⟨ys, by simpa using h1, .st ys hu h2, hlen⟩
    · cases hp
end
end Go.Proofs.Ytamdgfklbjoaiaa.Ab

namespace Go.Proofs.Ytamdgfklbjoaiaa.Ab
open Go
open Go.ChangeShapes Go.WideShapes Go.ChangeAt Go.RowKit

/-! From what a statement's function comes to, to the statement. -/
def argAV (P : Program) (t : TypeId) (ys : List D) : AV :=
  match P.underlying t with
  | some (.struct _) => .agg (ys.map .d)
  | _ => match ys with
    | [y] => .d y
    | _ => .junk

inductive ShAll (P : Program) : List TypeId → List (List D) → Prop
  | nil : ShAll P [] []
  | cons {t : TypeId} {ts : List TypeId} {y : List D} {ys : List (List D)} (h : ShD P t y) (k : ShAll P ts ys) : ShAll P (t :: ts) (y :: ys)

def argAVs (P : Program) : List TypeId → List (List D) → List AV
  | t :: ts, y :: ys => argAV P t y :: argAVs P ts ys
  | _, _ => []

theorem RelDs.ones {w : World} {S : Nat → Prop} {a : List D} {c : List Value} (h : RelDs w S a c) : ∀ u ∈ c, u.oneCell' = true := by
  induction h with
  | nil => simp
  | cons h _ ih =>
    intro u hu
    rcases List.mem_cons.1 hu with rfl | hu
    · exact h.one
    · exact ih u hu

section
variable {H : Type} {enc : TypeId × Value → H} {P : Program} {W : World} {base base' : Nat} {spare : Nat → Bool} {held : Bool} {E : Env}

theorem arg_rel {g : Nat} {t : TypeId} {v : Value} {d : DataW H} {p : List MemPlace} (hEw : E.w = W) (hES : E.S = fun b => b < W.heap.size) (hp : plainT P g t = true) (hv : Value.okWide P W .any base' t v)
    (h : DataW.Trod enc P W base spare held t v d p) (hw : ∀ m ∈ d.weights P t, m ≤ reachBytes) : ∃ ys, ShD P t ys ∧ RelAV E (argAV P t ys) v := by
  obtain ⟨fuel, hf⟩ := h
  obtain ⟨ys, h1, h2, h3⟩ := trod_sh hp hf hw
  refine ⟨ys, h2, ?_⟩
  have h1' : RelDs E.w E.S ys v.cells.toList := by rw [hEw, hES]; exact h1
  have one : (∀ cs, v ≠ .agg cs) → (∀ fs, P.underlying t ≠ some (.struct fs)) → RelAV E (argAV P t ys) v := by
    intro hn hs
    have hc : v.cells.toList = [v] := by
      cases v <;> first | rfl | exact absurd rfl (hn _)
    rw [hc] at h1'
    cases h1' with
    | cons hr ht =>
      cases ht with
      | nil =>
        unfold argAV
        split
        · rename_i fs hu; exact absurd hu (hs fs)
        · exact .d _ _ hr
  cases g with
  | zero => simp [plainT] at hp
  | succ g =>
    unfold plainT at hp
    split at hp
    · rename_i hu; obtain ⟨b, rfl⟩ := okWide_bool hu hv; exact one (by intro cs h; cases h) (by intro fs h; rw [hu] at h; cases h)
    · rename_i hu; obtain ⟨b, rfl⟩ := okWide_int hu hv; exact one (by intro cs h; cases h) (by intro fs h; rw [hu] at h; cases h)
    · rename_i hu; obtain ⟨b, rfl⟩ := okWide_string hu hv; exact one (by intro cs h; cases h) (by intro fs h; rw [hu] at h; cases h)
    · rename_i hu; obtain ⟨a, l, c, rfl⟩ := okWide_slice hu hv; exact one (by intro cs h; cases h) (by intro fs h; rw [hu] at h; cases h)
    · rename_i fs hu
      obtain ⟨cs, rfl, _⟩ := okWide_struct hu hv
      have e : argAV P t ys = .agg (ys.map .d) := by unfold argAV; rw [hu]
      rw [e]
      have h1'' : RelDs E.w E.S ys cs.toList := h1'
      refine .agg _ cs (by have := h1''.length; simp at this; simp [this]) ?_ (fun u hu => h1''.ones u (by simpa using hu))
      intro j y hy
      rw [List.getElem?_map] at hy
      obtain ⟨x, hx, rfl⟩ := Option.map_eq_some_iff.1 hy
      obtain ⟨u, hu, hr⟩ := h1''.get j x hx
      have : cs.getD j undef = u := by
        rw [Array.getElem?_toList] at hu
        rw [Array.getD_eq_getD_getElem?, hu]; rfl
      rw [this]
      exact .d _ _ hr
    · cases hp

theorem args_rel {g : Nat} (hEw : E.w = W) (hES : E.S = fun b => b < W.heap.size) : ∀ {ts : List TypeId} {vs : List Value} {ds : List (DataW H)} {p : List MemPlace}, ts.all (plainT P g) = true → (∀ (j : Nat) t v, ts[j]? = some t → vs[j]? = some v → Value.okWide P W .any base' t v) →
    DataW.TrodAll enc P W base spare held ts vs ds p → (∀ m ∈ DataW.weightsEach P ts ds, m ≤ reachBytes) → ∃ yss, ShAll P ts yss ∧ (argAVs P ts yss).length = vs.length ∧ ∀ (j : Nat) y, (argAVs P ts yss)[j]? = some y → ∃ v, vs[j]? = some v ∧ RelAV E y v
  | [], vs, ds, p, _, _, h, _ => by
    cases vs with
    | nil => exact ⟨[], .nil, rfl, by simp [argAVs]⟩
    | cons v vs => cases ds <;> simp [DataW.TrodAll] at h
  | t :: ts, vs, ds, p, hp, hv, h, hw => by
    obtain ⟨v, vs', d, ds', p1, q, rfl, rfl, rfl, h1, h2⟩ := trodAll_cons h
    simp only [List.all_cons, Bool.and_eq_true] at hp
    simp only [DataW.weightsEach, List.mem_append] at hw
    obtain ⟨ys, k1, k2⟩ := arg_rel hEw hES hp.1 (hv 0 t v rfl rfl) h1 (fun m hm => hw m (.inl hm))
    obtain ⟨yss, k3, k4, k5⟩ := args_rel hEw hES hp.2 (fun j t v a b => hv (j + 1) t v (by simpa using a) (by simpa using b)) h2 (fun m hm => hw m (.inr hm))
    refine ⟨ys :: yss, .cons k1 k3, by simp [argAVs, k4], ?_⟩
    intro j y hy
    cases j with
    | zero => simp [argAVs] at hy; subst hy; exact ⟨v, rfl, k2⟩
    | succ j => simp [argAVs] at hy; simpa using k5 j y hy

/-- The run of a statement's function: true, and all memory that was there is as it was. -/
theorem row_calls {f : FuncId} {g : Nat} {ts : List TypeId} {args : Array Value} {ds : List (DataW H)} {p : List MemPlace} (hp : ts.all (plainT P g) = true) (hcall : ∀ yss, ShAll P ts yss → CallOk P f (argAVs P ts yss) [] ⟨.d (.sc (.bool true)), [], []⟩)
    (hv : ∀ (j : Nat) t v, ts[j]? = some t → args.toList[j]? = some v → Value.okWide P W .any base' t v) (h : DataW.TrodAll enc P W base spare held ts args.toList ds p) (hw : ∀ m ∈ DataW.weightsEach P ts ds, m ≤ reachBytes) :
    Calls P f args W fun e W' => e = .returned (.bool true) ∧ Below W.heap.size W W' := by
  let S : Nat → Prop := fun b => b < W.heap.size
  let β : Nat → Option Nat := fun _ => none
  obtain ⟨yss, h1, h2, h3⟩ := args_rel (E := callEnv W S β [] []) rfl rfl hp hv h hw
  have hM : Mem (callCtx W S β []) (callEnv W S β [] []) := {
    os := rfl
    output := rfl
    tape := rfl
    size := Nat.le_refl _
    keep := fun _ _ _ => rfl
    shape := fun _ _ h => h
    s0 := fun _ h => h
    slt := fun _ h => h
    snew := fun _ h => .inl h
    blt := fun r b h => absurd h (Nat.not_lt_zero r)
    bown := fun r R b h => absurd h (Nat.not_lt_zero r)
    bkeep := fun r R h => absurd h (Nat.not_lt_zero r)
    inj := fun r r' R R' b h => absurd h (Nat.not_lt_zero r)
    roots := fun r R h => absurd h (Nat.not_lt_zero r) }
  have hA : Args (callEnv W S β [] []) (argAVs P ts yss) args := by
    refine ⟨by rw [h2]; simp, ?_⟩
    intro j y hy
    obtain ⟨v, hv, hr⟩ := h3 j y hy
    have : args.getD j undef = v := by
      rw [Array.getElem?_toList] at hv
      rw [Array.getD_eq_getD_getElem?, hv]; rfl
    rw [this]
    exact hr
  refine (hcall yss h1 W S β args hM hA).mono ?_
  rintro e W' ⟨v, E', rfl, rfl, hO⟩
  have hb : v = .bool true := sc_rel hO.rel
  subst hb
  refine ⟨rfl, hO.mem.os, hO.mem.tape, hO.mem.output, hO.mem.size, ?_⟩
  intro k hk
  refine hO.mem.keep k hk ?_
  rintro ⟨r, R, hR, _⟩
  simp at hR
end

/-! What is told of an argument, by its type. -/
section
variable {P : Program} {t : TypeId} {xs : List D}
theorem ShD.inv_int {k : IntKind} (hu : P.underlying t = some (.int k)) (h : ShD P t xs) : ∃ n, xs = [.sc (.int k n)] ∧ (Lit.int k n).wf = true := by
  cases h with
  | int n h hw => rw [hu] at h; obtain rfl : k = _ := by injection h with h; injection h
                  exact ⟨n, rfl, hw⟩
  | bool b h => rw [hu] at h; cases h
  | str s h => rw [hu] at h; cases h
  | sl ys h => rw [hu] at h; cases h
  | st ys h => rw [hu] at h; cases h
theorem ShD.inv_str (hu : P.underlying t = some .string) (h : ShD P t xs) : ∃ s : ByteArray, xs = [.sc (.string s)] ∧ s.size ≤ reachBytes := by
  cases h with
  | str s h hs => exact ⟨s, rfl, hs⟩
  | bool b h => rw [hu] at h; cases h
  | int n h => rw [hu] at h; cases h
  | sl ys h => rw [hu] at h; cases h
  | st ys h => rw [hu] at h; cases h
theorem ShD.inv_bool (hu : P.underlying t = some .bool) (h : ShD P t xs) : ∃ b : Bool, xs = [.sc (.bool b)] := by
  cases h with
  | bool b h => exact ⟨b, rfl⟩
  | str b h => rw [hu] at h; cases h
  | int n h => rw [hu] at h; cases h
  | sl ys h => rw [hu] at h; cases h
  | st ys h => rw [hu] at h; cases h
theorem ShD.inv_sl {e : TypeId} (hu : P.underlying t = some (.slice e)) (h : ShD P t xs) : ∃ ys, xs = [.row (P.cellsOf e) ys] ∧ ys.length * P.bytesOf e ≤ reachBytes ∧ ∀ x ∈ ys, ShD P e x := by
  cases h with
  | sl ys h hl hx => rw [hu] at h; obtain rfl : e = _ := by injection h with h; injection h
                     exact ⟨ys, rfl, hl, hx⟩
  | bool b h => rw [hu] at h; cases h
  | int n h => rw [hu] at h; cases h
  | str ys h => rw [hu] at h; cases h
  | st ys h => rw [hu] at h; cases h
theorem ShD.inv_st {fs : Array Field} (hu : P.underlying t = some (.struct fs)) (h : ShD P t xs) : ShDs P fs.toList xs := by
  cases h with
  | st ys h hx => rw [hu] at h; obtain rfl : fs = _ := by injection h with h; injection h
                  exact hx
  | bool b h => rw [hu] at h; cases h
  | int n h => rw [hu] at h; cases h
  | str ys h => rw [hu] at h; cases h
  | sl ys h => rw [hu] at h; cases h

/-- A row of elements of which each is known. -/
theorem rows_of {α : Type} {c : α → List D} {p : α → Prop} : ∀ {ys : List (List D)}, (∀ x ∈ ys, ∃ a, x = c a ∧ p a) → ∃ as : List α, as.map c = ys ∧ as.length = ys.length ∧ ∀ a ∈ as, p a
  | [], _ => ⟨[], rfl, rfl, by simp⟩
  | y :: ys, h => by
    obtain ⟨a, rfl, ha⟩ := h y (by simp)
    obtain ⟨as, rfl, hl, hp⟩ := rows_of (ys := ys) (fun x hx => h x (by simp [hx]))
    refine ⟨a :: as, rfl, by simp, ?_⟩
    intro b hb
    rcases List.mem_cons.1 hb with rfl | hb
    · exact ha
    · exact hp b hb
theorem reach_lt : reachBytes < 2 ^ 47 := by decide
/-- A row of texts. -/
theorem ShD.strs {e : TypeId} (hu : P.underlying t = some (.slice e)) (he : P.underlying e = some .string) (hc : P.cellsOf e = 1) (hb : P.bytesOf e = 16) (h : ShD P t xs) : ∃ a : List ByteArray, xs = [.row 1 (a.map cS)] ∧ a.length < 2 ^ 44 ∧ ∀ s ∈ a, s.size < 2 ^ 47 := by
  obtain ⟨ys, rfl, hl, hx⟩ := h.inv_sl hu
  obtain ⟨as, rfl, hl', hp⟩ := rows_of (c := cS) (p := fun s => s.size < 2 ^ 47) (ys := ys) (fun x hxm => by
    obtain ⟨s, rfl, hs⟩ := (hx x hxm).inv_str he
    exact ⟨s, rfl, Nat.lt_of_le_of_lt hs reach_lt⟩)
  have := reach_lt
  rw [hb] at hl
  exact ⟨as, by rw [hc], by omega, hp⟩
theorem ShD.ints {e : TypeId} (hu : P.underlying t = some (.slice e)) (he : P.underlying e = some (.int .i64)) (hc : P.cellsOf e = 1) (hb : P.bytesOf e = 8) (h : ShD P t xs) : ∃ a : List Int, xs = [.row 1 (a.map cI)] ∧ a.length < 2 ^ 44 ∧ ∀ n ∈ a, (Lit.int .i64 n).wf = true := by
  obtain ⟨ys, rfl, hl, hx⟩ := h.inv_sl hu
  obtain ⟨as, rfl, hl', hp⟩ := rows_of (c := cI) (p := fun n => (Lit.int .i64 n).wf = true) (ys := ys) (fun x hxm => by
    obtain ⟨s, rfl, hs⟩ := (hx x hxm).inv_int he
    exact ⟨s, rfl, hs⟩)
  have := reach_lt
  rw [hb] at hl
  exact ⟨as, by rw [hc], by omega, hp⟩
end
theorem sumF_mem_le {α : Type} (f : α → Int) (h : ∀ x, 0 ≤ f x) : ∀ {a : List α} {x : α}, x ∈ a → f x ≤ sumF f a
  | y :: a, x, hx => by
    have hn := sumF_nonneg f a (fun z _ => h z)
    have hy := h y
    simp only [sumF]
    rcases List.mem_cons.1 hx with rfl | hx
    · omega
    · have := sumF_mem_le f h hx
      omega
/-- The end of a function whose result is a variable in memory. -/
theorem endD_cell {P : Program} {st : St} {tab : List (Nat × TyRow)} (hT : TabOk P tab) {a t n : Nat} {g : Bool} {R : TyRow} {av0 av : AV} {L : List Nat} (hR : tabGet tab t = some R) (hg : R.agg = some g) (hn : R.sz = some n) (h : evLoad st.look n g (st.sl a) = some av0) (hr : av0.rdo st.look = some (av, L)) : EndD P #[.cell a t] av .ret st := by
  obtain rfl := hT t R hR
  refine ⟨[av0], L, ?_, hr⟩
  have hg' : aggT P t = some g := hg
  have hn' : szT P t = some n := hn
  simp [resAll, resOne, hg', hn', h]
end Go.Proofs.Ytamdgfklbjoaiaa.Ab

namespace Go.Proofs.Ytamdgfklbjoaiaa.Ab
open Go

/-! Loops whose rounds leave roots behind that nobody names any more. -/
def slIds (n : Nat) (l : List (Nat × AV)) : Bool := l.all fun p => p.2.ids.all fun r => decide (r < n)
def rtIds (n : Nat) (l : List Root) : Bool := l.all fun R => R.ids.all fun r => decide (r < n)

theorem look_ids {n : Nat} : ∀ {l : List (Nat × AV)}, slIds n l = true → ∀ t, ∀ r ∈ (look l t).ids, r < n
  | [], _, t, r, hr => by simp [look, AV.ids] at hr
  | (s, x) :: l, h, t, r, hr => by
    simp only [slIds, List.all_cons, Bool.and_eq_true] at h
    simp only [look] at hr
    split at hr
    · have := List.all_eq_true.1 h.1 r hr
      simpa using this
    · exact look_ids (l := l) h.2 t r hr

theorem rt_ids {n : Nat} {l : List Root} (h : rtIds n l = true) (r : Nat) (R : Root) (hR : l[r]? = some R) : ∀ i ∈ R.ids, i < n := by
  intro i hi
  have := List.all_eq_true.1 (List.all_eq_true.1 h R (List.mem_of_getElem? hR)) i hi
  simpa using this

section
variable {P : Program} {N : Nat} {Q : Exit → St → Prop} {st : St}

theorem LpW.ofN {κ : Type} {body : Code} (inv : κ → Prop) (μ : κ → Nat) (sl : κ → List (Nat × AV)) (rt : κ → List Root) (k0 : κ) (n0 : Nat) (h0 : inv k0) (hw : WeakL (sl k0) st.sl) (hrt : st.rt = rt k0)
    (hids : ∀ k, inv k → (rt k).length = n0 ∧ slIds n0 (sl k) = true ∧ rtIds n0 (rt k) = true)
    (round : ∀ k, inv k → AW P N body (Exit.thenQ (fun st' => ∃ k', inv k' ∧ μ k' < μ k ∧ WeakL (sl k') st'.sl ∧ st'.rt.take n0 = rt k') Q) ⟨look (sl k), rt k⟩) : LpW P N body Q st := by
  refine ⟨AW.weak (sl' := look (sl k0)) hw.look ?_⟩
  rw [hrt]
  intro c Ei a w hH
  have hm : c.m ≤ n0 := by
    obtain ⟨E, _, _, _, _, _, _, _, _, hm⟩ := hH
    exact Nat.le_trans hm (Nat.le_of_eq (hids k0 h0).1)
  let J : Act → World → Nat → Prop := fun a w n => ∃ k, inv k ∧ μ k = n ∧ Holds c Ei N ⟨look (sl k), rt k⟩ a w
  let ν : Act → World → Nat := fun a w => open Classical in if h : ∃ k, J a w k ∧ ∀ m, J a w m → k ≤ m then h.choose else 0
  have hν : ∀ {a w n}, J a w n → J a w (ν a w) ∧ ν a w ≤ n := by
    intro a w n h
    have hl := least n h
    have : ν a w = hl.choose := dif_pos hl
    rw [this]
    exact ⟨hl.choose_spec.1, hl.choose_spec.2 n h⟩
  refine wp_loop (fun a w => ∃ n, J a w n) ν ⟨μ k0, k0, h0, rfl, hH⟩ ?_
  rintro a w ⟨n, hn⟩
  obtain ⟨⟨k, hk, hμ, hH'⟩, _⟩ := hν hn
  refine wp_mono (round k hk c Ei a w hH') ?_
  rintro e a' w' ⟨st', hq, hH''⟩
  cases e with
  | normal =>
    obtain ⟨k', h1, h2, h3, h4⟩ := hq
    obtain ⟨i1, i2, i3⟩ := hids k' h1
    have hlen : n0 ≤ st'.rt.length := by
      have := congrArg List.length h4
      rw [List.length_take, i1] at this
      omega
    have hD := hH''.drop (n := n0) (sl' := look (sl k')) hm hlen (by
      intro t
      rcases h3.look t with h | h
      · exact .inr ⟨h, look_ids i2 t⟩
      · exact .inl h) (by
      intro r R hr hR
      refine rt_ids i3 r R ?_
      rw [← h4, List.getElem?_take_of_lt hr]
      exact hR)
    rw [h4] at hD
    have hJ : J a' w' (μ k') := ⟨k', h1, rfl, hD⟩
    exact ⟨⟨_, hJ⟩, Nat.lt_of_le_of_lt (hν hJ).2 (by omega)⟩
  | _ => exact ⟨st', hq, hH''⟩
end

theorem endD_val {P : Program} {st : St} {t : Nat} {x x' : D} (h : st.sl t = .d x') (e : x' = x) : EndD P #[.tmp t] (.d x) .ret st := by
  subst e
  exact endD_one h rfl
theorem endD_val2 {P : Program} {st : St} {t u : Nat} {x x' y y' : D} (h : st.sl t = .d x') (k : st.sl u = .d y') (e : x' = x) (f : y' = y) : EndD P #[.tmp t, .tmp u] (.tup [.d x, .d y]) .ret st := by
  subst e f
  exact ⟨[.d x', .d y'], [], by simp [resAll, resOne, h, k], rfl⟩
theorem endD_val3 {P : Program} {st : St} {t u v : Nat} {x x' y y' z z' : D} (h : st.sl t = .d x') (k : st.sl u = .d y') (l : st.sl v = .d z') (e : x' = x) (f : y' = y) (g : z' = z) : EndD P #[.tmp t, .tmp u, .tmp v] (.tup [.d x, .d y, .d z]) .ret st := by
  subst e f g
  exact ⟨[.d x', .d y', .d z'], [], by simp [resAll, resOne, h, k, l], rfl⟩
theorem bool_eq {a b : Bool} (h : a = b) : D.sc (.bool a) = D.sc (.bool b) := by rw [h]
theorem int_eq {k : IntKind} {a b : Int} (h : a = b) : D.sc (.int k a) = D.sc (.int k b) := by rw [h]
theorem str_eq {a b : ByteArray} (h : a = b) : D.sc (.string a) = D.sc (.string b) := by rw [h]
end Go.Proofs.Ytamdgfklbjoaiaa.Ab

namespace Go.Proofs.Ytamdgfklbjoaiaa.Ab
open Go

/-! Roots may get other names, from some number on. -/
section
variable {P : Program} {N : Nat} {Q : Exit → St → Prop} {st : St}

theorem Holds.ren {c : Ctx} {Ei : Env} {a : Act} {w : World} (h : Holds c Ei N st a w) {n0 : Nat} {ids : List Nat} {sl' : Nat → AV} {rt' : List Root} (hm : c.m ≤ n0) (hge : ∀ i ∈ ids, n0 ≤ i) (hnd : ids.Nodup) (hlen : rt'.length = n0 + ids.length)
    (hlow : ∀ (r : Nat) R', r < n0 → rt'[r]? = some R' → ∃ R, st.rt[r]? = some R ∧ R.ren (finRen n0 ids) = some R') (hhigh : ∀ (j i : Nat) R', ids[j]? = some i → rt'[n0 + j]? = some R' → ∃ R, st.rt[i]? = some R ∧ R.ren (finRen n0 ids) = some R')
    (hs : ∀ t, sl' t = .junk ∨ (st.sl t).ren (finRen n0 ids) = some (sl' t)) : Holds c Ei N ⟨sl', rt'⟩ a w := by
  obtain ⟨E, rfl, hM, hSt, hrt, hpr, hsl, hdef, hsz, _⟩ := h
  let f := finRen n0 ids
  let E' : Env := ⟨fun r => rt'[r]?, fun r => r < rt'.length, fun r => if r < n0 then E.β r else (ids[r - n0]?).bind E.β, E.S, E.w⟩
  have e_β : ∀ r, E'.β r = if r < n0 then E.β r else (ids[r - n0]?).bind E.β := fun r => rfl
  have src : ∀ {x R'}, rt'[x]? = some R' → ∃ r R, f r = some x ∧ E.pres r ∧ E'.β x = E.β r ∧ E.rt r = some R ∧ R.ren f = some R' := by
    intro x R' hx
    have hxl : x < rt'.length := (List.getElem?_eq_some_iff.1 hx).1
    by_cases hlt : x < n0
    · obtain ⟨R, h1, h2⟩ := hlow x R' hlt hx
      refine ⟨x, R, if_pos hlt, ?_, ?_, ?_, h2⟩
      · rw [hpr]; exact (List.getElem?_eq_some_iff.1 h1).1
      · rw [e_β, if_pos hlt]
      · rw [hrt]; exact h1
    · have hk : x - n0 < ids.length := by omega
      have hgi : ids[x - n0]? = some ids[x - n0] := List.getElem?_eq_getElem hk
      obtain ⟨R, h1, h2⟩ := hhigh (x - n0) _ R' hgi (by rw [show n0 + (x - n0) = x by omega]; exact hx)
      refine ⟨ids[x - n0], R, ?_, ?_, ?_, ?_, h2⟩
      · have := finRen_get hnd hge hgi
        rwa [show n0 + (x - n0) = x by omega] at this
      · rw [hpr]; exact (List.getElem?_eq_some_iff.1 h1).1
      · rw [e_β, if_neg hlt, hgi]; rfl
      · rw [hrt]; exact h1
  have inj' : ∀ {r r' x}, f r = some x → f r' = some x → r = r' := by
    intro r r' x h h'
    rcases finRen_cases h with ⟨h1, rfl⟩ | ⟨h1, h2, h3⟩ <;> rcases finRen_cases h' with ⟨k1, k2⟩ | ⟨k1, k2, k3⟩
    · exact k2
    · omega
    · omega
    · rw [h3] at k3; exact Option.some.inj k3
  have dom : ∀ {r x}, f r = some x → ∃ R', rt'[x]? = some R' := by
    intro r x h
    have : x < rt'.length := by
      rcases finRen_cases h with ⟨h1, rfl⟩ | ⟨h1, h2, h3⟩
      · omega
      · have := (List.getElem?_eq_some_iff.1 h3).1
        omega
    exact ⟨_, List.getElem?_eq_getElem this⟩
  have hC : Conn f E E' := by
    refine ⟨rfl, fun _ h => h, ?_, ?_, ?_⟩
    · intro r x h
      obtain ⟨R', hR'⟩ := dom h
      obtain ⟨r', R, h1, _, _, h2, h3⟩ := src hR'
      rw [inj' h h1, h2]
      show Option.map Root.kind rt'[x]? = _
      rw [hR']
      simp [ren_kind h3]
    · intro r x h
      obtain ⟨R', hR'⟩ := dom h
      obtain ⟨r', R, h1, h2, _⟩ := src hR'
      rw [inj' h h1]
      exact ⟨fun _ => h2, fun _ => (List.getElem?_eq_some_iff.1 hR').1⟩
    · intro r x h _
      obtain ⟨R', hR'⟩ := dom h
      obtain ⟨r', R, h1, _, h2, _⟩ := src hR'
      rw [h2, inj' h h1]
  have live : ∀ {x R'}, rt'[x]? = some R' → R' ≠ .dead → ∃ r R, f r = some x ∧ E.pres r ∧ E'.β x = E.β r ∧ E.rt r = some R ∧ R ≠ .dead := by
    intro x R' hx hd
    obtain ⟨r, R, h1, h2, h3, h4, h5⟩ := src hx
    exact ⟨r, R, h1, h2, h3, h4, fun e => hd ((ren_dead h5).2 e)⟩
  have hM' : Mem c E' := {
    os := hM.os
    output := hM.output
    tape := hM.tape
    size := hM.size
    keep := hM.keep
    shape := hM.shape
    s0 := hM.s0
    slt := hM.slt
    snew := hM.snew
    blt := by
      intro x b hp hb
      obtain ⟨r, R, _, h2, h3, _⟩ := src (List.getElem?_eq_getElem (show x < rt'.length from hp))
      rw [h3] at hb
      exact hM.blt r b h2 hb
    bown := by
      intro x R b hp hR hd hb
      obtain ⟨r, R0, _, h2, h3, h4, h5⟩ := live hR hd
      rw [h3] at hb
      exact hM.bown r R0 b h2 h4 h5 hb
    bkeep := by
      intro x R hlt hp hR hd
      obtain ⟨r, R0, h1, h2, h3, h4, h5⟩ := live hR hd
      rcases finRen_cases h1 with ⟨k1, rfl⟩ | ⟨k1, k2, _⟩
      · rw [h3]; exact hM.bkeep x R0 hlt h2 h4 h5
      · omega
    inj := by
      intro x x' R R' b hp hp' hR hd hR' hd' hb hb'
      obtain ⟨r, R0, h1, h2, h3, h4, h5⟩ := live hR hd
      obtain ⟨r', R0', h1', h2', h3', h4', h5'⟩ := live hR' hd'
      rw [h3] at hb
      rw [h3'] at hb'
      have := hM.inj r r' R0 R0' b h2 h2' h4 h5 h4' h5' hb hb'
      subst this
      rw [h1] at h1'
      exact Option.some.inj h1'
    roots := by
      intro x R hp hR
      obtain ⟨r, R0, h1, h2, h3, h4, h5⟩ := src (show rt'[x]? = some R from hR)
      exact RootRel.conn hC (fun _ h => h) h1 h2 h5 (hM.roots r R0 h2 h4) }
  refine ⟨E', rfl, hM', ?_, rfl, fun _ => Iff.rfl, ?_, hdef, hsz, ?_⟩
  · refine ⟨?_, ?_, ?_, hSt.S, hSt.heap, hSt.shape⟩
    · intro r R hr hR
      have hlt : r < n0 := by omega
      obtain ⟨R1, h1, h2⟩ := hSt.rt r R hr hR
      have hx : rt'[r]? = some (rt'[r]'(by omega)) := List.getElem?_eq_getElem (by omega)
      obtain ⟨R2, k1, k2⟩ := hlow r _ hlt hx
      have k3 : E.rt r = some R2 := by rw [hrt]; exact k1
      rw [h1] at k3
      obtain rfl := Option.some.inj k3
      refine ⟨_, hx, ?_⟩
      rcases h2 with h2 | h2
      · exact .inl ((ren_dead k2).2 h2)
      · exact .inr ((ren_kind k2).trans h2)
    · intro r hr _
      show r < rt'.length
      omega
    · intro r hr hp
      rw [e_β, if_pos (by omega)]
      exact hSt.β r hr hp
  · intro t
    show RelAV E' (sl' t) _
    rcases hs t with h | h
    · rw [h]; exact .junk _
    · exact RelAV.conn hC (hsl t) h
  · show c.m ≤ rt'.length
    omega

/-- A row gets a new name at the end. -/
def mvF (r n : Nat) : Nat → Option Nat := fun x => if x = r then some n else if x < n then some x else none
def mvS (r n : Nat) (sl : Nat → AV) : Nat → AV := fun t => ((sl t).ren (mvF r n)).getD .junk

theorem Holds.move {c : Ctx} {Ei : Env} {a : Act} {w : World} (h : Holds c Ei N st a w) {r sz : Nat} {fz : Bool} {xs : List (List D)} (hr : st.rt[r]? = some (.row sz fz xs)) :
    Holds c Ei N ⟨mvS r st.rt.length st.sl, (st.rt.set r .dead) ++ [.row sz fz xs]⟩ a w := by
  obtain ⟨E, rfl, hM, hSt, hrt, hpr, hsl, hdef, hsz, hm⟩ := h
  have hlt : r < st.rt.length := (List.getElem?_eq_some_iff.1 hr).1
  generalize hn : st.rt.length = n at *
  have hER : E.rt r = some (.row sz fz xs) := by rw [hrt]; exact hr
  have hEn : ∀ x, E.rt x ≠ none → x < n := by
    intro x hx
    rw [hrt] at hx
    rcases Nat.lt_or_ge x n with h | h
    · exact h
    · exact absurd (List.getElem?_eq_none (by omega)) hx
  let rt' := (st.rt.set r .dead) ++ [Root.row sz fz xs]
  have hl' : rt'.length = n + 1 := by simp [rt', hn]
  have get' : ∀ x, rt'[x]? = if x = r then some .dead else if x = n then some (.row sz fz xs) else E.rt x := by
    intro x
    show ((st.rt.set r .dead) ++ [Root.row sz fz xs])[x]? = _
    by_cases h1 : x = r
    · subst h1
      rw [if_pos rfl, List.getElem?_append_left (by simp; omega), List.getElem?_set_self (by omega)]
    · rw [if_neg h1]
      by_cases h2 : x = n
      · subst h2
        rw [if_pos rfl, List.getElem?_append_right (by simp; omega)]
        simp [hn]
      · rw [if_neg h2]
        by_cases h3 : x < n
        · rw [List.getElem?_append_left (by simp; omega), List.getElem?_set_ne (fun e => h1 e.symm), hrt]; rfl
        · rw [List.getElem?_eq_none (by simp; omega)]
          cases hx : E.rt x with
          | none => rfl
          | some R => exact absurd (hEn x (by rw [hx]; simp)) h3
  let E' : Env := ⟨fun x => rt'[x]?, fun x => x < rt'.length, fun x => if x = n then E.β r else E.β x, E.S, E.w⟩
  have e_rt : ∀ x, E'.rt x = if x = r then some .dead else if x = n then some (.row sz fz xs) else E.rt x := get'
  have e_pr : ∀ x, E'.pres x ↔ x < n + 1 := by intro x; show x < rt'.length ↔ _; rw [hl']
  have e_β : ∀ x, E'.β x = if x = n then E.β r else E.β x := fun _ => rfl
  have hrn : r ≠ n := by omega
  have st1 : Step E E' := by
    refine ⟨?_, ?_, ?_, fun _ h => h, fun _ _ => rfl, fun _ _ h => h⟩
    · intro x R hx
      rw [e_rt]
      by_cases h1 : x = r
      · subst h1; exact ⟨.dead, if_pos rfl, .inl rfl⟩
      · have := hEn x (by rw [hx]; simp)
        exact ⟨R, by rw [if_neg h1, if_neg (by omega)]; exact hx, .inr rfl⟩
    · intro x hx
      rw [e_pr]
      have := (hpr x).1 hx
      omega
    · intro x hx
      have := (hpr x).1 hx
      rw [e_β, if_neg (by omega)]
  have hC : Conn (mvF r n) E E' := by
    have cases : ∀ {x x'}, mvF r n x = some x' → (x = r ∧ x' = n) ∨ (x ≠ r ∧ x < n ∧ x' = x) := by
      intro x x' h
      unfold mvF at h
      split at h
      · rename_i e; exact .inl ⟨e, (Option.some.inj h).symm⟩
      · rename_i e
        split at h
        · rename_i e2; exact .inr ⟨e, e2, (Option.some.inj h).symm⟩
        · cases h
    refine ⟨rfl, fun _ h => h, ?_, ?_, ?_⟩
    · intro x x' h
      rcases cases h with ⟨rfl, rfl⟩ | ⟨h1, h2, rfl⟩
      · rw [e_rt, if_neg (fun e => hrn e.symm), if_pos rfl, hER]
      · rw [e_rt, if_neg h1, if_neg (by omega)]
    · intro x x' h
      rcases cases h with ⟨rfl, rfl⟩ | ⟨h1, h2, rfl⟩
      · rw [e_pr, hpr]; omega
      · rw [e_pr, hpr]; omega
    · intro x x' h _
      rcases cases h with ⟨rfl, rfl⟩ | ⟨h1, h2, rfl⟩
      · rw [e_β, if_pos rfl]
      · rw [e_β, if_neg (by omega)]
  have src : ∀ {x R}, E'.rt x = some R → R ≠ .dead → ∃ y, E.rt y = some R ∧ E.pres y ∧ E'.β x = E.β y ∧ ((x = n ∧ y = r) ∨ (x ≠ r ∧ x < n ∧ y = x)) := by
    intro x R hx hd
    rw [e_rt] at hx
    by_cases h1 : x = r
    · rw [if_pos h1] at hx; exact absurd (Option.some.inj hx).symm hd
    · rw [if_neg h1] at hx
      by_cases h2 : x = n
      · rw [if_pos h2] at hx
        exact ⟨r, hER.trans hx, (hpr r).2 hlt, by rw [e_β, if_pos h2], .inl ⟨h2, rfl⟩⟩
      · rw [if_neg h2] at hx
        have h3 := hEn x (by rw [hx]; simp)
        exact ⟨x, hx, (hpr x).2 h3, by rw [e_β, if_neg h2], .inr ⟨h1, h3, rfl⟩⟩
  have hM' : Mem c E' := {
    os := hM.os
    output := hM.output
    tape := hM.tape
    size := hM.size
    keep := hM.keep
    shape := hM.shape
    s0 := hM.s0
    slt := hM.slt
    snew := hM.snew
    blt := by
      intro x b hp hb
      rw [e_pr] at hp
      rw [e_β] at hb
      by_cases h2 : x = n
      · rw [if_pos h2] at hb; exact hM.blt r b ((hpr r).2 hlt) hb
      · rw [if_neg h2] at hb; exact hM.blt x b ((hpr x).2 (by omega)) hb
    bown := by
      intro x R b hp hR hd hb
      obtain ⟨y, h1, h2, h3, _⟩ := src hR hd
      rw [h3] at hb
      exact hM.bown y R b h2 h1 hd hb
    bkeep := by
      intro x R hx hp hR hd
      obtain ⟨y, h1, h2, h3, h4⟩ := src hR hd
      rcases h4 with ⟨h4, _⟩ | ⟨_, _, rfl⟩
      · omega
      · rw [h3]; exact hM.bkeep y R hx h2 h1 hd
    inj := by
      intro x x' R R' b hp hp' hR hd hR' hd' hb hb'
      obtain ⟨y, h1, h2, h3, h4⟩ := src hR hd
      obtain ⟨y', h1', h2', h3', h4'⟩ := src hR' hd'
      rw [h3] at hb
      rw [h3'] at hb'
      have := hM.inj y y' R R' b h2 h2' h1 hd h1' hd' hb hb'
      rcases h4 with ⟨e1, e2⟩ | ⟨e1, e2, e3⟩ <;> rcases h4' with ⟨e1', e2'⟩ | ⟨e1', e2', e3'⟩
      · omega
      · omega
      · omega
      · omega
    roots := by
      intro x R hp hR
      by_cases hd : R = .dead
      · subst hd; trivial
      obtain ⟨y, h1, h2, h3, h4⟩ := src hR hd
      rcases h4 with ⟨e1, e2⟩ | ⟨e1, e2, e3⟩
      · subst e2
        rw [hER] at h1
        obtain rfl := Option.some.inj h1
        exact RootRel.conn hC (fun _ h => h) (show mvF y n y = some x by rw [e1]; exact if_pos rfl) h2 rfl (hM.roots y _ h2 hER)
      · subst e3
        exact RootRel.step st1 h2 (fun _ _ => rfl) (fun _ _ h => h) (hM.roots y R h2 h1) }
  refine ⟨E', rfl, hM', hSt.trans st1, rfl, fun _ => Iff.rfl, ?_, hdef, hsz, ?_⟩
  · intro t
    show RelAV E' (((st.sl t).ren (mvF r n)).getD .junk) _
    cases hx : (st.sl t).ren (mvF r n) with
    | none => exact .junk _
    | some y => exact RelAV.conn hC (hsl t) hx
  · show c.m ≤ rt'.length
    omega

theorem LpW.move {body : Code} (r : Nat) {sz : Nat} {fz : Bool} {xs : List (List D)} (hr : st.rt[r]? = some (.row sz fz xs)) (h : LpW P N body Q ⟨mvS r st.rt.length st.sl, (st.rt.set r .dead) ++ [.row sz fz xs]⟩) : LpW P N body Q st := by
  obtain ⟨h⟩ := h
  exact ⟨fun c Ei a w hH => h c Ei a w (hH.move hr)⟩

/-- The end of a round: which roots go on under which names. -/
def RoundEnd (n0 : Nat) (sl : List (Nat × AV)) (rt : List Root) (st' : St) : Prop :=
  ∃ ids : List Nat, (∀ i ∈ ids, n0 ≤ i) ∧ ids.Nodup ∧ rt.length = n0 + ids.length ∧ (∀ (r : Nat) R', r < n0 → rt[r]? = some R' → ∃ R, st'.rt[r]? = some R ∧ R.ren (finRen n0 ids) = some R') ∧
    (∀ (j i : Nat) R', ids[j]? = some i → rt[n0 + j]? = some R' → ∃ R, st'.rt[i]? = some R ∧ R.ren (finRen n0 ids) = some R') ∧ ∀ p ∈ sl, (st'.sl p.1).ren (finRen n0 ids) = some p.2

theorem LpW.ofR {κ : Type} {body : Code} (inv : κ → Prop) (μ : κ → Nat) (sl : κ → List (Nat × AV)) (rt : κ → List Root) (k0 : κ) (n0 : Nat) (h0 : inv k0) (hw : WeakL (sl k0) st.sl) (hrt : st.rt = rt k0) {m0 : Nat} (hm0 : m0 ≤ n0) {st0 : St} (hst0 : st0.rt.length = m0)
    (from0 : ∀ c Ei a w, Holds c Ei N st0 a w → Holds c Ei N st a w)
    (round : ∀ k, inv k → AW P N body (Exit.thenQ (fun st' => ∃ k', inv k' ∧ μ k' < μ k ∧ RoundEnd n0 (sl k') (rt k') st') Q) ⟨look (sl k), rt k⟩) : LpW P N body Q st0 := by
  refine ⟨?_⟩
  intro c Ei a w hH0
  have hm : c.m ≤ n0 := by
    obtain ⟨E, _, _, _, _, _, _, _, _, hm⟩ := hH0
    omega
  have hH : Holds c Ei N ⟨look (sl k0), rt k0⟩ a w := by
    have h1 := from0 c Ei a w hH0
    obtain ⟨E, hw', hM, hSt, hrt', hpr, hsl, hrest⟩ := h1
    rw [hrt] at hpr hrest
    refine ⟨E, hw', hM, hSt, by rw [hrt']; unfold St.look; rw [hrt], hpr, ?_, hrest⟩
    intro t
    rcases hw.look t with e | e
    · show RelAV E (look (sl k0) t) _
      rw [e]; exact hsl t
    · show RelAV E (look (sl k0) t) _
      rw [e]; exact .junk _
  let J : Act → World → Nat → Prop := fun a w n => ∃ k, inv k ∧ μ k = n ∧ Holds c Ei N ⟨look (sl k), rt k⟩ a w
  let ν : Act → World → Nat := fun a w => open Classical in if h : ∃ k, J a w k ∧ ∀ m, J a w m → k ≤ m then h.choose else 0
  have hν : ∀ {a w n}, J a w n → J a w (ν a w) ∧ ν a w ≤ n := by
    intro a w n h
    have hl := least n h
    have : ν a w = hl.choose := dif_pos hl
    rw [this]
    exact ⟨hl.choose_spec.1, hl.choose_spec.2 n h⟩
  refine wp_loop (fun a w => ∃ n, J a w n) ν ⟨μ k0, k0, h0, rfl, hH⟩ ?_
  rintro a w ⟨n, hn⟩
  obtain ⟨⟨k, hk, hμ, hH'⟩, _⟩ := hν hn
  refine wp_mono (round k hk c Ei a w hH') ?_
  rintro e a' w' ⟨st', hq, hH''⟩
  cases e with
  | normal =>
    obtain ⟨k', h1, h2, ids, i1, i2, i3, i4, i5, i6⟩ := hq
    have hD := hH''.ren (n0 := n0) (ids := ids) (sl' := look (sl k')) (rt' := rt k') hm i1 i2 i3 i4 i5 (by
      intro t
      have key : ∀ {l : List (Nat × AV)}, (∀ p ∈ l, (st'.sl p.1).ren (finRen n0 ids) = some p.2) → look l t = .junk ∨ (st'.sl t).ren (finRen n0 ids) = some (look l t) := by
        intro l
        induction l with
        | nil => intro _; exact .inl rfl
        | cons p l ih =>
          intro hl
          obtain ⟨s, x⟩ := p
          simp only [look]
          split
          · rename_i e; subst e; exact .inr (hl (t, x) List.mem_cons_self)
          · exact ih (fun p hp => hl p (List.mem_cons_of_mem _ hp))
      exact key i6)
    have hJ : J a' w' (μ k') := ⟨k', h1, rfl, hD⟩
    exact ⟨⟨_, hJ⟩, Nat.lt_of_le_of_lt (hν hJ).2 (by omega)⟩
  | _ => exact ⟨st', hq, hH''⟩

/-- A loop that puts more and more behind the row r. -/
theorem LpW.app {κ : Type} {body : Code} (r : Nat) {sz : Nat} {fz : Bool} {xs : List (List D)} (hr : st.rt[r]? = some (.row sz fz xs)) (inv : κ → Prop) (μ : κ → Nat) (sl : κ → List (Nat × AV)) (rt : κ → List Root) (k0 : κ) (n0 : Nat) (hn0 : st.rt.length = n0) (h0 : inv k0)
    (hw : WeakL (sl k0) (mvS r n0 st.sl)) (hrt : (st.rt.set r .dead) ++ [.row sz fz xs] = rt k0)
    (round : ∀ k, inv k → AW P N body (Exit.thenQ (fun st' => ∃ k', inv k' ∧ μ k' < μ k ∧ RoundEnd n0 (sl k') (rt k') st') Q) ⟨look (sl k), rt k⟩) : LpW P N body Q st := by
  subst hn0
  exact LpW.ofR (st := ⟨mvS r st.rt.length st.sl, (st.rt.set r .dead) ++ [.row sz fz xs]⟩) inv μ sl rt k0 st.rt.length h0 hw hrt (Nat.le_refl _) rfl (fun c Ei a w hH => hH.move hr) round
end
end Go.Proofs.Ytamdgfklbjoaiaa.Ab

namespace Go.Proofs.Ytamdgfklbjoaiaa.Ab
open Go

/-! What a call returns in memory of its own, taken as data. -/
section
variable {P : Program} {f : FuncId} {as : List AV} {o0 : Out} {av : AV} {L : List Nat}

theorem isDs_get {l : List AV} (h : AV.isDs l = true) : ∀ (j : Nat) y, l[j]? = some y → y.isD = true := by
  induction l with
  | nil => intro j y h; simp at h
  | cons x l ih =>
    intro j y hy
    obtain ⟨h1, h2⟩ := isDs_cons h
    cases j with
    | zero => simp at hy; subst hy; exact h1
    | succ j => simp at hy; exact ih h2 j y hy

theorem CallOk.toD (h : CallOk P f as [] o0) (has : AV.isDs as = true) (hg : o0.g = []) (hl : o0.av.rdo (fun r => o0.new[r]?) = some (av, L)) : CallOk P f as [] ⟨av, [], []⟩ := by
  intro w S β vs hM hA
  have hM' : Mem (callCtx w S β []) (callEnv w S β [] o0.new) := {
    os := rfl
    output := rfl
    tape := rfl
    size := Nat.le_refl _
    keep := fun _ _ _ => rfl
    shape := fun _ _ h => h
    s0 := fun _ h => h
    slt := hM.slt
    snew := fun _ h => .inl h
    blt := fun r b h => absurd h (Nat.not_lt_zero r)
    bown := fun r R b h => absurd h (Nat.not_lt_zero r)
    bkeep := fun r R h => absurd h (Nat.not_lt_zero r)
    inj := fun r r' R R' b h => absurd h (Nat.not_lt_zero r)
    roots := fun r R h => absurd h (Nat.not_lt_zero r) }
  have hA' : Args (callEnv w S β [] o0.new) as vs := by
    refine ⟨hA.1, ?_⟩
    intro j y hy
    have hd := isDs_get has j y hy
    refine RelAV.conn (f := fun _ => none) (E := callEnv w S β [] []) (E' := callEnv w S β [] o0.new) ⟨rfl, fun _ h => h, ?_, ?_, ?_⟩ (hA.2 j y hy) (lendA_ren (rt := fun _ => none) _ (isD_lend _ hd).1)
    · intro r r' h; cases h
    · intro r r' h; cases h
    · intro r r' h; cases h
  refine (h w S β vs hM' hA').mono ?_
  rintro e w' ⟨v, E, rfl, rfl, hO⟩
  have hrt : E.rt = fun r => o0.new[r]? := by
    rw [hO.rt, hg]
    funext r
    show ([] ++ o0.new)[r]? = _
    rw [List.nil_append]
  rw [← hrt] at hl
  obtain ⟨hrel', hrows⟩ := rdo_sound hO.mem hO.rel hl
  have hML := lent_mem hO.mem hrows
  have hren := rdo_ren (fun _ => none) hl
  refine ⟨v, ⟨fun _ => none, fun _ => False, E.β, (E.lent L).S, E.w⟩, rfl, rfl, ?_, ?_, ?_, ?_, hO.size, ?_⟩
  · exact {
      os := hO.mem.os
      output := hO.mem.output
      tape := hO.mem.tape
      size := hO.mem.size
      keep := hO.mem.keep
      shape := hO.mem.shape
      s0 := hML.s0
      slt := hML.slt
      snew := hML.snew
      blt := fun r b h => h.elim
      bown := fun r R b h => h.elim
      bkeep := fun r R _ h => h.elim
      inj := fun r r' R R' b h => h.elim
      roots := fun r R h => h.elim }
  · refine ⟨?_, ?_, ?_, ?_, ?_, ?_⟩
    · intro r R hR
      have : ([] ++ ([] : List Root))[r]? = some R := hR
      simp at this
    · intro r hr
      have : r < 0 := hr
      omega
    · intro r hr
      have : r < 0 := hr
      omega
    · intro b hb; exact .inl (hO.step.S b hb)
    · intro b hb; exact hO.step.heap b hb
    · intro b s hs; exact hO.step.shape b s hs
  · funext r
    show none = ([] ++ ([] : List Root))[r]?
    simp
  · intro r
    show False ↔ r < 0 ∨ (0 ≤ r ∧ r < 0 + 0)
    exact ⟨fun h => h.elim, fun h => by omega⟩
  · show RelAV _ av v
    refine RelAV.conn (f := fun _ => none) (E := E.lent L) (E' := ⟨fun _ => none, fun _ => False, E.β, (E.lent L).S, E.w⟩) ⟨rfl, fun _ h => h, ?_, ?_, ?_⟩ hrel' hren
    · intro r r' h; cases h
    · intro r r' h; cases h
    · intro r r' h; cases h

/-- A row of its own, taken as data. -/
theorem CallOk.rowD {n sz : Nat} {xs : List (List D)} (h : CallOk P f as [] ⟨.ref 0 0 n, [.row sz false xs], []⟩) (has : AV.isDs as = true) (hn : n = xs.length) : CallOk P f as [] ⟨.d (.row sz xs), [], []⟩ := by
  subst hn
  refine h.toD (L := [0]) has rfl ?_
  show (AV.ref 0 0 xs.length).rdo (fun r => [Root.row sz false xs][r]?) = _
  simp [AV.rdo, AV.lendA]

/-- The end of a function that hands out a row of its own. -/
theorem endR_ref {st : St} {t r n sz : Nat} {xs : List (List D)} (h : st.sl t = .ref r 0 n) (hr : st.rt[r]? = some (.row sz false xs)) : EndQ P #[.tmp t] [] ⟨.ref 0 0 n, [.row sz false xs], []⟩ .ret st := by
  refine ⟨[r], [.ref r 0 n], ?_, ?_, by simp, by simp, rfl, ?_, by simp, by simp⟩
  · simp [resAll, resOne, h]
  · simp [resAV, AV.ren, finRen, posOf]
  · intro k i R hk hR
    cases k with
    | zero =>
      simp at hk hR
      subst hk
      subst hR
      exact ⟨_, hr, rfl⟩
    | succ k => simp at hk

/-- The end of a function that hands out a number, and has written into a row that was handed in. -/
theorem endP_row {st : St} {t sz : Nat} {x x' : D} {xs ys : List (List D)} (h : st.sl t = .d x') (e : x' = x) (hr : st.rt[0]? = some (.row sz false ys)) : EndQ P #[.tmp t] [.row sz false xs] ⟨.d x, [], [(0, .row sz false ys)]⟩ .ret st := by
  subst e
  refine ⟨[], [.d x'], ?_, rfl, by simp, by simp, rfl, by simp, ?_, by simp⟩
  · simp [resAll, resOne, h]
  · intro r R hR
    cases r with
    | zero => exact ⟨_, _, hr, rfl, by simp [updG]⟩
    | succ r => simp at hR
end

/-! The end of a round, made of lists. -/
inductive SlR (f : Nat → Option Nat) (sl : Nat → AV) : List (Nat × AV) → Prop
  | nil : SlR f sl []
  | cons {t : Nat} {x : AV} {l : List (Nat × AV)} (h : (sl t).ren f = some x) (k : SlR f sl l) : SlR f sl ((t, x) :: l)

theorem SlR.all {f : Nat → Option Nat} {sl : Nat → AV} {l : List (Nat × AV)} (h : SlR f sl l) : ∀ p ∈ l, (sl p.1).ren f = some p.2 := by
  induction h with
  | nil => simp
  | cons h _ ih =>
    intro p hp
    rcases List.mem_cons.1 hp with rfl | hp
    · exact h
    · exact ih p hp

theorem RoundEnd.of {n0 : Nat} {sl : List (Nat × AV)} {rt lo hi : List Root} {st' : St} (ids : List Nat) (h1 : ids.all (fun i => decide (n0 ≤ i)) = true) (h2 : ids.Nodup) (hrt : rt = lo ++ hi) (hlo : lo.length = n0) (hhi : hi.length = ids.length)
    (h3 : rootsRen (finRen n0 ids) (st'.rt.take n0) = some lo) (h4 : ids.map (fun i => (st'.rt[i]?).bind (Root.ren (finRen n0 ids))) = hi.map some) (h5 : SlR (finRen n0 ids) st'.sl sl) : RoundEnd n0 sl rt st' := by
  subst hrt
  refine ⟨ids, fun i hi => by simpa using List.all_eq_true.1 h1 i hi, h2, by simp [hlo, hhi], ?_, ?_, h5.all⟩
  · intro r R' hr hR
    rw [List.getElem?_append_left (by omega)] at hR
    obtain ⟨hlen, hget⟩ := rootsRen_get h3
    have hr' : r < (st'.rt.take n0).length := by rw [← hlen]; exact (List.getElem?_eq_some_iff.1 hR).1
    obtain ⟨R'', k1, k2⟩ := hget r _ (List.getElem?_eq_getElem hr')
    rw [hR] at k1
    obtain rfl := Option.some.inj k1
    refine ⟨_, ?_, k2⟩
    rw [List.getElem_take]
    exact List.getElem?_eq_getElem _
  · intro j i R' hj hR
    rw [List.getElem?_append_right (by omega), hlo, Nat.add_sub_cancel_left] at hR
    have := congrArg (·[j]?) h4
    simp only [List.getElem?_map, hj, hR, Option.map_some] at this
    obtain ⟨R, k1, k2⟩ := Option.bind_eq_some_iff.1 (Option.some.inj this)
    exact ⟨R, k1, k2⟩

/-- One row goes on, under the name n0. -/
theorem RoundEnd.one {n0 r sz : Nat} {sl : List (Nat × AV)} {lo : List Root} {xs ys : List (List D)} {st' : St} (hr : n0 ≤ r) (hlo : lo.length = n0) (h3 : rootsRen (finRen n0 [r]) (st'.rt.take n0) = some lo) (h4 : st'.rt[r]? = some (.row sz false xs)) (e : xs = ys) (h5 : SlR (finRen n0 [r]) st'.sl sl) :
    RoundEnd n0 sl (lo ++ [.row sz false ys]) st' := by
  subst e
  exact RoundEnd.of [r] (by simp [hr]) (by simp) rfl hlo rfl h3 (by simp [h4, Root.ren]) h5

/-! Texts and bytes. -/
def tx (l : List UInt8) : ByteArray := ⟨l.toArray⟩
def cB (b : UInt8) : List D := [.sc (.int .u8 b.toNat)]
theorem tx_data (s : ByteArray) : tx s.data.toList = s := by cases s; simp [tx]
theorem tx_inj {a b : List UInt8} (h : tx a = tx b) : a = b := by simpa [tx] using h
theorem tx_eq {a b : List UInt8} : tx a = tx b ↔ a = b := ⟨tx_inj, fun h => by rw [h]⟩
theorem tx_size {l : List UInt8} : (tx l).size = l.length := by simp [tx, ByteArray.size]
theorem tx_append {a b : List UInt8} : tx a ++ tx b = tx (a ++ b) := by
  cases ha : tx a ++ tx b
  rename_i d
  have : (tx a ++ tx b).data = (tx (a ++ b)).data := by simp [tx, ByteArray.data_append]
  rw [ha] at this
  simp only [tx] at this ⊢
  rw [this]
theorem std_cat {a b : ByteArray} : std.cat a b = a ++ b := rfl
theorem std_catx {a b : List UInt8} : std.cat (tx a) (tx b) = tx (a ++ b) := tx_append
theorem byteRow_cB : ∀ (l : List UInt8), byteRow (l.map cB) = some (l.map fun b => (b.toNat : Int))
  | [] => rfl
  | b :: l => by
    show (byteRow (l.map cB)).map ((b.toNat : Int) :: ·) = _
    rw [byteRow_cB l]; rfl
theorem ok_bytes (l : List UInt8) : ByteOk (l.map cB) := ⟨_, byteRow_cB l⟩
theorem std_bytes (l : List UInt8) : std.bytes (l.map cB) = tx l := by
  show (match byteRow (l.map cB) with | some ns => strOfInts ns | none => default) = _
  rw [byteRow_cB]
  show strOfInts _ = _
  unfold strOfInts tx
  rw [List.map_map]
  congr 2
  induction l with
  | nil => rfl
  | cons b l ih => simp only [List.map_cons, ih, Function.comp, Int.toNat_natCast, UInt8.ofNat_toNat]
theorem strRow_tx (l : List UInt8) : std.strRow (tx l) = l.map cB := by
  show strRow (tx l) = _
  unfold strRow tx
  simp only [List.toList_toArray]
  rfl
theorem std_sget {l : List UInt8} {k : Nat} {i : Int} (hi : (k : Int) = i) (h : k < l.length) : std.sget (tx l) i = (l[k].toNat : Int) := by
  subst hi
  show (if h : (k : Int).toNat < (tx l).size then ((((tx l)[(k : Int).toNat]'h).toNat : Nat) : Int) else 0) = _
  rw [dif_pos (by rw [tx_size]; omega)]
  rfl
theorem std_ssub {l : List UInt8} {a b : Int} : std.ssub (tx l) a b = tx ((l.drop a.toNat).take (b.toNat - a.toNat)) := by
  show (tx l).extract a.toNat b.toNat = _
  unfold tx
  cases h : ByteArray.extract ⟨l.toArray⟩ a.toNat b.toNat
  rename_i d
  have : (ByteArray.extract ⟨l.toArray⟩ a.toNat b.toNat).data = d := by rw [h]
  rw [ByteArray.data_extract] at this
  rw [← this]
  simp [List.extract_eq_take_drop]
end Go.Proofs.Ytamdgfklbjoaiaa.Ab

namespace Go.Proofs.Ytamdgfklbjoaiaa.Ab
open Go

/-! Calls with rows of one's own. -/
inductive LendL (rt : Nat → Option Root) : List AV → List AV → Prop
  | nil : LendL rt [] []
  | d {x : AV} {ys zs : List AV} (h : x.isD = true) (t : LendL rt ys zs) : LendL rt (x :: ys) (x :: zs)
  | ref {r n sz : Nat} {fz : Bool} {xs : List (List D)} {ys zs : List AV} (h : rt r = some (.row sz fz xs)) (hn : n = xs.length) (t : LendL rt ys zs) : LendL rt (.ref r 0 n :: ys) (.d (.row sz xs) :: zs)
  | agg {l l' ys zs : List AV} (h : LendL rt l l') (t : LendL rt ys zs) : LendL rt (.agg l :: ys) (.agg l' :: zs)

theorem LendL.get {rt : Nat → Option Root} {ys zs : List AV} (h : LendL rt ys zs) : ∃ L, AV.lendAs rt ys = some (zs, L) := by
  induction h with
  | nil => exact ⟨[], rfl⟩
  | d h _ ih =>
    obtain ⟨L, hL⟩ := ih
    exact ⟨L, by simp [AV.lendAs, (isD_lend rt h).1, hL]⟩
  | @ref r n sz fz xs ys zs h hn _ ih =>
    obtain ⟨L, hL⟩ := ih
    subst hn
    exact ⟨(if fz then [] else [r]) ++ L, by simp [AV.lendAs, AV.lendA, h, hL]⟩
  | agg _ _ ih1 ih2 =>
    obtain ⟨L1, h1⟩ := ih1
    obtain ⟨L2, h2⟩ := ih2
    exact ⟨L1 ++ L2, by simp [AV.lendAs, AV.lendA, h1, h2]⟩

theorem flat_map {α : Type} {c : α → List D} (h : ∀ a, (c a).all D.flat = true) (l : List α) {sz : Nat} : ([Root.row sz false (l.map c)]).all Root.flat = true := by
  simp [Root.flat]
  intro a _ x hx
  have := List.all_eq_true.1 (h a) x hx
  exact this

section
variable {P : Program} {o : Oper} {st : St} {K : Out → List Nat → Prop} {cl : Call} {x : Operand} {f : FuncId} {caps ys as : List AV}

/-- Rows are read for the time of the call; what comes back is a value without rows. -/
theorem ClW.lnt {av : AV} (hgd : o.guard = none) (hop : o.op = .call cl) (hc : cl.callee = .value x) (hx : opd0 st.sl x = .clo f caps) (ha : ArgR st.sl cl.args.toList ys) (hl : LendL st.look (ys ++ caps) as) (he : Entered P f)
    (hcall : CallOk P f as [] ⟨av, [], []⟩) (hav : av.isDT = true) (hfl : av.flat = true) (k : K ⟨av, [], []⟩ (AV.idss (ys ++ caps))) : ClW P o st K := by
  obtain ⟨L, hL⟩ := hl.get
  exact ClW.val hgd hop hc hx ha hL he hcall (isDT_ren _ hav) hfl k

/-- The same, and what comes back is a new row. -/
theorem ClW.lntR {n sz : Nat} {xs : List (List D)} (hgd : o.guard = none) (hop : o.op = .call cl) (hc : cl.callee = .value x) (hx : opd0 st.sl x = .clo f caps) (ha : ArgR st.sl cl.args.toList ys) (hl : LendL st.look (ys ++ caps) as) (he : Entered P f)
    (hcall : CallOk P f as [] ⟨.ref 0 0 n, [.row sz false xs], []⟩) (hfl : ([Root.row sz false xs]).all Root.flat = true) (k : K ⟨.ref st.rt.length 0 n, [.row sz false xs], []⟩ (AV.idss (ys ++ caps))) : ClW P o st K := by
  obtain ⟨L, hL⟩ := hl.get
  refine ClW.pure (out := ⟨.ref st.rt.length 0 n, [.row sz false xs], []⟩) hgd hop hc hx ha hL he hcall ?_ rfl rfl hfl k
  simp [Out.ren, AV.ren, callRen, rootsRen, Root.ren, gRen]

/-- A call that writes into a row that it is handed. -/
theorem ClW.mut1 {r n sz : Nat} {xs ws : List (List D)} {y : D} {ds : List AV} (hgd : o.guard = none) (hop : o.op = .call cl) (hc : cl.callee = .value x) (hx : opd0 st.sl x = .clo f caps) (ha : ArgR st.sl cl.args.toList (.ref r 0 n :: ds)) (hd : AV.isDs (ds ++ caps) = true) (he : Entered P f)
    (hcall : CallOk P f (.ref 0 0 n :: (ds ++ caps)) [.row sz false xs] ⟨.d y, [], [(0, .row sz false ws)]⟩) (hr : st.rt[r]? = some (.row sz false xs)) (k : K ⟨.d y, [], [(r, .row sz false ws)]⟩ (r :: AV.idss (ds ++ caps))) : ClW P o st K := by
  have hlt : r < st.rt.length := (List.getElem?_eq_some_iff.1 hr).1
  have hds := isDs_lend st.look hd
  have hz : LendsR st.look [] (.ref r 0 n :: ds ++ caps) (.ref r 0 n :: (ds ++ caps)) := .same (LendsR.of hds.1 (fun r hr => by simp at hr))
  refine ClW.call (out := ⟨.d y, [], [(r, .row sz false ws)]⟩) (π := [r]) (L := []) (as := .ref 0 0 n :: (ds ++ caps)) hgd hop hc hx ha hz (by simp) he ?_ hcall ?_ rfl (by simp) (by simpa using hlt) (by simp) ?_ ?_ ?_ ?_
  · have h2 := lendAs_ren (rt := st.look) (callRen [r] st.rt.length 0) hds.1
    simp only [AV.rens, AV.ren]
    rw [show callRen [r] st.rt.length ([] : List Root).length 0 = some r from rfl]
    have h2' : AV.rens (callRen [r] st.rt.length ([] : List Root).length) (ds ++ caps) = some (ds ++ caps) := h2
    rw [h2']
    rfl
  · rfl
  · intro i hi
    simp at hi
    subst hi
    simp [AV.idss, AV.ids]
  · intro j i R hj hR
    cases j with
    | zero =>
      simp at hj hR
      subst hj hR
      exact ⟨_, hr, by simp, rfl⟩
    | succ j => simp at hj
  · intro p hp
    simp [frzG] at hp
    subst hp
    simpa using hlt
  · exact k
end

/-- A number of the machine's. -/
def wfI (n : Int) : Prop := -9223372036854775808 ≤ n ∧ n < 9223372036854775808
theorem wfI_of {n : Int} (h : (Lit.int .i64 n).wf = true) : wfI n := by
  have h' : (decide ((-(2 ^ 63) : Int) ≤ n) && decide (n ≤ 2 ^ 63 - 1)) = true := h
  simp only [Bool.and_eq_true, decide_eq_true_eq] at h'
  unfold wfI
  omega

/-! A row that is written anew from the front. -/
def mkd {α : Type} (mk : Nat → α) (a : List α) (j : Nat) : List α := ((List.range a.length).map mk).take j ++ a.drop j
section
variable {α : Type} {mk : Nat → α} {a l : List α} {e : α → List D} {zs : List (List D)} {j : Nat} {i : Int}
theorem mkd_length (h : j ≤ a.length) : (mkd mk a j).length = a.length := by simp [mkd]; omega
theorem mkd_zero : mkd mk a 0 = a := by simp [mkd]
theorem mkd_end : mkd mk a a.length = (List.range a.length).map mk := by
  unfold mkd
  rw [List.drop_length, List.append_nil, List.take_of_length_le (by simp)]
theorem mkd_set (h : j < a.length) : (mkd mk a j).set j (mk j) = mkd mk a (j + 1) := by
  unfold mkd
  have hl : (((List.range a.length).map mk).take j).length = j := by simp; omega
  have hd : a.drop j = a[j] :: a.drop (j + 1) := List.drop_eq_getElem_cons h
  rw [List.set_append, if_neg (by omega), hl, Nat.sub_self, hd, List.set_cons_zero, List.take_succ_eq_append_getElem (by simpa using h), List.append_assoc]
  simp
theorem st_inR (hz : l.map e = zs) (hi : (j : Int) = i) (h : j < l.length) : InR (std.ofNat (std.nadd 0 (std.nat i))) (std.len zs) := by
  subst hz hi
  refine ⟨Int.natCast_nonneg _, ?_⟩
  show (((0 + (j : Int).toNat : Nat)) : Int) < ((l.map e).length : Int)
  rw [List.length_map]
  omega
theorem st_idx (hi : (j : Int) = i) : std.nadd 0 (std.nat i) = j := by
  subst hi
  show 0 + (j : Int).toNat = j
  omega
theorem st_lenGe {n : Nat} (hz : l.map e = zs) (hi : (j : Int) = i) (h : j < l.length) (hn : n ≤ (e l[j]).length) : LenGe (std.elt zs (std.ofNat (std.nadd 0 (std.nat i)))) n := by
  rw [st_idx hi]
  refine ⟨?_⟩
  subst hz
  show n ≤ ((((l.map e)[((j : Nat) : Int).toNat]?)).getD []).length
  simpa [h] using hn
theorem st_set {off : Nat} {ds : List D} {x : α} (hz : l.map e = zs) (hi : (j : Int) = i) (h : j < l.length) (hp : putAt (e l[j]) off ds = e x) : std.set zs (std.nadd 0 (std.nat i)) off ds = (l.set j x).map e := by
  rw [st_idx hi]
  subst hz
  show (l.map e).set j (putAt ((((l.map e)[j]?)).getD []) off ds) = _
  rw [List.map_set, List.getElem?_map, List.getElem?_eq_getElem h]
  show _ = (l.map e).set j (e x)
  rw [← hp]
  rfl
end
end Go.Proofs.Ytamdgfklbjoaiaa.Ab
namespace Go.Proofs.Ytamdgfklbjoaiaa.Ab
open Go
section
variable {P : Program} {o : Oper} {st : St} {K : Out → List Nat → Prop} {cl : Call} {x : Operand} {f : FuncId} {caps ys : List AV}
/-- A call with data, that hands out rows of its own. -/
theorem ClW.ddA {o0 out : Out} (hgd : o.guard = none) (hop : o.op = .call cl) (hc : cl.callee = .value x) (hx : opd0 st.sl x = .clo f caps) (ha : ArgR st.sl cl.args.toList ys) (hd : AV.isDs (ys ++ caps) = true) (he : Entered P f)
    (hcall : CallOk P f (ys ++ caps) [] o0) (hren : o0.ren (callRen [] st.rt.length o0.new.length) = some out) (hog : out.g = []) (hfa : out.av.flat = true) (hfn : out.new.all Root.flat = true) (k : K out []) : ClW P o st K := by
  have h := isDs_lend st.look hd
  refine ClW.pure (L := []) hgd hop hc hx ha h.1 he hcall hren hog hfa hfn ?_
  rw [h.2]
  exact k
end
theorem flats_map {rs : List Root} (h : ∀ R ∈ rs, Root.flat R = true) : rs.all Root.flat = true := List.all_eq_true.2 h
theorem flat_row {α : Type} {c : α → List D} (h : ∀ a, (c a).all D.flat = true) {l : List α} {xs : List (List D)} {sz : Nat} (hx : l.map c = xs) : Root.flat (.row sz false xs) = true := by
  subst hx
  have := flat_map h l (sz := sz)
  simpa using this
theorem LendsR.refl {rt : Nat → Option Root} : ∀ (l : List AV), LendsR rt [] l l
  | [] => .nil
  | x :: l => .same (LendsR.refl l)
section
variable {P : Program} {o : Oper} {st : St} {K : Out → List Nat → Prop} {cl : Call} {x : Operand} {f : FuncId} {caps ys as : List AV}
/-- A call that writes into rows that it is handed. -/
theorem ClW.mutN {π : List Nat} {r0 : List Root} {y : D} {g g' : List (Nat × Root)} (hgd : o.guard = none) (hop : o.op = .call cl) (hc : cl.callee = .value x) (hx : opd0 st.sl x = .clo f caps) (ha : ArgR st.sl cl.args.toList ys) (has : AV.rens (callRen π st.rt.length 0) as = some (ys ++ caps)) (he : Entered P f)
    (hcall : CallOk P f as r0 ⟨.d y, [], g⟩) (hlen : π.length = r0.length) (hnd : π.Nodup) (hg : gRen (callRen π st.rt.length 0) g = some g') (hgb : ∀ p ∈ g', p.1 < st.rt.length) (hin' : (π.all fun r => (AV.idss (ys ++ caps)).contains r) = true)
    (hrt : π.map (fun r => st.rt[r]?) = r0.map some) (hrow : ∀ R ∈ r0, ∃ sz fz xs, R = .row sz fz xs) (k : K ⟨.d y, [], g'⟩ (AV.idss (ys ++ caps))) : ClW P o st K := by
  have hin : ∀ r ∈ π, r ∈ AV.idss (ys ++ caps) := by
    intro r hr
    have := List.all_eq_true.1 hin' r hr
    simpa using this
  have get : ∀ (j : Nat) r R, π[j]? = some r → r0[j]? = some R → st.rt[r]? = some R := by
    intro j r R hj hR
    have := congrArg (·[j]?) hrt
    simp only [List.getElem?_map, hj, hR, Option.map_some, Option.some.injEq] at this
    exact this
  refine ClW.call (o0 := ⟨.d y, [], g⟩) (out := ⟨.d y, [], g'⟩) (π := π) (L := []) (as := as) hgd hop hc hx ha (LendsR.refl _) (by simp) he has hcall ?_ hlen hnd ?_ (by simp) hin ?_ ?_ ?_
  · show (some (AV.d y)).bind _ = _
    simp [rootsRen, hg]
  · intro r hr
    obtain ⟨j, hj, hgj⟩ := List.getElem_of_mem hr
    have h1 : π[j]? = some r := List.getElem?_eq_some_iff.2 ⟨hj, hgj⟩
    have h2 : r0[j]? = some (r0[j]'(by omega)) := List.getElem?_eq_getElem (by omega)
    exact (List.getElem?_eq_some_iff.1 (get j r _ h1 h2)).1
  · intro j r R hj hR
    obtain ⟨sz, fz, xs, rfl⟩ := hrow R (List.mem_of_getElem? hR)
    exact ⟨_, get j r _ hj hR, by simp, rfl⟩
  · intro p hp
    simp [frzG] at hp
    simpa using hgb p hp
  · show K ⟨.d y, [], g' ++ frzG st.look []⟩ _
    rw [show frzG st.look [] = [] from rfl, List.append_nil]
    exact k
end
theorem endP_rows {P : Program} {st : St} {t : Nat} {x x' : D} {r0 : List Root} {g : List (Nat × Root)} (h : st.sl t = .d x') (e : x' = x) (hp : ∀ (r : Nat) R, r0[r]? = some R → ∃ sz fz xs, st.rt[r]? = some (.row sz fz xs) ∧ updG g (fun r => r0[r]?) r = some (.row sz fz xs)) (hg : ∀ p ∈ g, p.1 < r0.length) : EndQ P #[.tmp t] r0 ⟨.d x, [], g⟩ .ret st := by
  subst e
  refine ⟨[], [.d x'], ?_, rfl, by simp, by simp, rfl, by simp, ?_, hg⟩
  · simp [resAll, resOne, h]
  · intro r R hR
    obtain ⟨sz, fz, xs, h1, h2⟩ := hp r R hR
    exact ⟨_, _, h1, rfl, h2⟩
end Go.Proofs.Ytamdgfklbjoaiaa.Ab

namespace Go.Proofs.Ytamdgfklbjoaiaa.Ab
open Go Go.RowKit

/-! Between 'Calls' and 'CallOk'. -/
theorem below_heap {w w' : World} (h : Below w.heap.size w w') {b : Nat} (hb : b < w.heap.size) : w'.heap[b]? = w.heap[b]? := h.block b hb
theorem below_shape {w w' : World} (h : Below w.heap.size w w') {b : Nat} {s : TypeId × Nat} (hs : w.shape? b = some s) : w'.shape? b = some s := by
  rw [shape_of_block (h.block b (shape_lt hs))]; exact hs

section
variable {P : Program} {f : FuncId} {as : List AV}
/-- A call that leaves what there was as it was, and answers with data. -/
theorem CallOk.ofCalls {y : D} (h : ∀ (E : Env) (vs : Array Value), (∀ b, E.S b → b < E.w.heap.size) → Args E as vs → Calls P f vs E.w fun e w' => ∃ v, e = .returned v ∧ Below E.w.heap.size E.w w' ∧ RelD E.w E.S y v) : CallOk P f as [] ⟨.d y, [], []⟩ := by
  intro w S β vs hM hA
  refine (h (callEnv w S β [] []) vs hM.slt hA).mono ?_
  rintro e w' ⟨v, he, hb, hr⟩
  have hb : Below w.heap.size w w' := hb
  have st : Step (callEnv w S β [] []) { callEnv w S β [] [] with w := w' } := ⟨fun r R hR => ⟨R, hR, .inr rfl⟩, fun _ h => h, fun _ _ => rfl, fun _ h => h, fun b hS => hb.block b (hM.slt b hS), fun b s hs => below_shape hb hs⟩
  refine ⟨v, { callEnv w S β [] [] with w := w' }, he, rfl, ?_, st, ?_, ?_, hb.size, .d _ _ (hr.step st.S st.heap)⟩
  · exact {
      os := hb.os.trans hM.os
      output := hb.output.trans hM.output
      tape := hb.tape.trans hM.tape
      size := hb.size
      keep := fun b hlt hn => hb.block b hlt
      shape := fun b s hs => below_shape hb hs
      s0 := hM.s0
      slt := fun b hS => Nat.lt_of_lt_of_le (hM.slt b hS) hb.size
      snew := hM.snew
      blt := fun r b hp hβ => absurd hp (Nat.not_lt_zero r)
      bown := fun r R b hp => absurd hp (Nat.not_lt_zero r)
      bkeep := fun r R hlt hp => absurd hp (Nat.not_lt_zero r)
      inj := fun r r' R R' b hp => absurd hp (Nat.not_lt_zero r)
      roots := fun r R hp => absurd hp (Nat.not_lt_zero r) }
  · rfl
  · intro r
    constructor
    · exact fun h => .inl h
    · rintro (h | ⟨_, h⟩)
      · exact h
      · exact absurd h (by simp)

theorem args_nil {E : Env} : Args E [] #[] := ⟨rfl, fun j y h => by simp at h⟩
theorem args1 {E : Env} {x : AV} {vs : Array Value} (h : Args E [x] vs) : ∃ v, vs = #[v] ∧ RelAV E x v := by
  obtain ⟨hs, hr⟩ := h
  have : vs.size = 1 := hs
  obtain ⟨l⟩ := vs
  match l, this with
  | [v], _ => exact ⟨v, rfl, hr 0 x rfl⟩
theorem args2 {E : Env} {x y : AV} {vs : Array Value} (h : Args E [x, y] vs) : ∃ u v, vs = #[u, v] ∧ RelAV E x u ∧ RelAV E y v := by
  obtain ⟨hs, hr⟩ := h
  have : vs.size = 2 := hs
  obtain ⟨l⟩ := vs
  match l, this with
  | [u, v], _ => exact ⟨u, v, rfl, hr 0 x rfl, hr 1 y rfl⟩
theorem args3 {E : Env} {x y z : AV} {vs : Array Value} (h : Args E [x, y, z] vs) : ∃ u v t, vs = #[u, v, t] ∧ RelAV E x u ∧ RelAV E y v ∧ RelAV E z t := by
  obtain ⟨hs, hr⟩ := h
  have : vs.size = 3 := hs
  obtain ⟨l⟩ := vs
  match l, this with
  | [u, v, t], _ => exact ⟨u, v, t, rfl, hr 0 x rfl, hr 1 y rfl, hr 2 z rfl⟩
theorem relSc {E : Env} {x v : Value} (h : RelAV E (.d (.sc x)) v) : v = x := by
  cases h with
  | d _ _ h => cases h; rfl

/-- Nothing but the world. -/
def envOf (w : World) : Env := callEnv w (fun _ => False) (fun _ => none) [] []
theorem mem_envOf (w : World) (new : List Root) : Mem (callCtx w (fun _ => False) (fun _ => none) []) (callEnv w (fun _ => False) (fun _ => none) [] new) where
  os := rfl
  output := rfl
  tape := rfl
  size := Nat.le_refl _
  keep := fun _ _ _ => rfl
  shape := fun _ _ h => h
  s0 := fun _ h => h
  slt := fun _ h => h.elim
  snew := fun _ h => h.elim
  blt := fun r b hp => absurd hp (Nat.not_lt_zero r)
  bown := fun r R b hp => absurd hp (Nat.not_lt_zero r)
  bkeep := fun r R hlt hp => absurd hp (Nat.not_lt_zero r)
  inj := fun r r' R R' b hp => absurd hp (Nat.not_lt_zero r)
  roots := fun r R hp => absurd hp (Nat.not_lt_zero r)
theorem out_below {w : World} {S : Nat → Prop} {β : Nat → Option Nat} {new : List Root} {o : Out} {v : Value} {E' : Env} (h : OutRel (callCtx w S β []) (callEnv w S β [] new) 0 o v E') : Below w.heap.size w E'.w :=
  ⟨h.mem.os, h.mem.tape, h.mem.output, h.mem.size, fun k hk => h.mem.keep k hk (by rintro ⟨r, R, hr, _⟩; simp at hr)⟩
/-- The other way: with values alone. -/
theorem CallOk.calls {x : Value} (h : CallOk P f as [] ⟨.d (.sc x), [], []⟩) (w : World) {vs : Array Value} (hA : Args (envOf w) as vs) : Calls P f vs w fun e w' => e = .returned x ∧ Below w.heap.size w w' := by
  refine (h w _ _ vs (mem_envOf w []) hA).mono ?_
  rintro e w' ⟨v, E', rfl, rfl, ho⟩
  exact ⟨by rw [relSc ho.rel], out_below ho⟩
theorem CallOk.calls1 {x a : Value} (h : CallOk P f [.d (.sc a)] [] ⟨.d (.sc x), [], []⟩) (ha : a.oneCell' = true) (w : World) : Calls P f #[a] w fun e w' => e = .returned x ∧ Below w.heap.size w w' :=
  h.calls w ⟨rfl, fun j y hy => by
    match j, hy with
    | 0, hy => simp at hy; subst hy; exact .d _ _ (.sc a ha)⟩
theorem CallOk.calls2 {x a b : Value} (h : CallOk P f [.d (.sc a), .d (.sc b)] [] ⟨.d (.sc x), [], []⟩) (ha : a.oneCell' = true) (hb : b.oneCell' = true) (w : World) : Calls P f #[a, b] w fun e w' => e = .returned x ∧ Below w.heap.size w w' :=
  h.calls w ⟨rfl, fun j y hy => by
    match j, hy with
    | 0, hy => simp at hy; subst hy; exact .d _ _ (.sc a ha)
    | 1, hy => simp at hy; subst hy; exact .d _ _ (.sc b hb)⟩
theorem CallOk.calls3 {x a b d : Value} (h : CallOk P f [.d (.sc a), .d (.sc b), .d (.sc d)] [] ⟨.d (.sc x), [], []⟩) (ha : a.oneCell' = true) (hb : b.oneCell' = true) (hd : d.oneCell' = true) (w : World) : Calls P f #[a, b, d] w fun e w' => e = .returned x ∧ Below w.heap.size w w' :=
  h.calls w ⟨rfl, fun j y hy => by
    match j, hy with
    | 0, hy => simp at hy; subst hy; exact .d _ _ (.sc a ha)
    | 1, hy => simp at hy; subst hy; exact .d _ _ (.sc b hb)
    | 2, hy => simp at hy; subst hy; exact .d _ _ (.sc d hd)⟩

/-- A row that is read: what lies where. -/
theorem rel_row {E : Env} {sz : Nat} {xs : List (List D)} {v : Value} (h : RelAV E (.d (.row sz xs)) v) (hlt : ∀ b, E.S b → b < E.w.heap.size) :
    (xs = [] ∧ ∃ a cap, v = .slice a 0 cap) ∨ ∃ b off cap, v = .slice (some ⟨b, off, none⟩) xs.length cap ∧ b < E.w.heap.size ∧ xs.length ≤ cap ∧ (∀ (i : Nat) x, xs[i]? = some x → x.length = sz) ∧
      ∀ (i : Nat) (x : List D) (j : Nat) (u : Value), xs[i]? = some x → x[j]? = some (.sc u) → E.w.cell? ⟨b, off + i * sz + j, none⟩ = some u := by
  cases h with
  | d _ _ h =>
    cases h with
    | nil _ a cap => exact .inl ⟨rfl, a, cap, rfl⟩
    | row _ _ b off cap us hS hc hl hu hr =>
      refine .inr ⟨b, off, cap, rfl, hlt b hS, hc, hl, ?_⟩
      intro i x j u hx hj
      have h1 := hr i x j _ hx hj
      have h2 := hu i x j _ hx hj
      cases h1
      exact h2
end
end Go.Proofs.Ytamdgfklbjoaiaa.Ab
