/- A relation between the machine and an abstract state, evaluators for single operations and for code, proved sound (part 2). No conditions. -/
import Derived.Laws.BytesString
import Derived.Test.YtmkpihcfglinjaaGreatDoorZ1
set_option linter.unusedVariables false
set_option linter.unusedSimpArgs false
namespace Go.Proofs.YtmkpihcfglinjaaGreatDoor.Ab
open Go
def AV.view (rt : Nat → Option Root) : AV → Option (Nat × List (List D))
  | .d (.row sz xs) => some (sz, xs)
  | .ref r off len =>
    match rt r with
    | some (.row sz _ xs) => if off + len ≤ xs.length then some (sz, (xs.drop off).take len) else none
    | _ => none
  | _ => none
def byteRow : List (List D) → Option (List Int)
  | [] => some []
  | [.sc (.int .u8 n)] :: rest => (byteRow rest).map (n :: ·)
  | _ => none
def strOfInts (ns : List Int) : ByteArray := ⟨(ns.map fun n => UInt8.ofNat n.toNat).toArray⟩
def evConv (rt : Nat → Option Root) (nb : Nat) (src dst : TypeDesc) (bsrc : Bool) (x : AV) : Option Made :=
  match dst, x with
  | .int k, .d (.sc (.int _ n)) => some (.d (.sc (.int k (k.wrap n))), [])
  | .string, .d (.sc (.string s)) => (match src with | .string => some (.d (.sc (.string s)), []) | _ => none)
  | .string, x => if bsrc then (x.view rt).bind fun (sz, xs) => if sz = 1 then (byteRow xs).map fun ns => (.d (.sc (.string (strOfInts ns))), []) else none else none
  | _, _ => none
section
variable {P : Program} {c : Ctx} {E : Env}
theorem view_sound (hM : Mem c E) {x : AV} {v : Value} {sz : Nat} {ys : List (List D)} (hx : RelAV E x v) (h : x.view E.rt = some (sz, ys)) :
    ∃ a cap, v = .slice a ys.length cap ∧ ys.length ≤ cap ∧ (∀ (i : Nat) y, ys[i]? = some y → y.length = sz) ∧
      (ys ≠ [] → ∃ b o, a = some ⟨b, o, none⟩ ∧ b < E.w.heap.size ∧ ∀ (i : Nat) y (j : Nat) z, ys[i]? = some y → y[j]? = some z → ∃ u, E.w.cell? ⟨b, o + i * sz + j, none⟩ = some u ∧ RelD E.w E.S z u) := by
  cases hx with
  | d z v h' =>
    cases h' with
    | sc => simp [AV.view] at h
    | nil s a =>
      simp only [AV.view, Option.some.injEq, Prod.mk.injEq] at h
      obtain ⟨rfl, rfl⟩ := h
      exact ⟨a, _, rfl, Nat.zero_le _, by simp, fun h => absurd rfl h⟩
    | row s xs b off cap us hS hc hl hu hr =>
      simp only [AV.view, Option.some.injEq, Prod.mk.injEq] at h
      obtain ⟨rfl, rfl⟩ := h
      exact ⟨_, cap, rfl, hc, hl, fun _ => ⟨b, off, rfl, hM.slt b hS, fun i y j z hy hz => ⟨_, hu i y j z hy hz, hr i y j z hy hz⟩⟩⟩
  | ref r off len R sz0 b cap t n h1 hk h2 h3 h4 h5 h6 =>
    cases R with
    | buf => simp [AV.view, h1] at h
    | map => simp [AV.view, h1] at h
    | box => simp [Root.kind] at hk
    | dead => simp [Root.kind] at hk
    | row sz' fz xs =>
      simp only [Root.kind, Kind.row.injEq] at hk
      subst hk
      simp only [AV.view, h1] at h
      split at h
      · rename_i hle
        simp only [Option.some.injEq, Prod.mk.injEq] at h
        obtain ⟨rfl, rfl⟩ := h
        have hlen : ((xs.drop off).take len).length = len := by simp; omega
        have hin : ∀ (i : Nat) z, ((xs.drop off).take len)[i]? = some z → xs[off + i]? = some z := by
          intro i z hz
          rw [List.getElem?_take] at hz
          split at hz
          · rwa [List.getElem?_drop] at hz
          · cases hz
        rw [hlen]
        rcases hM.roots r _ h2 h1 with ⟨hb, _⟩ | ⟨b', cs, t', fr, hb, hh, hl, hs, hc, _⟩
        · rw [h3] at hb; cases hb
        · rw [h3] at hb
          obtain rfl := Option.some.inj hb
          refine ⟨_, cap, rfl, h5, fun i y hy => hl _ _ (hin i y hy), fun _ => ⟨b, off * sz', rfl, hM.blt r b h2 h3, ?_⟩⟩
          intro i y j z hy hz
          obtain ⟨u, hu, hr⟩ := hc _ _ _ _ (hin i y hy) hz
          have e : off * sz' + i * sz' + j = (off + i) * sz' + j := by rw [Nat.add_mul]
          exact ⟨u, by simp [World.cell?, hh, e, hu], hr⟩
      · cases h
  | refz r off R sz0 a h1 hk h2 =>
    cases R with
    | buf => simp [AV.view, h1] at h
    | map => simp [AV.view, h1] at h
    | box => simp [Root.kind] at hk
    | dead => simp [Root.kind] at hk
    | row sz' fz xs =>
      simp only [AV.view, h1] at h
      split at h
      · simp only [List.take_zero, Option.some.injEq, Prod.mk.injEq] at h
        obtain ⟨rfl, rfl⟩ := h
        exact ⟨a, 0, rfl, Nat.le_refl _, by simp, fun h => absurd rfl h⟩
      · cases h
  | dref r off len v h1 ho => simp [AV.view, h1] at h
  | _ => simp [AV.view] at h
theorem byteRow_get : ∀ {xs : List (List D)} {ns : List Int}, byteRow xs = some ns → ns.length = xs.length ∧ ∀ (i : Nat) n, ns[i]? = some n → xs[i]? = some [.sc (.int .u8 n)]
  | [], ns, h => by simp [byteRow] at h; subst h; simp
  | x :: xs, ns, h => by
    unfold byteRow at h
    split at h
    · rename_i heq; cases heq
    · rename_i n rest heq
      cases heq
      obtain ⟨ms, hm, rfl⟩ := Option.map_eq_some_iff.1 h
      obtain ⟨hl, hg⟩ := byteRow_get hm
      refine ⟨by simp [hl], ?_⟩
      intro i k hk
      cases i with
      | zero => simp at hk; subst hk; rfl
      | succ i => simp at hk; simpa using hg i k hk
    · cases h
theorem foldl_push : ∀ (ns : List Int) (s : ByteArray), ns.foldl (fun r n => r.push (UInt8.ofNat n.toNat)) s = ⟨s.data ++ (ns.map fun n => UInt8.ofNat n.toNat).toArray⟩
  | [], s => by simp
  | n :: ns, s => by
    rw [List.foldl_cons, foldl_push ns]
    simp [ByteArray.push]
theorem evConv_sound (hM : Mem c E) {nb : Nat} {s d : TypeId} {src dst : TypeDesc} {bsrc : Bool} {x : AV} {v : Value} {r : Made} (hs : P.underlying s = some src) (hd : P.underlying d = some dst)
    (hb : bsrc = true → ∃ e, src = .slice e ∧ P.underlying e = some (.int .u8)) (hx : RelAV E x v) (h : evConv E.rt nb src dst bsrc x = some r) : Yields1 c P E nb r (convert s d v) := by
  unfold evConv at h
  split at h
  · rename_i k k' n
    obtain rfl := Option.some.inj h
    cases hx with
    | d _ _ h' =>
      cases h' with
      | sc =>
        refine Yields1.same hM ⟨_, ?_, .d _ _ (.sc _ rfl)⟩
        simp [convert, run_underlying hs, run_underlying hd, Conv.intToInt]
  · rename_i str
    split at h
    · obtain rfl := Option.some.inj h
      cases hx with
      | d _ _ h' =>
        cases h' with
        | sc =>
          refine Yields1.same hM ⟨_, ?_, .d _ _ (.sc _ rfl)⟩
          simp [convert, run_underlying hs, run_underlying hd]
    · cases h
  · rename_i x' hns
    split at h
    · rename_i hbt
      obtain ⟨⟨sz, xs⟩, hv, h⟩ := Option.bind_eq_some_iff.1 h
      simp only at h
      split at h
      · rename_i h1
        subst h1
        obtain ⟨ns, hbr, rfl⟩ := Option.map_eq_some_iff.1 h
        obtain ⟨e, rfl, he⟩ := hb hbt
        obtain ⟨hl, hg⟩ := byteRow_get hbr
        obtain ⟨a, cap, rfl, hcap, hlen, hcell⟩ := view_sound hM hx hv
        refine Yields1.same hM ⟨.string (strOfInts ns), ?_, .d _ _ (.sc _ rfl)⟩
        cases a with
        | none =>
          by_cases hne : xs = []
          · subst hne
            have : ns = [] := List.eq_nil_of_length_eq_zero hl
            subst this
            simp [convert, run_underlying hs, run_underlying hd, run_underlying he, Conv.bytesToString, strOfInts, ByteArray.empty, ByteArray.emptyWithCapacity]
            rfl
          · obtain ⟨b, o, hab, _⟩ := hcell hne
            cases hab
        | some a =>
          rw [run_convert_bytes_string E.w s d e a xs.length cap hs he hd]
          have hload : (loadCells a xs.length).run P E.w = .ok (ns.map (Value.int .u8)).toArray E.w := by
            rw [← hl, show ns.length = (ns.map (Value.int .u8)).length by simp]
            apply run_loadCells_list
            intro j v hj
            rw [List.getElem?_map] at hj
            obtain ⟨n, hn, rfl⟩ := Option.map_eq_some_iff.1 hj
            have hxj := hg j n hn
            have hne : xs ≠ [] := by rintro rfl; simp at hxj
            obtain ⟨b, o, hab, _, hc⟩ := hcell hne
            cases hab
            obtain ⟨u, hu, hr⟩ := hc j _ 0 _ hxj rfl
            cases hr
            rw [add_none]
            simpa using hu
          rw [run_bytesToString E.w a xs.length cap ns hload, foldl_push]
          simp [strOfInts, ByteArray.empty, ByteArray.emptyWithCapacity]
          rfl
      · cases h
    · cases h
  · cases h
end
end Go.Proofs.YtmkpihcfglinjaaGreatDoor.Ab
