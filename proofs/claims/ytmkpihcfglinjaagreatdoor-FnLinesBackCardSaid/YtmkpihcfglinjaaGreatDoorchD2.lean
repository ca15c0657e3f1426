/- What functions of the program come to, for all arguments in the given bounds. -/
import Derived.Test.YtmkpihcfglinjaaGreatDoorchD
set_option linter.unusedVariables false
set_option linter.unusedSimpArgs false
namespace Go.Proofs.YtmkpihcfglinjaaGreatDoor.Ab
open Go Go.Proofs
set_option maxRecDepth 20000
set_option maxHeartbeats 4000000
set_option linter.unusedSimpArgs false
set_option linter.unusedVariables false
def tab_chD2 : List (Nat × TyRow) := [
  (3, ⟨.int .i64, some 1, some false, none, false, [.int .i64], [], some [(.int .i64 0, 0)], none, none, none⟩),
  (5, ⟨.int .u8, some 1, some false, none, false, [.int .u8], [], some [(.int .u8 0, 0)], none, none, none⟩),
  (9, ⟨.str, some 1, some false, none, false, [.str], [], some [(.string default, 0)], none, none, none⟩),
  (22, ⟨.sl 1, some 1, some false, some (1, 1), true, [.sl 1], [], some [(.slice none 0 0, 1)], some ([.sc (.int .u8 0)], 1, 1), none, none⟩),
  (24, ⟨.sl 1, some 1, some false, some (1, 8), false, [.sl 1], [], some [(.slice none 0 0, 1)], some ([.sc (.int .i64 0)], 1, 8), none, none⟩),
  (26, ⟨.other, some 4, some true, none, false, [.int .i64, .str, .int .i64, .sl 1], [some (0, 1, false), some (1, 1, false), some (2, 1, false), some (3, 1, false)], some [(.int .i64 0, 0), (.string default, 0), (.int .i64 0, 0), (.slice none 0 0, 1)], none, some [(0, 1), (1, 1), (2, 1), (3, 1)], none⟩),
  (32, ⟨.other, some 4, some true, none, false, [.int .i64, .int .i64, .int .i64, .int .i64], [some (0, 1, false), some (1, 1, false), some (2, 1, false), some (3, 1, false)], some [(.int .i64 0, 0), (.int .i64 0, 0), (.int .i64 0, 0), (.int .i64 0, 0)], none, some [(0, 1), (1, 1), (2, 1), (3, 1)], some [.int, .int, .int, .int]⟩),
  (40, ⟨.other, some 1, some false, none, false, [.other], [], some [(.pointer none, 0)], none, none, none⟩),
  (68, ⟨.other, some 3, some true, none, false, [.sl 1, .int .i64, .int .i64], [some (0, 1, false), some (1, 1, false), some (2, 1, false)], some [(.slice none 0 0, 1), (.int .i64 0, 0), (.int .i64 0, 0)], none, some [(0, 1), (1, 1), (2, 1)], none⟩)]
theorem tab_chD2_ok : TabOk Tryz.prog tab_chD2 := TabOk.of (by kernel_rfl)
theorem su_chD2 : Setup Tryz.prog tab_chD2 := ⟨tab_chD2_ok, mixed⟩
theorem LendsR.agg1 {rt : Nat → Option Root} {L L1 : List Nat} {l l' ys zs : List AV} (h : LendF rt l l' L1) (t : LendsR rt L ys zs) (hs : (L1.all fun r => L.contains r) = true := by rfl) : LendsR rt L (.agg l :: ys) (.agg l' :: zs) :=
  .lend (L' := L1) (by simp [AV.lendA, h.get.1]) (fun r hr => by simpa using List.all_eq_true.1 hs r hr) t
def nwF (h : Int) (x : UInt8) : Int := bitI .and .i64 (h * 131 + x.toNat + 7) 1073741823
def rl01New (b : List UInt8) : Int := (b.take 4000).foldl nwF (94701 + b.length)
def rl01Long (n x : Int) : ByteArray := tx (List.replicate n.toNat (UInt8.ofNat x.toNat))
def rl23Act (b : List UInt8) (i h : Int) : TAct × Int × Int := match rl01Below b i h 14 with
  | (x, i, h) => if x = 0 then (⟨2, tx [], 0, []⟩, i, h) else if x = 1 then (⟨3, tx [], 0, []⟩, i, h)
    else if x = 2 then match rl01PickInt b i h [0, 1, 2, 3, 4, 5, 9, 100] with | (y, i, h) => (⟨5, tx [], y, []⟩, i, h)
    else if x = 3 then match rl01PickInt b i h [0, 1, 2, 3, 4, 5, 9, 100] with | (y, i, h) => (⟨6, tx [], y, []⟩, i, h)
    else if x = 4 ∨ x = 5 then match rl01Below b i h 4 with | (y, i, h) => match rl07Keeps b i h with | (l, i, h) => (⟨8, tx [], y, l⟩, i, h)
    else if x = 6 then (⟨4, tx [], 0, []⟩, i, h) else if x = 7 ∨ x = 8 then (⟨7, tx [], 0, []⟩, i, h)
    else match rl08Record b i h with | (t, i, h) => (⟨1, t, 0, []⟩, i, h)
def rl23AnyAct (b : List UInt8) (i h : Int) : TAct × Int × Int := match rl23Act b i h with
  | (a, i, h) => match rl01Below b i h 12 with
    | (x, i, h) => if x = 0 then match rl01PickInt b i h [0, 1, 8, 9, -1] with | (y, i, h) => (⟨y, a.text_, a.n_, a.keeps_⟩, i, h)
      else if x = 1 then match rl01PickInt b i h [-1, 5, 9223372036854775807] with | (y, i, h) => (⟨a.kind_, a.text_, y, a.keeps_⟩, i, h)
      else if x = 2 then match rl01Below b i h 3 with | (y, i, h) => (⟨a.kind_, rl01Long (199 + y) 5, a.n_, a.keeps_⟩, i, h)
      else if x = 3 then match rl01Below b i h 2 with | (y, i, h) => (⟨a.kind_, a.text_, a.n_, [1, 2, 3, 4, 5, 6, 7, 8, 9].take (8 + y).toNat⟩, i, h)
      else (a, i, h)
def tailA (b : List UInt8) (i h : Int) : List Int := match rl23Act b i h with
  | (_, i, h) => match rl01Below b i h 12 with
    | (x, i, h) => if x = 3 then match rl01Below b i h 2 with | (y, _, _) => [1, 2, 3, 4, 5, 6, 7, 8, 9].drop (8 + y).toNat else []
def rl29Act (b : List UInt8) (i h : Int) : TAct × Int × Int := match rl23AnyAct b i h with
  | (a, i, h) => match rl01Once b i h 4 with | (x, i, h) => if x = true then (a, i, h) else (rl29Told a, i, h)
def tailB (b : List UInt8) (i h : Int) : List Int := match rl23AnyAct b i h with
  | (_, i2, h2) => match rl01Once b i2 h2 4 with | (x, _, _) => if x = true then tailA b i h else []
def rDrawActLine (b : List UInt8) : TAct := (rl29Act b 0 (rl01New b)).1
def rl23Setting (b : List UInt8) (i h : Int) : TSetting × Int × Int := match rl01PickInt b i h [8000, 8000, 8000, 400, 150] with
  | (r, i, h) => match rl01Below b i h 2 with | (x, i, h) => match rl01Below b i h 3 with | (y, i, h) => match rl01Below b i h 4 with | (z, i, h) => (⟨r, 1 + x, 1 + y, 1 + z⟩, i, h)
def rl23AnySetting (b : List UInt8) (i h : Int) : TSetting × Int × Int := match rl23Setting b i h with
  | (s, i, h) => match rl01Below b i h 12 with
    | (x, i, h) => if x = 0 then match rl01PickInt b i h [-1, 0, 20000, 20001] with | (y, i, h) => (⟨y, s.version_, s.stride_, s.roll_⟩, i, h)
      else if x = 1 then match rl01PickInt b i h [0, 51, -1] with | (y, i, h) => (⟨s.room_, s.version_, s.stride_, y⟩, i, h)
      else if x = 2 then match rl01Below b i h 4 with | (y, i, h) => (⟨s.room_, y, s.stride_, s.roll_⟩, i, h)
      else (s, i, h)
def rDrawSetLine (b : List UInt8) : TSetting := (rl23AnySetting b 0 (rl01New b)).1
def rbig (b : List UInt8) : Bool := decide (1048576 < b.length)
theorem rl23Act_b {b : List UInt8} {i h oi oh : Int} {o : TAct} (e : rl23Act b i h = (o, oi, oh)) (hc : 0 ≤ i ∧ i ≤ b.length ∧ b.length ≤ 1000000000000) : (o.text_.size ≤ 60 ∧ o.keeps_.length ≤ 4) ∧ 0 ≤ oi ∧ oi ≤ b.length := by
  unfold rl23Act at e
  rcases h1 : rl01Below b i h 14 with ⟨x, i1, h1'⟩
  have z1 := rl01Below_b h1 hc
  simp only [h1] at e
  have t0 : (tx []).size = 0 := rfl
  split at e
  · simp only [Prod.mk.injEq] at e
    rw [← e.1, ← e.2.1]; exact ⟨⟨by decide, by decide⟩, z1.2⟩
  split at e
  · simp only [Prod.mk.injEq] at e
    rw [← e.1, ← e.2.1]; exact ⟨⟨by decide, by decide⟩, z1.2⟩
  split at e
  · rcases h2 : rl01PickInt b i1 h1' [0, 1, 2, 3, 4, 5, 9, 100] with ⟨y, i2, h2'⟩
    have z2 := rl01PickInt_b h2 (by omega)
    simp only [h2, Prod.mk.injEq] at e
    rw [← e.1, ← e.2.1]; exact ⟨⟨Nat.zero_le _, Nat.zero_le _⟩, z2⟩
  split at e
  · rcases h2 : rl01PickInt b i1 h1' [0, 1, 2, 3, 4, 5, 9, 100] with ⟨y, i2, h2'⟩
    have z2 := rl01PickInt_b h2 (by omega)
    simp only [h2, Prod.mk.injEq] at e
    rw [← e.1, ← e.2.1]; exact ⟨⟨Nat.zero_le _, Nat.zero_le _⟩, z2⟩
  split at e
  · rcases h2 : rl01Below b i1 h1' 4 with ⟨y, i2, h2'⟩
    have z2 := rl01Below_b h2 (by omega)
    rcases h3 : rl07Keeps b i2 h2' with ⟨l, i3, h3'⟩
    have z3 := rl07Keeps_b h3 (by omega)
    simp only [h2, h3, Prod.mk.injEq] at e
    rw [← e.1, ← e.2.1]; exact ⟨⟨Nat.zero_le _, z3.1⟩, z3.2⟩
  split at e
  · simp only [Prod.mk.injEq] at e
    rw [← e.1, ← e.2.1]; exact ⟨⟨by decide, by decide⟩, z1.2⟩
  split at e
  · simp only [Prod.mk.injEq] at e
    rw [← e.1, ← e.2.1]; exact ⟨⟨by decide, by decide⟩, z1.2⟩
  rcases h2 : rl08Record b i1 h1' with ⟨t, i2, h2'⟩
  have z2 := rl08Record_b h2 (by omega)
  simp only [h2, Prod.mk.injEq] at e
  rw [← e.1, ← e.2.1]; exact ⟨⟨z2.1, Nat.zero_le _⟩, z2.2⟩
theorem rl23AnyAct_b {b : List UInt8} {i h oi oh : Int} {o : TAct} (e : rl23AnyAct b i h = (o, oi, oh)) (hc : 0 ≤ i ∧ i ≤ b.length ∧ b.length ≤ 1000000000000) : (o.text_.size ≤ 300 ∧ o.keeps_.length ≤ 9) ∧ 0 ≤ oi ∧ oi ≤ b.length := by
  unfold rl23AnyAct at e
  rcases h1 : rl23Act b i h with ⟨a, i1, h1'⟩
  have z1 := rl23Act_b h1 hc
  rcases h0 : rl01Below b i1 h1' 12 with ⟨x, i2, h2'⟩
  have z0 := rl01Below_b h0 (by omega)
  simp only [h1, h0] at e
  split at e
  · rcases h2 : rl01PickInt b i2 h2' [0, 1, 8, 9, -1] with ⟨y, i3, h3'⟩
    have z2 := rl01PickInt_b h2 (by omega)
    simp only [h2, Prod.mk.injEq] at e
    rw [← e.1, ← e.2.1]; exact ⟨⟨by dsimp only; omega, by dsimp only; omega⟩, z2⟩
  split at e
  · rcases h2 : rl01PickInt b i2 h2' [-1, 5, 9223372036854775807] with ⟨y, i3, h3'⟩
    have z2 := rl01PickInt_b h2 (by omega)
    simp only [h2, Prod.mk.injEq] at e
    rw [← e.1, ← e.2.1]; exact ⟨⟨by dsimp only; omega, by dsimp only; omega⟩, z2⟩
  split at e
  · rcases h2 : rl01Below b i2 h2' 3 with ⟨y, i3, h3'⟩
    have z2 := rl01Below_b h2 (by omega)
    simp only [h2, Prod.mk.injEq] at e
    rw [← e.1, ← e.2.1]; exact ⟨⟨by dsimp only; unfold rl01Long; rw [tx_size, List.length_replicate]; omega, by dsimp only; omega⟩, z2.2⟩
  split at e
  · rcases h2 : rl01Below b i2 h2' 2 with ⟨y, i3, h3'⟩
    have z2 := rl01Below_b h2 (by omega)
    simp only [h2, Prod.mk.injEq] at e
    rw [← e.1, ← e.2.1]; exact ⟨⟨by dsimp only; omega, by dsimp only; rw [List.length_take]; exact Nat.min_le_right _ _⟩, z2.2⟩
  simp only [Prod.mk.injEq] at e
  rw [← e.1, ← e.2.1]; exact ⟨⟨by omega, by omega⟩, z0.2⟩
theorem rl29Act_b {b : List UInt8} {i h oi oh : Int} {o : TAct} (e : rl29Act b i h = (o, oi, oh)) (hc : 0 ≤ i ∧ i ≤ b.length ∧ b.length ≤ 1000000000000) : (o.text_.size ≤ 300 ∧ o.keeps_.length ≤ 9) ∧ 0 ≤ oi ∧ oi ≤ b.length := by
  unfold rl29Act at e
  rcases h1 : rl23AnyAct b i h with ⟨a, i1, h1'⟩
  have z1 := rl23AnyAct_b h1 hc
  rcases h0 : rl01Once b i1 h1' 4 with ⟨x, i2, h2'⟩
  have z0 := rl01Once_b h0 (by omega)
  simp only [h1, h0] at e
  split at e
  · simp only [Prod.mk.injEq] at e
    rw [← e.1, ← e.2.1]; exact ⟨z1.1, z0⟩
  · simp only [Prod.mk.injEq] at e
    rw [← e.1, ← e.2.1]
    refine ⟨⟨?_, ?_⟩, z0⟩
    · unfold rl29Told; dsimp only; split
      · exact z1.1.1
      · exact Nat.zero_le _
    · unfold rl29Told; dsimp only; split
      · exact z1.1.2
      · exact Nat.zero_le _
theorem rl23Setting_b {b : List UInt8} {i h oi oh : Int} {o : TSetting} (e : rl23Setting b i h = (o, oi, oh)) (hc : 0 ≤ i ∧ i ≤ b.length ∧ b.length ≤ 1000000000000) : 0 ≤ oi ∧ oi ≤ b.length := by
  unfold rl23Setting at e
  rcases h1 : rl01PickInt b i h [8000, 8000, 8000, 400, 150] with ⟨r, i1, h1'⟩
  have z1 := rl01PickInt_b h1 hc
  rcases h2 : rl01Below b i1 h1' 2 with ⟨x, i2, h2'⟩
  have z2 := rl01Below_b h2 (by omega)
  rcases h3 : rl01Below b i2 h2' 3 with ⟨y, i3, h3'⟩
  have z3 := rl01Below_b h3 (by omega)
  rcases h4 : rl01Below b i3 h3' 4 with ⟨z, i4, h4'⟩
  have z4 := rl01Below_b h4 (by omega)
  simp only [h1, h2, h3, h4, Prod.mk.injEq] at e
  omega
theorem rl23AnySetting_b {b : List UInt8} {i h oi oh : Int} {o : TSetting} (e : rl23AnySetting b i h = (o, oi, oh)) (hc : 0 ≤ i ∧ i ≤ b.length ∧ b.length ≤ 1000000000000) : 0 ≤ oi ∧ oi ≤ b.length := by
  unfold rl23AnySetting at e
  rcases h1 : rl23Setting b i h with ⟨s, i1, h1'⟩
  have z1 := rl23Setting_b h1 hc
  rcases h0 : rl01Below b i1 h1' 12 with ⟨x, i2, h2'⟩
  have z0 := rl01Below_b h0 (by omega)
  simp only [h1, h0] at e
  split at e
  · rcases h2 : rl01PickInt b i2 h2' [-1, 0, 20000, 20001] with ⟨y, i3, h3'⟩
    have z2 := rl01PickInt_b h2 (by omega)
    simp only [h2, Prod.mk.injEq] at e
    omega
  split at e
  · rcases h2 : rl01PickInt b i2 h2' [0, 51, -1] with ⟨y, i3, h3'⟩
    have z2 := rl01PickInt_b h2 (by omega)
    simp only [h2, Prod.mk.injEq] at e
    omega
  split at e
  · rcases h2 : rl01Below b i2 h2' 4 with ⟨y, i3, h3'⟩
    have z2 := rl01Below_b h2 (by omega)
    simp only [h2, Prod.mk.injEq] at e
    omega
  simp only [Prod.mk.injEq] at e
  omega
theorem Fsl01New {code : List UInt8} {xcode : List (List D)} {oh : Int} (hcode : code.map cB = xcode) (hb : code.length ≤ 1000000000000)   (hr : rl01New code = oh) : Fn Tryz.prog 15 [.d (.row 1 xcode)] [] ⟨.ptr 0 0 0, [.box 68 [.d (.row 1 xcode), I 0, I oh]], []⟩ := by
 refine Fn.goR su_chD2 Tryz.func15 fun P hP Q hQ => ?_
 conv => cbv
 refine .go hcode fun v1 hv1 => ?_
 conv => cbv
 refine .add fun v2 hv2 => ?_
 conv => cbv
 refine LoopW.lp (κ := Int × Int) su_chD2 hP [] [0] (fun (i3, i4) => [(3, I i3), (4, I i4)]) (fun (i3, i4) => [])
   (fun (i3, i4) => 0 ≤ i4 ∧ i4 ≤ code.length ∧ i4 ≤ 4000 ∧ (0 ≤ i3 ∧ i3 ≤ 2000000000000) ∧ (code.take 4000).foldl nwF (94701 + code.length) = ((code.take 4000).drop i4.toNat).foldl nwF i3)
   (fun (i3, i4) => (code.length - i4).toNat) (v2, 0) ⟨by omega, by omega, by omega, by omega, by rw [hv2, hv1]; rfl⟩ ⟨rfl, rfl, trivial⟩ rfl ?_
 rintro ⟨i3, i4⟩ J ⟨h0, h1, h2_, h3_, hx⟩ hJ
 conv => cbv
 refine .go hcode fun v3 hv3 => ?_
 conv => cbv
 refine .lss (fun h4 => ?_) fun h4 => ?_
 conv => cbv
 refine .lss (fun h5 => ?_) fun h5 => ?_
 conv => cbv
 refine .mul fun v6 hv6 => ?_
 conv => cbv
 refine .go i4.toNat hcode fun hje7 e7 qe7 => ?_
 conv => cbv
 have hb7_ := e7.toNat_lt
 refine .id (a := (e7.toNat : Int)) fun v8 hv8 => ?_
 conv => cbv
 refine .add fun v9 hv9 => ?_
 conv => cbv
 refine .add fun v10 hv10 => ?_
 conv => cbv
 refine .and fun v11 hv11 => ?_
 conv => cbv
 refine .add fun v12 hv12 => ?_
 conv => cbv
 have hb7 := e7.toNat_lt
 have ha30 := and30 v10
 rw [← hv11] at ha30
 exact .go [] (v11, v12) (hJ _ ⟨by omega, by omega, by omega, by omega, by rw [hx, List.drop_eq_getElem_cons (by rw [List.length_take]; omega), List.foldl_cons, List.getElem_take, ← qe7, show v12.toNat = i4.toNat + 1 by omega]; congr 1; unfold nwF; rw [hv11, hv10, hv9, hv8, hv6]⟩ (by first | (dsimp only; omega) | omega))
 conv => cbv
 have e : rl01New code = i3 := by unfold rl01New; rw [hx, List.drop_of_length_le (by rw [List.length_take]; omega)]; rfl
 rw [hr] at e
 subst e
 exact hQ _ _ (.of [1] (.inl rfl) rfl rfl rfl rfl)
 conv => cbv
 have e : rl01New code = i3 := by unfold rl01New; rw [hx, List.drop_of_length_le (by rw [List.length_take]; omega)]; rfl
 rw [hr] at e
 subst e
 exact hQ _ _ (.of [1] (.inl rfl) rfl rfl rfl rfl)
theorem Fsl01Long {n : Int} {x : Int} {o : ByteArray}  (hn : 0 ≤ n ∧ n ≤ 1000) (hx : 0 ≤ x ∧ x < 256) (hr : rl01Long n x = o)  : Fn Tryz.prog 59 [I n, .d (.sc (.int .u8 x))] [] ⟨S o, [], []⟩ := by
 refine Fn.go su_chD2 Tryz.func59 fun P hP Q hQ => ?_
 conv => cbv
 refine .go (c := cB) (0 : UInt8) fun z1 nz1 hnz1 hz1 => ?_
 conv => cbv
 refine LoopW.lp (κ := Int × (List (List D))) su_chD2 hP [] [0, 1, 5] (fun (i6, zw0) => [(6, I i6)]) (fun (i6, zw0) => [(0, .row 1 false zw0)])
   (fun (i6, zw0) => ∃ (w0 : List UInt8), w0.map cB = zw0 ∧ 0 ≤ i6 ∧ i6 ≤ n ∧ w0 = List.replicate i6.toNat (UInt8.ofNat x.toNat) ++ List.replicate (n.toNat - i6.toNat) 0)
   (fun (i6, zw0) => (n - i6).toNat) (0, z1) ⟨(List.replicate n.toNat 0), hz1, by omega, by omega, by simp⟩ ⟨rfl, trivial⟩ rfl ?_
 rintro ⟨i6, zw0⟩ J ⟨w0, hw0, h0, h1, hw⟩ hJ
 have hwl : w0.length = n.toNat := by rw [hw, List.length_append, List.length_replicate, List.length_replicate]; omega
 conv => cbv
 refine .lss (fun h2 => ?_) fun h2 => ?_
 conv => cbv
 refine .go i6.toNat fun p3 hp3 hjp3 => ?_
 conv => cbv
 refine .all (UInt8.ofNat x.toNat) hw0 (byte_cell hx) fun z4 hz4 => ?_
 conv => cbv
 refine .add fun v5 hv5 => ?_
 conv => cbv
 exact .go [] (v5, z4) (hJ _ ⟨_, hz4, by omega, by omega, by rw [hw, show p3 = i6.toNat by omega, show v5.toNat = i6.toNat + 1 by omega, show n.toNat - i6.toNat = (n.toNat - (i6.toNat + 1)) + 1 by omega, List.replicate_succ, List.set_append_right _ _ (by rw [List.length_replicate]; exact Nat.le_refl _), List.length_replicate, Nat.sub_self, List.set_cons_zero, List.replicate_succ', List.append_assoc]; rfl⟩ (by first | (dsimp only; omega) | omega))
 conv => cbv
 refine .go hw0 fun s3 hs3 => ?_
 conv => cbv
 have e : s3 = rl01Long n x := (by unfold rl01Long; rw [hs3, hw, show n.toNat - i6.toNat = 0 by omega, show i6.toNat = n.toNat by omega]; simp)
 rw [hr] at e
 subst e
 exact hQ _ _ (.s rfl rfl)
theorem Fsl23Act {cb : List UInt8} {xcb : List (List D)} {ci : Int} {ch : Int} {okin : Int} {otex : ByteArray} {on : Int} {okee : List Int} {xokee : List (List D)} {oi oh : Int} {nokee : Nat}  (hcb : cb.map cB = xcb) (hc : 0 ≤ ci ∧ ci ≤ cb.length ∧ cb.length ≤ 1000000000000)  (hokee : okee.map cI = xokee) (hr : rl23Act cb ci ch = (⟨okin, otex, on, okee⟩, oi, oh)) (hnokee : nokee = okee.length)  : Fn Tryz.prog 58 [.ptr 0 0 0] [.box 68 [.d (.row 1 xcb), I ci, I ch]] ⟨.agg [I okin, S otex, I on, .ref 1 0 nokee], [.row 1 false xokee], [(0, .box 68 [.d (.row 1 xcb), I oi, I oh])]⟩ := by
 refine Fn.goR su_chD2 Tryz.func58 fun P hP Q hQ => ?_
 conv => cbv
 rcases hr2 : rl01Below cb ci ch 14 with ⟨d2, ri2, rh2⟩
 have zr2 := rl01Below_b hr2 (by omega)
 refine .bx [0] [] hP (Fsl01Below hcb (by omega) hr2) rfl rfl rfl rfl ?_
 conv => cbv
 refine .eql (fun h3 => ?_) fun h3 => ?_
 conv => cbv
 have e : ((⟨2, tx [], 0, []⟩ : TAct), ri2, rh2) = rl23Act cb ci ch := (by unfold rl23Act; simp only [hr2]; repeat (first | rw [if_pos (by omega)] | rw [if_neg (by omega)]))
 rw [hr] at e
 simp only [Prod.mk.injEq, TAct.mk.injEq] at e
 obtain ⟨⟨rfl, rfl, rfl, rfl⟩, rfl, rfl⟩ := e
 obtain rfl : [] = xokee := by first | (rw [← hokee]; done) | (rw [← hokee]; rfl)
 obtain rfl : 0 = nokee := by first | omega | (rw [hnokee]; simp; done) | (rw [hnokee]; simp; omega)
 exact hQ _ _ (.of [3] (.inl rfl) rfl rfl rfl rfl)
 conv => cbv
 refine .eql (fun h4 => ?_) fun h4 => ?_
 conv => cbv
 have e : ((⟨3, tx [], 0, []⟩ : TAct), ri2, rh2) = rl23Act cb ci ch := (by unfold rl23Act; simp only [hr2]; repeat (first | rw [if_pos (by omega)] | rw [if_neg (by omega)]))
 rw [hr] at e
 simp only [Prod.mk.injEq, TAct.mk.injEq] at e
 obtain ⟨⟨rfl, rfl, rfl, rfl⟩, rfl, rfl⟩ := e
 obtain rfl : [] = xokee := by first | (rw [← hokee]; done) | (rw [← hokee]; rfl)
 obtain rfl : 0 = nokee := by first | omega | (rw [hnokee]; simp; done) | (rw [hnokee]; simp; omega)
 exact hQ _ _ (.of [3] (.inl rfl) rfl rfl rfl rfl)
 conv => cbv
 refine .eql (fun h5 => ?_) fun h5 => ?_
 conv => cbv
 rcases hr7 : rl01PickInt cb ri2 rh2 [0, 1, 2, 3, 4, 5, 9, 100] with ⟨d7, ri7, rh7⟩
 have zr7 := rl01PickInt_b hr7 (by omega)
 refine .bxL [0] [3] (.same (.ref rfl rfl .nil)) hP (Fsl01PickInt hcb rfl (by omega) (by decide) hr7) rfl rfl rfl rfl ?_
 conv => cbv
 have e : ((⟨5, tx [], d7, []⟩ : TAct), ri7, rh7) = rl23Act cb ci ch := (by unfold rl23Act; simp only [hr2, hr7]; repeat (first | rw [if_pos (by omega)] | rw [if_neg (by omega)]))
 rw [hr] at e
 simp only [Prod.mk.injEq, TAct.mk.injEq] at e
 obtain ⟨⟨rfl, rfl, rfl, rfl⟩, rfl, rfl⟩ := e
 obtain rfl : [] = xokee := by first | (rw [← hokee]; done) | (rw [← hokee]; rfl)
 obtain rfl : 0 = nokee := by first | omega | (rw [hnokee]; simp; done) | (rw [hnokee]; simp; omega)
 exact hQ _ _ (.of [4] (.inl rfl) rfl rfl rfl rfl)
 conv => cbv
 refine .eql (fun h6 => ?_) fun h6 => ?_
 conv => cbv
 rcases hr8 : rl01PickInt cb ri2 rh2 [0, 1, 2, 3, 4, 5, 9, 100] with ⟨d8, ri8, rh8⟩
 have zr8 := rl01PickInt_b hr8 (by omega)
 refine .bxL [0] [3] (.same (.ref rfl rfl .nil)) hP (Fsl01PickInt hcb rfl (by omega) (by decide) hr8) rfl rfl rfl rfl ?_
 conv => cbv
 have e : ((⟨6, tx [], d8, []⟩ : TAct), ri8, rh8) = rl23Act cb ci ch := (by unfold rl23Act; simp only [hr2, hr8]; repeat (first | rw [if_pos (by omega)] | rw [if_neg (by omega)]))
 rw [hr] at e
 simp only [Prod.mk.injEq, TAct.mk.injEq] at e
 obtain ⟨⟨rfl, rfl, rfl, rfl⟩, rfl, rfl⟩ := e
 obtain rfl : [] = xokee := by first | (rw [← hokee]; done) | (rw [← hokee]; rfl)
 obtain rfl : 0 = nokee := by first | omega | (rw [hnokee]; simp; done) | (rw [hnokee]; simp; omega)
 exact hQ _ _ (.of [4] (.inl rfl) rfl rfl rfl rfl)
 conv => cbv
 refine .eql (fun h7 => ?_) fun h7 => ?_
 conv => cbv
 rcases hr9 : rl01Below cb ri2 rh2 4 with ⟨d9, ri9, rh9⟩
 have zr9 := rl01Below_b hr9 (by omega)
 refine .bx [0] [] hP (Fsl01Below hcb (by omega) hr9) rfl rfl rfl rfl ?_
 conv => cbv
 rcases hr11 : rl07Keeps cb ri9 rh9 with ⟨d11, ri11, rh11⟩
 generalize hd11 : d11.map cI = xd11
 obtain ⟨nd11, hnd11⟩ : ∃ m, m = d11.length := ⟨_, rfl⟩
 have zr11 := rl07Keeps_b hr11 (by omega)
 refine .bx [0] [] hP (Fsl07Keeps hcb (by omega) hd11 hr11 hnd11) rfl rfl rfl rfl ?_
 conv => cbv
 have e : ((⟨8, tx [], d9, d11⟩ : TAct), ri11, rh11) = rl23Act cb ci ch := (by unfold rl23Act; simp only [hr2, hr9, hr11]; repeat (first | rw [if_pos (by omega)] | rw [if_neg (by omega)]))
 rw [hr] at e
 simp only [Prod.mk.injEq, TAct.mk.injEq] at e
 obtain ⟨⟨rfl, rfl, rfl, rfl⟩, rfl, rfl⟩ := e
 obtain rfl : xd11 = xokee := by rw [← hd11, ← hokee]
 obtain rfl : nd11 = nokee := by first | omega | (rw [hnokee]; simp; done) | (rw [hnokee]; simp; omega)
 exact hQ _ _ (.of [3] (.inl rfl) rfl rfl rfl rfl)
 conv => cbv
 refine .eql (fun h8 => ?_) fun h8 => ?_
 conv => cbv
 rcases hr10 : rl01Below cb ri2 rh2 4 with ⟨d10, ri10, rh10⟩
 have zr10 := rl01Below_b hr10 (by omega)
 refine .bx [0] [] hP (Fsl01Below hcb (by omega) hr10) rfl rfl rfl rfl ?_
 conv => cbv
 rcases hr12 : rl07Keeps cb ri10 rh10 with ⟨d12, ri12, rh12⟩
 generalize hd12 : d12.map cI = xd12
 obtain ⟨nd12, hnd12⟩ : ∃ m, m = d12.length := ⟨_, rfl⟩
 have zr12 := rl07Keeps_b hr12 (by omega)
 refine .bx [0] [] hP (Fsl07Keeps hcb (by omega) hd12 hr12 hnd12) rfl rfl rfl rfl ?_
 conv => cbv
 have e : ((⟨8, tx [], d10, d12⟩ : TAct), ri12, rh12) = rl23Act cb ci ch := (by unfold rl23Act; simp only [hr2, hr10, hr12]; repeat (first | rw [if_pos (by omega)] | rw [if_neg (by omega)]))
 rw [hr] at e
 simp only [Prod.mk.injEq, TAct.mk.injEq] at e
 obtain ⟨⟨rfl, rfl, rfl, rfl⟩, rfl, rfl⟩ := e
 obtain rfl : xd12 = xokee := by rw [← hd12, ← hokee]
 obtain rfl : nd12 = nokee := by first | omega | (rw [hnokee]; simp; done) | (rw [hnokee]; simp; omega)
 exact hQ _ _ (.of [3] (.inl rfl) rfl rfl rfl rfl)
 conv => cbv
 refine .eql (fun h9 => ?_) fun h9 => ?_
 conv => cbv
 have e : ((⟨4, tx [], 0, []⟩ : TAct), ri2, rh2) = rl23Act cb ci ch := (by unfold rl23Act; simp only [hr2]; repeat (first | rw [if_pos (by omega)] | rw [if_neg (by omega)]))
 rw [hr] at e
 simp only [Prod.mk.injEq, TAct.mk.injEq] at e
 obtain ⟨⟨rfl, rfl, rfl, rfl⟩, rfl, rfl⟩ := e
 obtain rfl : [] = xokee := by first | (rw [← hokee]; done) | (rw [← hokee]; rfl)
 obtain rfl : 0 = nokee := by first | omega | (rw [hnokee]; simp; done) | (rw [hnokee]; simp; omega)
 exact hQ _ _ (.of [3] (.inl rfl) rfl rfl rfl rfl)
 conv => cbv
 refine .eql (fun h10 => ?_) fun h10 => ?_
 conv => cbv
 have e : ((⟨7, tx [], 0, []⟩ : TAct), ri2, rh2) = rl23Act cb ci ch := (by unfold rl23Act; simp only [hr2]; repeat (first | rw [if_pos (by omega)] | rw [if_neg (by omega)]))
 rw [hr] at e
 simp only [Prod.mk.injEq, TAct.mk.injEq] at e
 obtain ⟨⟨rfl, rfl, rfl, rfl⟩, rfl, rfl⟩ := e
 obtain rfl : [] = xokee := by first | (rw [← hokee]; done) | (rw [← hokee]; rfl)
 obtain rfl : 0 = nokee := by first | omega | (rw [hnokee]; simp; done) | (rw [hnokee]; simp; omega)
 exact hQ _ _ (.of [3] (.inl rfl) rfl rfl rfl rfl)
 conv => cbv
 refine .eql (fun h11 => ?_) fun h11 => ?_
 conv => cbv
 have e : ((⟨7, tx [], 0, []⟩ : TAct), ri2, rh2) = rl23Act cb ci ch := (by unfold rl23Act; simp only [hr2]; repeat (first | rw [if_pos (by omega)] | rw [if_neg (by omega)]))
 rw [hr] at e
 simp only [Prod.mk.injEq, TAct.mk.injEq] at e
 obtain ⟨⟨rfl, rfl, rfl, rfl⟩, rfl, rfl⟩ := e
 obtain rfl : [] = xokee := by first | (rw [← hokee]; done) | (rw [← hokee]; rfl)
 obtain rfl : 0 = nokee := by first | omega | (rw [hnokee]; simp; done) | (rw [hnokee]; simp; omega)
 exact hQ _ _ (.of [3] (.inl rfl) rfl rfl rfl rfl)
 conv => cbv
 rcases hr13 : rl08Record cb ri2 rh2 with ⟨d13, ri13, rh13⟩
 have zr13 := rl08Record_b hr13 (by omega)
 refine .bx [0] [] hP (Fsl08Record hcb (by omega) hr13) rfl rfl rfl rfl ?_
 conv => cbv
 have e : ((⟨1, d13, 0, []⟩ : TAct), ri13, rh13) = rl23Act cb ci ch := (by unfold rl23Act; simp only [hr2, hr13]; repeat (first | rw [if_pos (by omega)] | rw [if_neg (by omega)]))
 rw [hr] at e
 simp only [Prod.mk.injEq, TAct.mk.injEq] at e
 obtain ⟨⟨rfl, rfl, rfl, rfl⟩, rfl, rfl⟩ := e
 obtain rfl : [] = xokee := by first | (rw [← hokee]; done) | (rw [← hokee]; rfl)
 obtain rfl : 0 = nokee := by first | omega | (rw [hnokee]; simp; done) | (rw [hnokee]; simp; omega)
 exact hQ _ _ (.of [3] (.inl rfl) rfl rfl rfl rfl)
theorem Fsl29ToldR {akin : Int} {atex : ByteArray} {an : Int} {akee : List Int} {xakee : List (List D)} {okin : Int} {otex : ByteArray} {on : Int} {okee : List Int} {xokee : List (List D)} {nokee : Nat}  (hakee : akee.map cI = xakee) (hn : akee.length ≤ 1000000000) (hr : rl29Told (⟨akin, atex, an, akee⟩ : TAct) = ⟨okin, otex, on, okee⟩) (hokee : okee.map cI = xokee) (hnokee : nokee = okee.length)  : Fn Tryz.prog 32 [.agg [I akin, S atex, I an, .d (.row 1 xakee)]] [] ⟨.agg [I okin, S otex, I on, .ref 0 0 nokee], [.row 1 false xokee], []⟩ := by
 refine Fn.goR su_chD2 Tryz.func32 fun P hP Q hQ => ?_
 conv => cbv
 refine .eql (fun h1 => ?_) fun h1 => ?_
 conv => cbv
 have e : (⟨akin, atex, 0, []⟩ : TAct) = rl29Told (⟨akin, atex, an, akee⟩ : TAct) := (by unfold rl29Told; dsimp only; first | (rw [if_pos h1, if_neg (by omega), if_neg (by omega)]; done) | (rw [if_neg h1, if_pos (by omega), if_neg (by omega)]; done) | (rw [if_neg h1, if_pos (by omega), if_pos (by omega)]; done) | (rw [if_neg h1, if_neg (by omega), if_neg (by omega)]; done))
 rw [hr] at e
 simp only [TAct.mk.injEq] at e
 obtain ⟨rfl, rfl, rfl, rfl⟩ := e
 obtain rfl : [] = xokee := by first | (rw [← hokee]; done) | (rw [← hokee]; rfl)
 obtain rfl : 0 = nokee := by first | omega | (rw [hnokee]; simp; done) | (rw [hnokee]; simp; omega)
 exact hQ _ _ (.of [3] (.inl rfl) rfl rfl rfl rfl)
 conv => cbv
 refine .eql (fun h2 => ?_) fun h2 => ?_
 conv => cbv
 have e : (⟨akin, tx [], an, []⟩ : TAct) = rl29Told (⟨akin, atex, an, akee⟩ : TAct) := (by unfold rl29Told; dsimp only; first | (rw [if_pos h1, if_neg (by omega), if_neg (by omega)]; done) | (rw [if_neg h1, if_pos (by omega), if_neg (by omega)]; done) | (rw [if_neg h1, if_pos (by omega), if_pos (by omega)]; done) | (rw [if_neg h1, if_neg (by omega), if_neg (by omega)]; done))
 rw [hr] at e
 simp only [TAct.mk.injEq] at e
 obtain ⟨rfl, rfl, rfl, rfl⟩ := e
 obtain rfl : [] = xokee := by first | (rw [← hokee]; done) | (rw [← hokee]; rfl)
 obtain rfl : 0 = nokee := by first | omega | (rw [hnokee]; simp; done) | (rw [hnokee]; simp; omega)
 exact hQ _ _ (.of [3] (.inl rfl) rfl rfl rfl rfl)
 conv => cbv
 refine .eql (fun h3 => ?_) fun h3 => ?_
 conv => cbv
 have e : (⟨akin, tx [], an, []⟩ : TAct) = rl29Told (⟨akin, atex, an, akee⟩ : TAct) := (by unfold rl29Told; dsimp only; first | (rw [if_pos h1, if_neg (by omega), if_neg (by omega)]; done) | (rw [if_neg h1, if_pos (by omega), if_neg (by omega)]; done) | (rw [if_neg h1, if_pos (by omega), if_pos (by omega)]; done) | (rw [if_neg h1, if_neg (by omega), if_neg (by omega)]; done))
 rw [hr] at e
 simp only [TAct.mk.injEq] at e
 obtain ⟨rfl, rfl, rfl, rfl⟩ := e
 obtain rfl : [] = xokee := by first | (rw [← hokee]; done) | (rw [← hokee]; rfl)
 obtain rfl : 0 = nokee := by first | omega | (rw [hnokee]; simp; done) | (rw [hnokee]; simp; omega)
 exact hQ _ _ (.of [3] (.inl rfl) rfl rfl rfl rfl)
 conv => cbv
 refine .eql (fun h4 => ?_) fun h4 => ?_
 conv => cbv
 refine .row0 hakee fun nz5 z5 hnz5 hz5 => ?_
 conv => cbv
 have e : (⟨akin, tx [], an, akee⟩ : TAct) = rl29Told (⟨akin, atex, an, akee⟩ : TAct) := (by unfold rl29Told; dsimp only; first | (rw [if_pos h1, if_neg (by omega), if_neg (by omega)]; done) | (rw [if_neg h1, if_pos (by omega), if_neg (by omega)]; done) | (rw [if_neg h1, if_pos (by omega), if_pos (by omega)]; done) | (rw [if_neg h1, if_neg (by omega), if_neg (by omega)]; done))
 rw [hr] at e
 simp only [TAct.mk.injEq] at e
 obtain ⟨rfl, rfl, rfl, rfl⟩ := e
 obtain rfl : z5 = xokee := by rw [← hz5, ← hokee]
 obtain rfl : nz5 = nokee := by first | omega | (rw [hnokee]; simp; done) | (rw [hnokee]; simp; omega)
 exact hQ _ _ (.of [7] (.inl rfl) rfl rfl rfl rfl)
 conv => cbv
 have e : (⟨akin, tx [], 0, []⟩ : TAct) = rl29Told (⟨akin, atex, an, akee⟩ : TAct) := (by unfold rl29Told; dsimp only; first | (rw [if_pos h1, if_neg (by omega), if_neg (by omega)]; done) | (rw [if_neg h1, if_pos (by omega), if_neg (by omega)]; done) | (rw [if_neg h1, if_pos (by omega), if_pos (by omega)]; done) | (rw [if_neg h1, if_neg (by omega), if_neg (by omega)]; done))
 rw [hr] at e
 simp only [TAct.mk.injEq] at e
 obtain ⟨rfl, rfl, rfl, rfl⟩ := e
 obtain rfl : [] = xokee := by first | (rw [← hokee]; done) | (rw [← hokee]; rfl)
 obtain rfl : 0 = nokee := by first | omega | (rw [hnokee]; simp; done) | (rw [hnokee]; simp; omega)
 exact hQ _ _ (.of [3] (.inl rfl) rfl rfl rfl rfl)
theorem Fsl23Setting {cb : List UInt8} {xcb : List (List D)} {ci : Int} {ch : Int} {oroo : Int} {over : Int} {ostr : Int} {orol : Int} {oi oh : Int}   (hcb : cb.map cB = xcb) (hc : 0 ≤ ci ∧ ci ≤ cb.length ∧ cb.length ≤ 1000000000000)   (hr : rl23Setting cb ci ch = (⟨oroo, over, ostr, orol⟩, oi, oh))   : Fn Tryz.prog 53 [.ptr 0 0 0] [.box 68 [.d (.row 1 xcb), I ci, I ch]] ⟨.agg [I oroo, I over, I ostr, I orol], [], [(0, .box 68 [.d (.row 1 xcb), I oi, I oh])]⟩ := by
 refine Fn.goR su_chD2 Tryz.func53 fun P hP Q hQ => ?_
 conv => cbv
 rcases hr2 : rl01PickInt cb ci ch [8000, 8000, 8000, 400, 150] with ⟨d2, ri2, rh2⟩
 have zr2 := rl01PickInt_b hr2 (by omega)
 refine .bxL [0] [2] (.same (.ref rfl rfl .nil)) hP (Fsl01PickInt hcb rfl (by omega) (by decide) hr2) rfl rfl rfl rfl ?_
 conv => cbv
 rcases hr4 : rl01Below cb ri2 rh2 2 with ⟨d4, ri4, rh4⟩
 have zr4 := rl01Below_b hr4 (by omega)
 refine .bx [0] [] hP (Fsl01Below hcb (by omega) hr4) rfl rfl rfl rfl ?_
 conv => cbv
 refine .add fun v5 hv5 => ?_
 conv => cbv
 rcases hr7 : rl01Below cb ri4 rh4 3 with ⟨d7, ri7, rh7⟩
 have zr7 := rl01Below_b hr7 (by omega)
 refine .bx [0] [] hP (Fsl01Below hcb (by omega) hr7) rfl rfl rfl rfl ?_
 conv => cbv
 refine .add fun v8 hv8 => ?_
 conv => cbv
 rcases hr10 : rl01Below cb ri7 rh7 4 with ⟨d10, ri10, rh10⟩
 have zr10 := rl01Below_b hr10 (by omega)
 refine .bx [0] [] hP (Fsl01Below hcb (by omega) hr10) rfl rfl rfl rfl ?_
 conv => cbv
 refine .add fun v11 hv11 => ?_
 conv => cbv
 have e : ((⟨d2, v5, v8, v11⟩ : TSetting), ri10, rh10) = rl23Setting cb ci ch := (by unfold rl23Setting; simp only [hr2, hr4, hr7, hr10]; simp only [*])
 rw [hr] at e
 simp only [Prod.mk.injEq, TSetting.mk.injEq] at e
 obtain ⟨⟨rfl, rfl, rfl, rfl⟩, rfl, rfl⟩ := e
 exact hQ _ _ (.of [] (.inl rfl) rfl rfl rfl rfl)
theorem Fsl23AnySetting {cb : List UInt8} {xcb : List (List D)} {ci : Int} {ch : Int} {oroo : Int} {over : Int} {ostr : Int} {orol : Int} {oi oh : Int}   (hcb : cb.map cB = xcb) (hc : 0 ≤ ci ∧ ci ≤ cb.length ∧ cb.length ≤ 1000000000000)   (hr : rl23AnySetting cb ci ch = (⟨oroo, over, ostr, orol⟩, oi, oh))   : Fn Tryz.prog 28 [.ptr 0 0 0] [.box 68 [.d (.row 1 xcb), I ci, I ch]] ⟨.agg [I oroo, I over, I ostr, I orol], [], [(0, .box 68 [.d (.row 1 xcb), I oi, I oh])]⟩ := by
 refine Fn.goR su_chD2 Tryz.func28 fun P hP Q hQ => ?_
 conv => cbv
 rcases hr2 : rl23Setting cb ci ch with ⟨⟨d2roo, d2ver, d2str, d2rol⟩, ri2, rh2⟩
 have zr2 := rl23Setting_b hr2 (by omega)
 refine .bx [0] [] hP (Fsl23Setting hcb (by omega) hr2) rfl rfl rfl rfl ?_
 conv => cbv
 rcases hr4 : rl01Below cb ri2 rh2 12 with ⟨d4, ri4, rh4⟩
 have zr4 := rl01Below_b hr4 (by omega)
 refine .bx [0] [] hP (Fsl01Below hcb (by omega) hr4) rfl rfl rfl rfl ?_
 conv => cbv
 refine .eql (fun h5 => ?_) fun h5 => ?_
 conv => cbv
 rcases hr7 : rl01PickInt cb ri4 rh4 [(-1), 0, 20000, 20001] with ⟨d7, ri7, rh7⟩
 have zr7 := rl01PickInt_b hr7 (by omega)
 refine .bxL [0] [3] (.same (.ref rfl rfl .nil)) hP (Fsl01PickInt hcb rfl (by omega) (by decide) hr7) rfl rfl rfl rfl ?_
 conv => cbv
 have e : ((⟨d7, d2ver, d2str, d2rol⟩ : TSetting), ri7, rh7) = rl23AnySetting cb ci ch := (by unfold rl23AnySetting; simp only [hr2, hr4, hr7]; repeat (first | rw [if_pos (by omega)] | rw [if_neg (by omega)]))
 rw [hr] at e
 simp only [Prod.mk.injEq, TSetting.mk.injEq] at e
 obtain ⟨⟨rfl, rfl, rfl, rfl⟩, rfl, rfl⟩ := e
 exact hQ _ _ (.of [] (.inl rfl) rfl rfl rfl rfl)
 conv => cbv
 refine .eql (fun h6 => ?_) fun h6 => ?_
 conv => cbv
 rcases hr8 : rl01PickInt cb ri4 rh4 [0, 51, (-1)] with ⟨d8, ri8, rh8⟩
 have zr8 := rl01PickInt_b hr8 (by omega)
 refine .bxL [0] [3] (.same (.ref rfl rfl .nil)) hP (Fsl01PickInt hcb rfl (by omega) (by decide) hr8) rfl rfl rfl rfl ?_
 conv => cbv
 have e : ((⟨d2roo, d2ver, d2str, d8⟩ : TSetting), ri8, rh8) = rl23AnySetting cb ci ch := (by unfold rl23AnySetting; simp only [hr2, hr4, hr8]; repeat (first | rw [if_pos (by omega)] | rw [if_neg (by omega)]))
 rw [hr] at e
 simp only [Prod.mk.injEq, TSetting.mk.injEq] at e
 obtain ⟨⟨rfl, rfl, rfl, rfl⟩, rfl, rfl⟩ := e
 exact hQ _ _ (.of [] (.inl rfl) rfl rfl rfl rfl)
 conv => cbv
 refine .eql (fun h7 => ?_) fun h7 => ?_
 conv => cbv
 rcases hr9 : rl01Below cb ri4 rh4 4 with ⟨d9, ri9, rh9⟩
 have zr9 := rl01Below_b hr9 (by omega)
 refine .bx [0] [] hP (Fsl01Below hcb (by omega) hr9) rfl rfl rfl rfl ?_
 conv => cbv
 have e : ((⟨d2roo, d9, d2str, d2rol⟩ : TSetting), ri9, rh9) = rl23AnySetting cb ci ch := (by unfold rl23AnySetting; simp only [hr2, hr4, hr9]; repeat (first | rw [if_pos (by omega)] | rw [if_neg (by omega)]))
 rw [hr] at e
 simp only [Prod.mk.injEq, TSetting.mk.injEq] at e
 obtain ⟨⟨rfl, rfl, rfl, rfl⟩, rfl, rfl⟩ := e
 exact hQ _ _ (.of [] (.inl rfl) rfl rfl rfl rfl)
 conv => cbv
 have e : ((⟨d2roo, d2ver, d2str, d2rol⟩ : TSetting), ri4, rh4) = rl23AnySetting cb ci ch := (by unfold rl23AnySetting; simp only [hr2, hr4]; repeat (first | rw [if_pos (by omega)] | rw [if_neg (by omega)]))
 rw [hr] at e
 simp only [Prod.mk.injEq, TSetting.mk.injEq] at e
 obtain ⟨⟨rfl, rfl, rfl, rfl⟩, rfl, rfl⟩ := e
 exact hQ _ _ (.of [] (.inl rfl) rfl rfl rfl rfl)
theorem Flbig {code : List UInt8} {xcode : List (List D)} {o : Bool} (hcode : code.map cB = xcode) (hr : rbig code = o)  : Fn Tryz.prog 4 [.d (.row 1 xcode)] [] ⟨B o, [], []⟩ := by
 refine Fn.go su_chD2 Tryz.func4 fun P hP Q hQ => ?_
 conv => cbv
 refine .go hcode fun v1 hv1 => ?_
 conv => cbv
 refine .gtr (fun h2 => ?_) fun h2 => ?_
 conv => cbv
 have e : true = rbig code := (by unfold rbig; symm; rw [decide_eq_true_eq]; omega)
 rw [hr] at e
 subst e
 exact hQ _ _ (.b rfl rfl)
 conv => cbv
 have e : false = rbig code := (by unfold rbig; symm; rw [decide_eq_false_iff_not]; omega)
 rw [hr] at e
 subst e
 exact hQ _ _ (.b rfl rfl)
theorem Fsl23AnyAct {cb : List UInt8} {xcb : List (List D)} {ci : Int} {ch : Int} {okin : Int} {otex : ByteArray} {on : Int} {okee : List Int} {xokee : List (List D)} {oi oh : Int} {nokee : Nat}  (hcb : cb.map cB = xcb) (hc : 0 ≤ ci ∧ ci ≤ cb.length ∧ cb.length ≤ 1000000000000)  (hokee : (okee ++ tailA cb ci ch).map cI = xokee) (hr : rl23AnyAct cb ci ch = (⟨okin, otex, on, okee⟩, oi, oh)) (hnokee : nokee = okee.length)  : Fn Tryz.prog 39 [.ptr 0 0 0] [.box 68 [.d (.row 1 xcb), I ci, I ch]] ⟨.agg [I okin, S otex, I on, .ref 1 0 nokee], [.row 1 false xokee], [(0, .box 68 [.d (.row 1 xcb), I oi, I oh])]⟩ := by
 refine Fn.goR su_chD2 Tryz.func39 fun P hP Q hQ => ?_
 conv => cbv
 rcases hr2 : rl23Act cb ci ch with ⟨⟨d2kin, d2tex, d2n, d2kee⟩, ri2, rh2⟩
 generalize hd2kee : d2kee.map cI = xd2kee
 obtain ⟨nd2kee, hnd2kee⟩ : ∃ m, m = d2kee.length := ⟨_, rfl⟩
 have zr2 := rl23Act_b hr2 (by omega)
 refine .bx [0] [] hP (Fsl23Act hcb (by omega) hd2kee hr2 hnd2kee) rfl rfl rfl rfl ?_
 conv => cbv
 rcases hr4 : rl01Below cb ri2 rh2 12 with ⟨d4, ri4, rh4⟩
 have zr4 := rl01Below_b hr4 (by omega)
 refine .bx [0] [] hP (Fsl01Below hcb (by omega) hr4) rfl rfl rfl rfl ?_
 conv => cbv
 refine .eql (fun h5 => ?_) fun h5 => ?_
 conv => cbv
 rcases hr7 : rl01PickInt cb ri4 rh4 [0, 1, 8, 9, (-1)] with ⟨d7, ri7, rh7⟩
 have zr7 := rl01PickInt_b hr7 (by omega)
 refine .bxL [0] [6] (.same (.ref rfl rfl .nil)) hP (Fsl01PickInt hcb rfl (by omega) (by decide) hr7) rfl rfl rfl rfl ?_
 conv => cbv
 have e : ((⟨d7, d2tex, d2n, d2kee⟩ : TAct), ri7, rh7) = rl23AnyAct cb ci ch := (by unfold rl23AnyAct; simp only [hr2, hr4, hr7]; repeat (first | rw [if_pos (by omega)] | rw [if_neg (by omega)]))
 rw [hr] at e
 simp only [Prod.mk.injEq, TAct.mk.injEq] at e
 obtain ⟨⟨rfl, rfl, rfl, rfl⟩, rfl, rfl⟩ := e
 obtain rfl : xd2kee = xokee := by rw [← hd2kee, ← hokee, show tailA cb ci ch = [] by unfold tailA; simp only [hr2, hr4]; rw [if_neg (by omega)], List.append_nil]
 obtain rfl : nd2kee = nokee := by first | omega | (rw [hnokee]; simp; done) | (rw [hnokee]; simp; omega)
 exact hQ _ _ (.of [3] (.inl rfl) rfl rfl rfl rfl)
 conv => cbv
 refine .eql (fun h6 => ?_) fun h6 => ?_
 conv => cbv
 rcases hr8 : rl01PickInt cb ri4 rh4 [(-1), 5, 9223372036854775807] with ⟨d8, ri8, rh8⟩
 have zr8 := rl01PickInt_b hr8 (by omega)
 refine .bxL [0] [6] (.same (.ref rfl rfl .nil)) hP (Fsl01PickInt hcb rfl (by omega) (by decide) hr8) rfl rfl rfl rfl ?_
 conv => cbv
 have e : ((⟨d2kin, d2tex, d8, d2kee⟩ : TAct), ri8, rh8) = rl23AnyAct cb ci ch := (by unfold rl23AnyAct; simp only [hr2, hr4, hr8]; repeat (first | rw [if_pos (by omega)] | rw [if_neg (by omega)]))
 rw [hr] at e
 simp only [Prod.mk.injEq, TAct.mk.injEq] at e
 obtain ⟨⟨rfl, rfl, rfl, rfl⟩, rfl, rfl⟩ := e
 obtain rfl : xd2kee = xokee := by rw [← hd2kee, ← hokee, show tailA cb ci ch = [] by unfold tailA; simp only [hr2, hr4]; rw [if_neg (by omega)], List.append_nil]
 obtain rfl : nd2kee = nokee := by first | omega | (rw [hnokee]; simp; done) | (rw [hnokee]; simp; omega)
 exact hQ _ _ (.of [3] (.inl rfl) rfl rfl rfl rfl)
 conv => cbv
 refine .eql (fun h7 => ?_) fun h7 => ?_
 conv => cbv
 rcases hr9 : rl01Below cb ri4 rh4 3 with ⟨d9, ri9, rh9⟩
 have zr9 := rl01Below_b hr9 (by omega)
 refine .bx [0] [] hP (Fsl01Below hcb (by omega) hr9) rfl rfl rfl rfl ?_
 conv => cbv
 refine .add fun v10 hv10 => ?_
 conv => cbv
 generalize hr11 : rl01Long v10 5 = r11
 refine .dd hP (Fsl01Long (by omega) (by omega) hr11) ?_
 conv => cbv
 have e : ((⟨d2kin, r11, d2n, d2kee⟩ : TAct), ri9, rh9) = rl23AnyAct cb ci ch := (by unfold rl23AnyAct; simp only [hr2, hr4, hr9]; rw [if_neg h5, if_neg h6, if_pos h7, ← hr11, hv10])
 rw [hr] at e
 simp only [Prod.mk.injEq, TAct.mk.injEq] at e
 obtain ⟨⟨rfl, rfl, rfl, rfl⟩, rfl, rfl⟩ := e
 obtain rfl : xd2kee = xokee := by rw [← hd2kee, ← hokee, show tailA cb ci ch = [] by unfold tailA; simp only [hr2, hr4]; rw [if_neg (by omega)], List.append_nil]
 obtain rfl : nd2kee = nokee := by first | omega | (rw [hnokee]; simp; done) | (rw [hnokee]; simp; omega)
 exact hQ _ _ (.of [3] (.inl rfl) rfl rfl rfl rfl)
 conv => cbv
 refine .eql (fun h8 => ?_) fun h8 => ?_
 conv => cbv
 rcases hr10 : rl01Below cb ri4 rh4 2 with ⟨d10, ri10, rh10⟩
 have zr10 := rl01Below_b hr10 (by omega)
 refine .bx [0] [] hP (Fsl01Below hcb (by omega) hr10) rfl rfl rfl rfl ?_
 conv => cbv
 refine .add fun v11 hv11 => ?_
 conv => cbv
 refine .hi fun on12 n12 hon12 hn12 => ?_
 conv => cbv
 have e : ((⟨d2kin, d2tex, d2n, ([1, 2, 3, 4, 5, 6, 7, 8, 9] : List Int).take (8 + d10).toNat⟩ : TAct), ri10, rh10) = rl23AnyAct cb ci ch := (by unfold rl23AnyAct; simp only [hr2, hr4, hr10]; repeat (first | rw [if_pos (by omega)] | rw [if_neg (by omega)]))
 rw [hr] at e
 simp only [Prod.mk.injEq, TAct.mk.injEq] at e
 obtain ⟨⟨rfl, rfl, rfl, rfl⟩, rfl, rfl⟩ := e
 obtain rfl : [[.sc (.int .i64 1)], [.sc (.int .i64 2)], [.sc (.int .i64 3)], [.sc (.int .i64 4)], [.sc (.int .i64 5)], [.sc (.int .i64 6)], [.sc (.int .i64 7)], [.sc (.int .i64 8)], [.sc (.int .i64 9)]] = xokee := by (rw [← hokee, show tailA cb ci ch = [1, 2, 3, 4, 5, 6, 7, 8, 9].drop (8 + d10).toNat by unfold tailA; simp only [hr2, hr4, hr10]; rw [if_pos (by omega)], List.take_append_drop]; rfl)
 obtain rfl : on12 = 0 := by omega
 obtain rfl : n12 = nokee := by rw [hnokee, List.length_take]; show n12 = min _ 9; omega
 exact hQ _ _ (.of [6] (.inl rfl) rfl rfl rfl rfl)
 conv => cbv
 have e : ((⟨d2kin, d2tex, d2n, d2kee⟩ : TAct), ri4, rh4) = rl23AnyAct cb ci ch := (by unfold rl23AnyAct; simp only [hr2, hr4]; repeat (first | rw [if_pos (by omega)] | rw [if_neg (by omega)]))
 rw [hr] at e
 simp only [Prod.mk.injEq, TAct.mk.injEq] at e
 obtain ⟨⟨rfl, rfl, rfl, rfl⟩, rfl, rfl⟩ := e
 obtain rfl : xd2kee = xokee := by rw [← hd2kee, ← hokee, show tailA cb ci ch = [] by unfold tailA; simp only [hr2, hr4]; rw [if_neg (by omega)], List.append_nil]
 obtain rfl : nd2kee = nokee := by first | omega | (rw [hnokee]; simp; done) | (rw [hnokee]; simp; omega)
 exact hQ _ _ (.of [3] (.inl rfl) rfl rfl rfl rfl)
theorem Fsl29Act {cb : List UInt8} {xcb : List (List D)} {ci : Int} {ch : Int} {okin : Int} {otex : ByteArray} {on : Int} {okee : List Int} {xokee : List (List D)} {oi oh : Int} {nokee : Nat}  (hcb : cb.map cB = xcb) (hc : 0 ≤ ci ∧ ci ≤ cb.length ∧ cb.length ≤ 1000000000000)  (hokee : (okee ++ tailB cb ci ch).map cI = xokee) (hr : rl29Act cb ci ch = (⟨okin, otex, on, okee⟩, oi, oh)) (hnokee : nokee = okee.length)  : Fn Tryz.prog 14 [.ptr 0 0 0] [.box 68 [.d (.row 1 xcb), I ci, I ch]] ⟨.agg [I okin, S otex, I on, .ref 1 0 nokee], [.row 1 false xokee], [(0, .box 68 [.d (.row 1 xcb), I oi, I oh])]⟩ := by
 refine Fn.goR su_chD2 Tryz.func14 fun P hP Q hQ => ?_
 conv => cbv
 rcases hr2 : rl23AnyAct cb ci ch with ⟨⟨d2kin, d2tex, d2n, d2kee⟩, ri2, rh2⟩
 generalize hd2kee : (d2kee ++ tailA cb ci ch).map cI = xd2kee
 obtain ⟨nd2kee, hnd2kee⟩ : ∃ m, m = d2kee.length := ⟨_, rfl⟩
 have zr2 := rl23AnyAct_b hr2 (by omega)
 refine .bx [0] [] hP (Fsl23AnyAct hcb (by omega) hd2kee hr2 hnd2kee) rfl rfl rfl rfl ?_
 conv => cbv
 rcases hr4 : rl01Once cb ri2 rh2 4 with ⟨d4, ri4, rh4⟩
 have zr4 := rl01Once_b hr4 (by omega)
 refine .bx [0] [] hP (Fsl01Once hcb (by omega) hr4) rfl rfl rfl rfl ?_
 cases d4
 conv => cbv
 rcases ht6 : rl29Told (⟨d2kin, d2tex, d2n, d2kee⟩ : TAct) with ⟨t6kin, t6tex, t6n, t6kee⟩
 generalize ht6k : t6kee.map cI = xt6k
 obtain ⟨nt6k, hnt6k⟩ : ∃ m, m = t6kee.length := ⟨_, rfl⟩
 refine .bxL [] [3] (.agg1 (.d rfl (.d rfl (.d rfl (.sub rfl (by rw [← hd2kee, List.length_map, List.length_append]; omega) (by rw [← hd2kee, List.drop_zero, List.map_append, List.take_left' (by rw [List.length_map]; exact hnd2kee.symm)]) .nil)))) .nil) hP (Fsl29ToldR (akee := d2kee) rfl (by have hz := zr2.1.2; dsimp only at hz; omega) ht6 ht6k hnt6k) rfl rfl rfl rfl ?_
 conv => cbv
 have e : ((⟨t6kin, t6tex, t6n, t6kee⟩ : TAct), ri4, rh4) = rl29Act cb ci ch := (by unfold rl29Act; simp only [hr2, hr4, ht6]; rfl)
 rw [hr] at e
 simp only [Prod.mk.injEq, TAct.mk.injEq] at e
 obtain ⟨⟨rfl, rfl, rfl, rfl⟩, rfl, rfl⟩ := e
 obtain rfl : xt6k = xokee := by rw [← ht6k, ← hokee, show tailB cb ci ch = [] by unfold tailB; simp only [hr2, hr4]; rfl, List.append_nil]
 obtain rfl : nt6k = nokee := by first | omega | (rw [hnokee]; simp; done) | (rw [hnokee]; simp; omega)
 exact hQ _ _ (.of [6] (.inl rfl) rfl rfl rfl rfl)
 conv => cbv
 have e : ((⟨d2kin, d2tex, d2n, d2kee⟩ : TAct), ri4, rh4) = rl29Act cb ci ch := (by unfold rl29Act; simp only [hr2, hr4]; rfl)
 rw [hr] at e
 simp only [Prod.mk.injEq, TAct.mk.injEq] at e
 obtain ⟨⟨rfl, rfl, rfl, rfl⟩, rfl, rfl⟩ := e
 obtain rfl : xd2kee = xokee := by rw [← hd2kee, ← hokee, show tailB cb ci ch = tailA cb ci ch by unfold tailB; simp only [hr2, hr4]; rfl]
 obtain rfl : nd2kee = nokee := by first | omega | (rw [hnokee]; simp; done) | (rw [hnokee]; simp; omega)
 exact hQ _ _ (.of [3] (.inl rfl) rfl rfl rfl rfl)
theorem FsDrawActLine {code : List UInt8} {xcode : List (List D)} {okin : Int} {otex : ByteArray} {on : Int} {okee : List Int} {xokee : List (List D)} {nokee : Nat}  (hcode : code.map cB = xcode) (hb : code.length ≤ 1000000000000) (hr : rDrawActLine code = ⟨okin, otex, on, okee⟩) (hokee : (okee ++ tailB code 0 (rl01New code)).map cI = xokee) (hnokee : nokee = okee.length)  : Fn Tryz.prog 5 [.d (.row 1 xcode)] [] ⟨.agg [I okin, S otex, I on, .ref 0 0 nokee], [.row 1 false xokee], []⟩ := by
 refine Fn.goR su_chD2 Tryz.func5 fun P hP Q hQ => ?_
 conv => cbv
 generalize hr2 : rl01New code = rh2
 refine .ddN hP (Fsl01New hcode (by omega) hr2) rfl ?_
 conv => cbv
 rcases hr4 : rl29Act code 0 rh2 with ⟨⟨d4kin, d4tex, d4n, d4kee⟩, ri4, rh4⟩
 generalize hd4kee : (d4kee ++ tailB code 0 rh2).map cI = xd4kee
 obtain ⟨nd4kee, hnd4kee⟩ : ∃ m, m = d4kee.length := ⟨_, rfl⟩
 have zr4 := rl29Act_b hr4 (by omega)
 refine .bx [2] [] hP (Fsl29Act hcode (by omega) hd4kee hr4 hnd4kee) rfl rfl rfl rfl ?_
 conv => cbv
 have e : (⟨d4kin, d4tex, d4n, d4kee⟩ : TAct) = rDrawActLine code := (by unfold rDrawActLine; rw [hr2, hr4])
 rw [hr] at e
 simp only [TAct.mk.injEq] at e
 obtain ⟨rfl, rfl, rfl, rfl⟩ := e
 obtain rfl : xd4kee = xokee := by rw [← hd4kee, ← hokee, hr2]
 obtain rfl : nd4kee = nokee := by first | omega | (rw [hnokee]; simp; done) | (rw [hnokee]; simp; omega)
 exact hQ _ _ (.of [3] (.inl rfl) rfl rfl rfl rfl)
theorem FsDrawSetLine {code : List UInt8} {xcode : List (List D)} {oroo : Int} {over : Int} {ostr : Int} {orol : Int} (hcode : code.map cB = xcode) (hb : code.length ≤ 1000000000000) (hr : rDrawSetLine code = ⟨oroo, over, ostr, orol⟩)  : Fn Tryz.prog 8 [.d (.row 1 xcode)] [] ⟨.agg [I oroo, I over, I ostr, I orol], [], []⟩ := by
 refine Fn.go su_chD2 Tryz.func8 fun P hP Q hQ => ?_
 conv => cbv
 generalize hr2 : rl01New code = rh2
 refine .ddN hP (Fsl01New hcode (by omega) hr2) rfl ?_
 conv => cbv
 rcases hr4 : rl23AnySetting code 0 rh2 with ⟨⟨d4roo, d4ver, d4str, d4rol⟩, ri4, rh4⟩
 have zr4 := rl23AnySetting_b hr4 (by omega)
 refine .bx [1] [] hP (Fsl23AnySetting hcode (by omega) hr4) rfl rfl rfl rfl ?_
 conv => cbv
 have e : (⟨d4roo, d4ver, d4str, d4rol⟩ : TSetting) = rDrawSetLine code := (by unfold rDrawSetLine; rw [hr2, hr4])
 rw [hr] at e
 simp only [TSetting.mk.injEq] at e
 obtain ⟨rfl, rfl, rfl, rfl⟩ := e
 exact hQ _ _ (.one (.inl rfl) rfl (.agg (.d rfl rfl (.d rfl rfl (.d rfl rfl (.d rfl rfl (.nil))))) .nil))
end Go.Proofs.YtmkpihcfglinjaaGreatDoor.Ab
