/- What functions of the program come to, for all arguments in the given bounds. -/
import Derived.Test.YtmkpihcfglinjaaGreatDoorch29f
import Derived.Test.YtmkpihcfglinjaaGreatDoorZ10
set_option linter.unusedVariables false
set_option linter.unusedSimpArgs false
namespace Go.Proofs.YtmkpihcfglinjaaGreatDoor.Ab
open Go Go.Proofs
set_option maxRecDepth 20000
set_option maxHeartbeats 4000000
set_option linter.unusedSimpArgs false
set_option linter.unusedVariables false
def tab_chD : List (Nat × TyRow) := [
  (3, ⟨.int .i64, some 1, some false, none, false, [.int .i64], [], some [(.int .i64 0, 0)], none, none, none⟩),
  (5, ⟨.int .u8, some 1, some false, none, false, [.int .u8], [], some [(.int .u8 0, 0)], none, none, none⟩),
  (9, ⟨.str, some 1, some false, none, false, [.str], [], some [(.string default, 0)], none, none, none⟩),
  (22, ⟨.sl 1, some 1, some false, some (1, 1), true, [.sl 1], [], some [(.slice none 0 0, 1)], some ([.sc (.int .u8 0)], 1, 1), none, none⟩),
  (24, ⟨.sl 1, some 1, some false, some (1, 8), false, [.sl 1], [], some [(.slice none 0 0, 1)], some ([.sc (.int .i64 0)], 1, 8), none, none⟩),
  (40, ⟨.other, some 1, some false, none, false, [.other], [], some [(.pointer none, 0)], none, none, none⟩),
  (68, ⟨.other, some 3, some true, none, false, [.sl 1, .int .i64, .int .i64], [some (0, 1, false), some (1, 1, false), some (2, 1, false)], some [(.slice none 0 0, 1), (.int .i64 0, 0), (.int .i64 0, 0)], none, some [(0, 1), (1, 1), (2, 1)], none⟩)]
theorem tab_chD_ok : TabOk Tryz.prog tab_chD := TabOk.of (by kernel_rfl)
theorem su_chD : Setup Tryz.prog tab_chD := ⟨tab_chD_ok, mixed⟩
theorem and255 (a : Int) : 0 ≤ bitI .and .i64 a 255 ∧ bitI .and .i64 a 255 ≤ 255 := by
  have h : bitI .and .i64 a 255 = IntKind.i64.wrap (BitVec.ofInt 64 a &&& BitVec.ofInt 64 255).toNat := rfl
  have h2 : (BitVec.ofInt 64 a &&& BitVec.ofInt 64 255).toNat ≤ 255 := by
    rw [BitVec.toNat_and]
    exact Nat.le_trans Nat.and_le_right (by decide)
  rw [h, IntKind.wrap_i64]
  omega
theorem and30 (a : Int) : 0 ≤ bitI .and .i64 a 1073741823 ∧ bitI .and .i64 a 1073741823 ≤ 1073741823 := by
  have h : bitI .and .i64 a 1073741823 = IntKind.i64.wrap (BitVec.ofInt 64 a &&& BitVec.ofInt 64 1073741823).toNat := rfl
  have h2 : (BitVec.ofInt 64 a &&& BitVec.ofInt 64 1073741823).toNat ≤ 1073741823 := by
    rw [BitVec.toNat_and]
    exact Nat.le_trans Nat.and_le_right (by decide)
  rw [h, IntKind.wrap_i64]
  omega
def drH (h : Int) : Int := IntKind.i64.wrap (IntKind.i64.wrap (h * 6364136223846793005) + 1442695040888963407)
def drX (h : Int) : Int := bitI .and .i64 (bitI .xor .i64 (h / 2 ^ (33 : Int).toNat) (h / 2 ^ (45 : Int).toNat)) 255
def rl01Byte (b : List UInt8) (i h : Int) : Int × Int × Int := if i < b.length then (bitI .and .i64 (drX (drH h) + (b.getD i.toNat 0).toNat) 255, i + 1, drH h) else (drX (drH h), i, drH h)
def rl01Below (b : List UInt8) (i h n : Int) : Int × Int × Int :=
  if n ≤ 0 then (0, i, h) else if n ≤ 256 then match rl01Byte b i h with | (x, i, h) => (x % n, i, h)
  else match rl01Byte b i h with | (x, i, h) => match rl01Byte b i h with | (y, i, h) => match rl01Byte b i h with | (z, i, h) => match rl01Byte b i h with | (w, i, h) => ((x * 16777216 + y * 65536 + z * 256 + w) % n, i, h)
def rl01Once (b : List UInt8) (i h n : Int) : Bool × Int × Int := match rl01Below b i h n with | (x, i, h) => (decide (x = 0), i, h)
def rl01PickInt (b : List UInt8) (i h : Int) (l : List Int) : Int × Int × Int := match rl01Below b i h l.length with | (x, i, h) => (l.getD x.toNat 0, i, h)
def txGo (b : List UInt8) : Nat → Int → Int → List UInt8 × Int × Int
  | 0, i, h => ([], i, h)
  | k + 1, i, h => match rl01Byte b i h with | (x, i, h) => match txGo b k i h with | (l, i, h) => (UInt8.ofNat x.toNat :: l, i, h)
def rl01Text (b : List UInt8) (i h n : Int) : ByteArray × Int × Int := match txGo b (min n 5000).toNat i h with | (l, i, h) => (tx l, i, h)
def keepD : List Int := [0, 1, 5, 1000, -1, 9223372036854775807, -9223372036854775808]
def kpGo (b : List UInt8) : Nat → Int → Int → Int → List Int × Int × Int
  | 0, _, i, h => ([], i, h)
  | f + 1, k, i, h => match rl01Below b i h 4 with | (x, i, h) => if k < x then match rl01PickInt b i h keepD with | (y, i, h) => match kpGo b f (k + 1) i h with | (l, i, h) => (y :: l, i, h) else ([], i, h)
def rl07Keeps (b : List UInt8) (i h : Int) : List Int × Int × Int := kpGo b 4 0 i h
def rl08Record (b : List UInt8) (i h : Int) : ByteArray × Int × Int :=
  match rl01Below b i h 6 with | (x, i, h) => if x = 0 then (tx [], i, h) else if x = 1 then match rl01Below b i h 41 with | (y, i, h) => rl01Text b i h (20 + y) else match rl01Below b i h 12 with | (y, i, h) => rl01Text b i h y
theorem rl01Byte_b {b : List UInt8} {i h o oi oh : Int} (e : rl01Byte b i h = (o, oi, oh)) (hc : 0 ≤ i ∧ i ≤ b.length ∧ b.length ≤ 1000000000000) : (0 ≤ o ∧ o ≤ 255) ∧ 0 ≤ oi ∧ oi ≤ b.length := by
  unfold rl01Byte at e
  split at e
  · simp only [Prod.mk.injEq] at e
    have := and255 (drX (drH h) + (b.getD i.toNat 0).toNat)
    omega
  · simp only [Prod.mk.injEq] at e
    have : 0 ≤ drX (drH h) ∧ drX (drH h) ≤ 255 := and255 _
    omega
theorem rl01Below_b {b : List UInt8} {i h n o oi oh : Int} (e : rl01Below b i h n = (o, oi, oh)) (hc : 0 ≤ i ∧ i ≤ b.length ∧ b.length ≤ 1000000000000) : (0 ≤ o ∧ (n ≤ 0 → o = 0) ∧ (0 < n → o < n)) ∧ 0 ≤ oi ∧ oi ≤ b.length := by
  unfold rl01Below at e
  split at e
  · simp only [Prod.mk.injEq] at e
    omega
  · split at e
    · rcases h1 : rl01Byte b i h with ⟨x, i1, h1'⟩
      have z1 := rl01Byte_b h1 hc
      simp only [h1, Prod.mk.injEq] at e
      have := Int.emod_nonneg x (show n ≠ 0 by omega)
      have := Int.emod_lt_of_pos x (show 0 < n by omega)
      omega
    · rcases h1 : rl01Byte b i h with ⟨x, i1, h1'⟩
      have z1 := rl01Byte_b h1 hc
      rcases h2 : rl01Byte b i1 h1' with ⟨y, i2, h2'⟩
      have z2 := rl01Byte_b h2 (by omega)
      rcases h3 : rl01Byte b i2 h2' with ⟨z, i3, h3'⟩
      have z3 := rl01Byte_b h3 (by omega)
      rcases h4 : rl01Byte b i3 h3' with ⟨w, i4, h4'⟩
      have z4 := rl01Byte_b h4 (by omega)
      simp only [h1, h2, h3, h4, Prod.mk.injEq] at e
      have := Int.emod_nonneg (x * 16777216 + y * 65536 + z * 256 + w) (show n ≠ 0 by omega)
      have := Int.emod_lt_of_pos (x * 16777216 + y * 65536 + z * 256 + w) (show 0 < n by omega)
      omega
theorem rl01Once_b {b : List UInt8} {i h n oi oh : Int} {o : Bool} (e : rl01Once b i h n = (o, oi, oh)) (hc : 0 ≤ i ∧ i ≤ b.length ∧ b.length ≤ 1000000000000) : 0 ≤ oi ∧ oi ≤ b.length := by
  unfold rl01Once at e
  rcases h1 : rl01Below b i h n with ⟨x, i1, h1'⟩
  have z1 := rl01Below_b h1 hc
  simp only [h1, Prod.mk.injEq] at e
  omega
theorem rl01PickInt_b {b : List UInt8} {i h o oi oh : Int} {l : List Int} (e : rl01PickInt b i h l = (o, oi, oh)) (hc : 0 ≤ i ∧ i ≤ b.length ∧ b.length ≤ 1000000000000) : 0 ≤ oi ∧ oi ≤ b.length := by
  unfold rl01PickInt at e
  rcases h1 : rl01Below b i h l.length with ⟨x, i1, h1'⟩
  have z1 := rl01Below_b h1 hc
  simp only [h1, Prod.mk.injEq] at e
  omega
theorem txGo_b {b : List UInt8} : ∀ {k : Nat} {i h oi oh : Int} {l : List UInt8}, txGo b k i h = (l, oi, oh) → (0 ≤ i ∧ i ≤ b.length ∧ b.length ≤ 1000000000000) → l.length = k ∧ 0 ≤ oi ∧ oi ≤ b.length
  | 0, i, h, oi, oh, l, e, hc => by
    simp only [txGo, Prod.mk.injEq] at e
    rw [← e.1]
    exact ⟨rfl, by omega, by omega⟩
  | k + 1, i, h, oi, oh, l, e, hc => by
    rcases h1 : rl01Byte b i h with ⟨x, i1, h1'⟩
    have z1 := rl01Byte_b h1 hc
    rcases h2 : txGo b k i1 h1' with ⟨l2, i2, h2'⟩
    have z2 := txGo_b h2 (by omega)
    simp only [txGo, h1, h2, Prod.mk.injEq] at e
    rw [← e.1, List.length_cons]
    omega
theorem rl01Text_b {b : List UInt8} {i h n oi oh : Int} {o : ByteArray} (e : rl01Text b i h n = (o, oi, oh)) (hc : 0 ≤ i ∧ i ≤ b.length ∧ b.length ≤ 1000000000000) : (o.size ≤ 5000 ∧ (0 ≤ n → (o.size : Int) ≤ n)) ∧ 0 ≤ oi ∧ oi ≤ b.length := by
  unfold rl01Text at e
  rcases h1 : txGo b (min n 5000).toNat i h with ⟨l, i1, h1'⟩
  have z1 := txGo_b h1 hc
  simp only [h1, Prod.mk.injEq] at e
  have : o.size = l.length := by rw [← e.1, tx_size]
  omega
theorem kpGo_b {b : List UInt8} : ∀ {f : Nat} {k i h oi oh : Int} {l : List Int}, kpGo b f k i h = (l, oi, oh) → (0 ≤ i ∧ i ≤ b.length ∧ b.length ≤ 1000000000000) → l.length ≤ f ∧ 0 ≤ oi ∧ oi ≤ b.length
  | 0, k, i, h, oi, oh, l, e, hc => by
    simp only [kpGo, Prod.mk.injEq] at e
    rw [← e.1]
    exact ⟨Nat.le_refl _, by omega, by omega⟩
  | f + 1, k, i, h, oi, oh, l, e, hc => by
    rcases h1 : rl01Below b i h 4 with ⟨x, i1, h1'⟩
    have z1 := rl01Below_b h1 hc
    simp only [kpGo, h1] at e
    split at e
    · rcases h2 : rl01PickInt b i1 h1' keepD with ⟨y, i2, h2'⟩
      have z2 := rl01PickInt_b h2 (by omega)
      rcases h3 : kpGo b f (k + 1) i2 h2' with ⟨l3, i3, h3'⟩
      have z3 := kpGo_b h3 (by omega)
      simp only [h2, h3, Prod.mk.injEq] at e
      rw [← e.1, List.length_cons]
      omega
    · simp only [Prod.mk.injEq] at e
      rw [← e.1, List.length_nil]
      omega
theorem rl07Keeps_b {b : List UInt8} {i h oi oh : Int} {l : List Int} (e : rl07Keeps b i h = (l, oi, oh)) (hc : 0 ≤ i ∧ i ≤ b.length ∧ b.length ≤ 1000000000000) : l.length ≤ 4 ∧ 0 ≤ oi ∧ oi ≤ b.length := kpGo_b e hc
theorem rl08Record_b {b : List UInt8} {i h oi oh : Int} {o : ByteArray} (e : rl08Record b i h = (o, oi, oh)) (hc : 0 ≤ i ∧ i ≤ b.length ∧ b.length ≤ 1000000000000) : o.size ≤ 60 ∧ 0 ≤ oi ∧ oi ≤ b.length := by
  unfold rl08Record at e
  rcases h1 : rl01Below b i h 6 with ⟨x, i1, h1'⟩
  have z1 := rl01Below_b h1 hc
  simp only [h1] at e
  split at e
  · simp only [Prod.mk.injEq] at e
    rw [← e.1]
    exact ⟨by decide, by omega, by omega⟩
  · split at e
    · rcases h2 : rl01Below b i1 h1' 41 with ⟨y, i2, h2'⟩
      have z2 := rl01Below_b h2 (by omega)
      simp only [h2] at e
      have z3 := rl01Text_b e (by omega)
      omega
    · rcases h2 : rl01Below b i1 h1' 12 with ⟨y, i2, h2'⟩
      have z2 := rl01Below_b h2 (by omega)
      simp only [h2] at e
      have z3 := rl01Text_b e (by omega)
      omega
theorem Fsl01Byte {cb : List UInt8} {xcb : List (List D)} {ci : Int} {ch : Int} {o : Int} {oi oh : Int}   (hcb : cb.map cB = xcb) (hc : 0 ≤ ci ∧ ci ≤ cb.length ∧ cb.length ≤ 1000000000000)   (hr : rl01Byte cb ci ch = (o, oi, oh))   : Fn Tryz.prog 69 [.ptr 0 0 0] [.box 68 [.d (.row 1 xcb), I ci, I ch]] ⟨I o, [], [(0, .box 68 [.d (.row 1 xcb), I oi, I oh])]⟩ := by
 refine Fn.goR su_chD Tryz.func69 fun P hP Q hQ => ?_
 conv => cbv
 refine .mulW fun v1 hv1 => ?_
 conv => cbv
 refine .addW fun v2 hv2 => ?_
 conv => cbv
 refine .shr fun v3 hv3 => ?_
 conv => cbv
 refine .shr fun v4 hv4 => ?_
 conv => cbv
 refine .xor fun v5 hv5 => ?_
 conv => cbv
 refine .and fun v6 hv6 => ?_
 conv => cbv
 refine .go hcb fun v7 hv7 => ?_
 conv => cbv
 refine .lss (fun h8 => ?_) fun h8 => ?_
 conv => cbv
 refine .go ci.toNat hcb fun hje9 e9 qe9 => ?_
 conv => cbv
 have hb9 := e9.toNat_lt
 refine .id (a := (e9.toNat : Int)) fun v10 hv10 => ?_
 conv => cbv
 have hx6 : 0 ≤ v6 ∧ v6 ≤ 255 := by rw [hv6]; exact and255 _
 refine .add fun v11 hv11 => ?_
 conv => cbv
 refine .and fun v12 hv12 => ?_
 conv => cbv
 refine .add fun v13 hv13 => ?_
 conv => cbv
 have e : (v12, v13, v2) = rl01Byte cb ci ch := (by unfold rl01Byte; rw [if_pos (by omega), List.getD_eq_getElem?_getD, List.getElem?_eq_getElem hje9, Option.getD_some, ← qe9, hv12, hv11, hv10, hv13]; unfold drX drH; rw [hv6, hv5, hv4, hv3, hv2, hv1])
 rw [hr] at e
 simp only [Prod.mk.injEq] at e
 obtain ⟨rfl, rfl, rfl⟩ := e
 exact hQ _ _ (.of [] (.inl rfl) rfl rfl rfl rfl)
 conv => cbv
 have e : (v6, ci, v2) = rl01Byte cb ci ch := (by unfold rl01Byte; rw [if_neg (by omega)]; unfold drX drH; rw [hv6, hv5, hv4, hv3, hv2, hv1])
 rw [hr] at e
 simp only [Prod.mk.injEq] at e
 obtain ⟨rfl, rfl, rfl⟩ := e
 exact hQ _ _ (.of [] (.inl rfl) rfl rfl rfl rfl)
theorem Fsl01Below {cb : List UInt8} {xcb : List (List D)} {ci : Int} {ch : Int} {n : Int} {o : Int} {oi oh : Int}   (hcb : cb.map cB = xcb) (hc : 0 ≤ ci ∧ ci ≤ cb.length ∧ cb.length ≤ 1000000000000)   (hr : rl01Below cb ci ch n = (o, oi, oh))   : Fn Tryz.prog 54 [.ptr 0 0 0, I n] [.box 68 [.d (.row 1 xcb), I ci, I ch]] ⟨I o, [], [(0, .box 68 [.d (.row 1 xcb), I oi, I oh])]⟩ := by
 refine Fn.goR su_chD Tryz.func54 fun P hP Q hQ => ?_
 conv => cbv
 refine .leq (fun h1 => ?_) fun h1 => ?_
 conv => cbv
 have e : (0, ci, ch) = rl01Below cb ci ch n := (by unfold rl01Below; rw [if_pos (by omega)])
 rw [hr] at e
 simp only [Prod.mk.injEq] at e
 obtain ⟨rfl, rfl, rfl⟩ := e
 exact hQ _ _ (.of [] (.inl rfl) rfl rfl rfl rfl)
 conv => cbv
 refine .leq (fun h2 => ?_) fun h2 => ?_
 conv => cbv
 rcases hr4 : rl01Byte cb ci ch with ⟨d4, ri4, rh4⟩
 have zr4 := rl01Byte_b hr4 (by omega)
 refine .bx [0] [] hP (Fsl01Byte hcb (by omega) hr4) rfl rfl rfl rfl ?_
 conv => cbv
 refine .rem fun v5 hv5 => ?_
 conv => cbv
 have e : (v5, ri4, rh4) = rl01Below cb ci ch n := (by unfold rl01Below; rw [if_neg (by omega), if_pos (by omega)]; simp only [hr4]; rw [hv5])
 rw [hr] at e
 simp only [Prod.mk.injEq] at e
 obtain ⟨rfl, rfl, rfl⟩ := e
 exact hQ _ _ (.of [] (.inl rfl) rfl rfl rfl rfl)
 conv => cbv
 rcases hr4 : rl01Byte cb ci ch with ⟨d4, ri4, rh4⟩
 have zr4 := rl01Byte_b hr4 (by omega)
 refine .bx [0] [] hP (Fsl01Byte hcb (by omega) hr4) rfl rfl rfl rfl ?_
 conv => cbv
 rcases hr6 : rl01Byte cb ri4 rh4 with ⟨d6, ri6, rh6⟩
 have zr6 := rl01Byte_b hr6 (by omega)
 refine .bx [0] [] hP (Fsl01Byte hcb (by omega) hr6) rfl rfl rfl rfl ?_
 conv => cbv
 rcases hr8 : rl01Byte cb ri6 rh6 with ⟨d8, ri8, rh8⟩
 have zr8 := rl01Byte_b hr8 (by omega)
 refine .bx [0] [] hP (Fsl01Byte hcb (by omega) hr8) rfl rfl rfl rfl ?_
 conv => cbv
 rcases hr10 : rl01Byte cb ri8 rh8 with ⟨d10, ri10, rh10⟩
 have zr10 := rl01Byte_b hr10 (by omega)
 refine .bx [0] [] hP (Fsl01Byte hcb (by omega) hr10) rfl rfl rfl rfl ?_
 conv => cbv
 refine .mul fun v11 hv11 => ?_
 conv => cbv
 refine .mul fun v12 hv12 => ?_
 conv => cbv
 refine .add fun v13 hv13 => ?_
 conv => cbv
 refine .mul fun v14 hv14 => ?_
 conv => cbv
 refine .add fun v15 hv15 => ?_
 conv => cbv
 refine .add fun v16 hv16 => ?_
 conv => cbv
 refine .rem fun v17 hv17 => ?_
 conv => cbv
 have e : (v17, ri10, rh10) = rl01Below cb ci ch n := (by unfold rl01Below; rw [if_neg (by omega), if_neg (by omega)]; simp only [hr4, hr6, hr8, hr10]; rw [hv17, hv16, hv15, hv14, hv13, hv12, hv11])
 rw [hr] at e
 simp only [Prod.mk.injEq] at e
 obtain ⟨rfl, rfl, rfl⟩ := e
 exact hQ _ _ (.of [] (.inl rfl) rfl rfl rfl rfl)
theorem Fsl01Once {cb : List UInt8} {xcb : List (List D)} {ci : Int} {ch : Int} {n : Int} {o : Bool} {oi oh : Int}   (hcb : cb.map cB = xcb) (hc : 0 ≤ ci ∧ ci ≤ cb.length ∧ cb.length ≤ 1000000000000)   (hr : rl01Once cb ci ch n = (o, oi, oh))   : Fn Tryz.prog 40 [.ptr 0 0 0, I n] [.box 68 [.d (.row 1 xcb), I ci, I ch]] ⟨B o, [], [(0, .box 68 [.d (.row 1 xcb), I oi, I oh])]⟩ := by
 refine Fn.goR su_chD Tryz.func40 fun P hP Q hQ => ?_
 conv => cbv
 rcases hr2 : rl01Below cb ci ch n with ⟨d2, ri2, rh2⟩
 have zr2 := rl01Below_b hr2 (by omega)
 refine .bx [0] [] hP (Fsl01Below hcb (by omega) hr2) rfl rfl rfl rfl ?_
 conv => cbv
 refine .eql (fun h3 => ?_) fun h3 => ?_
 conv => cbv
 have e : (true, ri2, rh2) = rl01Once cb ci ch n := (by unfold rl01Once; simp only [hr2]; rw [decide_eq_true h3])
 rw [hr] at e
 simp only [Prod.mk.injEq] at e
 obtain ⟨rfl, rfl, rfl⟩ := e
 exact hQ _ _ (.of [] (.inl rfl) rfl rfl rfl rfl)
 conv => cbv
 have e : (false, ri2, rh2) = rl01Once cb ci ch n := (by unfold rl01Once; simp only [hr2]; rw [decide_eq_false h3])
 rw [hr] at e
 simp only [Prod.mk.injEq] at e
 obtain ⟨rfl, rfl, rfl⟩ := e
 exact hQ _ _ (.of [] (.inl rfl) rfl rfl rfl rfl)
theorem Fsl01PickInt {cb : List UInt8} {xcb : List (List D)} {ci : Int} {ch : Int} {list : List Int} {xlist : List (List D)} {o : Int} {oi oh : Int}   (hcb : cb.map cB = xcb) (hlist : list.map cI = xlist) (hc : 0 ≤ ci ∧ ci ≤ cb.length ∧ cb.length ≤ 1000000000000) (hl : 0 < list.length ∧ list.length ≤ 1000)   (hr : rl01PickInt cb ci ch list = (o, oi, oh))   : Fn Tryz.prog 55 [.ptr 0 0 0, .d (.row 1 xlist)] [.box 68 [.d (.row 1 xcb), I ci, I ch]] ⟨I o, [], [(0, .box 68 [.d (.row 1 xcb), I oi, I oh])]⟩ := by
 refine Fn.goR su_chD Tryz.func55 fun P hP Q hQ => ?_
 conv => cbv
 refine .go hlist fun v1 hv1 => ?_
 conv => cbv
 have hv1e : v1 = (list.length : Int) := hv1
 rcases hr3 : rl01Below cb ci ch v1 with ⟨d3, ri3, rh3⟩
 have zr3 := rl01Below_b hr3 (by omega)
 refine .bx [0] [] hP (Fsl01Below hcb (by omega) hr3) rfl rfl rfl rfl ?_
 conv => cbv
 refine .go d3.toNat hlist fun hje4 e4 qe4 => ?_
 conv => cbv
 have e : (e4, ri3, rh3) = rl01PickInt cb ci ch list := (by unfold rl01PickInt; rw [← hv1]; simp only [hr3]; rw [List.getD_eq_getElem?_getD, List.getElem?_eq_getElem hje4, Option.getD_some, ← qe4])
 rw [hr] at e
 simp only [Prod.mk.injEq] at e
 obtain ⟨rfl, rfl, rfl⟩ := e
 exact hQ _ _ (.of [] (.inl rfl) rfl rfl rfl rfl)
theorem Fsl01Text {cb : List UInt8} {xcb : List (List D)} {ci : Int} {ch : Int} {n : Int} {o : ByteArray} {oi oh : Int}   (hcb : cb.map cB = xcb) (hc : 0 ≤ ci ∧ ci ≤ cb.length ∧ cb.length ≤ 1000000000000)   (hr : rl01Text cb ci ch n = (o, oi, oh))   : Fn Tryz.prog 79 [.ptr 0 0 0, I n] [.box 68 [.d (.row 1 xcb), I ci, I ch]] ⟨S o, [], [(0, .box 68 [.d (.row 1 xcb), I oi, I oh])]⟩ := by
 refine Fn.goR su_chD Tryz.func79 fun P hP Q hQ => ?_
 conv => cbv
 refine .gtr (fun h1 => ?_) fun h1 => ?_
 conv => cbv
 refine LoopW.lp (κ := Int × Int × Int × (List (List D)) × Nat) su_chD hP [1] [0, 1] (fun (i6, c0b, c0c, zw2, nw2) => [(5, .ref 2 0 nw2), (6, I i6)]) (fun (i6, c0b, c0c, zw2, nw2) => [(0, .box 68 [.d (.row 1 xcb), I c0b, I c0c]), (2, .row 1 false zw2)])
   (fun (i6, c0b, c0c, zw2, nw2) => ∃ (w2 : List UInt8), w2.map cB = zw2 ∧ nw2 = w2.length ∧ 0 ≤ i6 ∧ (0 ≤ c0b ∧ c0b ≤ cb.length) ∧ w2.length = i6.toNat ∧ i6 ≤ 5000 ∧ rl01Text cb ci ch n = (match txGo cb ((min n 5000).toNat - i6.toNat) c0b c0c with | (l, i, h) => (tx (w2 ++ l), i, h)))
   (fun (i6, c0b, c0c, zw2, nw2) => (5000 - i6).toNat) (0, ci, ch, [], 0) ⟨[], rfl, rfl, by omega, by omega, rfl, by omega, by unfold rl01Text; simp⟩ ⟨rfl, rfl, trivial⟩ rfl ?_
 rintro ⟨i6, c0b, c0c, zw2, nw2⟩ J ⟨w2, hw2, hnw2, h0, hcu, hwl, h5, hw⟩ hJ
 conv => cbv
 refine .lss (fun h2 => ?_) fun h2 => ?_
 conv => cbv
 rcases hr4 : rl01Byte cb c0b c0c with ⟨d4, ri4, rh4⟩
 have zr4 := rl01Byte_b hr4 (by omega)
 refine .bx [0] [] hP (Fsl01Byte hcb (by omega) hr4) rfl rfl rfl rfl ?_
 conv => cbv
 refine .go fun v5 hv5 => ?_
 conv => cbv
 refine .one (UInt8.ofNat v5.toNat) hw2 (byte_cell (by rw [hv5, u8_wrap]; omega)) fun nz6 z6 hnz6 hz6 => ?_
 conv => cbv
 refine .add fun v7 hv7 => ?_
 conv => cbv
 exact .go [4] (v7, ri4, rh4, z6, nz6) (hJ _ ⟨_, hz6, (by first | omega | (simp; omega) | (simp only [List.length_append, List.length_cons, List.length_nil] at *; omega)), by omega, by omega, by rw [List.length_append, hwl]; simp; omega, by omega, by rw [hw, show (min n 5000).toNat - i6.toNat = ((min n 5000).toNat - v7.toNat) + 1 by omega]; simp only [txGo, hr4]; rw [show UInt8.ofNat d4.toNat = UInt8.ofNat v5.toNat by rw [hv5, u8_wrap]; congr 1; omega]; simp⟩ (by first | (dsimp only; omega) | omega))
 conv => cbv
 refine .go hw2 fun s3 hs3 => ?_
 conv => cbv
 have e : (s3, c0b, c0c) = rl01Text cb ci ch n := (by rw [hw, show (min n 5000).toNat - i6.toNat = 0 by omega]; simp only [txGo, List.append_nil]; rw [hs3])
 rw [hr] at e
 simp only [Prod.mk.injEq] at e
 obtain ⟨rfl, rfl, rfl⟩ := e
 exact hQ _ _ (.of [] (.inl rfl) rfl rfl rfl rfl)
 conv => cbv
 refine LoopW.lp (κ := Int × Int × Int × (List (List D)) × Nat) su_chD hP [1] [0, 1] (fun (i6, c0b, c0c, zw2, nw2) => [(5, .ref 2 0 nw2), (6, I i6)]) (fun (i6, c0b, c0c, zw2, nw2) => [(0, .box 68 [.d (.row 1 xcb), I c0b, I c0c]), (2, .row 1 false zw2)])
   (fun (i6, c0b, c0c, zw2, nw2) => ∃ (w2 : List UInt8), w2.map cB = zw2 ∧ nw2 = w2.length ∧ 0 ≤ i6 ∧ (0 ≤ c0b ∧ c0b ≤ cb.length) ∧ w2.length = i6.toNat ∧ i6 ≤ 5000 ∧ rl01Text cb ci ch n = (match txGo cb ((min n 5000).toNat - i6.toNat) c0b c0c with | (l, i, h) => (tx (w2 ++ l), i, h)))
   (fun (i6, c0b, c0c, zw2, nw2) => (5000 - i6).toNat) (0, ci, ch, [], 0) ⟨[], rfl, rfl, by omega, by omega, rfl, by omega, by unfold rl01Text; simp⟩ ⟨rfl, rfl, trivial⟩ rfl ?_
 rintro ⟨i6, c0b, c0c, zw2, nw2⟩ J ⟨w2, hw2, hnw2, h0, hcu, hwl, h5, hw⟩ hJ
 conv => cbv
 refine .lss (fun h2 => ?_) fun h2 => ?_
 conv => cbv
 rcases hr4 : rl01Byte cb c0b c0c with ⟨d4, ri4, rh4⟩
 have zr4 := rl01Byte_b hr4 (by omega)
 refine .bx [0] [] hP (Fsl01Byte hcb (by omega) hr4) rfl rfl rfl rfl ?_
 conv => cbv
 refine .go fun v5 hv5 => ?_
 conv => cbv
 refine .one (UInt8.ofNat v5.toNat) hw2 (byte_cell (by rw [hv5, u8_wrap]; omega)) fun nz6 z6 hnz6 hz6 => ?_
 conv => cbv
 refine .add fun v7 hv7 => ?_
 conv => cbv
 exact .go [4] (v7, ri4, rh4, z6, nz6) (hJ _ ⟨_, hz6, (by first | omega | (simp; omega) | (simp only [List.length_append, List.length_cons, List.length_nil] at *; omega)), by omega, by omega, by rw [List.length_append, hwl]; simp; omega, by omega, by rw [hw, show (min n 5000).toNat - i6.toNat = ((min n 5000).toNat - v7.toNat) + 1 by omega]; simp only [txGo, hr4]; rw [show UInt8.ofNat d4.toNat = UInt8.ofNat v5.toNat by rw [hv5, u8_wrap]; congr 1; omega]; simp⟩ (by first | (dsimp only; omega) | omega))
 conv => cbv
 refine .go hw2 fun s3 hs3 => ?_
 conv => cbv
 have e : (s3, c0b, c0c) = rl01Text cb ci ch n := (by rw [hw, show (min n 5000).toNat - i6.toNat = 0 by omega]; simp only [txGo, List.append_nil]; rw [hs3])
 rw [hr] at e
 simp only [Prod.mk.injEq] at e
 obtain ⟨rfl, rfl, rfl⟩ := e
 exact hQ _ _ (.of [] (.inl rfl) rfl rfl rfl rfl)
theorem Fsl07Keeps {cb : List UInt8} {xcb : List (List D)} {ci : Int} {ch : Int} {o : List Int} {xo : List (List D)} {oi oh : Int} {no : Nat}  (hcb : cb.map cB = xcb) (hc : 0 ≤ ci ∧ ci ≤ cb.length ∧ cb.length ≤ 1000000000000)  (ho : o.map cI = xo) (hr : rl07Keeps cb ci ch = (o, oi, oh)) (hno : no = o.length)  : Fn Tryz.prog 71 [.ptr 0 0 0] [.box 68 [.d (.row 1 xcb), I ci, I ch]] ⟨.ref 1 0 no, [.row 1 false xo], [(0, .box 68 [.d (.row 1 xcb), I oi, I oh])]⟩ := by
 refine Fn.goR su_chD Tryz.func71 fun P hP Q hQ => ?_
 conv => cbv
 refine LoopW.lp (κ := Int × Int × Int × (List (List D)) × Nat) su_chD hP [2] [0] (fun (i4, c0b, c0c, zw3, nw3) => [(3, .ref 3 0 nw3), (4, I i4)]) (fun (i4, c0b, c0c, zw3, nw3) => [(0, .box 68 [.d (.row 1 xcb), I c0b, I c0c]), (3, .row 1 false zw3)])
   (fun (i4, c0b, c0c, zw3, nw3) => ∃ (w3 : List Int), w3.map cI = zw3 ∧ nw3 = w3.length ∧ 0 ≤ i4 ∧ i4 ≤ 3 ∧ (0 ≤ c0b ∧ c0b ≤ cb.length) ∧ w3.length = i4.toNat ∧ rl07Keeps cb ci ch = (match kpGo cb (4 - i4.toNat) i4 c0b c0c with | (l, i, h) => (w3 ++ l, i, h)))
   (fun (i4, c0b, c0c, zw3, nw3) => (4 - i4).toNat) (0, ci, ch, [], 0) ⟨[], rfl, rfl, by omega, by omega, by omega, rfl, by unfold rl07Keeps; simp⟩ ⟨rfl, rfl, trivial⟩ rfl ?_
 rintro ⟨i4, c0b, c0c, zw3, nw3⟩ J ⟨w3, hw3, hnw3, h0, h1, hcu, hwl, hw⟩ hJ
 conv => cbv
 rcases hr2 : rl01Below cb c0b c0c 4 with ⟨d2, ri2, rh2⟩
 have zr2 := rl01Below_b hr2 (by omega)
 refine .bx [0] [] hP (Fsl01Below hcb (by omega) hr2) rfl rfl rfl rfl ?_
 conv => cbv
 refine .lss (fun h3 => ?_) fun h3 => ?_
 conv => cbv
 rcases hr5 : rl01PickInt cb ri2 rh2 [0, 1, 5, 1000, (-1), 9223372036854775807, (-9223372036854775808)] with ⟨d5, ri5, rh5⟩
 have zr5 := rl01PickInt_b hr5 (by omega)
 refine .bxL [0] [4] (.same (.ref rfl rfl .nil)) hP (Fsl01PickInt hcb rfl (by omega) (by decide) hr5) rfl rfl rfl rfl ?_
 conv => cbv
 refine .one d5 hw3 rfl fun nz6 z6 hnz6 hz6 => ?_
 conv => cbv
 refine .add fun v7 hv7 => ?_
 conv => cbv
 exact .go [6] (v7, ri5, rh5, z6, nz6) (hJ _ ⟨_, hz6, (by first | omega | (simp; omega) | (simp only [List.length_append, List.length_cons, List.length_nil] at *; omega)), by omega, by omega, by omega, by rw [List.length_append, hwl]; simp; omega, by rw [hw, show 4 - i4.toNat = (4 - v7.toNat) + 1 by omega, hv7]; simp only [kpGo, hr2]; rw [if_pos (by omega)]; simp only [show rl01PickInt cb ri2 rh2 keepD = _ from hr5]; simp⟩ (by first | (dsimp only; omega) | omega))
 conv => cbv
 have e : (w3, ri2, rh2) = rl07Keeps cb ci ch := (by rw [hw, show 4 - i4.toNat = (3 - i4.toNat) + 1 by omega]; simp only [kpGo, hr2]; rw [if_neg (by omega)]; simp)
 rw [hr] at e
 simp only [Prod.mk.injEq] at e
 obtain ⟨rfl, rfl, rfl⟩ := e
 obtain rfl : zw3 = xo := by rw [← hw3, ← ho]
 obtain rfl : nw3 = no := by first | omega | (rw [hno]; simp; done) | (rw [hno]; simp; omega)
 exact hQ _ _ (.of [3] (.inl rfl) rfl rfl rfl rfl)
theorem Fsl08Record {cb : List UInt8} {xcb : List (List D)} {ci : Int} {ch : Int} {o : ByteArray} {oi oh : Int}   (hcb : cb.map cB = xcb) (hc : 0 ≤ ci ∧ ci ≤ cb.length ∧ cb.length ≤ 1000000000000)   (hr : rl08Record cb ci ch = (o, oi, oh))   : Fn Tryz.prog 72 [.ptr 0 0 0] [.box 68 [.d (.row 1 xcb), I ci, I ch]] ⟨S o, [], [(0, .box 68 [.d (.row 1 xcb), I oi, I oh])]⟩ := by
 refine Fn.goR su_chD Tryz.func72 fun P hP Q hQ => ?_
 conv => cbv
 rcases hr2 : rl01Below cb ci ch 6 with ⟨d2, ri2, rh2⟩
 have zr2 := rl01Below_b hr2 (by omega)
 refine .bx [0] [] hP (Fsl01Below hcb (by omega) hr2) rfl rfl rfl rfl ?_
 conv => cbv
 refine .eql (fun h3 => ?_) fun h3 => ?_
 conv => cbv
 have e : ((tx []), ri2, rh2) = rl08Record cb ci ch := (by unfold rl08Record; simp only [hr2]; repeat (first | rw [if_pos (by omega)] | rw [if_neg (by omega)]))
 rw [hr] at e
 simp only [Prod.mk.injEq] at e
 obtain ⟨rfl, rfl, rfl⟩ := e
 exact hQ _ _ (.of [] (.inl rfl) rfl rfl rfl rfl)
 conv => cbv
 refine .eql (fun h4 => ?_) fun h4 => ?_
 conv => cbv
 rcases hr6 : rl01Below cb ri2 rh2 41 with ⟨d6, ri6, rh6⟩
 have zr6 := rl01Below_b hr6 (by omega)
 refine .bx [0] [] hP (Fsl01Below hcb (by omega) hr6) rfl rfl rfl rfl ?_
 conv => cbv
 refine .add fun v7 hv7 => ?_
 conv => cbv
 rcases hr9 : rl01Text cb ri6 rh6 v7 with ⟨d9, ri9, rh9⟩
 have zr9 := rl01Text_b hr9 (by omega)
 refine .bx [0] [] hP (Fsl01Text hcb (by omega) hr9) rfl rfl rfl rfl ?_
 conv => cbv
 have e : (d9, ri9, rh9) = rl08Record cb ci ch := (by unfold rl08Record; simp only [hr2, hr6, hr9]; rw [if_neg (by omega), if_pos (by omega), ← hv7]; simp only [hr2, hr6, hr9])
 rw [hr] at e
 simp only [Prod.mk.injEq] at e
 obtain ⟨rfl, rfl, rfl⟩ := e
 exact hQ _ _ (.of [] (.inl rfl) rfl rfl rfl rfl)
 conv => cbv
 rcases hr6 : rl01Below cb ri2 rh2 12 with ⟨d6, ri6, rh6⟩
 have zr6 := rl01Below_b hr6 (by omega)
 refine .bx [0] [] hP (Fsl01Below hcb (by omega) hr6) rfl rfl rfl rfl ?_
 conv => cbv
 rcases hr8 : rl01Text cb ri6 rh6 d6 with ⟨d8, ri8, rh8⟩
 have zr8 := rl01Text_b hr8 (by omega)
 refine .bx [0] [] hP (Fsl01Text hcb (by omega) hr8) rfl rfl rfl rfl ?_
 conv => cbv
 have e : (d8, ri8, rh8) = rl08Record cb ci ch := (by unfold rl08Record; simp only [hr2, hr6, hr8]; repeat (first | rw [if_pos (by omega)] | rw [if_neg (by omega)]))
 rw [hr] at e
 simp only [Prod.mk.injEq] at e
 obtain ⟨rfl, rfl, rfl⟩ := e
 exact hQ _ _ (.of [] (.inl rfl) rfl rfl rfl rfl)
end Go.Proofs.YtmkpihcfglinjaaGreatDoor.Ab
