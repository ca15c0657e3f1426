/- A relation between the machine and an abstract state, evaluators for single operations and for code, proved sound (part 11). No conditions. -/
import Derived.Shelf.LaysM
import Derived.Shelf.Strconv.Lower
import Derived.Lib.Strings
import Derived.Lib.Walk
import Derived.Lib.ConvBytes
import Derived.Lib.ParseIntBMem
import Derived.Lib.Hide
import Derived.Laws.Strings3
import Derived.Laws.Closers25
import Derived.Laws.Closers25b
import Derived.WalkKit
import Derived.BigCall
import Derived.BigGuard
import Derived.Test.YtmhinjjgpabkfaaGreatDoorZ10
set_option linter.unusedVariables false
set_option linter.unusedSimpArgs false
/- internal/strconv.ParseUint at base 16 and 32 bits, for a text of at most eight bytes. No conditions. -/
namespace Go.Proofs.YtmhinjjgpabkfaaGreatDoor.Ab
open Go Go.Proofs Go.Shelf Go.RowKit
set_option linter.unusedVariables false
set_option linter.unusedSimpArgs false
def hexValU (c : UInt8) : Nat := if 48 ≤ c.toNat ∧ c.toNat ≤ 57 then c.toNat - 48 else if 97 ≤ (c ||| 32).toNat ∧ (c ||| 32).toNat ≤ 102 then (c ||| 32).toNat - 87 else 16
def hexNumU : Nat → List UInt8 → Option Nat
  | acc, [] => some acc
  | acc, c :: l => if hexValU c < 16 then hexNumU (16 * acc + hexValU c) l else none
def puEnd (T : TypeId) : Option Nat → Value
  | some n => .tuple #[.int .u64 n, .nilIface]
  | none => .tuple #[.int .u64 0, .iface T (.int .i64 2)]
theorem low_bits (c : UInt8) : bits .or .u8 (c.toNat : Int) 32 = ((c ||| 32).toNat : Int) := by
  have key : ∀ i : Fin 256, bits .or .u8 ((UInt8.ofNat i.val).toNat : Int) 32 = ((UInt8.ofNat i.val ||| 32).toNat : Int) := by decide +kernel
  have e : UInt8.ofNat c.toNat = c := by simp
  have := key ⟨c.toNat, c.toNat_lt⟩
  rw [e] at this
  exact this
section
variable {P : Program} {ρ : Ren}
theorem lowerX (L : Lays.n321 P ρ) (c : UInt8) (X : Int) (hX : X = ((c ||| 32).toNat : Int)) (w : World) :
    Calls P (ρ.f 321) #[.int .u8 c.toNat] w fun e w' => e = .returned (.int .u8 X) ∧ w' = w := by
  refine (Any.internal_strconv_lower L _ _).mono ?_
  rintro e w' ⟨rfl, rfl⟩
  rw [low_bits, hX]
  exact ⟨rfl, rfl⟩
set_option maxHeartbeats 32000000 in
set_option maxRecDepth 100000 in
theorem pu16 (L : Lays.n287 P ρ) (t : ByteArray) (hne : t.size ≠ 0) (hmax : t.size ≤ 8) (w : World) :
    Calls P (ρ.f 287) #[.string t, .int .i64 16, .int .i64 32] w fun e w' => e = .returned (puEnd (ρ.t 167) (hexNumU 0 t.data.toList)) ∧ w' = Lib.bytesWorld w (ρ.t 5) t := by
  have mixed := L.mixed
  have t9 := L.t9; have a9 := L.a9; have z9 := L.z9; have v9 := L.v9
  have t3 := L.t3; have a3 := L.a3; have z3 := L.z3; have v3 := L.v3
  have t53 := L.t53; have a53 := L.a53; have z53 := L.z53; have v53 := L.v53
  have t75 := L.t75; have a75 := L.a75; have z75 := L.z75; have v75 := L.v75
  have t4 := L.t4; have a4 := L.a4; have z4 := L.z4; have v4 := L.v4
  have t167 := L.t167; have a167 := L.a167; have z167 := L.z167; have v167 := L.v167
  have t5 := L.t5; have a5 := L.a5; have z5 := L.z5; have v5 := L.v5
  have t46 := L.t46; have a46 := L.a46; have z46 := L.z46; have v46 := L.v46
  have t37 := L.t37; have a37 := L.a37; have z37 := L.z37; have v37 := L.v37
  have t0 := L.t0; have a0 := L.a0; have z0 := L.z0; have v0 := L.v0
  have e321 : ∀ args w, (callFunc (ρ.f 321) args).run P w = .ok (.enter (ρ.f 321) args) w := enters_of L.f321 (by kernel_rfl) rfl
  have hemp : t.toList.isEmpty = false := by
    rw [← decide_eq_emptyBytes]
    exact decide_eq_false (fun h => hne (by rw [h]; rfl))
  have hcv := Lib.run_convert_string_bytes (P := P) w (ρ.t 9) (ρ.t 37) (ρ.t 5) t (u := .string) L.t9 L.t37 L.t5
  have hB : ∀ j, j < t.size → (Lib.bytesWorld w (ρ.t 5) t).cell? ⟨w.heap.size, j, none⟩ = some (.int .u8 (t.data.toList.getD j 0).toNat) := fun j hj => Lib.bytesWorld_cell w (ρ.t 5) t j hj
  obtain ⟨W1, hW1⟩ : ∃ W1, W1 = Lib.bytesWorld w (ρ.t 5) t := ⟨_, rfl⟩
  rw [← hW1] at hcv hB ⊢
  clear hW1
  obtain ⟨bs, hL⟩ : ∃ bs, bs = t.data.toList := ⟨_, rfl⟩
  have hLn : bs.length = t.size := by rw [hL, Lib.size_eq]
  rw [← hL] at hB ⊢
  clear hL
  have hmv : IntKind.u64.wrap (IntKind.u64.wrap 4294967296 - 1) = 4294967295 := by
    rw [IntKind.wrap_u64, IntKind.wrap_u64]
    decide
  have hpow : ∀ k, k < 8 → 16 ^ k * 16 ≤ 4294967296 := by
    intro k hk
    have := Nat.pow_le_pow_right (n := 16) (by decide) (show k + 1 ≤ 8 by omega)
    rw [Nat.pow_succ] at this
    exact this
  go_enter L.f287, Body.n287_ntmps ρ
  go_wp2
  go_loop [12, 13, 101] (fun vu vn vi => ∃ (k acc : Nat) (a : Int), vu = .bool false ∧ vn = .int .u64 a ∧ vi = .int .i64 k ∧ k ≤ t.size ∧ Hid (a = (acc : Int) ∧ acc < 16 ^ k ∧ hexNumU 0 bs = hexNumU acc (bs.drop k)))
    (fun _ _ vi => t.size - (intOf vi).toNat)
  case atStart => exact ⟨0, 0, 0, rfl, rfl, rfl, by omega, rfl, by simp, rfl⟩
  case round =>
    obtain ⟨k, acc, a, rfl, rfl, rfl, hk, hh⟩ := hrel
    obtain ⟨ha, hacc, hdec⟩ := hh.out
    clear hh
    have a0 : 0 ≤ a := by omega
    by_cases hkn : k < t.size
    · have hp := hpow k (by omega)
      have a1 : a < 268435456 := by omega
      clear hpow
      have hc := hB k hkn
      have hdrop : bs.drop k = bs[k]'(by omega) :: bs.drop (k + 1) := List.drop_eq_getElem_cons (by omega)
      have hget : bs.getD k 0 = bs[k]'(by omega) := by simp [List.getD, List.getElem?_eq_getElem (show k < bs.length by omega)]
      rw [hdrop, hexNumU] at hdec
      rw [hget] at hc
      generalize bs[k]'(by omega) = c at hc hdec
      have hc256 : c.toNat < 256 := c.toNat_lt
      clear hB hdrop hget
      obtain ⟨X, hX⟩ : ∃ X : Int, X = ((c ||| 32).toNat : Int) := ⟨_, rfl⟩
      have hv0 : 0 ≤ X := by omega
      have hv1 : X < 256 := by have := (c ||| 32).toNat_lt; omega
      by_cases hdig : 48 ≤ c.toNat ∧ c.toNat ≤ 57
      · obtain ⟨hd0, hd1⟩ := hdig
        have hval : hexValU c = c.toNat - 48 := by unfold hexValU; rw [if_pos ⟨hd0, hd1⟩]
        have HN : Hid (a * 16 + ((c.toNat : Int) - 48) = ((16 * acc + hexValU c : Nat) : Int) ∧ 16 * acc + hexValU c < 16 ^ (k + 1) ∧ hexNumU 0 bs = hexNumU (16 * acc + hexValU c) (bs.drop (k + 1))) :=
          Lib.hid ⟨by omega, by rw [Nat.pow_succ]; omega, by rw [hdec, if_pos (by omega)]⟩
        have iov : a * 16 + ((c.toNat : Int) - 48) ≤ 4294967295 := by omega
        clear hp hacc hdec ha hX hv0 hv1
        go_wp2
        refine ⟨⟨k + 1, 16 * acc + hexValU c, a * 16 + ((c.toNat : Int) - 48), rfl, (by first | rfl | (congr 1; omega)), (by first | rfl | (congr 1; omega)), by omega, HN⟩, by simp [intOf]; omega⟩
      · have hlow : ∀ w, Calls P (ρ.f 321) #[.int .u8 c.toNat] w fun e w' => e = .returned (.int .u8 X) ∧ w' = w := fun w => lowerX { L with } c X hX w
        by_cases h95 : c.toNat = 95
        · have hX127 : X = 127 := by
            have : c = 95 := by rw [← UInt8.toNat_inj]; exact h95
            rw [hX, this]; rfl
          have hval : ¬ hexValU c < 16 := by unfold hexValU; rw [if_neg hdig, if_neg (by omega)]; omega
          rw [if_neg hval] at hdec
          rw [h95] at hlow hc
          clear hacc ha hp hX hval hdig
          subst hX127
          go_wp2_with (go_at_fn (ρ.f 321); refine (hlow _).mono ?_; rintro e w' ⟨rfl, rfl⟩)
          all_goals go_ret2
          all_goals first | exact ⟨rfl, rfl⟩ | exact ⟨by rw [hdec]; rfl, rfl⟩
        by_cases hlet : 97 ≤ X ∧ X ≤ 102
        · obtain ⟨hx0, hx1⟩ := hlet
          have hval : (hexValU c : Int) = X - 87 := by unfold hexValU; rw [if_neg hdig, if_pos (by omega)]; omega
          have HN : Hid (a * 16 + (X - 87) = ((16 * acc + hexValU c : Nat) : Int) ∧ 16 * acc + hexValU c < 16 ^ (k + 1) ∧ hexNumU 0 bs = hexNumU (16 * acc + hexValU c) (bs.drop (k + 1))) :=
            Lib.hid ⟨by omega, by rw [Nat.pow_succ]; omega, by rw [hdec, if_pos (by omega)]⟩
          have iov : a * 16 + (X - 87) ≤ 4294967295 := by omega
          have hd : c.toNat < 48 ∨ 57 < c.toNat := by omega
          clear hp hacc hdec ha hdig hX hval
          rcases hd with hd | hd
          all_goals go_wp2_with (go_at_fn (ρ.f 321); refine (hlow _).mono ?_; rintro e w' ⟨rfl, rfl⟩)
          all_goals refine ⟨⟨k + 1, 16 * acc + hexValU c, a * 16 + (X - 87), rfl, (by first | rfl | (congr 1; omega)), (by first | rfl | (congr 1; omega)), by omega, HN⟩, by simp [intOf]; omega⟩
        · have hval : ¬ hexValU c < 16 := by unfold hexValU; rw [if_neg hdig, if_neg (by omega)]; omega
          rw [if_neg hval] at hdec
          clear hacc ha hp
          have hd : c.toNat < 48 ∨ 57 < c.toNat := by omega
          have hx : X < 97 ∨ (103 ≤ X ∧ X ≤ 122) ∨ 122 < X := by omega
          clear hdig hlet hX hval
          rcases hd with hd | hd <;> rcases hx with hx | ⟨hx, hx2⟩ | hx
          all_goals go_wp2_with (go_at_fn (ρ.f 321); refine (hlow _).mono ?_; rintro e w' ⟨rfl, rfl⟩)
          all_goals go_ret2
          all_goals first | exact ⟨rfl, rfl⟩ | exact ⟨by rw [hdec]; rfl, rfl⟩
    · have hkk : k = t.size := by omega
      subst hkk
      have hF : hexNumU acc (bs.drop t.size) = some acc := by rw [List.drop_eq_nil_of_le (by omega)]; rfl
      rw [hF] at hdec
      subst ha
      clear hacc hF a0 hpow
      go_wp2
      go_ret2
      first | exact ⟨rfl, rfl⟩ | exact ⟨by rw [hdec]; rfl, rfl⟩
end
end Go.Proofs.YtmhinjjgpabkfaaGreatDoor.Ab
namespace Go.Proofs.YtmhinjjgpabkfaaGreatDoor.Ab
open Go
set_option linter.unusedVariables false
theorem NSubW.lo {off len : Nat} {lo : Int} {K : Nat → Nat → Prop} (h : ∀ o n, o = off + lo.toNat → n = len - lo.toNat → K o n) (h0 : 0 ≤ lo := by omega) (h1 : lo ≤ (len : Int) := by omega) : NSubW off len (some lo) none K := ⟨_, _, h0, h1, Int.le_refl _, rfl, rfl, h _ _ rfl (by simp)⟩
theorem NSubW.hi {off len : Nat} {hi : Int} {K : Nat → Nat → Prop} (h : ∀ o n, o = off → n = hi.toNat → K o n) (h1 : 0 ≤ hi := by omega) (h2 : hi ≤ (len : Int) := by omega) : NSubW off len none (some hi) K := ⟨_, _, Int.le_refl _, h1, h2, rfl, rfl, h _ _ (by simp) (by simp)⟩
def ancC (l : List Oper) : Nat → Nat → Nat → Bool
  | 0, _, _ => false
  | fuel + 1, j, i => match l[j]? with
    | none => false
    | some o => o.after.toList.any fun e => Region.binds .any e && (e.on == i || ancC l fuel e.on i)
theorem ancC_eq {ops : Array Oper} : ∀ {fuel j i : Nat}, ancC ops.toList fuel j i = ancB ops fuel j i
  | 0, _, _ => rfl
  | fuel + 1, j, i => by
    unfold ancC ancB
    rw [Array.getElem?_toList]
    cases ops[j]? with
    | none => rfl
    | some o =>
      simp only [Array.any_toList]
      congr 1
      funext e
      rw [ancC_eq (fuel := fuel)]
def drawC (ops : List Oper) (N nb : Nat) (eff : List Eff) : Bool :=
  (List.range ops.length).all fun j => match ops[j]? with
    | none => false
    | some o => o.after.toList.all (fun e => !Region.binds .any e || e.on < j) && (match o.dst with | some d => d < N | none => true) &&
      (List.range ops.length).all fun i => (i == j) || (match ops[i]? with
        | none => false
        | some o' => (match o'.dst with
            | none => true
            | some d => (o.dst != some d) && (!(o.looksAt ⟨ops⟩).contains d || (if i < j then ancC ops ops.length j i else ancC ops ops.length i j))) &&
          (ancC ops ops.length i j || ancC ops ops.length j i || apartB nb eff i j))
theorem drawC_eq {ops : Array Oper} {N nb : Nat} {eff : List Eff} : drawC ops.toList N nb eff = drawB ops N nb eff := by
  unfold drawC drawB
  simp only [ancC_eq, Array.length_toList, Array.getElem?_toList, Array.all_toList]
  rfl
theorem DrawW.go2 {ops : Array Oper} {N nb : Nat} {eff : List Eff} {K : Unit → Prop} (h : drawC ops.toList N nb eff = true) (k : K ()) : DrawW (fun _ => drawB ops N nb eff) K := ⟨drawC_eq.symm.trans h, k⟩
theorem TabOk.mark {P : Program} {tab : List (Nat × TyRow)} (n : Nat) (h : TabOk P tab) : TabOk P ((n, rowOf P n) :: tab) := by
  intro t r hr
  simp only [tabGet] at hr
  split at hr
  · rename_i e
    subst e
    exact (Option.some.inj hr).symm
  · exact h _ _ hr
theorem Setup.mark {P : Program} {tab : List (Nat × TyRow)} (n : Nat) (h : Setup P tab) : Setup P ((n, rowOf P n) :: tab) := ⟨h.1.mark n, h.2⟩
end Go.Proofs.YtmhinjjgpabkfaaGreatDoor.Ab
