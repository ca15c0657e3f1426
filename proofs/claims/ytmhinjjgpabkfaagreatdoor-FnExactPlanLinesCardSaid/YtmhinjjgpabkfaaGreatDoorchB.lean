/- What functions of the program come to, for all arguments in the given bounds. -/
import Derived.Test.YtmhinjjgpabkfaaGreatDoorch03b
import Derived.Shelf.Strings.Builder1
import Derived.Lib.UnsafeStr
import Derived.Below
import Derived.Lib.OthersKept
import Derived.ProofKit
set_option linter.unusedVariables false
set_option linter.unusedSimpArgs false
namespace Go.Proofs.YtmhinjjgpabkfaaGreatDoor.Ab
open Go Go.Proofs
set_option maxRecDepth 20000
set_option maxHeartbeats 4000000
set_option linter.unusedSimpArgs false
set_option linter.unusedVariables false
def tab_chB : List (Nat × TyRow) := [
  (9, ⟨.str, some 1, some false, none, false, [.str], [], some [(.string default, 0)], none, none, none⟩),
  (22, ⟨.sl 1, some 1, some false, some (1, 1), true, [.sl 1], [], some [(.slice none 0 0, 1)], some ([.sc (.int .u8 0)], 1, 1), none, none⟩),
  (123, ⟨.other, some 1, some false, none, false, [.other], [], some [(.pointer none, 0)], none, none, none⟩),
  (125, ⟨.other, some 2, some true, none, false, [.other, .sl 1], [some (0, 1, false), some (1, 1, false)], some [(.pointer none, 0), (.slice none 0 0, 1)], none, some [(0, 1), (1, 1)], none⟩)]
theorem tab_chB_ok : TabOk Tryz.prog tab_chB := TabOk.of (by kernel_rfl)
theorem su_chB : Setup Tryz.prog tab_chB := ⟨tab_chB_ok, mixed⟩
open Go.RowKit
theorem Tryz.sizeBuilder : ∃ j, Tryz.prog.info? 125 = some j ∧ j.size = 2 := by
  have h : (Tryz.prog.info? 125).map (·.size) = some 2 := by kernel_rfl
  obtain ⟨j, hj, hjs⟩ := Option.map_eq_some_iff.1 h
  exact ⟨j, hj, hjs⟩
set_option maxHeartbeats 1000000 in
theorem Tryz.cc_used (b : Nat) (w : World) (h0 : w.cell? ⟨b, 0, none⟩ = some (.pointer (some ⟨b, 0, none⟩))) :
    Calls Tryz.prog 141 #[.pointer (some ⟨b, 0, none⟩)] w fun e w' => e = .returned (.tuple #[]) ∧ w' = w := by
  obtain ⟨j, hj, _⟩ := Tryz.sizeBuilder
  go_enter Tryz.func141, Tryz.ntmps141
  go_wp2
  rw [Lib.run_neq_ptr_same w _ Tryz.underlying123 hj]
  go_wp2
  go_end0
  exact ⟨rfl, rfl⟩
set_option maxHeartbeats 1000000 in
theorem Tryz.cc_fresh (b : Nat) (w : World) (h0 : w.cell? ⟨b, 0, none⟩ = some (.pointer none)) (hsh : w.shape? b = some (125, 2)) (hfz : w.frozen? ⟨b, 0, none⟩ = false) :
    Calls Tryz.prog 141 #[.pointer (some ⟨b, 0, none⟩)] w fun e w' => e = .returned (.tuple #[]) ∧ w' = w.setCell ⟨b, 0, none⟩ (.pointer (some ⟨b, 0, none⟩)) := by
  obtain ⟨j, hj, hjs⟩ := Tryz.sizeBuilder
  go_enter Tryz.func141, Tryz.ntmps141
  go_wp2
  rw [Lib.run_to_unsafe w ⟨b, 0, none⟩ Tryz.underlying123 Tryz.underlying197 hj (by rw [hjs]; decide) hsh (Nat.zero_lt_succ 1)]
  simp only [Result.andThen]
  rw [Oper.upon_value]
  go_wp2
  rw [run_callFunc_extern Tryz.func171 (by kernel_rfl) (by kernel_rfl) (by kernel_rfl) (e := Extern.AbiNoEscape.same) (by kernel_rfl)]
  rw [Lib.run_noEscape]
  simp only [Result.andThen]
  rw [Oper.upon_value]
  go_wp2
  rw [Lib.run_from_unsafe w ⟨b, 0, none⟩ Tryz.underlying197 Tryz.underlying123 hj hsh (by kernel_rfl)]
  simp only [Result.andThen]
  rw [Oper.upon_value]
  go_wp2
  go_end0
  exact ⟨rfl, rfl⟩
theorem FiCopy0 {y : AV} {R1 : Root} : Fn Tryz.prog 141 [.ptr 0 0 0] [.box 125 [.d (.sc (.pointer none)), y], R1] ⟨.tup [], [], [(0, .box 125 [.ptr 0 0 0, y])]⟩ := ⟨entered_of Tryz.func141 rfl rfl, bx_set Tryz.cc_fresh⟩
theorem FiCopy1 {y : AV} {R1 : Root} : Fn Tryz.prog 141 [.ptr 0 0 0] [.box 125 [.ptr 0 0 0, y], R1] ⟨.tup [], [], []⟩ := ⟨entered_of Tryz.func141 rfl rfl, bx_keep Tryz.cc_used⟩
theorem FiWrite1 {n m1 : Nat} {bs b1 : List UInt8} {s : ByteArray} {k1 : Int} (hn : n = bs.length) (hb : bs.length + s.size < 2 ^ 46) (hm1 : bs.length + s.size = m1) (hb1 : bs ++ s.data.toList = b1) (hk1 : (s.size : Int) = k1) : Fn Tryz.prog 93 [.ptr 0 0 0, S s] [.box 125 [.ptr 0 0 0, .ref 1 0 n], .buf 5 false bs]
    ⟨.tup [I k1, .d (.sc .nilIface)], [.buf 5 false b1], [(0, .box 125 [.ptr 0 0 0, .ref 2 0 m1]), (1, .dead)]⟩ := by
  refine Fn.goR su_chB Tryz.func93 fun P hP Q hQ => ?_
  conv => cbv
  refine .bx [0, 1] [1] hP (FiCopy1 (y := .ref 1 0 n) (R1 := .buf 5 false bs)) rfl rfl rfl rfl ?_
  conv => cbv
  refine .go hP Tryz.underlying22 (fun m bs' hm hbs => ?_)
  conv => cbv
  refine .go fun m2 hm2 => ?_
  conv => cbv
  subst hm hbs hm2 hm1 hb1 hk1
  exact hQ _ _ (.of [2] (.inl rfl) rfl rfl rfl rfl)
theorem FiWrite0 {n m1 : Nat} {bs b1 : List UInt8} {s : ByteArray} {k1 : Int} (hn : n = bs.length) (hb : bs.length + s.size < 2 ^ 46) (hm1 : bs.length + s.size = m1) (hb1 : bs ++ s.data.toList = b1) (hk1 : (s.size : Int) = k1) : Fn Tryz.prog 93 [.ptr 0 0 0, S s] [.box 125 [.d (.sc (.pointer none)), .ref 1 0 n], .buf 5 false bs]
    ⟨.tup [I k1, .d (.sc .nilIface)], [.buf 5 false b1], [(0, .box 125 [.ptr 0 0 0, .ref 2 0 m1]), (1, .dead)]⟩ := by
  refine Fn.goR su_chB Tryz.func93 fun P hP Q hQ => ?_
  conv => cbv
  refine .bx [0, 1] [1] hP (FiCopy0 (y := .ref 1 0 n) (R1 := .buf 5 false bs)) rfl rfl rfl rfl ?_
  conv => cbv
  refine .go hP Tryz.underlying22 (fun m bs' hm hbs => ?_)
  conv => cbv
  refine .go fun m2 hm2 => ?_
  conv => cbv
  subst hm hbs hm2 hm1 hb1 hk1
  exact hQ _ _ (.of [2] (.inl rfl) rfl rfl rfl rfl)
theorem FiLen {n : Nat} {k1 : Int} {bs : List UInt8} {fz : Bool} (hk1 : (n : Int) = k1) : Fn Tryz.prog 190 [.ptr 0 0 0] [.box 125 [.ptr 0 0 0, .ref 1 0 n], .buf 5 fz bs] ⟨I k1, [], []⟩ := by
 refine Fn.goR su_chB Tryz.func190 fun P hP Q hQ => ?_
 conv => cbv
 refine .go fun m hm => ?_
 conv => cbv
 subst hm hk1
 exact hQ _ _ (.of [] (.inl rfl) rfl rfl rfl rfl)
set_option maxHeartbeats 1000000 in
theorem Tryz.str_raw {bs : List UInt8} (h0 : bs ≠ []) (hl : bs.length < 2 ^ 62) (b g cap cells : Nat) (w : World) (h1 : w.cell? ⟨b, 1, none⟩ = some (.slice (some ⟨g, 0, none⟩) bs.length cap)) (h2 : bs.length ≤ cap) (h3 : w.shape? g = some (5, cells)) (h4 : bs.length ≤ cells)
    (h5 : ∀ (j : Nat) u, bs[j]? = some u → w.cell? ((⟨g, 0, none⟩ : Addr).add j) = some (.int .u8 u.toNat)) : Calls Tryz.prog 94 #[.pointer (some ⟨b, 0, none⟩)] w fun en w' => en = .returned (.string ⟨bs.toArray⟩) ∧ w' = w.drew.freeze ⟨g, 0, none⟩ bs.length := by
  go_enter Tryz.func94, Tryz.ntmps94
  have c1 : w.drew.cell? ⟨b, 1, none⟩ = some (.slice (some ⟨g, 0, none⟩) bs.length cap) := h1
  have hn : bs.length ≠ 0 := by simpa using h0
  have hSD : (Builtin.unsafeSliceData_ #[22] 170 #[.slice (some ⟨g, 0, none⟩) bs.length cap]).run Tryz.prog w.drew = .ok (.pointer (some ⟨g, 0, none⟩)) w.drew := Lib.run_unsafeSliceData_row _ _ _ _ _ _ (by omega)
  have hUS : (Builtin.unsafeString_ #[170, 3] 9 #[.pointer (some ⟨g, 0, none⟩), .int .i64 bs.length]).run Tryz.prog w.drew = .ok (.string ⟨bs.toArray⟩) (w.drew.freeze ⟨g, 0, none⟩ bs.length) :=
    Lib.run_unsafeString_row w.drew _ _ _ 5 Tryz.underlying170 (by kernel_rfl) g cells h3 bs h0 h4 (by omega) h5
  go_wp2
  have mixed := mixed
  go_region_o
  all_goals (go_wp2; go_ret; exact ⟨rfl, rfl⟩)
theorem FiString {x : AV} {n : Nat} {bs : List UInt8} (hn : n = bs.length) (h0 : bs ≠ []) (hl : bs.length < 2 ^ 62) {s1 : ByteArray} (hs1 : tx bs = s1) : Fn Tryz.prog 94 [.ptr 0 0 0] [.box 125 [x, .ref 1 0 n], .buf 5 false bs] ⟨S s1, [], [(1, .buf 5 true bs)]⟩ :=
  ⟨entered_of Tryz.func94 rfl rfl, hs1 ▸ bld_string hn h0 (Tryz.str_raw h0 hl)⟩
end Go.Proofs.YtmhinjjgpabkfaaGreatDoor.Ab
