/- What functions of the program come to, for all arguments in the given bounds. -/
import Derived.Test.YtmhinjjgpabkfaaGreatDoorHtR
import Derived.Test.YtmhinjjgpabkfaaGreatDoorHhd
set_option linter.unusedVariables false
set_option linter.unusedSimpArgs false
namespace Go.Proofs.YtmhinjjgpabkfaaGreatDoor.Ab
open Go Go.Proofs
set_option maxRecDepth 20000
set_option linter.unusedVariables false
noncomputable def c27 : Code := (Tryz.f27.body).getD .skip
theorem ent27 : Entered Tryz.prog 27 := ⟨_, Tryz.func27, rfl, rfl⟩
theorem T27 {a_nodes : List TNode} {xa_nodes : List (List D)} (ha_nodes : a_nodes.map eNode = xa_nodes) {a_entries : List TEntry} {xa_entries : List (List D)} (ha_entries : a_entries.map eEntry = xa_entries) {a_old : List TEntry} {xa_old : List (List D)} (ha_old : a_old.map eEntry = xa_old) {a_steps : List ByteArray} {xa_steps : List (List D)} (ha_steps : a_steps.map cS = xa_steps) {a_room : Int} {a_next : Int} {na_nodes : Nat} (hna_nodes : na_nodes = a_nodes.length) {na_entries : Nat} (hna_entries : na_entries = a_entries.length) {na_old : Nat} (hna_old : na_old = a_old.length) {na_steps : Nat} (hna_steps : na_steps = a_steps.length) (hb : totDisk ⟨a_nodes, a_entries, a_old, a_steps, a_room, a_next⟩ ≤ 1048576) {k : Int} (h0 : 0 ≤ k) (h1 : k < 2 ^ 45) :
    CallOk Tryz.prog 27 [.agg [.ref 0 0 na_nodes, .ref 1 0 na_entries, .ref 2 0 na_old, .ref 3 0 na_steps, .d (.sc (.int .i64 a_room)), .d (.sc (.int .i64 a_next))], .d (.sc (.int .i64 k))] [.row 3 false xa_nodes, .row 2 false xa_entries, .row 2 false xa_old, .row 1 false xa_steps] ⟨.d (.sc (.int .i64 (k + 3 * (na_nodes : Int) + 2 * (na_entries : Int) + 2 * (na_old : Int) + 1 * (na_steps : Int)))), [], [(0, .row 3 false ((mkRowNodeS (k) na_nodes).map eNode)), (1, .row 2 false ((mkRowEntryS (k + 3 * (na_nodes : Int)) na_entries).map eEntry)), (2, .row 2 false ((mkRowEntryS (k + 3 * (na_nodes : Int) + 2 * (na_entries : Int)) na_old).map eEntry)), (3, .row 1 false ((mkRowStringS (k + 3 * (na_nodes : Int) + 2 * (na_entries : Int) + 2 * (na_old : Int)) na_steps).map cS))]⟩ := by
  have ent28_ := ent28
  have T28_ := @T28
  have ent78_ := ent78
  have T78_ := @T78
  have ent79_ := ent79
  have T79_ := @T79
  have nna_nodes := totNodeS_nn a_nodes
  have nna_entries := totEntryS_nn a_entries
  have nna_old := totEntryS_nn a_old
  have nna_steps := totStringS_nn a_steps
  have hb' : totNodeS a_nodes + totEntryS a_entries + totEntryS a_old + totStringS a_steps ≤ 1048576 := hb
  have bla_nodes := totNodeS_len a_nodes
  have bla_entries := totEntryS_len a_entries
  have bla_old := totEntryS_len a_old
  have bla_steps := totStringS_len a_steps
  have bna_nodes : (na_nodes : Int) ≤ 1048576 := by omega
  have bna_entries : (na_entries : Int) ≤ 1048576 := by omega
  have bna_old : (na_old : Int) ≤ 1048576 := by omega
  have bna_steps : (na_steps : Int) ≤ 1048576 := by omega
  refine CallOk.of_body (body := c27) Tryz.func27 rfl (Nat.le_of_ble_eq_true (by kernel_rfl)) rfl rfl ?_
  refine vc_ok tab_ok mixed ?_
  have hT := tab_ok
  have hm := mixed
  generalize hP : Tryz.prog = P at *
  generalize hA : std = A
  obtain ⟨qbin, qsh, qcmp, qscmp, qbcmp, qbnot, qneg, qwrap, qcat, qssize, qssub, qsget, qlen, qrsub, qapp, qelt, qset, qnth, qdrp, qstr, qint, qbool, qrow, qnat, qnadd, qnsub, qband, qofNat, qstrRow, qmkRow, qmx, qmn, qbytes, qemp⟩ := A
  have hE := Ar.eqs hA
  dsimp only at hE
  generalize hQ : EndQ P Tryz.f27.results _ _ = Q
  cbv
  try simp only [nc] at *
  refine ClW.mut1 (f := 78) rfl rfl rfl rfl (.cons rfl (.cons rfl .nil)) rfl ent78_ (T78_ ha_nodes hna_nodes (by omega) k (by omega) (by omega)) rfl ?_
  generalize hkq0 : (k : Int) + 3 * (na_nodes : Int) = kq0
  generalize hmq0 : (mkRowNodeS k na_nodes).map eNode = mq0
  cbv
  try simp only [nc] at *
  refine ClW.mut1 (f := 79) rfl rfl rfl rfl (.cons rfl (.cons rfl .nil)) rfl ent79_ (T79_ ha_entries hna_entries (by omega) kq0 (by omega) (by omega)) rfl ?_
  generalize hkq1 : (kq0 : Int) + 2 * (na_entries : Int) = kq1
  generalize hmq1 : (mkRowEntryS kq0 na_entries).map eEntry = mq1
  cbv
  try simp only [nc] at *
  refine ClW.mut1 (f := 79) rfl rfl rfl rfl (.cons rfl (.cons rfl .nil)) rfl ent79_ (T79_ ha_old hna_old (by omega) kq1 (by omega) (by omega)) rfl ?_
  generalize hkq2 : (kq1 : Int) + 2 * (na_old : Int) = kq2
  generalize hmq2 : (mkRowEntryS kq1 na_old).map eEntry = mq2
  cbv
  try simp only [nc] at *
  refine ClW.mut1 (f := 28) rfl rfl rfl rfl (.cons rfl (.cons rfl .nil)) rfl ent28_ (T28_ ha_steps hna_steps (by omega) kq2 (by omega) (by omega)) rfl ?_
  generalize hkq3 : (kq2 : Int) + 1 * (na_steps : Int) = kq3
  generalize hmq3 : (mkRowStringS kq2 na_steps).map cS = mq3
  cbv
  try simp only [nc] at *
  rw [← hQ]
  refine endP_rows rfl (int_eq (by omega)) ?_ (by simp)
  intro r R hR
  rcases r with _ | r
  · refine ⟨_, _, _, rfl, ?_⟩
    rw [← hmq0]
    try simp only [← hkq0, ← hkq1, ← hkq2, ← hkq3]
    rfl
  rcases r with _ | r
  · refine ⟨_, _, _, rfl, ?_⟩
    rw [← hmq1]
    try simp only [← hkq0, ← hkq1, ← hkq2, ← hkq3]
    rfl
  rcases r with _ | r
  · refine ⟨_, _, _, rfl, ?_⟩
    rw [← hmq2]
    try simp only [← hkq0, ← hkq1, ← hkq2, ← hkq3]
    rfl
  rcases r with _ | r
  · refine ⟨_, _, _, rfl, ?_⟩
    rw [← hmq3]
    try simp only [← hkq0, ← hkq1, ← hkq2, ← hkq3]
    rfl
  simp at hR
end Go.Proofs.YtmhinjjgpabkfaaGreatDoor.Ab
