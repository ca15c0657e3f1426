/- What functions of the program come to, for all arguments in the given bounds. -/
import Derived.Test.YtamdgfklbjoaiaaTR
import Derived.Test.YtamdgfklbjoaiaaHL
set_option linter.unusedVariables false
set_option linter.unusedSimpArgs false
namespace Go.Proofs.Ytamdgfklbjoaiaa.Ab
open Go Go.Proofs
set_option maxRecDepth 20000
noncomputable def c89 : Code := (Try.f89.body).getD .skip
theorem ent89 : Entered Try.prog 89 := ⟨_, Try.func89, rfl, rfl⟩
theorem T89 {a_nodes : List TNode} {xa_nodes : List (List D)} (ha_nodes : a_nodes.map eNode = xa_nodes) {a_entries : List TEntry} {xa_entries : List (List D)} (ha_entries : a_entries.map eEntry = xa_entries) {a_old : List TEntry} {xa_old : List (List D)} (ha_old : a_old.map eEntry = xa_old) {a_steps : List ByteArray} {xa_steps : List (List D)} (ha_steps : a_steps.map cS = xa_steps) {a_room : Int} {a_next : Int} {na_nodes : Nat} (hna_nodes : na_nodes = a_nodes.length) {na_entries : Nat} (hna_entries : na_entries = a_entries.length) {na_old : Nat} (hna_old : na_old = a_old.length) {na_steps : Nat} (hna_steps : na_steps = a_steps.length) (hb : totDisk ⟨a_nodes, a_entries, a_old, a_steps, a_room, a_next⟩ ≤ 1048576) {k : Int} (h0 : 0 ≤ k) (h1 : k < 2 ^ 45) :
    CallOk Try.prog 89 [.agg [.ref 0 0 na_nodes, .ref 1 0 na_entries, .ref 2 0 na_old, .ref 3 0 na_steps, .d (.sc (.int .i64 a_room)), .d (.sc (.int .i64 a_next))], .d (.sc (.int .i64 k))] [.row 3 false xa_nodes, .row 2 false xa_entries, .row 2 false xa_old, .row 1 false xa_steps] ⟨.d (.sc (.int .i64 (k + 3 * (na_nodes : Int) + 2 * (na_entries : Int) + 2 * (na_old : Int) + 1 * (na_steps : Int)))), [], [(0, .row 3 false ((mkRowNodeS (k) na_nodes).map eNode)), (1, .row 2 false ((mkRowEntryS (k + 3 * (na_nodes : Int)) na_entries).map eEntry)), (2, .row 2 false ((mkRowEntryS (k + 3 * (na_nodes : Int) + 2 * (na_entries : Int)) na_old).map eEntry)), (3, .row 1 false ((mkRowStringS (k + 3 * (na_nodes : Int) + 2 * (na_entries : Int) + 2 * (na_old : Int)) na_steps).map cS))]⟩ := by
  have ent27_ := ent27
  have T27_ := @T27
  have ent121_ := ent121
  have T121_ := @T121
  have ent122_ := ent122
  have T122_ := @T122
  have nna_nodes := totNodeS_nn a_nodes
  have nna_entries := totEntryS_nn a_entries
  have nna_old := totEntryS_nn a_old
  have nna_steps := totStringS_nn a_steps
  have hb' : totNodeS a_nodes + totEntryS a_entries + totEntryS a_old + totStringS a_steps ≤ 1048576 := hb
  have bla_nodes := totNodeS_len a_nodes
  have bla_entries := totEntryS_len a_entries
  have bla_old := totEntryS_len a_old
  have bla_steps := totStringS_len a_steps
  have bna_nodes : (na_nodes : Int) ≤ 1048576 := by omega
  have bna_entries : (na_entries : Int) ≤ 1048576 := by omega
  have bna_old : (na_old : Int) ≤ 1048576 := by omega
  have bna_steps : (na_steps : Int) ≤ 1048576 := by omega
  refine CallOk.of_body (body := c89) Try.func89 rfl (Nat.le_of_ble_eq_true (by kernel_rfl)) rfl rfl ?_
  refine vc_ok tab_ok mixed ?_
  have hT := tab_ok
  have hm := mixed
  generalize hP : Try.prog = P at *
  generalize hA : std = A
  obtain ⟨qbin, qsh, qcmp, qscmp, qbcmp, qbnot, qneg, qwrap, qcat, qssize, qssub, qsget, qlen, qrsub, qapp, qelt, qset, qnth, qdrp, qstr, qint, qbool, qrow, qnat, qnadd, qnsub, qband, qofNat, qstrRow, qmkRow, qmx, qmn, qbytes, qemp⟩ := A
  have hE := Ar.eqs hA
  dsimp only at hE
  generalize hQ : EndQ P Try.f89.results _ _ = Q
  cbv
  try simp only [nc] at *
  refine ClW.mut1 (f := 121) rfl rfl rfl rfl (.cons rfl (.cons rfl .nil)) rfl ent121_ (T121_ ha_nodes hna_nodes (by omega) k (by omega) (by omega)) rfl ?_
  generalize hkq0 : (k : Int) + 3 * (na_nodes : Int) = kq0
  generalize hmq0 : (mkRowNodeS k na_nodes).map eNode = mq0
  cbv
  try simp only [nc] at *
  refine ClW.mut1 (f := 122) rfl rfl rfl rfl (.cons rfl (.cons rfl .nil)) rfl ent122_ (T122_ ha_entries hna_entries (by omega) kq0 (by omega) (by omega)) rfl ?_
  generalize hkq1 : (kq0 : Int) + 2 * (na_entries : Int) = kq1
  generalize hmq1 : (mkRowEntryS kq0 na_entries).map eEntry = mq1
  cbv
  try simp only [nc] at *
  refine ClW.mut1 (f := 122) rfl rfl rfl rfl (.cons rfl (.cons rfl .nil)) rfl ent122_ (T122_ ha_old hna_old (by omega) kq1 (by omega) (by omega)) rfl ?_
  generalize hkq2 : (kq1 : Int) + 2 * (na_old : Int) = kq2
  generalize hmq2 : (mkRowEntryS kq1 na_old).map eEntry = mq2
  cbv
  try simp only [nc] at *
  refine ClW.mut1 (f := 27) rfl rfl rfl rfl (.cons rfl (.cons rfl .nil)) rfl ent27_ (T27_ ha_steps hna_steps (by omega) kq2 (by omega) (by omega)) rfl ?_
  generalize hkq3 : (kq2 : Int) + 1 * (na_steps : Int) = kq3
  generalize hmq3 : (mkRowStringS kq2 na_steps).map cS = mq3
  cbv
  try simp only [nc] at *
  rw [← hQ]
  refine endP_rows rfl (int_eq (by omega)) ?_ (by simp)
  intro r R hR
  rcases r with _ | r
  · refine ⟨_, _, _, rfl, ?_⟩
    rw [← hmq0]
    try simp only [← hkq0, ← hkq1, ← hkq2, ← hkq3]
    rfl
  rcases r with _ | r
  · refine ⟨_, _, _, rfl, ?_⟩
    rw [← hmq1]
    try simp only [← hkq0, ← hkq1, ← hkq2, ← hkq3]
    rfl
  rcases r with _ | r
  · refine ⟨_, _, _, rfl, ?_⟩
    rw [← hmq2]
    try simp only [← hkq0, ← hkq1, ← hkq2, ← hkq3]
    rfl
  rcases r with _ | r
  · refine ⟨_, _, _, rfl, ?_⟩
    rw [← hmq3]
    try simp only [← hkq0, ← hkq1, ← hkq2, ← hkq3]
    rfl
  simp at hR
noncomputable def c90 : Code := (Try.f90.body).getD .skip
theorem ent90 : Entered Try.prog 90 := ⟨_, Try.func90, rfl, rfl⟩
theorem T90 {a_version : Int} {a_stride : Int} {a_roll : Int} {a_base : Int} {a_link : Int} {a_offsets : List Int} {xa_offsets : List (List D)} (ha_offsets : a_offsets.map cI = xa_offsets) {a_end : Int} {a_open : Bool} {a_code : Int} {na_offsets : Nat} (hna_offsets : na_offsets = a_offsets.length) (hb : totWriter ⟨a_version, a_stride, a_roll, a_base, a_link, a_offsets, a_end, a_open, a_code⟩ ≤ 1048576) {k : Int} (h0 : 0 ≤ k) (h1 : k < 2 ^ 45) :
    CallOk Try.prog 90 [.agg [.d (.sc (.int .i64 a_version)), .d (.sc (.int .i64 a_stride)), .d (.sc (.int .i64 a_roll)), .d (.sc (.int .i64 a_base)), .d (.sc (.int .i64 a_link)), .ref 0 0 na_offsets, .d (.sc (.int .i64 a_end)), .d (.sc (.bool a_open)), .d (.sc (.int .i64 a_code))], .d (.sc (.int .i64 k))] [.row 1 false xa_offsets] ⟨.d (.sc (.int .i64 (k + 1 * (na_offsets : Int)))), [], [(0, .row 1 false ((mkRowIntS (k) na_offsets).map cI))]⟩ := by
  have ent32_ := ent32
  have T32_ := @T32
  have nna_offsets := totIntS_nn a_offsets
  have hb' : totIntS a_offsets ≤ 1048576 := hb
  have bla_offsets := totIntS_len a_offsets
  have bna_offsets : (na_offsets : Int) ≤ 1048576 := by omega
  refine CallOk.of_body (body := c90) Try.func90 rfl (Nat.le_of_ble_eq_true (by kernel_rfl)) rfl rfl ?_
  refine vc_ok tab_ok mixed ?_
  have hT := tab_ok
  have hm := mixed
  generalize hP : Try.prog = P at *
  generalize hA : std = A
  obtain ⟨qbin, qsh, qcmp, qscmp, qbcmp, qbnot, qneg, qwrap, qcat, qssize, qssub, qsget, qlen, qrsub, qapp, qelt, qset, qnth, qdrp, qstr, qint, qbool, qrow, qnat, qnadd, qnsub, qband, qofNat, qstrRow, qmkRow, qmx, qmn, qbytes, qemp⟩ := A
  have hE := Ar.eqs hA
  dsimp only at hE
  generalize hQ : EndQ P Try.f90.results _ _ = Q
  cbv
  try simp only [nc] at *
  refine ClW.mut1 (f := 32) rfl rfl rfl rfl (.cons rfl (.cons rfl .nil)) rfl ent32_ (T32_ ha_offsets hna_offsets (by omega) k (by omega) (by omega)) rfl ?_
  generalize hkq0 : (k : Int) + 1 * (na_offsets : Int) = kq0
  generalize hmq0 : (mkRowIntS k na_offsets).map cI = mq0
  cbv
  try simp only [nc] at *
  rw [← hQ]
  refine endP_rows rfl (int_eq (by omega)) ?_ (by simp)
  intro r R hR
  rcases r with _ | r
  · refine ⟨_, _, _, rfl, ?_⟩
    rw [← hmq0]
    try simp only [← hkq0]
    rfl
  simp at hR
noncomputable def c48 : Code := (Try.f48.body).getD .skip
theorem ent48 : Entered Try.prog 48 := ⟨_, Try.func48, rfl, rfl⟩
theorem T48 {a_set_room : Int} {a_set_version : Int} {a_set_stride : Int} {a_set_roll : Int} {a_disk_nodes : List TNode} {xa_disk_nodes : List (List D)} (ha_disk_nodes : a_disk_nodes.map eNode = xa_disk_nodes) {a_disk_entries : List TEntry} {xa_disk_entries : List (List D)} (ha_disk_entries : a_disk_entries.map eEntry = xa_disk_entries) {a_disk_old : List TEntry} {xa_disk_old : List (List D)} (ha_disk_old : a_disk_old.map eEntry = xa_disk_old) {a_disk_steps : List ByteArray} {xa_disk_steps : List (List D)} (ha_disk_steps : a_disk_steps.map cS = xa_disk_steps) {a_disk_room : Int} {a_disk_next : Int} {a_writer_version : Int} {a_writer_stride : Int} {a_writer_roll : Int} {a_writer_base : Int} {a_writer_link : Int} {a_writer_offsets : List Int} {xa_writer_offsets : List (List D)} (ha_writer_offsets : a_writer_offsets.map cI = xa_writer_offsets) {a_writer_end : Int} {a_writer_open : Bool} {a_writer_code : Int} {a_told : List ByteArray} {xa_told : List (List D)} (ha_told : a_told.map cS = xa_told) {a_sure : Int} {a_falls : Int} {na_disk_nodes : Nat} (hna_disk_nodes : na_disk_nodes = a_disk_nodes.length) {na_disk_entries : Nat} (hna_disk_entries : na_disk_entries = a_disk_entries.length) {na_disk_old : Nat} (hna_disk_old : na_disk_old = a_disk_old.length) {na_disk_steps : Nat} (hna_disk_steps : na_disk_steps = a_disk_steps.length) {na_writer_offsets : Nat} (hna_writer_offsets : na_writer_offsets = a_writer_offsets.length) {na_told : Nat} (hna_told : na_told = a_told.length) (hb : totWorld ⟨⟨a_set_room, a_set_version, a_set_stride, a_set_roll⟩, ⟨a_disk_nodes, a_disk_entries, a_disk_old, a_disk_steps, a_disk_room, a_disk_next⟩, ⟨a_writer_version, a_writer_stride, a_writer_roll, a_writer_base, a_writer_link, a_writer_offsets, a_writer_end, a_writer_open, a_writer_code⟩, a_told, a_sure, a_falls⟩ ≤ 1048576) {k : Int} (h0 : 0 ≤ k) (h1 : k < 2 ^ 40) :
    CallOk Try.prog 48 [.agg [.d (.sc (.int .i64 a_set_room)), .d (.sc (.int .i64 a_set_version)), .d (.sc (.int .i64 a_set_stride)), .d (.sc (.int .i64 a_set_roll)), .ref 0 0 na_disk_nodes, .ref 1 0 na_disk_entries, .ref 2 0 na_disk_old, .ref 3 0 na_disk_steps, .d (.sc (.int .i64 a_disk_room)), .d (.sc (.int .i64 a_disk_next)), .d (.sc (.int .i64 a_writer_version)), .d (.sc (.int .i64 a_writer_stride)), .d (.sc (.int .i64 a_writer_roll)), .d (.sc (.int .i64 a_writer_base)), .d (.sc (.int .i64 a_writer_link)), .ref 4 0 na_writer_offsets, .d (.sc (.int .i64 a_writer_end)), .d (.sc (.bool a_writer_open)), .d (.sc (.int .i64 a_writer_code)), .ref 5 0 na_told, .d (.sc (.int .i64 a_sure)), .d (.sc (.int .i64 a_falls))], .d (.sc (.int .i64 k))] [.row 3 false xa_disk_nodes, .row 2 false xa_disk_entries, .row 2 false xa_disk_old, .row 1 false xa_disk_steps, .row 1 false xa_writer_offsets, .row 1 false xa_told] ⟨.d (.sc (.int .i64 (k + 3 * (na_disk_nodes : Int) + 2 * (na_disk_entries : Int) + 2 * (na_disk_old : Int) + 1 * (na_disk_steps : Int) + 1 * (na_writer_offsets : Int) + 1 * (na_told : Int)))), [], [(0, .row 3 false ((mkRowNodeS (k) na_disk_nodes).map eNode)), (1, .row 2 false ((mkRowEntryS (k + 3 * (na_disk_nodes : Int)) na_disk_entries).map eEntry)), (2, .row 2 false ((mkRowEntryS (k + 3 * (na_disk_nodes : Int) + 2 * (na_disk_entries : Int)) na_disk_old).map eEntry)), (3, .row 1 false ((mkRowStringS (k + 3 * (na_disk_nodes : Int) + 2 * (na_disk_entries : Int) + 2 * (na_disk_old : Int)) na_disk_steps).map cS)), (4, .row 1 false ((mkRowIntS (k + 3 * (na_disk_nodes : Int) + 2 * (na_disk_entries : Int) + 2 * (na_disk_old : Int) + 1 * (na_disk_steps : Int)) na_writer_offsets).map cI)), (5, .row 1 false ((mkRowStringS (k + 3 * (na_disk_nodes : Int) + 2 * (na_disk_entries : Int) + 2 * (na_disk_old : Int) + 1 * (na_disk_steps : Int) + 1 * (na_writer_offsets : Int)) na_told).map cS))]⟩ := by
  have ent27_ := ent27
  have T27_ := @T27
  have ent89_ := ent89
  have T89_ := @T89
  have ent90_ := ent90
  have T90_ := @T90
  have nna_disk := totDisk_nn (⟨a_disk_nodes, a_disk_entries, a_disk_old, a_disk_steps, a_disk_room, a_disk_next⟩ : TDisk)
  have nna_writer := totWriter_nn (⟨a_writer_version, a_writer_stride, a_writer_roll, a_writer_base, a_writer_link, a_writer_offsets, a_writer_end, a_writer_open, a_writer_code⟩ : TWriter)
  have nna_told := totStringS_nn a_told
  have hb' : totDisk (⟨a_disk_nodes, a_disk_entries, a_disk_old, a_disk_steps, a_disk_room, a_disk_next⟩ : TDisk) + totWriter (⟨a_writer_version, a_writer_stride, a_writer_roll, a_writer_base, a_writer_link, a_writer_offsets, a_writer_end, a_writer_open, a_writer_code⟩ : TWriter) + totStringS a_told ≤ 1048576 := hb
  have bla_disk_nodes := totNodeS_len a_disk_nodes
  have bla_disk_entries := totEntryS_len a_disk_entries
  have bla_disk_old := totEntryS_len a_disk_old
  have bla_disk_steps := totStringS_len a_disk_steps
  have bla_writer_offsets := totIntS_len a_writer_offsets
  have bla_told := totStringS_len a_told
  have hb_a_disk : totDisk (⟨a_disk_nodes, a_disk_entries, a_disk_old, a_disk_steps, a_disk_room, a_disk_next⟩ : TDisk) ≤ 1048576 := by omega
  have nna_disk_nodes := totNodeS_nn a_disk_nodes
  have nna_disk_entries := totEntryS_nn a_disk_entries
  have nna_disk_old := totEntryS_nn a_disk_old
  have nna_disk_steps := totStringS_nn a_disk_steps
  have hb_a_disk' : totNodeS a_disk_nodes + totEntryS a_disk_entries + totEntryS a_disk_old + totStringS a_disk_steps ≤ 1048576 := hb_a_disk
  have hb_a_writer : totWriter (⟨a_writer_version, a_writer_stride, a_writer_roll, a_writer_base, a_writer_link, a_writer_offsets, a_writer_end, a_writer_open, a_writer_code⟩ : TWriter) ≤ 1048576 := by omega
  have nna_writer_offsets := totIntS_nn a_writer_offsets
  have hb_a_writer' : totIntS a_writer_offsets ≤ 1048576 := hb_a_writer
  have bna_disk_nodes : (na_disk_nodes : Int) ≤ 1048576 := by omega
  have bna_disk_entries : (na_disk_entries : Int) ≤ 1048576 := by omega
  have bna_disk_old : (na_disk_old : Int) ≤ 1048576 := by omega
  have bna_disk_steps : (na_disk_steps : Int) ≤ 1048576 := by omega
  have bna_writer_offsets : (na_writer_offsets : Int) ≤ 1048576 := by omega
  have bna_told : (na_told : Int) ≤ 1048576 := by omega
  refine CallOk.of_body (body := c48) Try.func48 rfl (Nat.le_of_ble_eq_true (by kernel_rfl)) rfl rfl ?_
  refine vc_ok tab_ok mixed ?_
  have hT := tab_ok
  have hm := mixed
  generalize hP : Try.prog = P at *
  generalize hA : std = A
  obtain ⟨qbin, qsh, qcmp, qscmp, qbcmp, qbnot, qneg, qwrap, qcat, qssize, qssub, qsget, qlen, qrsub, qapp, qelt, qset, qnth, qdrp, qstr, qint, qbool, qrow, qnat, qnadd, qnsub, qband, qofNat, qstrRow, qmkRow, qmx, qmn, qbytes, qemp⟩ := A
  have hE := Ar.eqs hA
  dsimp only at hE
  generalize hQ : EndQ P Try.f48.results _ _ = Q
  cbv
  try simp only [nc] at *
  refine ClW.mutN (f := 89) (π := [0, 1, 2, 3]) rfl rfl rfl rfl (.cons rfl (.cons rfl .nil)) rfl ent89_ (T89_ ha_disk_nodes ha_disk_entries ha_disk_old ha_disk_steps hna_disk_nodes hna_disk_entries hna_disk_old hna_disk_steps (by omega) (by omega) (by omega)) rfl (by simp) rfl (by simp) rfl rfl (by simp) ?_
  generalize hkq0 : k + 3 * (na_disk_nodes : Int) + 2 * (na_disk_entries : Int) + 2 * (na_disk_old : Int) + 1 * (na_disk_steps : Int) = kq0
  generalize hmq0 : (mkRowNodeS (k) na_disk_nodes).map eNode = mq0
  generalize hmq1 : (mkRowEntryS (k + 3 * (na_disk_nodes : Int)) na_disk_entries).map eEntry = mq1
  generalize hmq2 : (mkRowEntryS (k + 3 * (na_disk_nodes : Int) + 2 * (na_disk_entries : Int)) na_disk_old).map eEntry = mq2
  generalize hmq3 : (mkRowStringS (k + 3 * (na_disk_nodes : Int) + 2 * (na_disk_entries : Int) + 2 * (na_disk_old : Int)) na_disk_steps).map cS = mq3
  cbv
  try simp only [nc] at *
  refine ClW.mutN (f := 90) (π := [4]) rfl rfl rfl rfl (.cons rfl (.cons rfl .nil)) rfl ent90_ (T90_ ha_writer_offsets hna_writer_offsets (by omega) (by omega) (by omega)) rfl (by simp) rfl (by simp) rfl rfl (by simp) ?_
  generalize hkq1 : kq0 + 1 * (na_writer_offsets : Int) = kq1
  generalize hmq4 : (mkRowIntS (kq0) na_writer_offsets).map cI = mq4
  cbv
  try simp only [nc] at *
  refine ClW.mut1 (f := 27) rfl rfl rfl rfl (.cons rfl (.cons rfl .nil)) rfl ent27_ (T27_ ha_told hna_told (by omega) kq1 (by omega) (by omega)) rfl ?_
  generalize hkq2 : (kq1 : Int) + 1 * (na_told : Int) = kq2
  generalize hmq5 : (mkRowStringS kq1 na_told).map cS = mq5
  cbv
  try simp only [nc] at *
  rw [← hQ]
  refine endP_rows rfl (int_eq (by omega)) ?_ (by simp)
  intro r R hR
  rcases r with _ | r
  · refine ⟨_, _, _, rfl, ?_⟩
    rw [← hmq0]
    try simp only [← hkq0, ← hkq1, ← hkq2]
    rfl
  rcases r with _ | r
  · refine ⟨_, _, _, rfl, ?_⟩
    rw [← hmq1]
    try simp only [← hkq0, ← hkq1, ← hkq2]
    rfl
  rcases r with _ | r
  · refine ⟨_, _, _, rfl, ?_⟩
    rw [← hmq2]
    try simp only [← hkq0, ← hkq1, ← hkq2]
    rfl
  rcases r with _ | r
  · refine ⟨_, _, _, rfl, ?_⟩
    rw [← hmq3]
    try simp only [← hkq0, ← hkq1, ← hkq2]
    rfl
  rcases r with _ | r
  · refine ⟨_, _, _, rfl, ?_⟩
    rw [← hmq4]
    try simp only [← hkq0, ← hkq1, ← hkq2]
    rfl
  rcases r with _ | r
  · refine ⟨_, _, _, rfl, ?_⟩
    rw [← hmq5]
    try simp only [← hkq0, ← hkq1, ← hkq2]
    rfl
  simp at hR
end Go.Proofs.Ytamdgfklbjoaiaa.Ab
