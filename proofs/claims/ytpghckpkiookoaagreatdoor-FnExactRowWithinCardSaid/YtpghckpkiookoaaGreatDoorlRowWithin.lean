/- What functions of the program come to, for all arguments in the given bounds. -/
import Derived.Test.YtpghckpkiookoaaGreatDoorlw
set_option linter.unusedVariables false
set_option linter.unusedSimpArgs false
namespace Go.Proofs.YtpghckpkiookoaaGreatDoor.Ab
open Go Go.Proofs
set_option maxRecDepth 20000
set_option maxHeartbeats 4000000
set_option linter.unusedSimpArgs false
set_option linter.unusedVariables false
noncomputable def c28 : Code := (Tryz.f28.body).getD .skip
theorem ent28 : Entered Tryz.prog 28 := ⟨_, Tryz.func28, rfl, rfl⟩
theorem T28 {aW_set_room : Int} {aW_set_version : Int} {aW_set_stride : Int} {aW_set_roll : Int} {aW_disk_nodes : List TNode} {xaW_disk_nodes : List (List D)} (haW_disk_nodes : aW_disk_nodes.map eNode = xaW_disk_nodes) {aW_disk_entries : List TEntry} {xaW_disk_entries : List (List D)} (haW_disk_entries : aW_disk_entries.map eEntry = xaW_disk_entries) {aW_disk_old : List TEntry} {xaW_disk_old : List (List D)} (haW_disk_old : aW_disk_old.map eEntry = xaW_disk_old) {aW_disk_steps : List ByteArray} {xaW_disk_steps : List (List D)} (haW_disk_steps : aW_disk_steps.map cS = xaW_disk_steps) {aW_disk_room : Int} {aW_disk_next : Int} {aW_writer_version : Int} {aW_writer_stride : Int} {aW_writer_roll : Int} {aW_writer_base : Int} {aW_writer_link : Int} {aW_writer_offsets : List Int} {xaW_writer_offsets : List (List D)} (haW_writer_offsets : aW_writer_offsets.map cI = xaW_writer_offsets) {aW_writer_end : Int} {aW_writer_open : Bool} {aW_writer_code : Int} {aW_told : List ByteArray} {xaW_told : List (List D)} (haW_told : aW_told.map cS = xaW_told) {aW_sure : Int} {aW_falls : Int} (hb : totWorld ⟨⟨aW_set_room, aW_set_version, aW_set_stride, aW_set_roll⟩, ⟨aW_disk_nodes, aW_disk_entries, aW_disk_old, aW_disk_steps, aW_disk_room, aW_disk_next⟩, ⟨aW_writer_version, aW_writer_stride, aW_writer_roll, aW_writer_base, aW_writer_link, aW_writer_offsets, aW_writer_end, aW_writer_open, aW_writer_code⟩, aW_told, aW_sure, aW_falls⟩ ≤ 1048576) : CallOk Tryz.prog 28 [.agg [.d (.sc (.int .i64 aW_set_room)), .d (.sc (.int .i64 aW_set_version)), .d (.sc (.int .i64 aW_set_stride)), .d (.sc (.int .i64 aW_set_roll)), .d (.row 3 xaW_disk_nodes), .d (.row 2 xaW_disk_entries), .d (.row 2 xaW_disk_old), .d (.row 1 xaW_disk_steps), .d (.sc (.int .i64 aW_disk_room)), .d (.sc (.int .i64 aW_disk_next)), .d (.sc (.int .i64 aW_writer_version)), .d (.sc (.int .i64 aW_writer_stride)), .d (.sc (.int .i64 aW_writer_roll)), .d (.sc (.int .i64 aW_writer_base)), .d (.sc (.int .i64 aW_writer_link)), .d (.row 1 xaW_writer_offsets), .d (.sc (.int .i64 aW_writer_end)), .d (.sc (.bool aW_writer_open)), .d (.sc (.int .i64 aW_writer_code)), .d (.row 1 xaW_told), .d (.sc (.int .i64 aW_sure)), .d (.sc (.int .i64 aW_falls))]] [] ⟨.d (.sc (.bool (rRowWithin (⟨⟨aW_set_room, aW_set_version, aW_set_stride, aW_set_roll⟩, ⟨aW_disk_nodes, aW_disk_entries, aW_disk_old, aW_disk_steps, aW_disk_room, aW_disk_next⟩, ⟨aW_writer_version, aW_writer_stride, aW_writer_roll, aW_writer_base, aW_writer_link, aW_writer_offsets, aW_writer_end, aW_writer_open, aW_writer_code⟩, aW_told, aW_sure, aW_falls⟩ : TWorld)))), [], []⟩ := by
  have h1 := totDisk_nn (⟨⟨aW_set_room, aW_set_version, aW_set_stride, aW_set_roll⟩, ⟨aW_disk_nodes, aW_disk_entries, aW_disk_old, aW_disk_steps, aW_disk_room, aW_disk_next⟩, ⟨aW_writer_version, aW_writer_stride, aW_writer_roll, aW_writer_base, aW_writer_link, aW_writer_offsets, aW_writer_end, aW_writer_open, aW_writer_code⟩, aW_told, aW_sure, aW_falls⟩ : TWorld).disk_
  have h2 := totWriter_nn (⟨⟨aW_set_room, aW_set_version, aW_set_stride, aW_set_roll⟩, ⟨aW_disk_nodes, aW_disk_entries, aW_disk_old, aW_disk_steps, aW_disk_room, aW_disk_next⟩, ⟨aW_writer_version, aW_writer_stride, aW_writer_roll, aW_writer_base, aW_writer_link, aW_writer_offsets, aW_writer_end, aW_writer_open, aW_writer_code⟩, aW_told, aW_sure, aW_falls⟩ : TWorld).writer_
  have h3 := totStringS_nn (⟨⟨aW_set_room, aW_set_version, aW_set_stride, aW_set_roll⟩, ⟨aW_disk_nodes, aW_disk_entries, aW_disk_old, aW_disk_steps, aW_disk_room, aW_disk_next⟩, ⟨aW_writer_version, aW_writer_stride, aW_writer_roll, aW_writer_base, aW_writer_link, aW_writer_offsets, aW_writer_end, aW_writer_open, aW_writer_code⟩, aW_told, aW_sure, aW_falls⟩ : TWorld).told_
  have hb2 : totDisk (⟨⟨aW_set_room, aW_set_version, aW_set_stride, aW_set_roll⟩, ⟨aW_disk_nodes, aW_disk_entries, aW_disk_old, aW_disk_steps, aW_disk_room, aW_disk_next⟩, ⟨aW_writer_version, aW_writer_stride, aW_writer_roll, aW_writer_base, aW_writer_link, aW_writer_offsets, aW_writer_end, aW_writer_open, aW_writer_code⟩, aW_told, aW_sure, aW_falls⟩ : TWorld).disk_ ≤ 1048576 := by unfold totWorld at hb; omega
  exact (FsRowWithin haW_disk_nodes haW_disk_entries haW_disk_old haW_disk_steps haW_writer_offsets haW_told (okD_of hb2) rfl).ok
noncomputable def c30 : Code := (Tryz.f30.body).getD .skip
theorem ent30 : Entered Tryz.prog 30 := ⟨_, Tryz.func30, rfl, rfl⟩
theorem T30 {aW_set_room : Int} {aW_set_version : Int} {aW_set_stride : Int} {aW_set_roll : Int} {aW_disk_nodes : List TNode} {xaW_disk_nodes : List (List D)} (haW_disk_nodes : aW_disk_nodes.map eNode = xaW_disk_nodes) {aW_disk_entries : List TEntry} {xaW_disk_entries : List (List D)} (haW_disk_entries : aW_disk_entries.map eEntry = xaW_disk_entries) {aW_disk_old : List TEntry} {xaW_disk_old : List (List D)} (haW_disk_old : aW_disk_old.map eEntry = xaW_disk_old) {aW_disk_steps : List ByteArray} {xaW_disk_steps : List (List D)} (haW_disk_steps : aW_disk_steps.map cS = xaW_disk_steps) {aW_disk_room : Int} {aW_disk_next : Int} {aW_writer_version : Int} {aW_writer_stride : Int} {aW_writer_roll : Int} {aW_writer_base : Int} {aW_writer_link : Int} {aW_writer_offsets : List Int} {xaW_writer_offsets : List (List D)} (haW_writer_offsets : aW_writer_offsets.map cI = xaW_writer_offsets) {aW_writer_end : Int} {aW_writer_open : Bool} {aW_writer_code : Int} {aW_told : List ByteArray} {xaW_told : List (List D)} (haW_told : aW_told.map cS = xaW_told) {aW_sure : Int} {aW_falls : Int} (hb : totWorld ⟨⟨aW_set_room, aW_set_version, aW_set_stride, aW_set_roll⟩, ⟨aW_disk_nodes, aW_disk_entries, aW_disk_old, aW_disk_steps, aW_disk_room, aW_disk_next⟩, ⟨aW_writer_version, aW_writer_stride, aW_writer_roll, aW_writer_base, aW_writer_link, aW_writer_offsets, aW_writer_end, aW_writer_open, aW_writer_code⟩, aW_told, aW_sure, aW_falls⟩ ≤ 1048576) : CallOk Tryz.prog 30 [.agg [.d (.sc (.int .i64 aW_set_room)), .d (.sc (.int .i64 aW_set_version)), .d (.sc (.int .i64 aW_set_stride)), .d (.sc (.int .i64 aW_set_roll)), .d (.row 3 xaW_disk_nodes), .d (.row 2 xaW_disk_entries), .d (.row 2 xaW_disk_old), .d (.row 1 xaW_disk_steps), .d (.sc (.int .i64 aW_disk_room)), .d (.sc (.int .i64 aW_disk_next)), .d (.sc (.int .i64 aW_writer_version)), .d (.sc (.int .i64 aW_writer_stride)), .d (.sc (.int .i64 aW_writer_roll)), .d (.sc (.int .i64 aW_writer_base)), .d (.sc (.int .i64 aW_writer_link)), .d (.row 1 xaW_writer_offsets), .d (.sc (.int .i64 aW_writer_end)), .d (.sc (.bool aW_writer_open)), .d (.sc (.int .i64 aW_writer_code)), .d (.row 1 xaW_told), .d (.sc (.int .i64 aW_sure)), .d (.sc (.int .i64 aW_falls))]] [] ⟨.d (.sc (.bool (rRowWithin (⟨⟨aW_set_room, aW_set_version, aW_set_stride, aW_set_roll⟩, ⟨aW_disk_nodes, aW_disk_entries, aW_disk_old, aW_disk_steps, aW_disk_room, aW_disk_next⟩, ⟨aW_writer_version, aW_writer_stride, aW_writer_roll, aW_writer_base, aW_writer_link, aW_writer_offsets, aW_writer_end, aW_writer_open, aW_writer_code⟩, aW_told, aW_sure, aW_falls⟩ : TWorld)))), [], []⟩ := by
  have h1 := totDisk_nn (⟨⟨aW_set_room, aW_set_version, aW_set_stride, aW_set_roll⟩, ⟨aW_disk_nodes, aW_disk_entries, aW_disk_old, aW_disk_steps, aW_disk_room, aW_disk_next⟩, ⟨aW_writer_version, aW_writer_stride, aW_writer_roll, aW_writer_base, aW_writer_link, aW_writer_offsets, aW_writer_end, aW_writer_open, aW_writer_code⟩, aW_told, aW_sure, aW_falls⟩ : TWorld).disk_
  have h2 := totWriter_nn (⟨⟨aW_set_room, aW_set_version, aW_set_stride, aW_set_roll⟩, ⟨aW_disk_nodes, aW_disk_entries, aW_disk_old, aW_disk_steps, aW_disk_room, aW_disk_next⟩, ⟨aW_writer_version, aW_writer_stride, aW_writer_roll, aW_writer_base, aW_writer_link, aW_writer_offsets, aW_writer_end, aW_writer_open, aW_writer_code⟩, aW_told, aW_sure, aW_falls⟩ : TWorld).writer_
  have h3 := totStringS_nn (⟨⟨aW_set_room, aW_set_version, aW_set_stride, aW_set_roll⟩, ⟨aW_disk_nodes, aW_disk_entries, aW_disk_old, aW_disk_steps, aW_disk_room, aW_disk_next⟩, ⟨aW_writer_version, aW_writer_stride, aW_writer_roll, aW_writer_base, aW_writer_link, aW_writer_offsets, aW_writer_end, aW_writer_open, aW_writer_code⟩, aW_told, aW_sure, aW_falls⟩ : TWorld).told_
  have hb2 : totDisk (⟨⟨aW_set_room, aW_set_version, aW_set_stride, aW_set_roll⟩, ⟨aW_disk_nodes, aW_disk_entries, aW_disk_old, aW_disk_steps, aW_disk_room, aW_disk_next⟩, ⟨aW_writer_version, aW_writer_stride, aW_writer_roll, aW_writer_base, aW_writer_link, aW_writer_offsets, aW_writer_end, aW_writer_open, aW_writer_code⟩, aW_told, aW_sure, aW_falls⟩ : TWorld).disk_ ≤ 1048576 := by unfold totWorld at hb; omega
  exact (FiRowWithin haW_disk_nodes haW_disk_entries haW_disk_old haW_disk_steps haW_writer_offsets haW_told (okD_of hb2) rfl).ok
noncomputable def c9 : Code := (Tryz.f9.body).getD .skip
theorem ent9 : Entered Tryz.prog 9 := ⟨_, Tryz.func9, rfl, rfl⟩
theorem T9 {aW_set_room : Int} {aW_set_version : Int} {aW_set_stride : Int} {aW_set_roll : Int} {aW_disk_nodes : List TNode} {xaW_disk_nodes : List (List D)} (haW_disk_nodes : aW_disk_nodes.map eNode = xaW_disk_nodes) {aW_disk_entries : List TEntry} {xaW_disk_entries : List (List D)} (haW_disk_entries : aW_disk_entries.map eEntry = xaW_disk_entries) {aW_disk_old : List TEntry} {xaW_disk_old : List (List D)} (haW_disk_old : aW_disk_old.map eEntry = xaW_disk_old) {aW_disk_steps : List ByteArray} {xaW_disk_steps : List (List D)} (haW_disk_steps : aW_disk_steps.map cS = xaW_disk_steps) {aW_disk_room : Int} {aW_disk_next : Int} {aW_writer_version : Int} {aW_writer_stride : Int} {aW_writer_roll : Int} {aW_writer_base : Int} {aW_writer_link : Int} {aW_writer_offsets : List Int} {xaW_writer_offsets : List (List D)} (haW_writer_offsets : aW_writer_offsets.map cI = xaW_writer_offsets) {aW_writer_end : Int} {aW_writer_open : Bool} {aW_writer_code : Int} {aW_told : List ByteArray} {xaW_told : List (List D)} (haW_told : aW_told.map cS = xaW_told) {aW_sure : Int} {aW_falls : Int} (ok_aW : okWorld ⟨⟨aW_set_room, aW_set_version, aW_set_stride, aW_set_roll⟩, ⟨aW_disk_nodes, aW_disk_entries, aW_disk_old, aW_disk_steps, aW_disk_room, aW_disk_next⟩, ⟨aW_writer_version, aW_writer_stride, aW_writer_roll, aW_writer_base, aW_writer_link, aW_writer_offsets, aW_writer_end, aW_writer_open, aW_writer_code⟩, aW_told, aW_sure, aW_falls⟩) (wf_aW : wfWorld ⟨⟨aW_set_room, aW_set_version, aW_set_stride, aW_set_roll⟩, ⟨aW_disk_nodes, aW_disk_entries, aW_disk_old, aW_disk_steps, aW_disk_room, aW_disk_next⟩, ⟨aW_writer_version, aW_writer_stride, aW_writer_roll, aW_writer_base, aW_writer_link, aW_writer_offsets, aW_writer_end, aW_writer_open, aW_writer_code⟩, aW_told, aW_sure, aW_falls⟩) : CallOk Tryz.prog 9 [.agg [.d (.sc (.int .i64 aW_set_room)), .d (.sc (.int .i64 aW_set_version)), .d (.sc (.int .i64 aW_set_stride)), .d (.sc (.int .i64 aW_set_roll)), .d (.row 3 xaW_disk_nodes), .d (.row 2 xaW_disk_entries), .d (.row 2 xaW_disk_old), .d (.row 1 xaW_disk_steps), .d (.sc (.int .i64 aW_disk_room)), .d (.sc (.int .i64 aW_disk_next)), .d (.sc (.int .i64 aW_writer_version)), .d (.sc (.int .i64 aW_writer_stride)), .d (.sc (.int .i64 aW_writer_roll)), .d (.sc (.int .i64 aW_writer_base)), .d (.sc (.int .i64 aW_writer_link)), .d (.row 1 xaW_writer_offsets), .d (.sc (.int .i64 aW_writer_end)), .d (.sc (.bool aW_writer_open)), .d (.sc (.int .i64 aW_writer_code)), .d (.row 1 xaW_told), .d (.sc (.int .i64 aW_sure)), .d (.sc (.int .i64 aW_falls))]] [] ⟨.d (.sc (.bool true)), [], []⟩ := by
  have ent27_ := ent27
  have T27_ := @T27
  have ent28_ := ent28
  have T28_ := @T28
  have ent29_ := ent29
  have T29_ := @T29
  have ent30_ := ent30
  have T30_ := @T30
  have ent31_ := ent31
  have T31_ := @T31
  refine CallOk.of_bodyD (body := c9) Tryz.func9 rfl (Nat.le_of_ble_eq_true (by kernel_rfl)) rfl ?_
  refine vc_ok tab_ok mixed ?_
  have hT := tab_ok
  have hm := mixed
  generalize hP : Tryz.prog = P at *
  generalize hA : std = A
  obtain ⟨qbin, qsh, qcmp, qscmp, qbcmp, qbnot, qneg, qwrap, qcat, qssize, qssub, qsget, qlen, qrsub, qapp, qelt, qset, qnth, qdrp, qstr, qint, qbool, qrow, qnat, qnadd, qnsub, qband, qofNat, qstrRow, qmkRow, qmx, qmn, qbytes, qemp⟩ := A
  have hE := Ar.eqs hA
  dsimp only at hE
  generalize hQ : EndD P Tryz.f9.results _ = Q
  have hself : (∀ v : Int, qcmp .neq v v = false) ∧ (∀ v : ByteArray, qscmp .neq v v = false) ∧ (∀ v : Bool, qbnot (qbcmp v v) = false) ∧ qbnot true = false := by
    refine ⟨fun v => ?_, fun v => ?_, fun v => ?_, ?_⟩ <;> simp only [hE, std_neq, std_sneq, std_bcmp, std_not] <;> simp
  obtain ⟨hself1, hself2, hself3, hself4⟩ := hself
  cbv
  try simp only [nc] at *
  refine ClW.dd (f := 27) rfl rfl rfl rfl (.cons rfl (.cons rfl .nil)) rfl ent27_ (T27_ haW_disk_nodes haW_disk_entries haW_disk_old haW_disk_steps haW_writer_offsets haW_told (by omega) (by omega) ok_aW) rfl ?_
  generalize hl0 : szOf (totWorld (⟨⟨aW_set_room, aW_set_version, aW_set_stride, aW_set_roll⟩, ⟨aW_disk_nodes, aW_disk_entries, aW_disk_old, aW_disk_steps, aW_disk_room, aW_disk_next⟩, ⟨aW_writer_version, aW_writer_stride, aW_writer_roll, aW_writer_base, aW_writer_link, aW_writer_offsets, aW_writer_end, aW_writer_open, aW_writer_code⟩, aW_told, aW_sure, aW_falls⟩ : TWorld)) 1048576 = left0
  cbv
  try simp only [nc] at *
  split
  · cbv
    try simp only [nc] at *
    rw [← hQ]
    exact endD_one rfl rfl
  rename_i c1
  simp only [hE, List.length_map, std_lss, std_leq, std_gtr, std_geq, std_eql, std_neq, std_len, std_add, std_subI, std_mulI, std_ssize, std_not, std_band, std_bcmp, std_nat, std_ofNat, std_nadd, std_nsub, std_emp, IntKind.wrap_i64, decide_eq_true_eq, decide_eq_false_iff_not, Bool.not_eq_true', Bool.not_eq_false', Option.getD_none, Option.getD_some] at c1
  obtain ⟨g0, g0'⟩ := szOf_ge (t := totWorld (⟨⟨aW_set_room, aW_set_version, aW_set_stride, aW_set_roll⟩, ⟨aW_disk_nodes, aW_disk_entries, aW_disk_old, aW_disk_steps, aW_disk_room, aW_disk_next⟩, ⟨aW_writer_version, aW_writer_stride, aW_writer_roll, aW_writer_base, aW_writer_link, aW_writer_offsets, aW_writer_end, aW_writer_open, aW_writer_code⟩, aW_told, aW_sure, aW_falls⟩ : TWorld)) (left := 1048576) (by omega)
  have nn0 := totWorld_nn (⟨⟨aW_set_room, aW_set_version, aW_set_stride, aW_set_roll⟩, ⟨aW_disk_nodes, aW_disk_entries, aW_disk_old, aW_disk_steps, aW_disk_room, aW_disk_next⟩, ⟨aW_writer_version, aW_writer_stride, aW_writer_roll, aW_writer_base, aW_writer_link, aW_writer_offsets, aW_writer_end, aW_writer_open, aW_writer_code⟩, aW_told, aW_sure, aW_falls⟩ : TWorld)
  have bd_aW : totWorld (⟨⟨aW_set_room, aW_set_version, aW_set_stride, aW_set_roll⟩, ⟨aW_disk_nodes, aW_disk_entries, aW_disk_old, aW_disk_steps, aW_disk_room, aW_disk_next⟩, ⟨aW_writer_version, aW_writer_stride, aW_writer_roll, aW_writer_base, aW_writer_link, aW_writer_offsets, aW_writer_end, aW_writer_open, aW_writer_code⟩, aW_told, aW_sure, aW_falls⟩ : TWorld) ≤ 1048576 := by omega
  cbv
  try simp only [nc] at *
  refine ClW.dd (f := 29) rfl rfl rfl rfl (.cons rfl .nil) rfl ent29_ (T29_ haW_disk_nodes haW_disk_entries haW_disk_old haW_disk_steps haW_writer_offsets haW_told bd_aW) rfl ?_
  cbv
  try simp only [nc] at *
  refine ClW.dd (f := 28) rfl rfl rfl rfl (.cons rfl .nil) rfl ent28_ (T28_ haW_disk_nodes haW_disk_entries haW_disk_old haW_disk_steps haW_writer_offsets haW_told bd_aW) rfl ?_
  generalize hr : rRowWithin (⟨⟨aW_set_room, aW_set_version, aW_set_stride, aW_set_roll⟩, ⟨aW_disk_nodes, aW_disk_entries, aW_disk_old, aW_disk_steps, aW_disk_room, aW_disk_next⟩, ⟨aW_writer_version, aW_writer_stride, aW_writer_roll, aW_writer_base, aW_writer_link, aW_writer_offsets, aW_writer_end, aW_writer_open, aW_writer_code⟩, aW_told, aW_sure, aW_falls⟩ : TWorld) = r
  cbv
  try simp only [nc] at *
  refine ClW.dd (f := 29) rfl rfl rfl rfl (.cons rfl .nil) rfl ent29_ (T29_ haW_disk_nodes haW_disk_entries haW_disk_old haW_disk_steps haW_writer_offsets haW_told bd_aW) rfl ?_
  cbv
  try simp only [nc] at *
  refine ClW.dd (f := 30) rfl rfl rfl rfl (.cons rfl .nil) rfl ent30_ (T30_ haW_disk_nodes haW_disk_entries haW_disk_old haW_disk_steps haW_writer_offsets haW_told bd_aW) rfl ?_
  rw [hr]
  cbv
  try simp only [nc] at *
  rw [hself3]
  cbv
  try simp only [nc] at *
  refine ClW.dd (f := 29) rfl rfl rfl rfl (.cons rfl .nil) rfl ent29_ (T29_ haW_disk_nodes haW_disk_entries haW_disk_old haW_disk_steps haW_writer_offsets haW_told bd_aW) rfl ?_
  cbv
  try simp only [nc] at *
  refine ClW.dd (f := 31) rfl rfl rfl rfl (.cons rfl (.cons rfl .nil)) rfl ent31_ (T31_ haW_disk_nodes haW_disk_entries haW_disk_old haW_disk_steps haW_writer_offsets haW_told (by omega)) rfl ?_
  cbv
  try simp only [nc] at *
  rw [hself4]
  cbv
  try simp only [nc] at *
  rw [← hQ]
  exact endD_one rfl rfl
end Go.Proofs.YtpghckpkiookoaaGreatDoor.Ab
