/- What functions of the program come to, for all arguments in the given bounds. -/
import Derived.Test.YtamdgfklbjoaiaaCO
set_option linter.unusedVariables false
set_option linter.unusedSimpArgs false
namespace Go.Proofs.Ytamdgfklbjoaiaa.Ab
open Go Go.Proofs
set_option maxRecDepth 20000
theorem T35R {a_nodes : List TNode} {xa_nodes : List (List D)} (ha_nodes : a_nodes.map eNode = xa_nodes) {a_entries : List TEntry} {xa_entries : List (List D)} (ha_entries : a_entries.map eEntry = xa_entries) {a_old : List TEntry} {xa_old : List (List D)} (ha_old : a_old.map eEntry = xa_old) {a_steps : List ByteArray} {xa_steps : List (List D)} (ha_steps : a_steps.map cS = xa_steps) {a_room : Int} {a_next : Int} {na_nodes : Nat} (hna_nodes : na_nodes = a_nodes.length) {na_entries : Nat} (hna_entries : na_entries = a_entries.length) {na_old : Nat} (hna_old : na_old = a_old.length) {na_steps : Nat} (hna_steps : na_steps = a_steps.length) (hb : totDisk ⟨a_nodes, a_entries, a_old, a_steps, a_room, a_next⟩ ≤ 1048576) : CallOk Try.prog 35 [.agg [.d (.row 3 xa_nodes), .d (.row 2 xa_entries), .d (.row 2 xa_old), .d (.row 1 xa_steps), .d (.sc (.int .i64 a_room)), .d (.sc (.int .i64 a_next))]] [] ⟨.agg [.ref 0 0 na_nodes, .ref 1 0 na_entries, .ref 2 0 na_old, .ref 3 0 na_steps, .d (.sc (.int .i64 a_room)), .d (.sc (.int .i64 a_next))], [.row 3 false xa_nodes, .row 2 false xa_entries, .row 2 false xa_old, .row 1 false xa_steps], []⟩ := by
  have ent69_ := ent69
  have T69_ := @T69
  have ent70_ := ent70
  have T70_ := @T70
  have ent71_ := ent71
  have T71_ := @T71
  have T69_R := @T69R
  have T70_R := @T70R
  have T70_R := @T70R
  have T71_R := @T71R
  have nna_nodes := totNodeS_nn a_nodes
  have nna_entries := totEntryS_nn a_entries
  have nna_old := totEntryS_nn a_old
  have nna_steps := totStringS_nn a_steps
  have hb' : totNodeS a_nodes + totEntryS a_entries + totEntryS a_old + totStringS a_steps ≤ 1048576 := hb
  refine CallOk.of_body (body := c35) Try.func35 rfl (Nat.le_of_ble_eq_true (by kernel_rfl)) rfl rfl ?_
  refine vc_ok tab_ok mixed ?_
  have hT := tab_ok
  have hm := mixed
  generalize hP : Try.prog = P at *
  generalize hA : std = A
  obtain ⟨qbin, qsh, qcmp, qscmp, qbcmp, qbnot, qneg, qwrap, qcat, qssize, qssub, qsget, qlen, qrsub, qapp, qelt, qset, qnth, qdrp, qstr, qint, qbool, qrow, qnat, qnadd, qnsub, qband, qofNat, qstrRow, qmkRow, qmx, qmn, qbytes, qemp⟩ := A
  have hE := Ar.eqs hA
  dsimp only at hE
  generalize hQ : EndQ P Try.f35.results [] _ = Q
  cbv
  try simp only [nc] at *
  refine ClW.lntR (f := 69) rfl rfl rfl rfl (.cons rfl .nil) (.d rfl .nil) ent69_ (T69_R ha_nodes (by omega)) (by rw [← ha_nodes]; exact flat_map (fun _ => rfl) _) ?_
  rw [← hna_nodes]
  cbv
  try simp only [nc] at *
  refine ClW.lntR (f := 70) rfl rfl rfl rfl (.cons rfl .nil) (.d rfl .nil) ent70_ (T70_R ha_entries (by omega)) (by rw [← ha_entries]; exact flat_map (fun _ => rfl) _) ?_
  rw [← hna_entries]
  cbv
  try simp only [nc] at *
  refine ClW.lntR (f := 70) rfl rfl rfl rfl (.cons rfl .nil) (.d rfl .nil) ent70_ (T70_R ha_old (by omega)) (by rw [← ha_old]; exact flat_map (fun _ => rfl) _) ?_
  rw [← hna_old]
  cbv
  try simp only [nc] at *
  refine ClW.lntR (f := 71) rfl rfl rfl rfl (.cons rfl .nil) (.d rfl .nil) ent71_ (T71_R ha_steps (by omega)) (by rw [← ha_steps]; exact flat_map (fun _ => rfl) _) ?_
  rw [← hna_steps]
  cbv
  try simp only [nc] at *
  rw [← hQ]
  refine ⟨[11, 12, 13, 14], [.agg [.ref 11 0 na_nodes, .ref 12 0 na_entries, .ref 13 0 na_old, .ref 14 0 na_steps, .d (.sc (.int .i64 a_room)), .d (.sc (.int .i64 a_next))]], ?_, rfl, by simp, by simp, rfl, ?_, by simp, by simp⟩
  · show resAll P _ [ResultVar.cell 2 57] = _
    simp only [resAll, resOne]
    rw [show aggT P 57 = some true from (congrArg TyRow.agg (hT 57 _ (show tabGet tab 57 = some _ from rfl))).symm, show szT P 57 = some 6 from (congrArg TyRow.sz (hT 57 _ (show tabGet tab 57 = some _ from rfl))).symm]
    rfl
  · intro k i R hk hR
    rcases k with _ | k
    · simp at hk hR
      subst hk hR
      exact ⟨_, rfl, rfl⟩
    rcases k with _ | k
    · simp at hk hR
      subst hk hR
      exact ⟨_, rfl, rfl⟩
    rcases k with _ | k
    · simp at hk hR
      subst hk hR
      exact ⟨_, rfl, rfl⟩
    rcases k with _ | k
    · simp at hk hR
      subst hk hR
      exact ⟨_, rfl, rfl⟩
    simp at hk
theorem T40R {a_version : Int} {a_stride : Int} {a_roll : Int} {a_base : Int} {a_link : Int} {a_offsets : List Int} {xa_offsets : List (List D)} (ha_offsets : a_offsets.map cI = xa_offsets) {a_end : Int} {a_open : Bool} {a_code : Int} {na_offsets : Nat} (hna_offsets : na_offsets = a_offsets.length) (hb : totWriter ⟨a_version, a_stride, a_roll, a_base, a_link, a_offsets, a_end, a_open, a_code⟩ ≤ 1048576) : CallOk Try.prog 40 [.agg [.d (.sc (.int .i64 a_version)), .d (.sc (.int .i64 a_stride)), .d (.sc (.int .i64 a_roll)), .d (.sc (.int .i64 a_base)), .d (.sc (.int .i64 a_link)), .d (.row 1 xa_offsets), .d (.sc (.int .i64 a_end)), .d (.sc (.bool a_open)), .d (.sc (.int .i64 a_code))]] [] ⟨.agg [.d (.sc (.int .i64 a_version)), .d (.sc (.int .i64 a_stride)), .d (.sc (.int .i64 a_roll)), .d (.sc (.int .i64 a_base)), .d (.sc (.int .i64 a_link)), .ref 0 0 na_offsets, .d (.sc (.int .i64 a_end)), .d (.sc (.bool a_open)), .d (.sc (.int .i64 a_code))], [.row 1 false xa_offsets], []⟩ := by
  have ent16_ := ent16
  have T16_ := @T16
  have T16_R := @T16R
  have nna_offsets := totIntS_nn a_offsets
  have hb' : totIntS a_offsets ≤ 1048576 := hb
  refine CallOk.of_body (body := c40) Try.func40 rfl (Nat.le_of_ble_eq_true (by kernel_rfl)) rfl rfl ?_
  refine vc_ok tab_ok mixed ?_
  have hT := tab_ok
  have hm := mixed
  generalize hP : Try.prog = P at *
  generalize hA : std = A
  obtain ⟨qbin, qsh, qcmp, qscmp, qbcmp, qbnot, qneg, qwrap, qcat, qssize, qssub, qsget, qlen, qrsub, qapp, qelt, qset, qnth, qdrp, qstr, qint, qbool, qrow, qnat, qnadd, qnsub, qband, qofNat, qstrRow, qmkRow, qmx, qmn, qbytes, qemp⟩ := A
  have hE := Ar.eqs hA
  dsimp only at hE
  generalize hQ : EndQ P Try.f40.results [] _ = Q
  cbv
  try simp only [nc] at *
  refine ClW.lntR (f := 16) rfl rfl rfl rfl (.cons rfl .nil) (.d rfl .nil) ent16_ (T16_R ha_offsets (by omega)) (by rw [← ha_offsets]; exact flat_map (fun _ => rfl) _) ?_
  rw [← hna_offsets]
  cbv
  try simp only [nc] at *
  rw [← hQ]
  refine ⟨[5], [.agg [.d (.sc (.int .i64 a_version)), .d (.sc (.int .i64 a_stride)), .d (.sc (.int .i64 a_roll)), .d (.sc (.int .i64 a_base)), .d (.sc (.int .i64 a_link)), .ref 5 0 na_offsets, .d (.sc (.int .i64 a_end)), .d (.sc (.bool a_open)), .d (.sc (.int .i64 a_code))]], ?_, rfl, by simp, by simp, rfl, ?_, by simp, by simp⟩
  · show resAll P _ [ResultVar.cell 2 65] = _
    simp only [resAll, resOne]
    rw [show aggT P 65 = some true from (congrArg TyRow.agg (hT 65 _ (show tabGet tab 65 = some _ from rfl))).symm, show szT P 65 = some 9 from (congrArg TyRow.sz (hT 65 _ (show tabGet tab 65 = some _ from rfl))).symm]
    rfl
  · intro k i R hk hR
    rcases k with _ | k
    · simp at hk hR
      subst hk hR
      exact ⟨_, rfl, rfl⟩
    simp at hk
theorem T45R {a_set_room : Int} {a_set_version : Int} {a_set_stride : Int} {a_set_roll : Int} {a_disk_nodes : List TNode} {xa_disk_nodes : List (List D)} (ha_disk_nodes : a_disk_nodes.map eNode = xa_disk_nodes) {a_disk_entries : List TEntry} {xa_disk_entries : List (List D)} (ha_disk_entries : a_disk_entries.map eEntry = xa_disk_entries) {a_disk_old : List TEntry} {xa_disk_old : List (List D)} (ha_disk_old : a_disk_old.map eEntry = xa_disk_old) {a_disk_steps : List ByteArray} {xa_disk_steps : List (List D)} (ha_disk_steps : a_disk_steps.map cS = xa_disk_steps) {a_disk_room : Int} {a_disk_next : Int} {a_writer_version : Int} {a_writer_stride : Int} {a_writer_roll : Int} {a_writer_base : Int} {a_writer_link : Int} {a_writer_offsets : List Int} {xa_writer_offsets : List (List D)} (ha_writer_offsets : a_writer_offsets.map cI = xa_writer_offsets) {a_writer_end : Int} {a_writer_open : Bool} {a_writer_code : Int} {a_told : List ByteArray} {xa_told : List (List D)} (ha_told : a_told.map cS = xa_told) {a_sure : Int} {a_falls : Int} {na_disk_nodes : Nat} (hna_disk_nodes : na_disk_nodes = a_disk_nodes.length) {na_disk_entries : Nat} (hna_disk_entries : na_disk_entries = a_disk_entries.length) {na_disk_old : Nat} (hna_disk_old : na_disk_old = a_disk_old.length) {na_disk_steps : Nat} (hna_disk_steps : na_disk_steps = a_disk_steps.length) {na_writer_offsets : Nat} (hna_writer_offsets : na_writer_offsets = a_writer_offsets.length) {na_told : Nat} (hna_told : na_told = a_told.length) (hb : totWorld ⟨⟨a_set_room, a_set_version, a_set_stride, a_set_roll⟩, ⟨a_disk_nodes, a_disk_entries, a_disk_old, a_disk_steps, a_disk_room, a_disk_next⟩, ⟨a_writer_version, a_writer_stride, a_writer_roll, a_writer_base, a_writer_link, a_writer_offsets, a_writer_end, a_writer_open, a_writer_code⟩, a_told, a_sure, a_falls⟩ ≤ 1048576) : CallOk Try.prog 45 [.agg [.d (.sc (.int .i64 a_set_room)), .d (.sc (.int .i64 a_set_version)), .d (.sc (.int .i64 a_set_stride)), .d (.sc (.int .i64 a_set_roll)), .d (.row 3 xa_disk_nodes), .d (.row 2 xa_disk_entries), .d (.row 2 xa_disk_old), .d (.row 1 xa_disk_steps), .d (.sc (.int .i64 a_disk_room)), .d (.sc (.int .i64 a_disk_next)), .d (.sc (.int .i64 a_writer_version)), .d (.sc (.int .i64 a_writer_stride)), .d (.sc (.int .i64 a_writer_roll)), .d (.sc (.int .i64 a_writer_base)), .d (.sc (.int .i64 a_writer_link)), .d (.row 1 xa_writer_offsets), .d (.sc (.int .i64 a_writer_end)), .d (.sc (.bool a_writer_open)), .d (.sc (.int .i64 a_writer_code)), .d (.row 1 xa_told), .d (.sc (.int .i64 a_sure)), .d (.sc (.int .i64 a_falls))]] [] ⟨.agg [.d (.sc (.int .i64 a_set_room)), .d (.sc (.int .i64 a_set_version)), .d (.sc (.int .i64 a_set_stride)), .d (.sc (.int .i64 a_set_roll)), .ref 0 0 na_disk_nodes, .ref 1 0 na_disk_entries, .ref 2 0 na_disk_old, .ref 3 0 na_disk_steps, .d (.sc (.int .i64 a_disk_room)), .d (.sc (.int .i64 a_disk_next)), .d (.sc (.int .i64 a_writer_version)), .d (.sc (.int .i64 a_writer_stride)), .d (.sc (.int .i64 a_writer_roll)), .d (.sc (.int .i64 a_writer_base)), .d (.sc (.int .i64 a_writer_link)), .ref 4 0 na_writer_offsets, .d (.sc (.int .i64 a_writer_end)), .d (.sc (.bool a_writer_open)), .d (.sc (.int .i64 a_writer_code)), .ref 5 0 na_told, .d (.sc (.int .i64 a_sure)), .d (.sc (.int .i64 a_falls))], [.row 3 false xa_disk_nodes, .row 2 false xa_disk_entries, .row 2 false xa_disk_old, .row 1 false xa_disk_steps, .row 1 false xa_writer_offsets, .row 1 false xa_told], []⟩ := by
  have ent35_ := ent35
  have T35_ := @T35
  have ent40_ := ent40
  have T40_ := @T40
  have ent71_ := ent71
  have T71_ := @T71
  have ent85_ := ent85
  have T85_ := @T85
  have T35_R := @T35R
  have T40_R := @T40R
  have T71_R := @T71R
  have nna_disk := totDisk_nn (⟨a_disk_nodes, a_disk_entries, a_disk_old, a_disk_steps, a_disk_room, a_disk_next⟩ : TDisk)
  have nna_writer := totWriter_nn (⟨a_writer_version, a_writer_stride, a_writer_roll, a_writer_base, a_writer_link, a_writer_offsets, a_writer_end, a_writer_open, a_writer_code⟩ : TWriter)
  have nna_told := totStringS_nn a_told
  have hb' : totDisk (⟨a_disk_nodes, a_disk_entries, a_disk_old, a_disk_steps, a_disk_room, a_disk_next⟩ : TDisk) + totWriter (⟨a_writer_version, a_writer_stride, a_writer_roll, a_writer_base, a_writer_link, a_writer_offsets, a_writer_end, a_writer_open, a_writer_code⟩ : TWriter) + totStringS a_told ≤ 1048576 := hb
  refine CallOk.of_body (body := c45) Try.func45 rfl (Nat.le_of_ble_eq_true (by kernel_rfl)) rfl rfl ?_
  refine vc_ok tab_ok mixed ?_
  have hT := tab_ok
  have hm := mixed
  generalize hP : Try.prog = P at *
  generalize hA : std = A
  obtain ⟨qbin, qsh, qcmp, qscmp, qbcmp, qbnot, qneg, qwrap, qcat, qssize, qssub, qsget, qlen, qrsub, qapp, qelt, qset, qnth, qdrp, qstr, qint, qbool, qrow, qnat, qnadd, qnsub, qband, qofNat, qstrRow, qmkRow, qmx, qmn, qbytes, qemp⟩ := A
  have hE := Ar.eqs hA
  dsimp only at hE
  generalize hQ : EndQ P Try.f45.results [] _ = Q
  cbv
  try simp only [nc] at *
  refine ClW.dd (f := 85) rfl rfl rfl rfl (.cons rfl .nil) rfl ent85_ (T85_) rfl ?_
  cbv
  try simp only [nc] at *
  refine ClW.ddA (f := 35) rfl rfl rfl rfl (.cons rfl .nil) rfl ent35_ (T35_R ha_disk_nodes ha_disk_entries ha_disk_old ha_disk_steps hna_disk_nodes hna_disk_entries hna_disk_old hna_disk_steps (by omega)) rfl rfl rfl (by simp [flat_row (fun _ => rfl) ha_disk_nodes, flat_row (fun _ => rfl) ha_disk_entries, flat_row (fun _ => rfl) ha_disk_old, flat_row (fun _ => rfl) ha_disk_steps]) ?_
  cbv
  try simp only [nc] at *
  refine ClW.ddA (f := 40) rfl rfl rfl rfl (.cons rfl .nil) rfl ent40_ (T40_R ha_writer_offsets hna_writer_offsets (by omega)) rfl rfl rfl (by simp [flat_row (fun _ => rfl) ha_writer_offsets]) ?_
  cbv
  try simp only [nc] at *
  refine ClW.lntR (f := 71) rfl rfl rfl rfl (.cons rfl .nil) (.d rfl .nil) ent71_ (T71_R ha_told (by omega)) (by rw [← ha_told]; exact flat_map (fun _ => rfl) _) ?_
  rw [← hna_told]
  cbv
  try simp only [nc] at *
  rw [← hQ]
  refine ⟨[15, 16, 17, 18, 19, 20], [.agg [.d (.sc (.int .i64 a_set_room)), .d (.sc (.int .i64 a_set_version)), .d (.sc (.int .i64 a_set_stride)), .d (.sc (.int .i64 a_set_roll)), .ref 15 0 na_disk_nodes, .ref 16 0 na_disk_entries, .ref 17 0 na_disk_old, .ref 18 0 na_disk_steps, .d (.sc (.int .i64 a_disk_room)), .d (.sc (.int .i64 a_disk_next)), .d (.sc (.int .i64 a_writer_version)), .d (.sc (.int .i64 a_writer_stride)), .d (.sc (.int .i64 a_writer_roll)), .d (.sc (.int .i64 a_writer_base)), .d (.sc (.int .i64 a_writer_link)), .ref 19 0 na_writer_offsets, .d (.sc (.int .i64 a_writer_end)), .d (.sc (.bool a_writer_open)), .d (.sc (.int .i64 a_writer_code)), .ref 20 0 na_told, .d (.sc (.int .i64 a_sure)), .d (.sc (.int .i64 a_falls))]], ?_, rfl, by simp, by simp, rfl, ?_, by simp, by simp⟩
  · show resAll P _ [ResultVar.cell 2 77] = _
    simp only [resAll, resOne]
    rw [show aggT P 77 = some true from (congrArg TyRow.agg (hT 77 _ (show tabGet tab 77 = some _ from rfl))).symm, show szT P 77 = some 22 from (congrArg TyRow.sz (hT 77 _ (show tabGet tab 77 = some _ from rfl))).symm]
    rfl
  · intro k i R hk hR
    rcases k with _ | k
    · simp at hk hR
      subst hk hR
      exact ⟨_, rfl, rfl⟩
    rcases k with _ | k
    · simp at hk hR
      subst hk hR
      exact ⟨_, rfl, rfl⟩
    rcases k with _ | k
    · simp at hk hR
      subst hk hR
      exact ⟨_, rfl, rfl⟩
    rcases k with _ | k
    · simp at hk hR
      subst hk hR
      exact ⟨_, rfl, rfl⟩
    rcases k with _ | k
    · simp at hk hR
      subst hk hR
      exact ⟨_, rfl, rfl⟩
    rcases k with _ | k
    · simp at hk hR
      subst hk hR
      exact ⟨_, rfl, rfl⟩
    simp at hk
end Go.Proofs.Ytamdgfklbjoaiaa.Ab
