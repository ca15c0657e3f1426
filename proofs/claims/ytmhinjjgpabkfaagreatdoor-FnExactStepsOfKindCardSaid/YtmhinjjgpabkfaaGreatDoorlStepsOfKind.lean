/- What functions of the program come to, for all arguments in the given bounds. -/
import Derived.Test.YtmhinjjgpabkfaaGreatDoorlw
set_option linter.unusedVariables false
set_option linter.unusedSimpArgs false
namespace Go.Proofs.YtmhinjjgpabkfaaGreatDoor.Ab
open Go Go.Proofs
set_option maxRecDepth 20000
set_option maxHeartbeats 4000000
set_option linter.unusedSimpArgs false
set_option linter.unusedVariables false
theorem ent22 : Entered Tryz.prog 22 := ⟨_, Tryz.func22, rfl, rfl⟩
theorem T22 {aD_nodes : List TNode} {xaD_nodes : List (List D)} (haD_nodes : aD_nodes.map eNode = xaD_nodes) {aD_entries : List TEntry} {xaD_entries : List (List D)} (haD_entries : aD_entries.map eEntry = xaD_entries) {aD_old : List TEntry} {xaD_old : List (List D)} (haD_old : aD_old.map eEntry = xaD_old) {aD_steps : List ByteArray} {xaD_steps : List (List D)} (haD_steps : aD_steps.map cS = xaD_steps) {aD_room : Int} {aD_next : Int} {aVersion aKind : Int} (hb : totDisk ⟨aD_nodes, aD_entries, aD_old, aD_steps, aD_room, aD_next⟩ ≤ 1048576) (hv : wfI aVersion) (hk : wfI aKind) : CallOk Tryz.prog 22 [.agg [.d (.row 3 xaD_nodes), .d (.row 2 xaD_entries), .d (.row 2 xaD_old), .d (.row 1 xaD_steps), .d (.sc (.int .i64 aD_room)), .d (.sc (.int .i64 aD_next))], .d (.sc (.int .i64 aVersion)), .d (.sc (.int .i64 aKind))] [] ⟨.d (.sc (.int .i64 (rStepsOfKind (⟨aD_nodes, aD_entries, aD_old, aD_steps, aD_room, aD_next⟩ : TDisk) aVersion aKind))), [], []⟩ := by
  exact (FsStepsOfKind haD_nodes haD_entries haD_old haD_steps (okD_of hb) rfl).ok
theorem ent23 : Entered Tryz.prog 23 := ⟨_, Tryz.func23, rfl, rfl⟩
theorem T23 {aD_nodes : List TNode} {xaD_nodes : List (List D)} (haD_nodes : aD_nodes.map eNode = xaD_nodes) {aD_entries : List TEntry} {xaD_entries : List (List D)} (haD_entries : aD_entries.map eEntry = xaD_entries) {aD_old : List TEntry} {xaD_old : List (List D)} (haD_old : aD_old.map eEntry = xaD_old) {aD_steps : List ByteArray} {xaD_steps : List (List D)} (haD_steps : aD_steps.map cS = xaD_steps) {aD_room : Int} {aD_next : Int} {aVersion aKind : Int} (hb : totDisk ⟨aD_nodes, aD_entries, aD_old, aD_steps, aD_room, aD_next⟩ ≤ 1048576) (hv : wfI aVersion) (hk : wfI aKind) : CallOk Tryz.prog 23 [.agg [.d (.row 3 xaD_nodes), .d (.row 2 xaD_entries), .d (.row 2 xaD_old), .d (.row 1 xaD_steps), .d (.sc (.int .i64 aD_room)), .d (.sc (.int .i64 aD_next))], .d (.sc (.int .i64 aVersion)), .d (.sc (.int .i64 aKind))] [] ⟨.d (.sc (.int .i64 (rStepsOfKind (⟨aD_nodes, aD_entries, aD_old, aD_steps, aD_room, aD_next⟩ : TDisk) aVersion aKind))), [], []⟩ := by
  exact (FiStepsOfKind haD_nodes haD_entries haD_old haD_steps (okD_of hb) rfl).ok
noncomputable def c5 : Code := (Tryz.f5.body).getD .skip
theorem T5 {aD_nodes : List TNode} {xaD_nodes : List (List D)} (haD_nodes : aD_nodes.map eNode = xaD_nodes) {aD_entries : List TEntry} {xaD_entries : List (List D)} (haD_entries : aD_entries.map eEntry = xaD_entries) {aD_old : List TEntry} {xaD_old : List (List D)} (haD_old : aD_old.map eEntry = xaD_old) {aD_steps : List ByteArray} {xaD_steps : List (List D)} (haD_steps : aD_steps.map cS = xaD_steps) {aD_room : Int} {aD_next : Int} {aVersion : Int} {aKind : Int} (ok_aD : okDisk ⟨aD_nodes, aD_entries, aD_old, aD_steps, aD_room, aD_next⟩) (wf_aD : wfDisk ⟨aD_nodes, aD_entries, aD_old, aD_steps, aD_room, aD_next⟩) (wf_aVersion : wfI aVersion) (wf_aKind : wfI aKind) : CallOk Tryz.prog 5 [.agg [.d (.row 3 xaD_nodes), .d (.row 2 xaD_entries), .d (.row 2 xaD_old), .d (.row 1 xaD_steps), .d (.sc (.int .i64 aD_room)), .d (.sc (.int .i64 aD_next))], .d (.sc (.int .i64 aVersion)), .d (.sc (.int .i64 aKind))] [] ⟨.d (.sc (.bool true)), [], []⟩ := by
  have ent17_ := ent17
  have T17_ := @T17
  have ent19_ := ent19
  have T19_ := @T19
  have ent21_ := ent21
  have T21_ := @T21
  have ent22_ := ent22
  have T22_ := @T22
  have ent23_ := ent23
  have T23_ := @T23
  refine CallOk.of_bodyD (body := c5) Tryz.func5 rfl (Nat.le_of_ble_eq_true (by kernel_rfl)) rfl ?_
  refine vc_ok tab_ok mixed ?_
  have hT := tab_ok
  have hm := mixed
  generalize hP : Tryz.prog = P at *
  generalize hA : std = A
  obtain ⟨qbin, qsh, qcmp, qscmp, qbcmp, qbnot, qneg, qwrap, qcat, qssize, qssub, qsget, qlen, qrsub, qapp, qelt, qset, qnth, qdrp, qstr, qint, qbool, qrow, qnat, qnadd, qnsub, qband, qofNat, qstrRow, qmkRow, qmx, qmn, qbytes, qemp⟩ := A
  have hE := Ar.eqs hA
  dsimp only at hE
  generalize hQ : EndD P Tryz.f5.results _ = Q
  have hself : (∀ v : Int, qcmp .neq v v = false) ∧ (∀ v : ByteArray, qscmp .neq v v = false) ∧ (∀ v : Bool, qbnot (qbcmp v v) = false) ∧ qbnot true = false := by
    refine ⟨fun v => ?_, fun v => ?_, fun v => ?_, ?_⟩ <;> simp only [hE, std_neq, std_sneq, std_bcmp, std_not] <;> simp
  obtain ⟨hself1, hself2, hself3, hself4⟩ := hself
  cbv
  try simp only [nc] at *
  refine ClW.dd (f := 17) rfl rfl rfl rfl (.cons rfl (.cons rfl .nil)) rfl ent17_ (T17_ haD_nodes haD_entries haD_old haD_steps (by omega) (by omega) ok_aD) rfl ?_
  generalize hl0 : szOf (totDisk (⟨aD_nodes, aD_entries, aD_old, aD_steps, aD_room, aD_next⟩ : TDisk)) 1048576 = left0
  cbv
  try simp only [nc] at *
  split
  · cbv
    try simp only [nc] at *
    rw [← hQ]
    exact endD_one rfl rfl
  rename_i c1
  simp only [hE, List.length_map, std_lss, std_leq, std_gtr, std_geq, std_eql, std_neq, std_len, std_add, std_subI, std_mulI, std_ssize, std_not, std_band, std_bcmp, std_nat, std_ofNat, std_nadd, std_nsub, std_emp, IntKind.wrap_i64, decide_eq_true_eq, decide_eq_false_iff_not, Bool.not_eq_true', Bool.not_eq_false', Option.getD_none, Option.getD_some] at c1
  obtain ⟨g0, g0'⟩ := szOf_ge (t := totDisk (⟨aD_nodes, aD_entries, aD_old, aD_steps, aD_room, aD_next⟩ : TDisk)) (left := 1048576) (by omega)
  have nn0 := totDisk_nn (⟨aD_nodes, aD_entries, aD_old, aD_steps, aD_room, aD_next⟩ : TDisk)
  have bd_aD : totDisk (⟨aD_nodes, aD_entries, aD_old, aD_steps, aD_room, aD_next⟩ : TDisk) ≤ 1048576 := by omega
  cbv
  try simp only [nc] at *
  refine ClW.dd (f := 19) rfl rfl rfl rfl (.cons rfl .nil) rfl ent19_ (T19_ haD_nodes haD_entries haD_old haD_steps bd_aD) rfl ?_
  cbv
  try simp only [nc] at *
  refine ClW.dd (f := 22) rfl rfl rfl rfl (.cons rfl (.cons rfl (.cons rfl .nil))) rfl ent22_ (T22_ haD_nodes haD_entries haD_old haD_steps bd_aD wf_aVersion wf_aKind) rfl ?_
  generalize hr : rStepsOfKind (⟨aD_nodes, aD_entries, aD_old, aD_steps, aD_room, aD_next⟩ : TDisk) aVersion aKind = r
  cbv
  try simp only [nc] at *
  refine ClW.dd (f := 19) rfl rfl rfl rfl (.cons rfl .nil) rfl ent19_ (T19_ haD_nodes haD_entries haD_old haD_steps bd_aD) rfl ?_
  cbv
  try simp only [nc] at *
  refine ClW.dd (f := 23) rfl rfl rfl rfl (.cons rfl (.cons rfl (.cons rfl .nil))) rfl ent23_ (T23_ haD_nodes haD_entries haD_old haD_steps bd_aD wf_aVersion wf_aKind) rfl ?_
  rw [hr]
  cbv
  try simp only [nc] at *
  rw [hself1]
  cbv
  try simp only [nc] at *
  refine ClW.dd (f := 19) rfl rfl rfl rfl (.cons rfl .nil) rfl ent19_ (T19_ haD_nodes haD_entries haD_old haD_steps bd_aD) rfl ?_
  cbv
  try simp only [nc] at *
  refine ClW.dd (f := 21) rfl rfl rfl rfl (.cons rfl (.cons rfl .nil)) rfl ent21_ (T21_ haD_nodes haD_entries haD_old haD_steps (by omega)) rfl ?_
  cbv
  try simp only [nc] at *
  rw [hself4]
  cbv
  try simp only [nc] at *
  rw [← hQ]
  exact endD_one rfl rfl
end Go.Proofs.YtmhinjjgpabkfaaGreatDoor.Ab
