/- What functions of the program come to, for all arguments in the given bounds. -/
import Derived.Test.YtpghckpkiookoaaGreatDoorlw
set_option linter.unusedVariables false
set_option linter.unusedSimpArgs false
namespace Go.Proofs.YtpghckpkiookoaaGreatDoor.Ab
open Go Go.Proofs
set_option maxRecDepth 20000
set_option maxHeartbeats 4000000
set_option linter.unusedSimpArgs false
set_option linter.unusedVariables false
noncomputable def c34 : Code := (Tryz.f34.body).getD .skip
theorem ent34 : Entered Tryz.prog 34 := ⟨_, Tryz.func34, rfl, rfl⟩
theorem T34 {aD_nodes : List TNode} {xaD_nodes : List (List D)} (haD_nodes : aD_nodes.map eNode = xaD_nodes) {aD_entries : List TEntry} {xaD_entries : List (List D)} (haD_entries : aD_entries.map eEntry = xaD_entries) {aD_old : List TEntry} {xaD_old : List (List D)} (haD_old : aD_old.map eEntry = xaD_old) {aD_steps : List ByteArray} {xaD_steps : List (List D)} (haD_steps : aD_steps.map cS = xaD_steps) {aD_room : Int} {aD_next : Int} (hb : totDisk ⟨aD_nodes, aD_entries, aD_old, aD_steps, aD_room, aD_next⟩ ≤ 1048576) : CallOk Tryz.prog 34 [.agg [.d (.row 3 xaD_nodes), .d (.row 2 xaD_entries), .d (.row 2 xaD_old), .d (.row 1 xaD_steps), .d (.sc (.int .i64 aD_room)), .d (.sc (.int .i64 aD_next))]] [] ⟨.d (.sc (.int .i64 (rReadsOn (⟨aD_nodes, aD_entries, aD_old, aD_steps, aD_room, aD_next⟩ : TDisk)))), [], []⟩ := by
  exact (FsReadsOn haD_nodes haD_entries haD_old haD_steps (okD_of hb) rfl).ok
noncomputable def c35 : Code := (Tryz.f35.body).getD .skip
theorem ent35 : Entered Tryz.prog 35 := ⟨_, Tryz.func35, rfl, rfl⟩
theorem T35 {aD_nodes : List TNode} {xaD_nodes : List (List D)} (haD_nodes : aD_nodes.map eNode = xaD_nodes) {aD_entries : List TEntry} {xaD_entries : List (List D)} (haD_entries : aD_entries.map eEntry = xaD_entries) {aD_old : List TEntry} {xaD_old : List (List D)} (haD_old : aD_old.map eEntry = xaD_old) {aD_steps : List ByteArray} {xaD_steps : List (List D)} (haD_steps : aD_steps.map cS = xaD_steps) {aD_room : Int} {aD_next : Int} (hb : totDisk ⟨aD_nodes, aD_entries, aD_old, aD_steps, aD_room, aD_next⟩ ≤ 1048576) : CallOk Tryz.prog 35 [.agg [.d (.row 3 xaD_nodes), .d (.row 2 xaD_entries), .d (.row 2 xaD_old), .d (.row 1 xaD_steps), .d (.sc (.int .i64 aD_room)), .d (.sc (.int .i64 aD_next))]] [] ⟨.d (.sc (.int .i64 (rReadsOn (⟨aD_nodes, aD_entries, aD_old, aD_steps, aD_room, aD_next⟩ : TDisk)))), [], []⟩ := by
  exact (FiReadsOn haD_nodes haD_entries haD_old haD_steps (okD_of hb) rfl).ok
noncomputable def c11 : Code := (Tryz.f11.body).getD .skip
theorem ent11 : Entered Tryz.prog 11 := ⟨_, Tryz.func11, rfl, rfl⟩
theorem T11 {aD_nodes : List TNode} {xaD_nodes : List (List D)} (haD_nodes : aD_nodes.map eNode = xaD_nodes) {aD_entries : List TEntry} {xaD_entries : List (List D)} (haD_entries : aD_entries.map eEntry = xaD_entries) {aD_old : List TEntry} {xaD_old : List (List D)} (haD_old : aD_old.map eEntry = xaD_old) {aD_steps : List ByteArray} {xaD_steps : List (List D)} (haD_steps : aD_steps.map cS = xaD_steps) {aD_room : Int} {aD_next : Int} (ok_aD : okDisk ⟨aD_nodes, aD_entries, aD_old, aD_steps, aD_room, aD_next⟩) (wf_aD : wfDisk ⟨aD_nodes, aD_entries, aD_old, aD_steps, aD_room, aD_next⟩) : CallOk Tryz.prog 11 [.agg [.d (.row 3 xaD_nodes), .d (.row 2 xaD_entries), .d (.row 2 xaD_old), .d (.row 1 xaD_steps), .d (.sc (.int .i64 aD_room)), .d (.sc (.int .i64 aD_next))]] [] ⟨.d (.sc (.bool true)), [], []⟩ := by
  have ent12_ := ent12
  have T12_ := @T12
  have ent14_ := ent14
  have T14_ := @T14
  have ent16_ := ent16
  have T16_ := @T16
  have ent34_ := ent34
  have T34_ := @T34
  have ent35_ := ent35
  have T35_ := @T35
  refine CallOk.of_bodyD (body := c11) Tryz.func11 rfl (Nat.le_of_ble_eq_true (by kernel_rfl)) rfl ?_
  refine vc_ok tab_ok mixed ?_
  have hT := tab_ok
  have hm := mixed
  generalize hP : Tryz.prog = P at *
  generalize hA : std = A
  obtain ⟨qbin, qsh, qcmp, qscmp, qbcmp, qbnot, qneg, qwrap, qcat, qssize, qssub, qsget, qlen, qrsub, qapp, qelt, qset, qnth, qdrp, qstr, qint, qbool, qrow, qnat, qnadd, qnsub, qband, qofNat, qstrRow, qmkRow, qmx, qmn, qbytes, qemp⟩ := A
  have hE := Ar.eqs hA
  dsimp only at hE
  generalize hQ : EndD P Tryz.f11.results _ = Q
  have hself : (∀ v : Int, qcmp .neq v v = false) ∧ (∀ v : ByteArray, qscmp .neq v v = false) ∧ (∀ v : Bool, qbnot (qbcmp v v) = false) ∧ qbnot true = false := by
    refine ⟨fun v => ?_, fun v => ?_, fun v => ?_, ?_⟩ <;> simp only [hE, std_neq, std_sneq, std_bcmp, std_not] <;> simp
  obtain ⟨hself1, hself2, hself3, hself4⟩ := hself
  cbv
  try simp only [nc] at *
  refine ClW.dd (f := 12) rfl rfl rfl rfl (.cons rfl (.cons rfl .nil)) rfl ent12_ (T12_ haD_nodes haD_entries haD_old haD_steps (by omega) (by omega) ok_aD) rfl ?_
  generalize hl0 : szOf (totDisk (⟨aD_nodes, aD_entries, aD_old, aD_steps, aD_room, aD_next⟩ : TDisk)) 1048576 = left0
  cbv
  try simp only [nc] at *
  split
  · cbv
    try simp only [nc] at *
    rw [← hQ]
    exact endD_one rfl rfl
  rename_i c1
  simp only [hE, List.length_map, std_lss, std_leq, std_gtr, std_geq, std_eql, std_neq, std_len, std_add, std_subI, std_mulI, std_ssize, std_not, std_band, std_bcmp, std_nat, std_ofNat, std_nadd, std_nsub, std_emp, IntKind.wrap_i64, decide_eq_true_eq, decide_eq_false_iff_not, Bool.not_eq_true', Bool.not_eq_false', Option.getD_none, Option.getD_some] at c1
  obtain ⟨g0, g0'⟩ := szOf_ge (t := totDisk (⟨aD_nodes, aD_entries, aD_old, aD_steps, aD_room, aD_next⟩ : TDisk)) (left := 1048576) (by omega)
  have nn0 := totDisk_nn (⟨aD_nodes, aD_entries, aD_old, aD_steps, aD_room, aD_next⟩ : TDisk)
  have bd_aD : totDisk (⟨aD_nodes, aD_entries, aD_old, aD_steps, aD_room, aD_next⟩ : TDisk) ≤ 1048576 := by omega
  cbv
  try simp only [nc] at *
  refine ClW.dd (f := 14) rfl rfl rfl rfl (.cons rfl .nil) rfl ent14_ (T14_ haD_nodes haD_entries haD_old haD_steps bd_aD) rfl ?_
  cbv
  try simp only [nc] at *
  refine ClW.dd (f := 34) rfl rfl rfl rfl (.cons rfl .nil) rfl ent34_ (T34_ haD_nodes haD_entries haD_old haD_steps bd_aD) rfl ?_
  generalize hr : rReadsOn (⟨aD_nodes, aD_entries, aD_old, aD_steps, aD_room, aD_next⟩ : TDisk) = r
  cbv
  try simp only [nc] at *
  refine ClW.dd (f := 14) rfl rfl rfl rfl (.cons rfl .nil) rfl ent14_ (T14_ haD_nodes haD_entries haD_old haD_steps bd_aD) rfl ?_
  cbv
  try simp only [nc] at *
  refine ClW.dd (f := 35) rfl rfl rfl rfl (.cons rfl .nil) rfl ent35_ (T35_ haD_nodes haD_entries haD_old haD_steps bd_aD) rfl ?_
  rw [hr]
  cbv
  try simp only [nc] at *
  rw [hself1]
  cbv
  try simp only [nc] at *
  refine ClW.dd (f := 14) rfl rfl rfl rfl (.cons rfl .nil) rfl ent14_ (T14_ haD_nodes haD_entries haD_old haD_steps bd_aD) rfl ?_
  cbv
  try simp only [nc] at *
  refine ClW.dd (f := 16) rfl rfl rfl rfl (.cons rfl (.cons rfl .nil)) rfl ent16_ (T16_ haD_nodes haD_entries haD_old haD_steps (by omega)) rfl ?_
  cbv
  try simp only [nc] at *
  rw [hself4]
  cbv
  try simp only [nc] at *
  rw [← hQ]
  exact endD_one rfl rfl
end Go.Proofs.YtpghckpkiookoaaGreatDoor.Ab
