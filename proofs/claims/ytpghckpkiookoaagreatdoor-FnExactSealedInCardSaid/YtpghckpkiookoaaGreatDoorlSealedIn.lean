/- What functions of the program come to, for all arguments in the given bounds. -/
import Derived.Test.YtpghckpkiookoaaGreatDoorlw
set_option linter.unusedVariables false
set_option linter.unusedSimpArgs false
namespace Go.Proofs.YtpghckpkiookoaaGreatDoor.Ab
open Go Go.Proofs
set_option maxRecDepth 20000
set_option maxHeartbeats 4000000
set_option linter.unusedSimpArgs false
set_option linter.unusedVariables false
noncomputable def c32 : Code := (Tryz.f32.body).getD .skip
theorem ent32 : Entered Tryz.prog 32 := ⟨_, Tryz.func32, rfl, rfl⟩
theorem T32 {aD_nodes : List TNode} {xaD_nodes : List (List D)} (haD_nodes : aD_nodes.map eNode = xaD_nodes) {aD_entries : List TEntry} {xaD_entries : List (List D)} (haD_entries : aD_entries.map eEntry = xaD_entries) {aD_old : List TEntry} {xaD_old : List (List D)} (haD_old : aD_old.map eEntry = xaD_old) {aD_steps : List ByteArray} {xaD_steps : List (List D)} (haD_steps : aD_steps.map cS = xaD_steps) {aD_room : Int} {aD_next : Int} (hb : totDisk ⟨aD_nodes, aD_entries, aD_old, aD_steps, aD_room, aD_next⟩ ≤ 1048576) : CallOk Tryz.prog 32 [.agg [.d (.row 3 xaD_nodes), .d (.row 2 xaD_entries), .d (.row 2 xaD_old), .d (.row 1 xaD_steps), .d (.sc (.int .i64 aD_room)), .d (.sc (.int .i64 aD_next))]] [] ⟨.d (.sc (.int .i64 (rSealedIn (⟨aD_nodes, aD_entries, aD_old, aD_steps, aD_room, aD_next⟩ : TDisk)))), [], []⟩ := by
  exact (FsSealedIn haD_nodes haD_entries haD_old haD_steps (okD_of hb) rfl).ok
noncomputable def c33 : Code := (Tryz.f33.body).getD .skip
theorem ent33 : Entered Tryz.prog 33 := ⟨_, Tryz.func33, rfl, rfl⟩
theorem T33 {aD_nodes : List TNode} {xaD_nodes : List (List D)} (haD_nodes : aD_nodes.map eNode = xaD_nodes) {aD_entries : List TEntry} {xaD_entries : List (List D)} (haD_entries : aD_entries.map eEntry = xaD_entries) {aD_old : List TEntry} {xaD_old : List (List D)} (haD_old : aD_old.map eEntry = xaD_old) {aD_steps : List ByteArray} {xaD_steps : List (List D)} (haD_steps : aD_steps.map cS = xaD_steps) {aD_room : Int} {aD_next : Int} (hb : totDisk ⟨aD_nodes, aD_entries, aD_old, aD_steps, aD_room, aD_next⟩ ≤ 1048576) : CallOk Tryz.prog 33 [.agg [.d (.row 3 xaD_nodes), .d (.row 2 xaD_entries), .d (.row 2 xaD_old), .d (.row 1 xaD_steps), .d (.sc (.int .i64 aD_room)), .d (.sc (.int .i64 aD_next))]] [] ⟨.d (.sc (.int .i64 (rSealedIn (⟨aD_nodes, aD_entries, aD_old, aD_steps, aD_room, aD_next⟩ : TDisk)))), [], []⟩ := by
  exact (FiSealedIn haD_nodes haD_entries haD_old haD_steps (okD_of hb) rfl).ok
noncomputable def c10 : Code := (Tryz.f10.body).getD .skip
theorem ent10 : Entered Tryz.prog 10 := ⟨_, Tryz.func10, rfl, rfl⟩
theorem T10 {aD_nodes : List TNode} {xaD_nodes : List (List D)} (haD_nodes : aD_nodes.map eNode = xaD_nodes) {aD_entries : List TEntry} {xaD_entries : List (List D)} (haD_entries : aD_entries.map eEntry = xaD_entries) {aD_old : List TEntry} {xaD_old : List (List D)} (haD_old : aD_old.map eEntry = xaD_old) {aD_steps : List ByteArray} {xaD_steps : List (List D)} (haD_steps : aD_steps.map cS = xaD_steps) {aD_room : Int} {aD_next : Int} (ok_aD : okDisk ⟨aD_nodes, aD_entries, aD_old, aD_steps, aD_room, aD_next⟩) (wf_aD : wfDisk ⟨aD_nodes, aD_entries, aD_old, aD_steps, aD_room, aD_next⟩) : CallOk Tryz.prog 10 [.agg [.d (.row 3 xaD_nodes), .d (.row 2 xaD_entries), .d (.row 2 xaD_old), .d (.row 1 xaD_steps), .d (.sc (.int .i64 aD_room)), .d (.sc (.int .i64 aD_next))]] [] ⟨.d (.sc (.bool true)), [], []⟩ := by
  have ent12_ := ent12
  have T12_ := @T12
  have ent14_ := ent14
  have T14_ := @T14
  have ent16_ := ent16
  have T16_ := @T16
  have ent32_ := ent32
  have T32_ := @T32
  have ent33_ := ent33
  have T33_ := @T33
  refine CallOk.of_bodyD (body := c10) Tryz.func10 rfl (Nat.le_of_ble_eq_true (by kernel_rfl)) rfl ?_
  refine vc_ok tab_ok mixed ?_
  have hT := tab_ok
  have hm := mixed
  generalize hP : Tryz.prog = P at *
  generalize hA : std = A
  obtain ⟨qbin, qsh, qcmp, qscmp, qbcmp, qbnot, qneg, qwrap, qcat, qssize, qssub, qsget, qlen, qrsub, qapp, qelt, qset, qnth, qdrp, qstr, qint, qbool, qrow, qnat, qnadd, qnsub, qband, qofNat, qstrRow, qmkRow, qmx, qmn, qbytes, qemp⟩ := A
  have hE := Ar.eqs hA
  dsimp only at hE
  generalize hQ : EndD P Tryz.f10.results _ = Q
  have hself : (∀ v : Int, qcmp .neq v v = false) ∧ (∀ v : ByteArray, qscmp .neq v v = false) ∧ (∀ v : Bool, qbnot (qbcmp v v) = false) ∧ qbnot true = false := by
    refine ⟨fun v => ?_, fun v => ?_, fun v => ?_, ?_⟩ <;> simp only [hE, std_neq, std_sneq, std_bcmp, std_not] <;> simp
  obtain ⟨hself1, hself2, hself3, hself4⟩ := hself
  cbv
  try simp only [nc] at *
  refine ClW.dd (f := 12) rfl rfl rfl rfl (.cons rfl (.cons rfl .nil)) rfl ent12_ (T12_ haD_nodes haD_entries haD_old haD_steps (by omega) (by omega) ok_aD) rfl ?_
  generalize hl0 : szOf (totDisk (⟨aD_nodes, aD_entries, aD_old, aD_steps, aD_room, aD_next⟩ : TDisk)) 1048576 = left0
  cbv
  try simp only [nc] at *
  split
  · cbv
    try simp only [nc] at *
    rw [← hQ]
    exact endD_one rfl rfl
  rename_i c1
  simp only [hE, List.length_map, std_lss, std_leq, std_gtr, std_geq, std_eql, std_neq, std_len, std_add, std_subI, std_mulI, std_ssize, std_not, std_band, std_bcmp, std_nat, std_ofNat, std_nadd, std_nsub, std_emp, IntKind.wrap_i64, decide_eq_true_eq, decide_eq_false_iff_not, Bool.not_eq_true', Bool.not_eq_false', Option.getD_none, Option.getD_some] at c1
  obtain ⟨g0, g0'⟩ := szOf_ge (t := totDisk (⟨aD_nodes, aD_entries, aD_old, aD_steps, aD_room, aD_next⟩ : TDisk)) (left := 1048576) (by omega)
  have nn0 := totDisk_nn (⟨aD_nodes, aD_entries, aD_old, aD_steps, aD_room, aD_next⟩ : TDisk)
  have bd_aD : totDisk (⟨aD_nodes, aD_entries, aD_old, aD_steps, aD_room, aD_next⟩ : TDisk) ≤ 1048576 := by omega
  cbv
  try simp only [nc] at *
  refine ClW.dd (f := 14) rfl rfl rfl rfl (.cons rfl .nil) rfl ent14_ (T14_ haD_nodes haD_entries haD_old haD_steps bd_aD) rfl ?_
  cbv
  try simp only [nc] at *
  refine ClW.dd (f := 32) rfl rfl rfl rfl (.cons rfl .nil) rfl ent32_ (T32_ haD_nodes haD_entries haD_old haD_steps bd_aD) rfl ?_
  generalize hr : rSealedIn (⟨aD_nodes, aD_entries, aD_old, aD_steps, aD_room, aD_next⟩ : TDisk) = r
  cbv
  try simp only [nc] at *
  refine ClW.dd (f := 14) rfl rfl rfl rfl (.cons rfl .nil) rfl ent14_ (T14_ haD_nodes haD_entries haD_old haD_steps bd_aD) rfl ?_
  cbv
  try simp only [nc] at *
  refine ClW.dd (f := 33) rfl rfl rfl rfl (.cons rfl .nil) rfl ent33_ (T33_ haD_nodes haD_entries haD_old haD_steps bd_aD) rfl ?_
  rw [hr]
  cbv
  try simp only [nc] at *
  rw [hself1]
  cbv
  try simp only [nc] at *
  refine ClW.dd (f := 14) rfl rfl rfl rfl (.cons rfl .nil) rfl ent14_ (T14_ haD_nodes haD_entries haD_old haD_steps bd_aD) rfl ?_
  cbv
  try simp only [nc] at *
  refine ClW.dd (f := 16) rfl rfl rfl rfl (.cons rfl (.cons rfl .nil)) rfl ent16_ (T16_ haD_nodes haD_entries haD_old haD_steps (by omega)) rfl ?_
  cbv
  try simp only [nc] at *
  rw [hself4]
  cbv
  try simp only [nc] at *
  rw [← hQ]
  exact endD_one rfl rfl
end Go.Proofs.YtpghckpkiookoaaGreatDoor.Ab
