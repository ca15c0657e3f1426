/- What functions of the program come to, for all arguments in the given bounds. -/
import Derived.Test.YtpghckpkiookoaaGreatDoorlw
set_option linter.unusedVariables false
set_option linter.unusedSimpArgs false
namespace Go.Proofs.YtpghckpkiookoaaGreatDoor.Ab
open Go Go.Proofs
set_option maxRecDepth 20000
set_option maxHeartbeats 4000000
set_option linter.unusedSimpArgs false
set_option linter.unusedVariables false
noncomputable def c23 : Code := (Tryz.f23.body).getD .skip
theorem ent23 : Entered Tryz.prog 23 := ⟨_, Tryz.func23, rfl, rfl⟩
theorem T23 {aA_nodes : List TNode} {xaA_nodes : List (List D)} (haA_nodes : aA_nodes.map eNode = xaA_nodes) {aA_entries : List TEntry} {xaA_entries : List (List D)} (haA_entries : aA_entries.map eEntry = xaA_entries) {aA_old : List TEntry} {xaA_old : List (List D)} (haA_old : aA_old.map eEntry = xaA_old) {aA_steps : List ByteArray} {xaA_steps : List (List D)} (haA_steps : aA_steps.map cS = xaA_steps) {aA_room : Int} {aA_next : Int} {aB_nodes : List TNode} {xaB_nodes : List (List D)} (haB_nodes : aB_nodes.map eNode = xaB_nodes) {aB_entries : List TEntry} {xaB_entries : List (List D)} (haB_entries : aB_entries.map eEntry = xaB_entries) {aB_old : List TEntry} {xaB_old : List (List D)} (haB_old : aB_old.map eEntry = xaB_old) {aB_steps : List ByteArray} {xaB_steps : List (List D)} (haB_steps : aB_steps.map cS = xaB_steps) {aB_room : Int} {aB_next : Int} (hb : totDisk ⟨aA_nodes, aA_entries, aA_old, aA_steps, aA_room, aA_next⟩ ≤ 1048576) (hb2 : totDisk ⟨aB_nodes, aB_entries, aB_old, aB_steps, aB_room, aB_next⟩ ≤ 1048576) : CallOk Tryz.prog 23 [.agg [.d (.row 3 xaA_nodes), .d (.row 2 xaA_entries), .d (.row 2 xaA_old), .d (.row 1 xaA_steps), .d (.sc (.int .i64 aA_room)), .d (.sc (.int .i64 aA_next))], .agg [.d (.row 3 xaB_nodes), .d (.row 2 xaB_entries), .d (.row 2 xaB_old), .d (.row 1 xaB_steps), .d (.sc (.int .i64 aB_room)), .d (.sc (.int .i64 aB_next))]] [] ⟨.d (.sc (.bool (rSameRow (⟨aA_nodes, aA_entries, aA_old, aA_steps, aA_room, aA_next⟩ : TDisk) (⟨aB_nodes, aB_entries, aB_old, aB_steps, aB_room, aB_next⟩ : TDisk)))), [], []⟩ := by
  exact (FsSameRow haA_nodes haA_entries haA_old haA_steps haB_nodes haB_entries haB_old haB_steps (okD_of hb) (okD_of hb2) rfl).ok
noncomputable def c24 : Code := (Tryz.f24.body).getD .skip
theorem ent24 : Entered Tryz.prog 24 := ⟨_, Tryz.func24, rfl, rfl⟩
theorem T24 {aA_nodes : List TNode} {xaA_nodes : List (List D)} (haA_nodes : aA_nodes.map eNode = xaA_nodes) {aA_entries : List TEntry} {xaA_entries : List (List D)} (haA_entries : aA_entries.map eEntry = xaA_entries) {aA_old : List TEntry} {xaA_old : List (List D)} (haA_old : aA_old.map eEntry = xaA_old) {aA_steps : List ByteArray} {xaA_steps : List (List D)} (haA_steps : aA_steps.map cS = xaA_steps) {aA_room : Int} {aA_next : Int} {aB_nodes : List TNode} {xaB_nodes : List (List D)} (haB_nodes : aB_nodes.map eNode = xaB_nodes) {aB_entries : List TEntry} {xaB_entries : List (List D)} (haB_entries : aB_entries.map eEntry = xaB_entries) {aB_old : List TEntry} {xaB_old : List (List D)} (haB_old : aB_old.map eEntry = xaB_old) {aB_steps : List ByteArray} {xaB_steps : List (List D)} (haB_steps : aB_steps.map cS = xaB_steps) {aB_room : Int} {aB_next : Int} (hb : totDisk ⟨aA_nodes, aA_entries, aA_old, aA_steps, aA_room, aA_next⟩ ≤ 1048576) (hb2 : totDisk ⟨aB_nodes, aB_entries, aB_old, aB_steps, aB_room, aB_next⟩ ≤ 1048576) : CallOk Tryz.prog 24 [.agg [.d (.row 3 xaA_nodes), .d (.row 2 xaA_entries), .d (.row 2 xaA_old), .d (.row 1 xaA_steps), .d (.sc (.int .i64 aA_room)), .d (.sc (.int .i64 aA_next))], .agg [.d (.row 3 xaB_nodes), .d (.row 2 xaB_entries), .d (.row 2 xaB_old), .d (.row 1 xaB_steps), .d (.sc (.int .i64 aB_room)), .d (.sc (.int .i64 aB_next))]] [] ⟨.d (.sc (.bool (rSameRow (⟨aA_nodes, aA_entries, aA_old, aA_steps, aA_room, aA_next⟩ : TDisk) (⟨aB_nodes, aB_entries, aB_old, aB_steps, aB_room, aB_next⟩ : TDisk)))), [], []⟩ := by
  exact (FiSameRow haA_nodes haA_entries haA_old haA_steps haB_nodes haB_entries haB_old haB_steps (okD_of hb) (okD_of hb2) rfl).ok
noncomputable def c7 : Code := (Tryz.f7.body).getD .skip
theorem ent7 : Entered Tryz.prog 7 := ⟨_, Tryz.func7, rfl, rfl⟩
theorem T7 {aA_nodes : List TNode} {xaA_nodes : List (List D)} (haA_nodes : aA_nodes.map eNode = xaA_nodes) {aA_entries : List TEntry} {xaA_entries : List (List D)} (haA_entries : aA_entries.map eEntry = xaA_entries) {aA_old : List TEntry} {xaA_old : List (List D)} (haA_old : aA_old.map eEntry = xaA_old) {aA_steps : List ByteArray} {xaA_steps : List (List D)} (haA_steps : aA_steps.map cS = xaA_steps) {aA_room : Int} {aA_next : Int} {aB_nodes : List TNode} {xaB_nodes : List (List D)} (haB_nodes : aB_nodes.map eNode = xaB_nodes) {aB_entries : List TEntry} {xaB_entries : List (List D)} (haB_entries : aB_entries.map eEntry = xaB_entries) {aB_old : List TEntry} {xaB_old : List (List D)} (haB_old : aB_old.map eEntry = xaB_old) {aB_steps : List ByteArray} {xaB_steps : List (List D)} (haB_steps : aB_steps.map cS = xaB_steps) {aB_room : Int} {aB_next : Int} (ok_aA : okDisk ⟨aA_nodes, aA_entries, aA_old, aA_steps, aA_room, aA_next⟩) (wf_aA : wfDisk ⟨aA_nodes, aA_entries, aA_old, aA_steps, aA_room, aA_next⟩) (ok_aB : okDisk ⟨aB_nodes, aB_entries, aB_old, aB_steps, aB_room, aB_next⟩) (wf_aB : wfDisk ⟨aB_nodes, aB_entries, aB_old, aB_steps, aB_room, aB_next⟩) : CallOk Tryz.prog 7 [.agg [.d (.row 3 xaA_nodes), .d (.row 2 xaA_entries), .d (.row 2 xaA_old), .d (.row 1 xaA_steps), .d (.sc (.int .i64 aA_room)), .d (.sc (.int .i64 aA_next))], .agg [.d (.row 3 xaB_nodes), .d (.row 2 xaB_entries), .d (.row 2 xaB_old), .d (.row 1 xaB_steps), .d (.sc (.int .i64 aB_room)), .d (.sc (.int .i64 aB_next))]] [] ⟨.d (.sc (.bool true)), [], []⟩ := by
  have ent12_ := ent12
  have T12_ := @T12
  have ent14_ := ent14
  have T14_ := @T14
  have ent16_ := ent16
  have T16_ := @T16
  have ent23_ := ent23
  have T23_ := @T23
  have ent24_ := ent24
  have T24_ := @T24
  refine CallOk.of_bodyD (body := c7) Tryz.func7 rfl (Nat.le_of_ble_eq_true (by kernel_rfl)) rfl ?_
  refine vc_ok tab_ok mixed ?_
  have hT := tab_ok
  have hm := mixed
  generalize hP : Tryz.prog = P at *
  generalize hA : std = A
  obtain ⟨qbin, qsh, qcmp, qscmp, qbcmp, qbnot, qneg, qwrap, qcat, qssize, qssub, qsget, qlen, qrsub, qapp, qelt, qset, qnth, qdrp, qstr, qint, qbool, qrow, qnat, qnadd, qnsub, qband, qofNat, qstrRow, qmkRow, qmx, qmn, qbytes, qemp⟩ := A
  have hE := Ar.eqs hA
  dsimp only at hE
  generalize hQ : EndD P Tryz.f7.results _ = Q
  have hself : (∀ v : Int, qcmp .neq v v = false) ∧ (∀ v : ByteArray, qscmp .neq v v = false) ∧ (∀ v : Bool, qbnot (qbcmp v v) = false) ∧ qbnot true = false := by
    refine ⟨fun v => ?_, fun v => ?_, fun v => ?_, ?_⟩ <;> simp only [hE, std_neq, std_sneq, std_bcmp, std_not] <;> simp
  obtain ⟨hself1, hself2, hself3, hself4⟩ := hself
  cbv
  try simp only [nc] at *
  refine ClW.dd (f := 12) rfl rfl rfl rfl (.cons rfl (.cons rfl .nil)) rfl ent12_ (T12_ haA_nodes haA_entries haA_old haA_steps (by omega) (by omega) ok_aA) rfl ?_
  generalize hl0 : szOf (totDisk (⟨aA_nodes, aA_entries, aA_old, aA_steps, aA_room, aA_next⟩ : TDisk)) 1048576 = left0
  cbv
  try simp only [nc] at *
  split
  · cbv
    try simp only [nc] at *
    rw [← hQ]
    exact endD_one rfl rfl
  rename_i c1
  simp only [hE, List.length_map, std_lss, std_leq, std_gtr, std_geq, std_eql, std_neq, std_len, std_add, std_subI, std_mulI, std_ssize, std_not, std_band, std_bcmp, std_nat, std_ofNat, std_nadd, std_nsub, std_emp, IntKind.wrap_i64, decide_eq_true_eq, decide_eq_false_iff_not, Bool.not_eq_true', Bool.not_eq_false', Option.getD_none, Option.getD_some] at c1
  obtain ⟨g0, g0'⟩ := szOf_ge (t := totDisk (⟨aA_nodes, aA_entries, aA_old, aA_steps, aA_room, aA_next⟩ : TDisk)) (left := 1048576) (by omega)
  have nn0 := totDisk_nn (⟨aA_nodes, aA_entries, aA_old, aA_steps, aA_room, aA_next⟩ : TDisk)
  have bd_aA : totDisk (⟨aA_nodes, aA_entries, aA_old, aA_steps, aA_room, aA_next⟩ : TDisk) ≤ 1048576 := by omega
  cbv
  try simp only [nc] at *
  refine ClW.dd (f := 12) rfl rfl rfl rfl (.cons rfl (.cons rfl .nil)) rfl ent12_ (T12_ haB_nodes haB_entries haB_old haB_steps (by omega) (by omega) ok_aB) rfl ?_
  generalize hl1 : szOf (totDisk (⟨aB_nodes, aB_entries, aB_old, aB_steps, aB_room, aB_next⟩ : TDisk)) left0 = left1
  cbv
  try simp only [nc] at *
  split
  · cbv
    try simp only [nc] at *
    rw [← hQ]
    exact endD_one rfl rfl
  rename_i c5
  simp only [hE, List.length_map, std_lss, std_leq, std_gtr, std_geq, std_eql, std_neq, std_len, std_add, std_subI, std_mulI, std_ssize, std_not, std_band, std_bcmp, std_nat, std_ofNat, std_nadd, std_nsub, std_emp, IntKind.wrap_i64, decide_eq_true_eq, decide_eq_false_iff_not, Bool.not_eq_true', Bool.not_eq_false', Option.getD_none, Option.getD_some] at c5
  obtain ⟨g1, g1'⟩ := szOf_ge (t := totDisk (⟨aB_nodes, aB_entries, aB_old, aB_steps, aB_room, aB_next⟩ : TDisk)) (left := left0) (by omega)
  have nn1 := totDisk_nn (⟨aB_nodes, aB_entries, aB_old, aB_steps, aB_room, aB_next⟩ : TDisk)
  have bd_aB : totDisk (⟨aB_nodes, aB_entries, aB_old, aB_steps, aB_room, aB_next⟩ : TDisk) ≤ 1048576 := by omega
  cbv
  try simp only [nc] at *
  refine ClW.dd (f := 14) rfl rfl rfl rfl (.cons rfl .nil) rfl ent14_ (T14_ haA_nodes haA_entries haA_old haA_steps bd_aA) rfl ?_
  cbv
  try simp only [nc] at *
  refine ClW.dd (f := 14) rfl rfl rfl rfl (.cons rfl .nil) rfl ent14_ (T14_ haB_nodes haB_entries haB_old haB_steps bd_aB) rfl ?_
  cbv
  try simp only [nc] at *
  refine ClW.dd (f := 23) rfl rfl rfl rfl (.cons rfl (.cons rfl .nil)) rfl ent23_ (T23_ haA_nodes haA_entries haA_old haA_steps haB_nodes haB_entries haB_old haB_steps bd_aA bd_aB) rfl ?_
  generalize hr : rSameRow (⟨aA_nodes, aA_entries, aA_old, aA_steps, aA_room, aA_next⟩ : TDisk) (⟨aB_nodes, aB_entries, aB_old, aB_steps, aB_room, aB_next⟩ : TDisk) = r
  cbv
  try simp only [nc] at *
  refine ClW.dd (f := 14) rfl rfl rfl rfl (.cons rfl .nil) rfl ent14_ (T14_ haA_nodes haA_entries haA_old haA_steps bd_aA) rfl ?_
  cbv
  try simp only [nc] at *
  refine ClW.dd (f := 14) rfl rfl rfl rfl (.cons rfl .nil) rfl ent14_ (T14_ haB_nodes haB_entries haB_old haB_steps bd_aB) rfl ?_
  cbv
  try simp only [nc] at *
  refine ClW.dd (f := 24) rfl rfl rfl rfl (.cons rfl (.cons rfl .nil)) rfl ent24_ (T24_ haA_nodes haA_entries haA_old haA_steps haB_nodes haB_entries haB_old haB_steps bd_aA bd_aB) rfl ?_
  rw [hr]
  cbv
  try simp only [nc] at *
  rw [hself3]
  cbv
  try simp only [nc] at *
  refine ClW.dd (f := 14) rfl rfl rfl rfl (.cons rfl .nil) rfl ent14_ (T14_ haA_nodes haA_entries haA_old haA_steps bd_aA) rfl ?_
  cbv
  try simp only [nc] at *
  refine ClW.dd (f := 16) rfl rfl rfl rfl (.cons rfl (.cons rfl .nil)) rfl ent16_ (T16_ haA_nodes haA_entries haA_old haA_steps (by omega)) rfl ?_
  cbv
  try simp only [nc] at *
  rw [hself4]
  cbv
  try simp only [nc] at *
  refine ClW.dd (f := 14) rfl rfl rfl rfl (.cons rfl .nil) rfl ent14_ (T14_ haB_nodes haB_entries haB_old haB_steps bd_aB) rfl ?_
  cbv
  try simp only [nc] at *
  refine ClW.dd (f := 16) rfl rfl rfl rfl (.cons rfl (.cons rfl .nil)) rfl ent16_ (T16_ haB_nodes haB_entries haB_old haB_steps (by omega)) rfl ?_
  cbv
  try simp only [nc] at *
  rw [hself4]
  cbv
  try simp only [nc] at *
  rw [← hQ]
  exact endD_one rfl rfl
end Go.Proofs.YtpghckpkiookoaaGreatDoor.Ab
