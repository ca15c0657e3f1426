/- What functions of the program come to, for all arguments in the given bounds. -/
import Derived.Test.YtmhinjjgpabkfaaGreatDoorHsz
import Derived.Test.YtmhinjjgpabkfaaGreatDoorHto
import Derived.Test.YtmhinjjgpabkfaaGreatDoorHeq
set_option linter.unusedVariables false
set_option linter.unusedSimpArgs false
namespace Go.Proofs.YtmhinjjgpabkfaaGreatDoor.Ab
open Go Go.Proofs
set_option maxRecDepth 20000
set_option linter.unusedVariables false
theorem T19R {a_nodes : List TNode} {xa_nodes : List (List D)} (ha_nodes : a_nodes.map eNode = xa_nodes) {a_entries : List TEntry} {xa_entries : List (List D)} (ha_entries : a_entries.map eEntry = xa_entries) {a_old : List TEntry} {xa_old : List (List D)} (ha_old : a_old.map eEntry = xa_old) {a_steps : List ByteArray} {xa_steps : List (List D)} (ha_steps : a_steps.map cS = xa_steps) {a_room : Int} {a_next : Int} {na_nodes : Nat} (hna_nodes : na_nodes = a_nodes.length) {na_entries : Nat} (hna_entries : na_entries = a_entries.length) {na_old : Nat} (hna_old : na_old = a_old.length) {na_steps : Nat} (hna_steps : na_steps = a_steps.length) (hb : totDisk ⟨a_nodes, a_entries, a_old, a_steps, a_room, a_next⟩ ≤ 1048576) : CallOk Tryz.prog 19 [.agg [.d (.row 3 xa_nodes), .d (.row 2 xa_entries), .d (.row 2 xa_old), .d (.row 1 xa_steps), .d (.sc (.int .i64 a_room)), .d (.sc (.int .i64 a_next))]] [] ⟨.agg [.ref 0 0 na_nodes, .ref 1 0 na_entries, .ref 2 0 na_old, .ref 3 0 na_steps, .d (.sc (.int .i64 a_room)), .d (.sc (.int .i64 a_next))], [.row 3 false xa_nodes, .row 2 false xa_entries, .row 2 false xa_old, .row 1 false xa_steps], []⟩ := by
  have ent64_ := ent64
  have T64_ := @T64
  have ent65_ := ent65
  have T65_ := @T65
  have ent66_ := ent66
  have T66_ := @T66
  have T64_R := @T64R
  have T65_R := @T65R
  have T65_R := @T65R
  have T66_R := @T66R
  have nna_nodes := totNodeS_nn a_nodes
  have nna_entries := totEntryS_nn a_entries
  have nna_old := totEntryS_nn a_old
  have nna_steps := totStringS_nn a_steps
  have hb' : totNodeS a_nodes + totEntryS a_entries + totEntryS a_old + totStringS a_steps ≤ 1048576 := hb
  refine CallOk.of_body (body := c19) Tryz.func19 rfl (Nat.le_of_ble_eq_true (by kernel_rfl)) rfl rfl ?_
  refine vc_ok tab_ok mixed ?_
  have hT := tab_ok
  have hm := mixed
  generalize hP : Tryz.prog = P at *
  generalize hA : std = A
  obtain ⟨qbin, qsh, qcmp, qscmp, qbcmp, qbnot, qneg, qwrap, qcat, qssize, qssub, qsget, qlen, qrsub, qapp, qelt, qset, qnth, qdrp, qstr, qint, qbool, qrow, qnat, qnadd, qnsub, qband, qofNat, qstrRow, qmkRow, qmx, qmn, qbytes, qemp⟩ := A
  have hE := Ar.eqs hA
  dsimp only at hE
  generalize hQ : EndQ P Tryz.f19.results [] _ = Q
  cbv
  try simp only [nc] at *
  refine ClW.lntR (f := 64) rfl rfl rfl rfl (.cons rfl .nil) (.d rfl .nil) ent64_ (T64_R ha_nodes (by omega)) (by rw [← ha_nodes]; exact flat_map (fun _ => rfl) _) ?_
  rw [← hna_nodes]
  cbv
  try simp only [nc] at *
  refine ClW.lntR (f := 65) rfl rfl rfl rfl (.cons rfl .nil) (.d rfl .nil) ent65_ (T65_R ha_entries (by omega)) (by rw [← ha_entries]; exact flat_map (fun _ => rfl) _) ?_
  rw [← hna_entries]
  cbv
  try simp only [nc] at *
  refine ClW.lntR (f := 65) rfl rfl rfl rfl (.cons rfl .nil) (.d rfl .nil) ent65_ (T65_R ha_old (by omega)) (by rw [← ha_old]; exact flat_map (fun _ => rfl) _) ?_
  rw [← hna_old]
  cbv
  try simp only [nc] at *
  refine ClW.lntR (f := 66) rfl rfl rfl rfl (.cons rfl .nil) (.d rfl .nil) ent66_ (T66_R ha_steps (by omega)) (by rw [← ha_steps]; exact flat_map (fun _ => rfl) _) ?_
  rw [← hna_steps]
  cbv
  try simp only [nc] at *
  rw [← hQ]
  refine ⟨[11, 12, 13, 14], [.agg [.ref 11 0 na_nodes, .ref 12 0 na_entries, .ref 13 0 na_old, .ref 14 0 na_steps, .d (.sc (.int .i64 a_room)), .d (.sc (.int .i64 a_next))]], ?_, rfl, by simp, by simp, rfl, ?_, by simp, by simp⟩
  · show resAll P _ [ResultVar.cell 2 49] = _
    simp only [resAll, resOne]
    rw [show aggT P 49 = some true from (congrArg TyRow.agg (hT 49 _ (show tabGet tab 49 = some _ from rfl))).symm, show szT P 49 = some 6 from (congrArg TyRow.sz (hT 49 _ (show tabGet tab 49 = some _ from rfl))).symm]
    rfl
  · intro k i R hk hR
    rcases k with _ | k
    · simp at hk hR
      subst hk hR
      exact ⟨_, rfl, rfl⟩
    rcases k with _ | k
    · simp at hk hR
      subst hk hR
      exact ⟨_, rfl, rfl⟩
    rcases k with _ | k
    · simp at hk hR
      subst hk hR
      exact ⟨_, rfl, rfl⟩
    rcases k with _ | k
    · simp at hk hR
      subst hk hR
      exact ⟨_, rfl, rfl⟩
    simp at hk
end Go.Proofs.YtmhinjjgpabkfaaGreatDoor.Ab
