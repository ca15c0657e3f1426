/- What functions of the program come to, for all arguments in the given bounds. -/
import Derived.Test.YtamdgfklbjoaiaaFT
set_option linter.unusedVariables false
set_option linter.unusedSimpArgs false
namespace Go.Proofs.Ytamdgfklbjoaiaa.Ab
open Go Go.Proofs
set_option maxRecDepth 20000
noncomputable def c9 : Code := (Try.f9.body).getD .skip
theorem ent9 : Entered Try.prog 9 := ⟨_, Try.func9, rfl, rfl⟩
theorem T9 {aW_set_room : Int} {aW_set_version : Int} {aW_set_stride : Int} {aW_set_roll : Int} {aW_disk_nodes : List TNode} {xaW_disk_nodes : List (List D)} (haW_disk_nodes : aW_disk_nodes.map eNode = xaW_disk_nodes) {aW_disk_entries : List TEntry} {xaW_disk_entries : List (List D)} (haW_disk_entries : aW_disk_entries.map eEntry = xaW_disk_entries) {aW_disk_old : List TEntry} {xaW_disk_old : List (List D)} (haW_disk_old : aW_disk_old.map eEntry = xaW_disk_old) {aW_disk_steps : List ByteArray} {xaW_disk_steps : List (List D)} (haW_disk_steps : aW_disk_steps.map cS = xaW_disk_steps) {aW_disk_room : Int} {aW_disk_next : Int} {aW_writer_version : Int} {aW_writer_stride : Int} {aW_writer_roll : Int} {aW_writer_base : Int} {aW_writer_link : Int} {aW_writer_offsets : List Int} {xaW_writer_offsets : List (List D)} (haW_writer_offsets : aW_writer_offsets.map cI = xaW_writer_offsets) {aW_writer_end : Int} {aW_writer_open : Bool} {aW_writer_code : Int} {aW_told : List ByteArray} {xaW_told : List (List D)} (haW_told : aW_told.map cS = xaW_told) {aW_sure : Int} {aW_falls : Int} (ok_aW : okWorld ⟨⟨aW_set_room, aW_set_version, aW_set_stride, aW_set_roll⟩, ⟨aW_disk_nodes, aW_disk_entries, aW_disk_old, aW_disk_steps, aW_disk_room, aW_disk_next⟩, ⟨aW_writer_version, aW_writer_stride, aW_writer_roll, aW_writer_base, aW_writer_link, aW_writer_offsets, aW_writer_end, aW_writer_open, aW_writer_code⟩, aW_told, aW_sure, aW_falls⟩) (wf_aW : wfWorld ⟨⟨aW_set_room, aW_set_version, aW_set_stride, aW_set_roll⟩, ⟨aW_disk_nodes, aW_disk_entries, aW_disk_old, aW_disk_steps, aW_disk_room, aW_disk_next⟩, ⟨aW_writer_version, aW_writer_stride, aW_writer_roll, aW_writer_base, aW_writer_link, aW_writer_offsets, aW_writer_end, aW_writer_open, aW_writer_code⟩, aW_told, aW_sure, aW_falls⟩) : CallOk Try.prog 9 [.agg [.d (.sc (.int .i64 aW_set_room)), .d (.sc (.int .i64 aW_set_version)), .d (.sc (.int .i64 aW_set_stride)), .d (.sc (.int .i64 aW_set_roll)), .d (.row 3 xaW_disk_nodes), .d (.row 2 xaW_disk_entries), .d (.row 2 xaW_disk_old), .d (.row 1 xaW_disk_steps), .d (.sc (.int .i64 aW_disk_room)), .d (.sc (.int .i64 aW_disk_next)), .d (.sc (.int .i64 aW_writer_version)), .d (.sc (.int .i64 aW_writer_stride)), .d (.sc (.int .i64 aW_writer_roll)), .d (.sc (.int .i64 aW_writer_base)), .d (.sc (.int .i64 aW_writer_link)), .d (.row 1 xaW_writer_offsets), .d (.sc (.int .i64 aW_writer_end)), .d (.sc (.bool aW_writer_open)), .d (.sc (.int .i64 aW_writer_code)), .d (.row 1 xaW_told), .d (.sc (.int .i64 aW_sure)), .d (.sc (.int .i64 aW_falls))]] [] ⟨.d (.sc (.bool true)), [], []⟩ := by
  have ent24_ := ent24
  have T24_ := @T24
  have ent27_ := ent27
  have T27_ := @T27
  have ent28_ := ent28
  have T28_ := @T28
  have ent43_ := ent43
  have T43_ := @T43
  have ent44_ := ent44
  have T44_ := @T44
  have ent45_ := ent45
  have T45_ := @T45
  have ent46_ := ent46
  have T46_ := @T46
  have ent47_ := ent47
  have T47_ := @T47
  have ent48_ := ent48
  have T48_ := @T48
  have T46_R := @T46R
  have T45_R := @T45R
  refine CallOk.of_bodyD (body := c9) Try.func9 rfl (Nat.le_of_ble_eq_true (by kernel_rfl)) rfl ?_
  refine vc_ok tab_ok mixed ?_
  have hT := tab_ok
  have hm := mixed
  generalize hP : Try.prog = P at *
  generalize hA : std = A
  obtain ⟨qbin, qsh, qcmp, qscmp, qbcmp, qbnot, qneg, qwrap, qcat, qssize, qssub, qsget, qlen, qrsub, qapp, qelt, qset, qnth, qdrp, qstr, qint, qbool, qrow, qnat, qnadd, qnsub, qband, qofNat, qstrRow, qmkRow, qmx, qmn, qbytes, qemp⟩ := A
  have hE := Ar.eqs hA
  dsimp only at hE
  generalize hQ : EndD P Try.f9.results _ = Q
  have hself : (∀ v : Int, qcmp .neq v v = false) ∧ (∀ v : ByteArray, qscmp .neq v v = false) ∧ (∀ v : Bool, qbnot (qbcmp v v) = false) ∧ qbnot true = false := by
    refine ⟨fun v => ?_, fun v => ?_, fun v => ?_, ?_⟩ <;> simp only [hE, std_neq, std_sneq, std_bcmp, std_not] <;> simp
  obtain ⟨hself1, hself2, hself3, hself4⟩ := hself
  obtain ⟨naW_disk_nodes, hnaW_disk_nodes⟩ : ∃ n, n = aW_disk_nodes.length := ⟨_, rfl⟩
  have hl_aW_disk_nodes : naW_disk_nodes = xaW_disk_nodes.length := by rw [hnaW_disk_nodes, ← haW_disk_nodes, List.length_map]
  obtain ⟨naW_disk_entries, hnaW_disk_entries⟩ : ∃ n, n = aW_disk_entries.length := ⟨_, rfl⟩
  have hl_aW_disk_entries : naW_disk_entries = xaW_disk_entries.length := by rw [hnaW_disk_entries, ← haW_disk_entries, List.length_map]
  obtain ⟨naW_disk_old, hnaW_disk_old⟩ : ∃ n, n = aW_disk_old.length := ⟨_, rfl⟩
  have hl_aW_disk_old : naW_disk_old = xaW_disk_old.length := by rw [hnaW_disk_old, ← haW_disk_old, List.length_map]
  obtain ⟨naW_disk_steps, hnaW_disk_steps⟩ : ∃ n, n = aW_disk_steps.length := ⟨_, rfl⟩
  have hl_aW_disk_steps : naW_disk_steps = xaW_disk_steps.length := by rw [hnaW_disk_steps, ← haW_disk_steps, List.length_map]
  obtain ⟨naW_writer_offsets, hnaW_writer_offsets⟩ : ∃ n, n = aW_writer_offsets.length := ⟨_, rfl⟩
  have hl_aW_writer_offsets : naW_writer_offsets = xaW_writer_offsets.length := by rw [hnaW_writer_offsets, ← haW_writer_offsets, List.length_map]
  obtain ⟨naW_told, hnaW_told⟩ : ∃ n, n = aW_told.length := ⟨_, rfl⟩
  have hl_aW_told : naW_told = xaW_told.length := by rw [hnaW_told, ← haW_told, List.length_map]
  cbv
  try simp only [nc] at *
  refine ClW.dd (f := 43) rfl rfl rfl rfl (.cons rfl (.cons rfl .nil)) rfl ent43_ (T43_ haW_disk_nodes haW_disk_entries haW_disk_old haW_disk_steps haW_writer_offsets haW_told (by omega) (by omega) ok_aW) rfl ?_
  generalize hl0 : szOf (totWorld (⟨⟨aW_set_room, aW_set_version, aW_set_stride, aW_set_roll⟩, ⟨aW_disk_nodes, aW_disk_entries, aW_disk_old, aW_disk_steps, aW_disk_room, aW_disk_next⟩, ⟨aW_writer_version, aW_writer_stride, aW_writer_roll, aW_writer_base, aW_writer_link, aW_writer_offsets, aW_writer_end, aW_writer_open, aW_writer_code⟩, aW_told, aW_sure, aW_falls⟩ : TWorld)) 1048576 = left0
  cbv
  try simp only [nc] at *
  split
  · cbv
    try simp only [nc] at *
    rw [← hQ]
    exact endD_one rfl rfl
  rename_i c1
  simp only [hE, List.length_map, std_lss, std_leq, std_gtr, std_geq, std_eql, std_neq, std_len, std_add, std_subI, std_mulI, std_ssize, std_not, std_band, std_bcmp, std_nat, std_ofNat, std_nadd, std_nsub, std_emp, IntKind.wrap_i64, decide_eq_true_eq, decide_eq_false_iff_not, Bool.not_eq_true', Bool.not_eq_false', Option.getD_none, Option.getD_some] at c1
  obtain ⟨g0, g0'⟩ := szOf_ge (t := totWorld (⟨⟨aW_set_room, aW_set_version, aW_set_stride, aW_set_roll⟩, ⟨aW_disk_nodes, aW_disk_entries, aW_disk_old, aW_disk_steps, aW_disk_room, aW_disk_next⟩, ⟨aW_writer_version, aW_writer_stride, aW_writer_roll, aW_writer_base, aW_writer_link, aW_writer_offsets, aW_writer_end, aW_writer_open, aW_writer_code⟩, aW_told, aW_sure, aW_falls⟩ : TWorld)) (left := 1048576) (by omega)
  have nn0 := totWorld_nn (⟨⟨aW_set_room, aW_set_version, aW_set_stride, aW_set_roll⟩, ⟨aW_disk_nodes, aW_disk_entries, aW_disk_old, aW_disk_steps, aW_disk_room, aW_disk_next⟩, ⟨aW_writer_version, aW_writer_stride, aW_writer_roll, aW_writer_base, aW_writer_link, aW_writer_offsets, aW_writer_end, aW_writer_open, aW_writer_code⟩, aW_told, aW_sure, aW_falls⟩ : TWorld)
  have bd_aW : totWorld (⟨⟨aW_set_room, aW_set_version, aW_set_stride, aW_set_roll⟩, ⟨aW_disk_nodes, aW_disk_entries, aW_disk_old, aW_disk_steps, aW_disk_room, aW_disk_next⟩, ⟨aW_writer_version, aW_writer_stride, aW_writer_roll, aW_writer_base, aW_writer_link, aW_writer_offsets, aW_writer_end, aW_writer_open, aW_writer_code⟩, aW_told, aW_sure, aW_falls⟩ : TWorld) ≤ 1048576 := by omega
  cbv
  try simp only [nc] at *
  refine ClW.dd (f := 45) rfl rfl rfl rfl (.cons rfl .nil) rfl ent45_ (T45_ haW_disk_nodes haW_disk_entries haW_disk_old haW_disk_steps haW_writer_offsets haW_told bd_aW) rfl ?_
  cbv
  try simp only [nc] at *
  obtain ⟨rr, hrr⟩ : ∃ rr, rr = rSureRow (⟨⟨aW_set_room, aW_set_version, aW_set_stride, aW_set_roll⟩, ⟨aW_disk_nodes, aW_disk_entries, aW_disk_old, aW_disk_steps, aW_disk_room, aW_disk_next⟩, ⟨aW_writer_version, aW_writer_stride, aW_writer_roll, aW_writer_base, aW_writer_link, aW_writer_offsets, aW_writer_end, aW_writer_open, aW_writer_code⟩, aW_told, aW_sure, aW_falls⟩ : TWorld) := ⟨_, rfl⟩
  have bd_rr : totStringS rr ≤ 549755813888 := by rw [hrr]; exact bSureRow bd_aW
  have bl_rr := totStringS_len rr
  refine ClW.dd (f := 44) rfl rfl rfl rfl (.cons rfl .nil) rfl ent44_ (T44_ haW_disk_nodes haW_disk_entries haW_disk_old haW_disk_steps haW_writer_offsets haW_told bd_aW) rfl ?_
  rw [← hrr]
  generalize hys : rr.map cS = ys
  obtain ⟨nr, hnr⟩ : ∃ n, n = rr.length := ⟨_, rfl⟩
  have hlr : nr = ys.length := by rw [hnr, ← hys, List.length_map]
  cbv
  try simp only [nc] at *
  refine ClW.ddA (f := 45) rfl rfl rfl rfl (.cons rfl .nil) rfl ent45_ (T45_R haW_disk_nodes haW_disk_entries haW_disk_old haW_disk_steps haW_writer_offsets haW_told hnaW_disk_nodes hnaW_disk_entries hnaW_disk_old hnaW_disk_steps hnaW_writer_offsets hnaW_told bd_aW) rfl rfl rfl (by simp [flat_row (fun _ => rfl) haW_disk_nodes, flat_row (fun _ => rfl) haW_disk_entries, flat_row (fun _ => rfl) haW_disk_old, flat_row (fun _ => rfl) haW_disk_steps, flat_row (fun _ => rfl) haW_writer_offsets, flat_row (fun _ => rfl) haW_told]) ?_
  cbv
  try simp only [nc] at *
  have hfl : ([Root.row 1 false ((rSureRow (⟨⟨aW_set_room, aW_set_version, aW_set_stride, aW_set_roll⟩, ⟨aW_disk_nodes, aW_disk_entries, aW_disk_old, aW_disk_steps, aW_disk_room, aW_disk_next⟩, ⟨aW_writer_version, aW_writer_stride, aW_writer_roll, aW_writer_base, aW_writer_link, aW_writer_offsets, aW_writer_end, aW_writer_open, aW_writer_code⟩, aW_told, aW_sure, aW_falls⟩ : TWorld)).map cS)]).all Root.flat = true := flat_map (fun _ => rfl) _
  refine ClW.lntR (f := 46) rfl rfl rfl rfl (.cons rfl .nil) (.agg (.d rfl (.d rfl (.d rfl (.d rfl (.ref rfl hl_aW_disk_nodes (.ref rfl hl_aW_disk_entries (.ref rfl hl_aW_disk_old (.ref rfl hl_aW_disk_steps (.d rfl (.d rfl (.d rfl (.d rfl (.d rfl (.d rfl (.d rfl (.ref rfl hl_aW_writer_offsets (.d rfl (.d rfl (.d rfl (.ref rfl hl_aW_told (.d rfl (.d rfl .nil)))))))))))))))))))))) .nil) ent46_ (T46_R haW_disk_nodes haW_disk_entries haW_disk_old haW_disk_steps haW_writer_offsets haW_told bd_aW) hfl ?_
  rw [← hrr, ← hnr, hys]
  cbv
  try simp only [nc] at *
  refine ClW.lnt (f := 24) rfl rfl rfl rfl (.cons rfl (.cons rfl .nil)) (.ref rfl hlr (.d rfl .nil)) ent24_ (T24_ hys (by omega)) rfl rfl ?_
  cbv
  try simp only [nc] at *
  rw [hself4]
  cbv
  try simp only [nc] at *
  refine ClW.dd (f := 45) rfl rfl rfl rfl (.cons rfl .nil) rfl ent45_ (T45_ haW_disk_nodes haW_disk_entries haW_disk_old haW_disk_steps haW_writer_offsets haW_told bd_aW) rfl ?_
  cbv
  try simp only [nc] at *
  refine ClW.lnt (f := 47) rfl rfl rfl rfl (.cons rfl (.cons rfl .nil)) (.agg (.d rfl (.d rfl (.d rfl (.d rfl (.ref rfl hl_aW_disk_nodes (.ref rfl hl_aW_disk_entries (.ref rfl hl_aW_disk_old (.ref rfl hl_aW_disk_steps (.d rfl (.d rfl (.d rfl (.d rfl (.d rfl (.d rfl (.d rfl (.ref rfl hl_aW_writer_offsets (.d rfl (.d rfl (.d rfl (.ref rfl hl_aW_told (.d rfl (.d rfl .nil)))))))))))))))))))))) (.d rfl .nil)) ent47_ (T47_ haW_disk_nodes haW_disk_entries haW_disk_old haW_disk_steps haW_writer_offsets haW_told (by omega)) rfl rfl ?_
  cbv
  try simp only [nc] at *
  rw [hself4]
  cbv
  try simp only [nc] at *
  refine ClW.mutN (f := 48) (π := [1, 2, 3, 4, 5, 6]) rfl rfl rfl rfl (.cons rfl (.cons rfl .nil)) rfl ent48_ (T48_ haW_disk_nodes haW_disk_entries haW_disk_old haW_disk_steps haW_writer_offsets haW_told hnaW_disk_nodes hnaW_disk_entries hnaW_disk_old hnaW_disk_steps hnaW_writer_offsets hnaW_told bd_aW (k := 1) (by omega) (by omega)) rfl (by simp) rfl (by simp) rfl rfl (by simp) ?_
  generalize hkk15 : 1 + 3 * (naW_disk_nodes : Int) + 2 * (naW_disk_entries : Int) + 2 * (naW_disk_old : Int) + 1 * (naW_disk_steps : Int) + 1 * (naW_writer_offsets : Int) + 1 * (naW_told : Int) = kk15
  generalize hmq15_0 : (mkRowNodeS (1) naW_disk_nodes).map eNode = mq15_0
  generalize hmq15_1 : (mkRowEntryS (1 + 3 * (naW_disk_nodes : Int)) naW_disk_entries).map eEntry = mq15_1
  generalize hmq15_2 : (mkRowEntryS (1 + 3 * (naW_disk_nodes : Int) + 2 * (naW_disk_entries : Int)) naW_disk_old).map eEntry = mq15_2
  generalize hmq15_3 : (mkRowStringS (1 + 3 * (naW_disk_nodes : Int) + 2 * (naW_disk_entries : Int) + 2 * (naW_disk_old : Int)) naW_disk_steps).map cS = mq15_3
  generalize hmq15_4 : (mkRowIntS (1 + 3 * (naW_disk_nodes : Int) + 2 * (naW_disk_entries : Int) + 2 * (naW_disk_old : Int) + 1 * (naW_disk_steps : Int)) naW_writer_offsets).map cI = mq15_4
  generalize hmq15_5 : (mkRowStringS (1 + 3 * (naW_disk_nodes : Int) + 2 * (naW_disk_entries : Int) + 2 * (naW_disk_old : Int) + 1 * (naW_disk_steps : Int) + 1 * (naW_writer_offsets : Int)) naW_told).map cS = mq15_5
  cbv
  try simp only [nc] at *
  rw [show qcmp .lss kk15 0 = false by simp only [hE, List.length_map, std_lss, std_leq, std_gtr, std_geq, std_eql, std_neq, std_len, std_add, std_subI, std_mulI, std_ssize, std_not, std_band, std_bcmp, std_nat, std_ofNat, std_nadd, std_nsub, std_emp, IntKind.wrap_i64, decide_eq_true_eq, decide_eq_false_iff_not, Bool.not_eq_true', Bool.not_eq_false', Option.getD_none, Option.getD_some, ]; omega]
  cbv
  try simp only [nc] at *
  refine ClW.lnt (f := 24) rfl rfl rfl rfl (.cons rfl (.cons rfl .nil)) (.ref rfl hlr (.d rfl .nil)) ent24_ (T24_ hys (by omega)) rfl rfl ?_
  cbv
  try simp only [nc] at *
  rw [hself4]
  cbv
  try simp only [nc] at *
  refine ClW.mut1 (f := 27) rfl rfl rfl rfl (.cons rfl (.cons rfl .nil)) rfl ent27_ (T27_ hys hnr (by omega) 1 (by omega) (by omega)) rfl ?_
  generalize hkk20 : (1 : Int) + 1 * (nr : Int) = kk20
  generalize hmk20 : (mkRowStringS 1 nr).map cS = ms20
  have hms20 : nr = ms20.length := by rw [← hmk20, List.length_map, mkRowStringS_length]
  cbv
  try simp only [nc] at *
  refine ClW.lnt (f := 28) rfl rfl rfl rfl (.cons rfl (.cons rfl .nil)) (.ref rfl hms20 (.d rfl .nil)) ent28_ (T28_ (n := nr) (k := 1) hmk20 (by omega) (by omega) (by omega)) rfl rfl ?_
  rw [show (1 : Int) + 1 * (nr : Int) = kk20 by omega]
  cbv
  try simp only [nc] at *
  rw [show qcmp .lss kk20 0 = false by simp only [hE, List.length_map, std_lss, std_leq, std_gtr, std_geq, std_eql, std_neq, std_len, std_add, std_subI, std_mulI, std_ssize, std_not, std_band, std_bcmp, std_nat, std_ofNat, std_nadd, std_nsub, std_emp, IntKind.wrap_i64, decide_eq_true_eq, decide_eq_false_iff_not, Bool.not_eq_true', Bool.not_eq_false', Option.getD_none, Option.getD_some, ]; omega]
  cbv
  try simp only [nc] at *
  rw [hself1]
  cbv
  try simp only [nc] at *
  refine ClW.dd (f := 45) rfl rfl rfl rfl (.cons rfl .nil) rfl ent45_ (T45_ haW_disk_nodes haW_disk_entries haW_disk_old haW_disk_steps haW_writer_offsets haW_told bd_aW) rfl ?_
  cbv
  try simp only [nc] at *
  refine ClW.lntR (f := 46) rfl rfl rfl rfl (.cons rfl .nil) (.d rfl .nil) ent46_ (T46_R haW_disk_nodes haW_disk_entries haW_disk_old haW_disk_steps haW_writer_offsets haW_told bd_aW) hfl ?_
  rw [← hrr, ← hnr, hys]
  cbv
  try simp only [nc] at *
  refine ClW.lnt (f := 24) rfl rfl rfl rfl (.cons rfl (.cons rfl .nil)) (.ref rfl hlr (.d rfl .nil)) ent24_ (T24_ hys (by omega)) rfl rfl ?_
  cbv
  try simp only [nc] at *
  rw [hself4]
  cbv
  try simp only [nc] at *
  refine ClW.lnt (f := 28) rfl rfl rfl rfl (.cons rfl (.cons rfl .nil)) (.ref rfl hms20 (.d rfl .nil)) ent28_ (T28_ (n := nr) (k := 1) hmk20 (by omega) (by omega) (by omega)) rfl rfl ?_
  rw [show (1 : Int) + 1 * (nr : Int) = kk20 by omega]
  cbv
  try simp only [nc] at *
  rw [show qcmp .lss kk20 0 = false by simp only [hE, List.length_map, std_lss, std_leq, std_gtr, std_geq, std_eql, std_neq, std_len, std_add, std_subI, std_mulI, std_ssize, std_not, std_band, std_bcmp, std_nat, std_ofNat, std_nadd, std_nsub, std_emp, IntKind.wrap_i64, decide_eq_true_eq, decide_eq_false_iff_not, Bool.not_eq_true', Bool.not_eq_false', Option.getD_none, Option.getD_some, ]; omega]
  cbv
  try simp only [nc] at *
  rw [hself1]
  cbv
  try simp only [nc] at *
  rw [← hQ]
  exact endD_one rfl rfl
end Go.Proofs.Ytamdgfklbjoaiaa.Ab
