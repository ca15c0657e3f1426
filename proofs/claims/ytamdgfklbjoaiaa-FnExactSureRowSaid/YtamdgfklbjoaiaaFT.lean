/- What functions of the program come to, for all arguments in the given bounds. -/
import Derived.Test.YtamdgfklbjoaiaaMA
set_option linter.unusedVariables false
set_option linter.unusedSimpArgs false
namespace Go.Proofs.Ytamdgfklbjoaiaa.Ab
open Go Go.Proofs
set_option maxRecDepth 20000
/-! Brought, SureRow. -/
def rBrought (n lo hi : Int) : Int := if hi < lo ∨ n < lo then lo else if n > hi then hi else n
theorem rBrought_in {n hi : Int} (h : 0 ≤ hi) : 0 ≤ rBrought n 0 hi ∧ rBrought n 0 hi ≤ hi := by
  unfold rBrought
  split
  · omega
  · split <;> omega
theorem std_mx {a b : Int} : std.mx a b = if b > a then b else a := rfl
theorem std_mn {a b : Int} : std.mn a b = if b < a then b else a := rfl
noncomputable def c84 : Code := (Try.f84.body).getD .skip
theorem ent84 : Entered Try.prog 84 := ⟨_, Try.func84, rfl, rfl⟩
noncomputable def c87 : Code := (Try.f87.body).getD .skip
theorem ent87 : Entered Try.prog 87 := ⟨_, Try.func87, rfl, rfl⟩
noncomputable def c44 : Code := (Try.f44.body).getD .skip
theorem ent44 : Entered Try.prog 44 := ⟨_, Try.func44, rfl, rfl⟩
noncomputable def c46 : Code := (Try.f46.body).getD .skip
theorem ent46 : Entered Try.prog 46 := ⟨_, Try.func46, rfl, rfl⟩
noncomputable def c86 : Code := (Try.f86.body).getD .skip
theorem ent86 : Entered Try.prog 86 := ⟨_, Try.func86, rfl, rfl⟩
theorem T84 (n lo hi : Int) : CallOk Try.prog 84 [.d (.sc (.int .i64 n)), .d (.sc (.int .i64 lo)), .d (.sc (.int .i64 hi))] [] ⟨.d (.sc (.int .i64 (rBrought n lo hi))), [], []⟩ := by
  obtain ⟨r, hr⟩ : ∃ r, r = rBrought n lo hi := ⟨_, rfl⟩
  rw [← hr]
  unfold rBrought at hr
  refine CallOk.of_bodyD (body := c84) Try.func84 rfl (Nat.le_of_ble_eq_true (by kernel_rfl)) rfl ?_
  refine vc_ok tab_ok mixed ?_
  have hT := tab_ok
  have hm := mixed
  generalize hP : Try.prog = P at *
  generalize hA : std = A
  obtain ⟨qbin, qsh, qcmp, qscmp, qbcmp, qbnot, qneg, qwrap, qcat, qssize, qssub, qsget, qlen, qrsub, qapp, qelt, qset, qnth, qdrp, qstr, qint, qbool, qrow, qnat, qnadd, qnsub, qband, qofNat, qstrRow, qmkRow, qmx, qmn, qbytes, qemp⟩ := A
  have hE := Ar.eqs hA
  dsimp only at hE
  generalize hQ : EndD P Try.f84.results _ = Q
  cbv
  try simp only [nc] at *
  split
  · rename_i h
    simp only [hE, List.length_map, std_lss, std_leq, std_gtr, std_geq, std_eql, std_neq, std_len, std_add, std_subI, std_mulI, std_ssize, std_not, std_band, std_bcmp, std_nat, std_ofNat, std_nadd, std_nsub, std_emp, IntKind.wrap_i64, decide_eq_true_eq, decide_eq_false_iff_not, Bool.not_eq_true', Bool.not_eq_false', Option.getD_none, Option.getD_some] at h
    rw [if_pos (.inl h)] at hr
    cbv
    try simp only [nc] at *
    rw [← hQ, hr]
    exact endD_one rfl rfl
  rename_i h
  simp only [hE, List.length_map, std_lss, std_leq, std_gtr, std_geq, std_eql, std_neq, std_len, std_add, std_subI, std_mulI, std_ssize, std_not, std_band, std_bcmp, std_nat, std_ofNat, std_nadd, std_nsub, std_emp, IntKind.wrap_i64, decide_eq_true_eq, decide_eq_false_iff_not, Bool.not_eq_true', Bool.not_eq_false', Option.getD_none, Option.getD_some] at h
  cbv
  try simp only [nc] at *
  split
  · rename_i h2
    simp only [hE, List.length_map, std_lss, std_leq, std_gtr, std_geq, std_eql, std_neq, std_len, std_add, std_subI, std_mulI, std_ssize, std_not, std_band, std_bcmp, std_nat, std_ofNat, std_nadd, std_nsub, std_emp, IntKind.wrap_i64, decide_eq_true_eq, decide_eq_false_iff_not, Bool.not_eq_true', Bool.not_eq_false', Option.getD_none, Option.getD_some] at h2
    rw [if_pos (.inr h2)] at hr
    cbv
    try simp only [nc] at *
    rw [← hQ, hr]
    exact endD_one rfl rfl
  rename_i h2
  simp only [hE, List.length_map, std_lss, std_leq, std_gtr, std_geq, std_eql, std_neq, std_len, std_add, std_subI, std_mulI, std_ssize, std_not, std_band, std_bcmp, std_nat, std_ofNat, std_nadd, std_nsub, std_emp, IntKind.wrap_i64, decide_eq_true_eq, decide_eq_false_iff_not, Bool.not_eq_true', Bool.not_eq_false', Option.getD_none, Option.getD_some] at h2
  rw [if_neg (by omega)] at hr
  cbv
  try simp only [nc] at *
  split
  · rename_i h3
    simp only [hE, List.length_map, std_lss, std_leq, std_gtr, std_geq, std_eql, std_neq, std_len, std_add, std_subI, std_mulI, std_ssize, std_not, std_band, std_bcmp, std_nat, std_ofNat, std_nadd, std_nsub, std_emp, IntKind.wrap_i64, decide_eq_true_eq, decide_eq_false_iff_not, Bool.not_eq_true', Bool.not_eq_false', Option.getD_none, Option.getD_some] at h3
    rw [if_pos (by omega)] at hr
    cbv
    try simp only [nc] at *
    rw [← hQ, hr]
    exact endD_one rfl rfl
  · rename_i h3
    simp only [hE, List.length_map, std_lss, std_leq, std_gtr, std_geq, std_eql, std_neq, std_len, std_add, std_subI, std_mulI, std_ssize, std_not, std_band, std_bcmp, std_nat, std_ofNat, std_nadd, std_nsub, std_emp, IntKind.wrap_i64, decide_eq_true_eq, decide_eq_false_iff_not, Bool.not_eq_true', Bool.not_eq_false', Option.getD_none, Option.getD_some] at h3
    rw [if_neg (by omega)] at hr
    cbv
    try simp only [nc] at *
    rw [← hQ, hr]
    exact endD_one rfl rfl
theorem T87 (n lo hi : Int) : CallOk Try.prog 87 [.d (.sc (.int .i64 n)), .d (.sc (.int .i64 lo)), .d (.sc (.int .i64 hi))] [] ⟨.d (.sc (.int .i64 (rBrought n lo hi))), [], []⟩ := by
  obtain ⟨r, hr⟩ : ∃ r, r = rBrought n lo hi := ⟨_, rfl⟩
  rw [← hr]
  unfold rBrought at hr
  refine CallOk.of_bodyD (body := c87) Try.func87 rfl (Nat.le_of_ble_eq_true (by kernel_rfl)) rfl ?_
  refine vc_ok tab_ok mixed ?_
  have hT := tab_ok
  have hm := mixed
  generalize hP : Try.prog = P at *
  generalize hA : std = A
  obtain ⟨qbin, qsh, qcmp, qscmp, qbcmp, qbnot, qneg, qwrap, qcat, qssize, qssub, qsget, qlen, qrsub, qapp, qelt, qset, qnth, qdrp, qstr, qint, qbool, qrow, qnat, qnadd, qnsub, qband, qofNat, qstrRow, qmkRow, qmx, qmn, qbytes, qemp⟩ := A
  have hE := Ar.eqs hA
  dsimp only at hE
  generalize hQ : EndD P Try.f87.results _ = Q
  cbv
  try simp only [nc] at *
  split
  · rename_i h
    simp only [hE, List.length_map, std_lss, std_leq, std_gtr, std_geq, std_eql, std_neq, std_len, std_add, std_subI, std_mulI, std_ssize, std_not, std_band, std_bcmp, std_nat, std_ofNat, std_nadd, std_nsub, std_emp, IntKind.wrap_i64, decide_eq_true_eq, decide_eq_false_iff_not, Bool.not_eq_true', Bool.not_eq_false', Option.getD_none, Option.getD_some] at h
    rw [if_pos (.inl h)] at hr
    cbv
    try simp only [nc] at *
    rw [← hQ, hr]
    exact endD_one rfl rfl
  · rename_i h
    simp only [hE, List.length_map, std_lss, std_leq, std_gtr, std_geq, std_eql, std_neq, std_len, std_add, std_subI, std_mulI, std_ssize, std_not, std_band, std_bcmp, std_nat, std_ofNat, std_nadd, std_nsub, std_emp, IntKind.wrap_i64, decide_eq_true_eq, decide_eq_false_iff_not, Bool.not_eq_true', Bool.not_eq_false', Option.getD_none, Option.getD_some] at h
    cbv
    try simp only [nc] at *
    rw [← hQ]
    refine endD_val rfl (int_eq ?_)
    rw [hr]
    simp only [hE, std_mx, std_mn]
    repeat' split
    all_goals omega
theorem T86R {xs : List (List D)} (hl : xs.length ≤ 1048576) : CallOk Try.prog 86 [.d (.row 1 xs)] [] ⟨.ref 0 0 xs.length, [.row 1 false xs], []⟩ := by
  refine CallOk.of_body (body := c86) Try.func86 rfl (Nat.le_of_ble_eq_true (by kernel_rfl)) rfl rfl ?_
  refine vc_ok tab_ok mixed ?_
  have hT := tab_ok
  have hm := mixed
  generalize hP : Try.prog = P at *
  generalize hA : std = A
  obtain ⟨qbin, qsh, qcmp, qscmp, qbcmp, qbnot, qneg, qwrap, qcat, qssize, qssub, qsget, qlen, qrsub, qapp, qelt, qset, qnth, qdrp, qstr, qint, qbool, qrow, qnat, qnadd, qnsub, qband, qofNat, qstrRow, qmkRow, qmx, qmn, qbytes, qemp⟩ := A
  have hE := Ar.eqs hA
  dsimp only at hE
  generalize hQ : EndQ P Try.f86.results [] _ = Q
  cbv
  try simp only [nc] at *
  refine ⟨fun hnil => ?_, ?_⟩
  · have hx : xs = [] := by
      have : xs.isEmpty = true := by rw [← hnil]; simp only [hE, std_emp]
      simpa using this
    subst hx
    cbv
    try simp only [nc] at *
    rw [← hQ]
    exact endR_ref rfl rfl
  · cbv
    try simp only [nc] at *
    have ha : qapp [] xs = xs := by simp only [hE, std_app]; rfl
    have hN : qnat (qlen (qapp [] xs)) = xs.length := by rw [ha]; simp only [hE, std_len, std_nat, Int.toNat_natCast]
    refine ⟨⟨rfl, rfl, by simp only [List.length_nil]; omega, by simp only [List.length_nil]; omega⟩, ?_⟩
    rw [ha] at hN ⊢
    rw [hN, ← hQ]
    exact endR_ref rfl rfl
def rSureRow (w : TWorld) : List ByteArray := w.told_.take (rBrought w.sure_ 0 w.told_.length).toNat
theorem T46R {w_set_room : Int} {w_set_version : Int} {w_set_stride : Int} {w_set_roll : Int} {w_disk_nodes : List TNode} {xw_disk_nodes : List (List D)} (hw_disk_nodes : w_disk_nodes.map eNode = xw_disk_nodes) {w_disk_entries : List TEntry} {xw_disk_entries : List (List D)} (hw_disk_entries : w_disk_entries.map eEntry = xw_disk_entries) {w_disk_old : List TEntry} {xw_disk_old : List (List D)} (hw_disk_old : w_disk_old.map eEntry = xw_disk_old) {w_disk_steps : List ByteArray} {xw_disk_steps : List (List D)} (hw_disk_steps : w_disk_steps.map cS = xw_disk_steps) {w_disk_room : Int} {w_disk_next : Int} {w_writer_version : Int} {w_writer_stride : Int} {w_writer_roll : Int} {w_writer_base : Int} {w_writer_link : Int} {w_writer_offsets : List Int} {xw_writer_offsets : List (List D)} (hw_writer_offsets : w_writer_offsets.map cI = xw_writer_offsets) {w_writer_end : Int} {w_writer_open : Bool} {w_writer_code : Int} {w_told : List ByteArray} {xw_told : List (List D)} (hw_told : w_told.map cS = xw_told) {w_sure : Int} {w_falls : Int} (hb : totWorld ⟨⟨w_set_room, w_set_version, w_set_stride, w_set_roll⟩, ⟨w_disk_nodes, w_disk_entries, w_disk_old, w_disk_steps, w_disk_room, w_disk_next⟩, ⟨w_writer_version, w_writer_stride, w_writer_roll, w_writer_base, w_writer_link, w_writer_offsets, w_writer_end, w_writer_open, w_writer_code⟩, w_told, w_sure, w_falls⟩ ≤ 1048576) : CallOk Try.prog 46 [.agg [.d (.sc (.int .i64 w_set_room)), .d (.sc (.int .i64 w_set_version)), .d (.sc (.int .i64 w_set_stride)), .d (.sc (.int .i64 w_set_roll)), .d (.row 3 xw_disk_nodes), .d (.row 2 xw_disk_entries), .d (.row 2 xw_disk_old), .d (.row 1 xw_disk_steps), .d (.sc (.int .i64 w_disk_room)), .d (.sc (.int .i64 w_disk_next)), .d (.sc (.int .i64 w_writer_version)), .d (.sc (.int .i64 w_writer_stride)), .d (.sc (.int .i64 w_writer_roll)), .d (.sc (.int .i64 w_writer_base)), .d (.sc (.int .i64 w_writer_link)), .d (.row 1 xw_writer_offsets), .d (.sc (.int .i64 w_writer_end)), .d (.sc (.bool w_writer_open)), .d (.sc (.int .i64 w_writer_code)), .d (.row 1 xw_told), .d (.sc (.int .i64 w_sure)), .d (.sc (.int .i64 w_falls))]] [] ⟨.ref 0 0 (rSureRow ⟨⟨w_set_room, w_set_version, w_set_stride, w_set_roll⟩, ⟨w_disk_nodes, w_disk_entries, w_disk_old, w_disk_steps, w_disk_room, w_disk_next⟩, ⟨w_writer_version, w_writer_stride, w_writer_roll, w_writer_base, w_writer_link, w_writer_offsets, w_writer_end, w_writer_open, w_writer_code⟩, w_told, w_sure, w_falls⟩).length, [.row 1 false ((rSureRow ⟨⟨w_set_room, w_set_version, w_set_stride, w_set_roll⟩, ⟨w_disk_nodes, w_disk_entries, w_disk_old, w_disk_steps, w_disk_room, w_disk_next⟩, ⟨w_writer_version, w_writer_stride, w_writer_roll, w_writer_base, w_writer_link, w_writer_offsets, w_writer_end, w_writer_open, w_writer_code⟩, w_told, w_sure, w_falls⟩).map cS)], []⟩ := by
  have e1 := ent87
  have t1 := @T87
  have e2 := ent86
  have t2 := @T86R
  have hd := totDisk_nn (⟨w_disk_nodes, w_disk_entries, w_disk_old, w_disk_steps, w_disk_room, w_disk_next⟩ : TDisk)
  have hw := totWriter_nn (⟨w_writer_version, w_writer_stride, w_writer_roll, w_writer_base, w_writer_link, w_writer_offsets, w_writer_end, w_writer_open, w_writer_code⟩ : TWriter)
  have ht := totStringS_len w_told
  have hb' : totDisk (⟨w_disk_nodes, w_disk_entries, w_disk_old, w_disk_steps, w_disk_room, w_disk_next⟩ : TDisk) + totWriter (⟨w_writer_version, w_writer_stride, w_writer_roll, w_writer_base, w_writer_link, w_writer_offsets, w_writer_end, w_writer_open, w_writer_code⟩ : TWriter) + totStringS w_told ≤ 1048576 := hb
  obtain ⟨rr, hrr⟩ : ∃ rr, rr = rSureRow ⟨⟨w_set_room, w_set_version, w_set_stride, w_set_roll⟩, ⟨w_disk_nodes, w_disk_entries, w_disk_old, w_disk_steps, w_disk_room, w_disk_next⟩, ⟨w_writer_version, w_writer_stride, w_writer_roll, w_writer_base, w_writer_link, w_writer_offsets, w_writer_end, w_writer_open, w_writer_code⟩, w_told, w_sure, w_falls⟩ := ⟨_, rfl⟩
  rw [← hrr]
  have hrr' : rr = w_told.take (rBrought w_sure 0 w_told.length).toNat := hrr
  have hbr := rBrought_in (n := w_sure) (hi := w_told.length) (by omega)
  refine CallOk.of_body (body := c46) Try.func46 rfl (Nat.le_of_ble_eq_true (by kernel_rfl)) rfl rfl ?_
  refine vc_ok tab_ok mixed ?_
  have hT := tab_ok
  have hm := mixed
  generalize hP : Try.prog = P at *
  generalize hA : std = A
  obtain ⟨qbin, qsh, qcmp, qscmp, qbcmp, qbnot, qneg, qwrap, qcat, qssize, qssub, qsget, qlen, qrsub, qapp, qelt, qset, qnth, qdrp, qstr, qint, qbool, qrow, qnat, qnadd, qnsub, qband, qofNat, qstrRow, qmkRow, qmx, qmn, qbytes, qemp⟩ := A
  have hE := Ar.eqs hA
  dsimp only at hE
  generalize hQ : EndQ P Try.f46.results [] _ = Q
  have hn := rd_n hw_told
  cbv
  try simp only [nc] at *
  rw [show qlen xw_told = (w_told.length : Int) by simp only [hE, std_len, hn]]
  generalize hz : (w_told.length : Int) = z at *
  refine ClW.dd (f := 87) rfl rfl rfl rfl (.cons rfl (.cons rfl (.cons rfl .nil))) rfl e1 (t1 w_sure 0 z) rfl ?_
  generalize hm2 : rBrought w_sure 0 z = m at *
  cbv
  try simp only [nc] at *
  refine ⟨by simp only [hE, List.length_map, std_lss, std_leq, std_gtr, std_geq, std_eql, std_neq, std_len, std_add, std_subI, std_mulI, std_ssize, std_not, std_band, std_bcmp, std_nat, std_ofNat, std_nadd, std_nsub, std_emp, IntKind.wrap_i64, decide_eq_true_eq, decide_eq_false_iff_not, Bool.not_eq_true', Bool.not_eq_false', Option.getD_none, Option.getD_some, hn]; exact ⟨by omega, by omega, by omega⟩, ?_⟩
  obtain ⟨mm, hmm⟩ : ∃ k : Nat, (k : Int) = m := ⟨m.toNat, by omega⟩
  have hsub : qrsub xw_told 0 m = rr.map cS := by
    rw [hrr', ← hmm, Int.toNat_natCast]
    simp only [hE]
    exact (rsub_take hw_told rfl).symm
  have hrl : (rr.map cS).length = rr.length := by simp
  have hrl2 : rr.length ≤ 1048576 := by rw [hrr', List.length_take]; omega
  rw [hsub]
  generalize hys : rr.map cS = ys at *
  refine ClW.lntR (f := 86) rfl rfl rfl rfl (.cons rfl .nil) (.d rfl .nil) e2 (t2 (by omega)) (by rw [← hys]; exact flat_map (fun _ => rfl) _) ?_
  generalize hyl : ys.length = yl at *
  cbv
  try simp only [nc] at *
  rw [← hQ, ← hrl]
  exact endR_ref rfl rfl
theorem T46 {w_set_room : Int} {w_set_version : Int} {w_set_stride : Int} {w_set_roll : Int} {w_disk_nodes : List TNode} {xw_disk_nodes : List (List D)} (hw_disk_nodes : w_disk_nodes.map eNode = xw_disk_nodes) {w_disk_entries : List TEntry} {xw_disk_entries : List (List D)} (hw_disk_entries : w_disk_entries.map eEntry = xw_disk_entries) {w_disk_old : List TEntry} {xw_disk_old : List (List D)} (hw_disk_old : w_disk_old.map eEntry = xw_disk_old) {w_disk_steps : List ByteArray} {xw_disk_steps : List (List D)} (hw_disk_steps : w_disk_steps.map cS = xw_disk_steps) {w_disk_room : Int} {w_disk_next : Int} {w_writer_version : Int} {w_writer_stride : Int} {w_writer_roll : Int} {w_writer_base : Int} {w_writer_link : Int} {w_writer_offsets : List Int} {xw_writer_offsets : List (List D)} (hw_writer_offsets : w_writer_offsets.map cI = xw_writer_offsets) {w_writer_end : Int} {w_writer_open : Bool} {w_writer_code : Int} {w_told : List ByteArray} {xw_told : List (List D)} (hw_told : w_told.map cS = xw_told) {w_sure : Int} {w_falls : Int} (hb : totWorld ⟨⟨w_set_room, w_set_version, w_set_stride, w_set_roll⟩, ⟨w_disk_nodes, w_disk_entries, w_disk_old, w_disk_steps, w_disk_room, w_disk_next⟩, ⟨w_writer_version, w_writer_stride, w_writer_roll, w_writer_base, w_writer_link, w_writer_offsets, w_writer_end, w_writer_open, w_writer_code⟩, w_told, w_sure, w_falls⟩ ≤ 1048576) : CallOk Try.prog 46 [.agg [.d (.sc (.int .i64 w_set_room)), .d (.sc (.int .i64 w_set_version)), .d (.sc (.int .i64 w_set_stride)), .d (.sc (.int .i64 w_set_roll)), .d (.row 3 xw_disk_nodes), .d (.row 2 xw_disk_entries), .d (.row 2 xw_disk_old), .d (.row 1 xw_disk_steps), .d (.sc (.int .i64 w_disk_room)), .d (.sc (.int .i64 w_disk_next)), .d (.sc (.int .i64 w_writer_version)), .d (.sc (.int .i64 w_writer_stride)), .d (.sc (.int .i64 w_writer_roll)), .d (.sc (.int .i64 w_writer_base)), .d (.sc (.int .i64 w_writer_link)), .d (.row 1 xw_writer_offsets), .d (.sc (.int .i64 w_writer_end)), .d (.sc (.bool w_writer_open)), .d (.sc (.int .i64 w_writer_code)), .d (.row 1 xw_told), .d (.sc (.int .i64 w_sure)), .d (.sc (.int .i64 w_falls))]] [] ⟨.d (.row 1 ((rSureRow ⟨⟨w_set_room, w_set_version, w_set_stride, w_set_roll⟩, ⟨w_disk_nodes, w_disk_entries, w_disk_old, w_disk_steps, w_disk_room, w_disk_next⟩, ⟨w_writer_version, w_writer_stride, w_writer_roll, w_writer_base, w_writer_link, w_writer_offsets, w_writer_end, w_writer_open, w_writer_code⟩, w_told, w_sure, w_falls⟩).map cS)), [], []⟩ := (T46R hw_disk_nodes hw_disk_entries hw_disk_old hw_disk_steps hw_writer_offsets hw_told hb).rowD rfl (by simp)
theorem T44 {w_set_room : Int} {w_set_version : Int} {w_set_stride : Int} {w_set_roll : Int} {w_disk_nodes : List TNode} {xw_disk_nodes : List (List D)} (hw_disk_nodes : w_disk_nodes.map eNode = xw_disk_nodes) {w_disk_entries : List TEntry} {xw_disk_entries : List (List D)} (hw_disk_entries : w_disk_entries.map eEntry = xw_disk_entries) {w_disk_old : List TEntry} {xw_disk_old : List (List D)} (hw_disk_old : w_disk_old.map eEntry = xw_disk_old) {w_disk_steps : List ByteArray} {xw_disk_steps : List (List D)} (hw_disk_steps : w_disk_steps.map cS = xw_disk_steps) {w_disk_room : Int} {w_disk_next : Int} {w_writer_version : Int} {w_writer_stride : Int} {w_writer_roll : Int} {w_writer_base : Int} {w_writer_link : Int} {w_writer_offsets : List Int} {xw_writer_offsets : List (List D)} (hw_writer_offsets : w_writer_offsets.map cI = xw_writer_offsets) {w_writer_end : Int} {w_writer_open : Bool} {w_writer_code : Int} {w_told : List ByteArray} {xw_told : List (List D)} (hw_told : w_told.map cS = xw_told) {w_sure : Int} {w_falls : Int} (hb : totWorld ⟨⟨w_set_room, w_set_version, w_set_stride, w_set_roll⟩, ⟨w_disk_nodes, w_disk_entries, w_disk_old, w_disk_steps, w_disk_room, w_disk_next⟩, ⟨w_writer_version, w_writer_stride, w_writer_roll, w_writer_base, w_writer_link, w_writer_offsets, w_writer_end, w_writer_open, w_writer_code⟩, w_told, w_sure, w_falls⟩ ≤ 1048576) : CallOk Try.prog 44 [.agg [.d (.sc (.int .i64 w_set_room)), .d (.sc (.int .i64 w_set_version)), .d (.sc (.int .i64 w_set_stride)), .d (.sc (.int .i64 w_set_roll)), .d (.row 3 xw_disk_nodes), .d (.row 2 xw_disk_entries), .d (.row 2 xw_disk_old), .d (.row 1 xw_disk_steps), .d (.sc (.int .i64 w_disk_room)), .d (.sc (.int .i64 w_disk_next)), .d (.sc (.int .i64 w_writer_version)), .d (.sc (.int .i64 w_writer_stride)), .d (.sc (.int .i64 w_writer_roll)), .d (.sc (.int .i64 w_writer_base)), .d (.sc (.int .i64 w_writer_link)), .d (.row 1 xw_writer_offsets), .d (.sc (.int .i64 w_writer_end)), .d (.sc (.bool w_writer_open)), .d (.sc (.int .i64 w_writer_code)), .d (.row 1 xw_told), .d (.sc (.int .i64 w_sure)), .d (.sc (.int .i64 w_falls))]] [] ⟨.d (.row 1 ((rSureRow ⟨⟨w_set_room, w_set_version, w_set_stride, w_set_roll⟩, ⟨w_disk_nodes, w_disk_entries, w_disk_old, w_disk_steps, w_disk_room, w_disk_next⟩, ⟨w_writer_version, w_writer_stride, w_writer_roll, w_writer_base, w_writer_link, w_writer_offsets, w_writer_end, w_writer_open, w_writer_code⟩, w_told, w_sure, w_falls⟩).map cS)), [], []⟩ := by
  have e1 := ent84
  have t1 := @T84
  have hd := totDisk_nn (⟨w_disk_nodes, w_disk_entries, w_disk_old, w_disk_steps, w_disk_room, w_disk_next⟩ : TDisk)
  have hw := totWriter_nn (⟨w_writer_version, w_writer_stride, w_writer_roll, w_writer_base, w_writer_link, w_writer_offsets, w_writer_end, w_writer_open, w_writer_code⟩ : TWriter)
  have ht := totStringS_len w_told
  have hb' : totDisk (⟨w_disk_nodes, w_disk_entries, w_disk_old, w_disk_steps, w_disk_room, w_disk_next⟩ : TDisk) + totWriter (⟨w_writer_version, w_writer_stride, w_writer_roll, w_writer_base, w_writer_link, w_writer_offsets, w_writer_end, w_writer_open, w_writer_code⟩ : TWriter) + totStringS w_told ≤ 1048576 := hb
  obtain ⟨rr, hrr⟩ : ∃ rr, rr = rSureRow ⟨⟨w_set_room, w_set_version, w_set_stride, w_set_roll⟩, ⟨w_disk_nodes, w_disk_entries, w_disk_old, w_disk_steps, w_disk_room, w_disk_next⟩, ⟨w_writer_version, w_writer_stride, w_writer_roll, w_writer_base, w_writer_link, w_writer_offsets, w_writer_end, w_writer_open, w_writer_code⟩, w_told, w_sure, w_falls⟩ := ⟨_, rfl⟩
  rw [← hrr]
  have hrr' : rr = w_told.take (rBrought w_sure 0 w_told.length).toNat := hrr
  have hbr := rBrought_in (n := w_sure) (hi := w_told.length) (by omega)
  refine CallOk.of_bodyD (body := c44) Try.func44 rfl (Nat.le_of_ble_eq_true (by kernel_rfl)) rfl ?_
  refine vc_ok tab_ok mixed ?_
  have hT := tab_ok
  have hm := mixed
  generalize hP : Try.prog = P at *
  generalize hA : std = A
  obtain ⟨qbin, qsh, qcmp, qscmp, qbcmp, qbnot, qneg, qwrap, qcat, qssize, qssub, qsget, qlen, qrsub, qapp, qelt, qset, qnth, qdrp, qstr, qint, qbool, qrow, qnat, qnadd, qnsub, qband, qofNat, qstrRow, qmkRow, qmx, qmn, qbytes, qemp⟩ := A
  have hE := Ar.eqs hA
  dsimp only at hE
  generalize hQ : EndD P Try.f44.results _ = Q
  have hn := rd_n hw_told
  cbv
  try simp only [nc] at *
  rw [show qlen xw_told = (w_told.length : Int) by simp only [hE, std_len, hn]]
  generalize hz : (w_told.length : Int) = z at *
  refine ClW.dd (f := 84) rfl rfl rfl rfl (.cons rfl (.cons rfl (.cons rfl .nil))) rfl e1 (t1 w_sure 0 z) rfl ?_
  generalize hm2 : rBrought w_sure 0 z = m at *
  cbv
  try simp only [nc] at *
  obtain ⟨mm, hmm⟩ : ∃ k : Nat, (k : Int) = m := ⟨m.toNat, by omega⟩
  have hsub : qrsub xw_told 0 m = rr.map cS := by
    rw [hrr', ← hmm, Int.toNat_natCast]
    simp only [hE]
    exact (rsub_take hw_told rfl).symm
  have hrl : (rr.map cS).length = rr.length := by simp
  have hrl2 : rr.length ≤ 1048576 := by rw [hrr', List.length_take]; omega
  rw [hsub]
  generalize hys : rr.map cS = ys at *
  have ha : qapp [] ys = ys := by simp only [hE, std_app]; rfl
  refine ⟨by simp only [hE, List.length_map, std_lss, std_leq, std_gtr, std_geq, std_eql, std_neq, std_len, std_add, std_subI, std_mulI, std_ssize, std_not, std_band, std_bcmp, std_nat, std_ofNat, std_nadd, std_nsub, std_emp, IntKind.wrap_i64, decide_eq_true_eq, decide_eq_false_iff_not, Bool.not_eq_true', Bool.not_eq_false', Option.getD_none, Option.getD_some, hn]; exact ⟨by omega, by omega, by omega⟩, ⟨rfl, rfl, by simp only [List.length_nil]; omega, by simp only [List.length_nil]; omega⟩, ?_⟩
  have hN : qnat (qlen ys) = ys.length := by simp only [hE, std_len, std_nat, Int.toNat_natCast]
  rw [ha, hN, ← hQ]
  exact endD_ref rfl rfl rfl
theorem bSureRow {w : TWorld} (hb : totWorld w ≤ 1048576) : totStringS (rSureRow w) ≤ 549755813888 := by
  have hd := totDisk_nn w.disk_
  have hw := totWriter_nn w.writer_
  have hb' : totDisk w.disk_ + totWriter w.writer_ + totStringS w.told_ ≤ 1048576 := hb
  have h1 := sumF_take_le (fun x : ByteArray => (x.size : Int)) w.told_ (fun x _ => totStringS_el x) (rBrought w.sure_ 0 w.told_.length).toNat
  have h2 : ((rSureRow w).length : Int) ≤ w.told_.length := by unfold rSureRow; rw [List.length_take]; omega
  unfold totStringS at hb' ⊢
  unfold rSureRow at h2 ⊢
  omega
end Go.Proofs.Ytamdgfklbjoaiaa.Ab
