/- What functions of the program come to, for all arguments in the given bounds. -/
import Derived.Test.YtamdgfklbjoaiaaCO
set_option linter.unusedVariables false
set_option linter.unusedSimpArgs false
namespace Go.Proofs.Ytamdgfklbjoaiaa.Ab
open Go Go.Proofs
set_option maxRecDepth 20000
/-! RoomLeft. -/
def usedU (nodes : List TNode) : Int := sumF (fun n : TNode => (n.text_.size : Int)) nodes
theorem usedU_nn (l : List TNode) : 0 ≤ usedU l := sumF_nonneg _ l (fun _ _ => by omega)
theorem usedU_tot (l : List TNode) : usedU l ≤ totNodeS l := by
  unfold usedU totNodeS
  have : sumF (fun n : TNode => (n.text_.size : Int)) l = sumF (fun x => totNode x) l := rfl
  omega
theorem usedU_succ {l : List TNode} {k : Nat} (h : k < l.length) : usedU (l.take (k + 1)) = usedU (l.take k) + (l[k].text_.size : Int) := sumF_succ _ l h
theorem usedU_take (l : List TNode) (k : Nat) : usedU (l.take k) ≤ usedU l := sumF_take_le _ l (fun _ _ => by omega) k
noncomputable def c68 : Code := (Try.f68.body).getD .skip
theorem ent68 : Entered Try.prog 68 := ⟨_, Try.func68, rfl, rfl⟩
noncomputable def c72 : Code := (Try.f72.body).getD .skip
theorem ent72 : Entered Try.prog 72 := ⟨_, Try.func72, rfl, rfl⟩
noncomputable def c34 : Code := (Try.f34.body).getD .skip
theorem ent34 : Entered Try.prog 34 := ⟨_, Try.func34, rfl, rfl⟩
noncomputable def c36 : Code := (Try.f36.body).getD .skip
theorem ent36 : Entered Try.prog 36 := ⟨_, Try.func36, rfl, rfl⟩
theorem T72 {d_nodes : List TNode} {xd_nodes : List (List D)} (hd_nodes : d_nodes.map eNode = xd_nodes) {d_entries : List TEntry} {xd_entries : List (List D)} (hd_entries : d_entries.map eEntry = xd_entries) {d_old : List TEntry} {xd_old : List (List D)} (hd_old : d_old.map eEntry = xd_old) {d_steps : List ByteArray} {xd_steps : List (List D)} (hd_steps : d_steps.map cS = xd_steps) {d_room : Int} {d_next : Int} (hb : totNodeS d_nodes ≤ 1048576) : CallOk Try.prog 72 [.agg [.d (.row 3 xd_nodes), .d (.row 2 xd_entries), .d (.row 2 xd_old), .d (.row 1 xd_steps), .d (.sc (.int .i64 d_room)), .d (.sc (.int .i64 d_next))]] [] ⟨.d (.sc (.int .i64 (usedU d_nodes))), [], []⟩ := by
  have hl := totNodeS_len d_nodes
  have hut := usedU_tot d_nodes
  refine CallOk.of_bodyD (body := c72) Try.func72 rfl (Nat.le_of_ble_eq_true (by kernel_rfl)) rfl ?_
  refine vc_ok tab_ok mixed ?_
  have hT := tab_ok
  have hm := mixed
  generalize hP : Try.prog = P at *
  generalize hA : std = A
  obtain ⟨qbin, qsh, qcmp, qscmp, qbcmp, qbnot, qneg, qwrap, qcat, qssize, qssub, qsget, qlen, qrsub, qapp, qelt, qset, qnth, qdrp, qstr, qint, qbool, qrow, qnat, qnadd, qnsub, qband, qofNat, qstrRow, qmkRow, qmx, qmn, qbytes, qemp⟩ := A
  have hE := Ar.eqs hA
  dsimp only at hE
  generalize hQ : EndD P Try.f72.results _ = Q
  have hn := rd_n hd_nodes
  cbv
  try simp only [nc] at *
  refine LpW.ofN (κ := Nat) (fun k => k ≤ d_nodes.length) (fun k => d_nodes.length - k) (fun k => [(3, .d (.sc (.int .i64 (usedU (d_nodes.take k))))), (7, .d (.row 3 xd_nodes)), (8, .d (.sc (.int .i64 d_nodes.length))), (9, .d (.sc (.int .i64 k)))]) (fun k => [.box [.d (.row 3 xd_nodes), .d (.row 2 xd_entries), .d (.row 2 xd_old), .d (.row 1 xd_steps), .d (.sc (.int .i64 d_room)), .d (.sc (.int .i64 d_next))]]) 0 1 (by omega) ?_ (by first | rfl | trivial) (fun _ _ => ⟨rfl, rfl, rfl⟩) ?_
  · refine .cons rfl (.cons rfl (.cons ?_ (.cons rfl (.nil _))))
    show AV.d (D.sc (Value.int IntKind.i64 (qlen xd_nodes))) = _
    simp only [hE, std_len, hn]
  · intro k hk
    have hu1 := usedU_nn (d_nodes.take k)
    generalize hc : usedU (d_nodes.take k) = c at *
    generalize hi : (k : Int) = i
    generalize hm' : (d_nodes.length : Int) = m at *
    refine vc_ok hT hm ?_
    rw [hA]
    cbv
    try simp only [nc] at *
    split
    · rename_i h2
      simp only [hE, List.length_map, std_lss, std_leq, std_gtr, std_geq, std_eql, std_neq, std_len, std_add, std_subI, std_mulI, std_ssize, std_not, std_band, std_bcmp, std_nat, std_ofNat, std_nadd, std_nsub, std_emp, IntKind.wrap_i64, decide_eq_true_eq, decide_eq_false_iff_not, Bool.not_eq_true', Bool.not_eq_false', Option.getD_none, Option.getD_some, hn] at h2
      have hk' : k < d_nodes.length := by omega
      have hs := usedU_succ hk'
      have hu2 := usedU_take d_nodes (k + 1)
      cbv
      try simp only [nc] at *
      repeat (refine And.intro (by first | (simp only [hE]; exact rd_inR hd_nodes hi hk') | (simp only [hE, rd_elt hd_nodes hi hk']; exact ⟨rfl⟩) | (simp only [hE, rd_elt hd_nodes hi hk']; exact ⟨Nat.le_of_ble_eq_true rfl⟩)) ?_)
      obtain ⟨t, ht⟩ : ∃ t, t = d_nodes[k].text_ := ⟨_, rfl⟩
      rw [show qstr (qnth (qelt xd_nodes i) 1) = t by rw [ht]; simp only [hE, rd_elt hd_nodes hi hk']; rfl]
      rw [← ht] at hs
      refine ⟨k + 1, by omega, by omega, ?_, by first | rfl | trivial⟩
      refine .cons ?_ (.cons rfl (.cons rfl (.cons ?_ (.nil _))))
      · show AV.d (D.sc (Value.int IntKind.i64 (qbin .add .i64 c (qssize t)))) = _
        rw [show qbin .add .i64 c (qssize t) = usedU (d_nodes.take (k + 1)) by simp only [hE, List.length_map, std_lss, std_leq, std_gtr, std_geq, std_eql, std_neq, std_len, std_add, std_subI, std_mulI, std_ssize, std_not, std_band, std_bcmp, std_nat, std_ofNat, std_nadd, std_nsub, std_emp, IntKind.wrap_i64, decide_eq_true_eq, decide_eq_false_iff_not, Bool.not_eq_true', Bool.not_eq_false', Option.getD_none, Option.getD_some, ]; omega]
      · show AV.d (D.sc (Value.int IntKind.i64 (qbin .add .i64 i 1))) = _
        simp only [hE, i_next hi (by omega)]
    · rename_i h2
      simp only [hE, List.length_map, std_lss, std_leq, std_gtr, std_geq, std_eql, std_neq, std_len, std_add, std_subI, std_mulI, std_ssize, std_not, std_band, std_bcmp, std_nat, std_ofNat, std_nadd, std_nsub, std_emp, IntKind.wrap_i64, decide_eq_true_eq, decide_eq_false_iff_not, Bool.not_eq_true', Bool.not_eq_false', Option.getD_none, Option.getD_some, hn] at h2
      cbv
      try simp only [nc] at *
      have hk' : k = d_nodes.length := by omega
      subst hk'
      rw [List.take_length] at hc
      rw [← hQ, hc]
      exact endD_one rfl rfl
theorem T68 {d_nodes : List TNode} {xd_nodes : List (List D)} (hd_nodes : d_nodes.map eNode = xd_nodes) {d_entries : List TEntry} {xd_entries : List (List D)} (hd_entries : d_entries.map eEntry = xd_entries) {d_old : List TEntry} {xd_old : List (List D)} (hd_old : d_old.map eEntry = xd_old) {d_steps : List ByteArray} {xd_steps : List (List D)} (hd_steps : d_steps.map cS = xd_steps) {d_room : Int} {d_next : Int} (hb : totNodeS d_nodes ≤ 1048576) : CallOk Try.prog 68 [.agg [.d (.row 3 xd_nodes), .d (.row 2 xd_entries), .d (.row 2 xd_old), .d (.row 1 xd_steps), .d (.sc (.int .i64 d_room)), .d (.sc (.int .i64 d_next))]] [] ⟨.d (.sc (.int .i64 (usedU d_nodes))), [], []⟩ := by
  have hl := totNodeS_len d_nodes
  have hut := usedU_tot d_nodes
  refine CallOk.of_bodyD (body := c68) Try.func68 rfl (Nat.le_of_ble_eq_true (by kernel_rfl)) rfl ?_
  refine vc_ok tab_ok mixed ?_
  have hT := tab_ok
  have hm := mixed
  generalize hP : Try.prog = P at *
  generalize hA : std = A
  obtain ⟨qbin, qsh, qcmp, qscmp, qbcmp, qbnot, qneg, qwrap, qcat, qssize, qssub, qsget, qlen, qrsub, qapp, qelt, qset, qnth, qdrp, qstr, qint, qbool, qrow, qnat, qnadd, qnsub, qband, qofNat, qstrRow, qmkRow, qmx, qmn, qbytes, qemp⟩ := A
  have hE := Ar.eqs hA
  dsimp only at hE
  generalize hQ : EndD P Try.f68.results _ = Q
  have hn := rd_n hd_nodes
  cbv
  try simp only [nc] at *
  refine LpW.ofN (κ := Nat) (fun k => k ≤ d_nodes.length) (fun k => d_nodes.length - k) (fun k => [(1, .ptr 0 0 0), (3, .d (.sc (.int .i64 (usedU (d_nodes.take k))))), (4, .d (.sc (.int .i64 k)))]) (fun k => [.box [.d (.row 3 xd_nodes), .d (.row 2 xd_entries), .d (.row 2 xd_old), .d (.row 1 xd_steps), .d (.sc (.int .i64 d_room)), .d (.sc (.int .i64 d_next))]]) 0 1 (by omega) ?_ (by first | rfl | trivial) (fun _ _ => ⟨rfl, rfl, rfl⟩) ?_
  · exact .cons rfl (.cons rfl (.cons rfl (.nil _)))
  · intro k hk
    have hu1 := usedU_nn (d_nodes.take k)
    generalize hc : usedU (d_nodes.take k) = c at *
    generalize hi : (k : Int) = i
    refine vc_ok hT hm ?_
    rw [hA]
    cbv
    try simp only [nc] at *
    split
    · rename_i h2
      simp only [hE, List.length_map, std_lss, std_leq, std_gtr, std_geq, std_eql, std_neq, std_len, std_add, std_subI, std_mulI, std_ssize, std_not, std_band, std_bcmp, std_nat, std_ofNat, std_nadd, std_nsub, std_emp, IntKind.wrap_i64, decide_eq_true_eq, decide_eq_false_iff_not, Bool.not_eq_true', Bool.not_eq_false', Option.getD_none, Option.getD_some, hn] at h2
      have hk' : k < d_nodes.length := by omega
      have hs := usedU_succ hk'
      have hu2 := usedU_take d_nodes (k + 1)
      cbv
      try simp only [nc] at *
      repeat (refine And.intro (by first | (simp only [hE]; exact rd_inR hd_nodes hi hk') | (simp only [hE, rd_elt hd_nodes hi hk']; exact ⟨rfl⟩) | (simp only [hE, rd_elt hd_nodes hi hk']; exact ⟨Nat.le_of_ble_eq_true rfl⟩)) ?_)
      obtain ⟨t, ht⟩ : ∃ t, t = d_nodes[k].text_ := ⟨_, rfl⟩
      rw [show qstr (qnth (qdrp (qelt xd_nodes i) 1) 0) = t by rw [ht]; simp only [hE, rd_elt hd_nodes hi hk']; rfl]
      rw [← ht] at hs
      refine ⟨k + 1, by omega, by omega, ?_, by first | rfl | trivial⟩
      refine .cons rfl (.cons ?_ (.cons ?_ (.nil _)))
      · show AV.d (D.sc (Value.int IntKind.i64 (qbin .add .i64 c (qssize t)))) = _
        rw [show qbin .add .i64 c (qssize t) = usedU (d_nodes.take (k + 1)) by simp only [hE, List.length_map, std_lss, std_leq, std_gtr, std_geq, std_eql, std_neq, std_len, std_add, std_subI, std_mulI, std_ssize, std_not, std_band, std_bcmp, std_nat, std_ofNat, std_nadd, std_nsub, std_emp, IntKind.wrap_i64, decide_eq_true_eq, decide_eq_false_iff_not, Bool.not_eq_true', Bool.not_eq_false', Option.getD_none, Option.getD_some, ]; omega]
      · show AV.d (D.sc (Value.int IntKind.i64 (qbin .add .i64 i 1))) = _
        simp only [hE, i_next hi (by omega)]
    · rename_i h2
      simp only [hE, List.length_map, std_lss, std_leq, std_gtr, std_geq, std_eql, std_neq, std_len, std_add, std_subI, std_mulI, std_ssize, std_not, std_band, std_bcmp, std_nat, std_ofNat, std_nadd, std_nsub, std_emp, IntKind.wrap_i64, decide_eq_true_eq, decide_eq_false_iff_not, Bool.not_eq_true', Bool.not_eq_false', Option.getD_none, Option.getD_some, hn] at h2
      cbv
      try simp only [nc] at *
      have hk' : k = d_nodes.length := by omega
      subst hk'
      rw [List.take_length] at hc
      rw [← hQ, hc]
      exact endD_one rfl rfl
def rRoomLeft (d : TDisk) : Int := if usedU d.nodes_ < d.room_ then d.room_ - usedU d.nodes_ else 0
theorem T34 {d_nodes : List TNode} {xd_nodes : List (List D)} (hd_nodes : d_nodes.map eNode = xd_nodes) {d_entries : List TEntry} {xd_entries : List (List D)} (hd_entries : d_entries.map eEntry = xd_entries) {d_old : List TEntry} {xd_old : List (List D)} (hd_old : d_old.map eEntry = xd_old) {d_steps : List ByteArray} {xd_steps : List (List D)} (hd_steps : d_steps.map cS = xd_steps) {d_room : Int} {d_next : Int} (hb : totDisk ⟨d_nodes, d_entries, d_old, d_steps, d_room, d_next⟩ ≤ 1048576) (hw : wfDisk ⟨d_nodes, d_entries, d_old, d_steps, d_room, d_next⟩) : CallOk Try.prog 34 [.agg [.d (.row 3 xd_nodes), .d (.row 2 xd_entries), .d (.row 2 xd_old), .d (.row 1 xd_steps), .d (.sc (.int .i64 d_room)), .d (.sc (.int .i64 d_next))]] [] ⟨.d (.sc (.int .i64 (rRoomLeft ⟨d_nodes, d_entries, d_old, d_steps, d_room, d_next⟩))), [], []⟩ := by
  have e1 := ent68
  have t1 := @T68
  obtain ⟨_, _, _, ⟨hr0, hr1⟩, _⟩ := hw
  have hn1 := totNodeS_nn d_nodes
  have hn2 := totEntryS_nn d_entries
  have hn3 := totEntryS_nn d_old
  have hn4 := totStringS_nn d_steps
  have hb' : totNodeS d_nodes + totEntryS d_entries + totEntryS d_old + totStringS d_steps ≤ 1048576 := hb
  have hu := usedU_nn d_nodes
  have hu2 := usedU_tot d_nodes
  dsimp only at hr0 hr1
  refine CallOk.of_bodyD (body := c34) Try.func34 rfl (Nat.le_of_ble_eq_true (by kernel_rfl)) rfl ?_
  refine vc_ok tab_ok mixed ?_
  have hT := tab_ok
  have hm := mixed
  generalize hP : Try.prog = P at *
  generalize hA : std = A
  obtain ⟨qbin, qsh, qcmp, qscmp, qbcmp, qbnot, qneg, qwrap, qcat, qssize, qssub, qsget, qlen, qrsub, qapp, qelt, qset, qnth, qdrp, qstr, qint, qbool, qrow, qnat, qnadd, qnsub, qband, qofNat, qstrRow, qmkRow, qmx, qmn, qbytes, qemp⟩ := A
  have hE := Ar.eqs hA
  dsimp only at hE
  generalize hQ : EndD P Try.f34.results _ = Q
  cbv
  try simp only [nc] at *
  refine ClW.dd (f := 68) rfl rfl rfl rfl (.cons rfl .nil) rfl e1 (t1 hd_nodes hd_entries hd_old hd_steps (by omega)) rfl ?_
  generalize hc : usedU d_nodes = c at *
  cbv
  try simp only [nc] at *
  split
  · rename_i h
    simp only [hE, List.length_map, std_lss, std_leq, std_gtr, std_geq, std_eql, std_neq, std_len, std_add, std_subI, std_mulI, std_ssize, std_not, std_band, std_bcmp, std_nat, std_ofNat, std_nadd, std_nsub, std_emp, IntKind.wrap_i64, decide_eq_true_eq, decide_eq_false_iff_not, Bool.not_eq_true', Bool.not_eq_false', Option.getD_none, Option.getD_some] at h
    cbv
    try simp only [nc] at *
    rw [← hQ]
    refine endD_val rfl (int_eq ?_)
    unfold rRoomLeft
    rw [show usedU _ = c from hc, if_neg (by dsimp only; omega)]
  · rename_i h
    simp only [hE, List.length_map, std_lss, std_leq, std_gtr, std_geq, std_eql, std_neq, std_len, std_add, std_subI, std_mulI, std_ssize, std_not, std_band, std_bcmp, std_nat, std_ofNat, std_nadd, std_nsub, std_emp, IntKind.wrap_i64, decide_eq_true_eq, decide_eq_false_iff_not, Bool.not_eq_true', Bool.not_eq_false', Option.getD_none, Option.getD_some] at h
    cbv
    try simp only [nc] at *
    refine ClW.dd (f := 68) rfl rfl rfl rfl (.cons rfl .nil) rfl e1 (t1 hd_nodes hd_entries hd_old hd_steps (by omega)) rfl ?_
    rw [hc]
    cbv
    try simp only [nc] at *
    rw [← hQ]
    refine endD_val rfl (int_eq ?_)
    unfold rRoomLeft
    dsimp only
    rw [hc]
    simp only [hE, List.length_map, std_lss, std_leq, std_gtr, std_geq, std_eql, std_neq, std_len, std_add, std_subI, std_mulI, std_ssize, std_not, std_band, std_bcmp, std_nat, std_ofNat, std_nadd, std_nsub, std_emp, IntKind.wrap_i64, decide_eq_true_eq, decide_eq_false_iff_not, Bool.not_eq_true', Bool.not_eq_false', Option.getD_none, Option.getD_some, ]
    split <;> omega
theorem T36 {d_nodes : List TNode} {xd_nodes : List (List D)} (hd_nodes : d_nodes.map eNode = xd_nodes) {d_entries : List TEntry} {xd_entries : List (List D)} (hd_entries : d_entries.map eEntry = xd_entries) {d_old : List TEntry} {xd_old : List (List D)} (hd_old : d_old.map eEntry = xd_old) {d_steps : List ByteArray} {xd_steps : List (List D)} (hd_steps : d_steps.map cS = xd_steps) {d_room : Int} {d_next : Int} (hb : totDisk ⟨d_nodes, d_entries, d_old, d_steps, d_room, d_next⟩ ≤ 1048576) (hw : wfDisk ⟨d_nodes, d_entries, d_old, d_steps, d_room, d_next⟩) : CallOk Try.prog 36 [.agg [.d (.row 3 xd_nodes), .d (.row 2 xd_entries), .d (.row 2 xd_old), .d (.row 1 xd_steps), .d (.sc (.int .i64 d_room)), .d (.sc (.int .i64 d_next))]] [] ⟨.d (.sc (.int .i64 (rRoomLeft ⟨d_nodes, d_entries, d_old, d_steps, d_room, d_next⟩))), [], []⟩ := by
  have e1 := ent72
  have t1 := @T72
  obtain ⟨_, _, _, ⟨hr0, hr1⟩, _⟩ := hw
  have hn1 := totNodeS_nn d_nodes
  have hn2 := totEntryS_nn d_entries
  have hn3 := totEntryS_nn d_old
  have hn4 := totStringS_nn d_steps
  have hb' : totNodeS d_nodes + totEntryS d_entries + totEntryS d_old + totStringS d_steps ≤ 1048576 := hb
  have hu := usedU_nn d_nodes
  have hu2 := usedU_tot d_nodes
  dsimp only at hr0 hr1
  refine CallOk.of_bodyD (body := c36) Try.func36 rfl (Nat.le_of_ble_eq_true (by kernel_rfl)) rfl ?_
  refine vc_ok tab_ok mixed ?_
  have hT := tab_ok
  have hm := mixed
  generalize hP : Try.prog = P at *
  generalize hA : std = A
  obtain ⟨qbin, qsh, qcmp, qscmp, qbcmp, qbnot, qneg, qwrap, qcat, qssize, qssub, qsget, qlen, qrsub, qapp, qelt, qset, qnth, qdrp, qstr, qint, qbool, qrow, qnat, qnadd, qnsub, qband, qofNat, qstrRow, qmkRow, qmx, qmn, qbytes, qemp⟩ := A
  have hE := Ar.eqs hA
  dsimp only at hE
  generalize hQ : EndD P Try.f36.results _ = Q
  cbv
  try simp only [nc] at *
  refine ClW.dd (f := 72) rfl rfl rfl rfl (.cons rfl .nil) rfl e1 (t1 hd_nodes hd_entries hd_old hd_steps (by omega)) rfl ?_
  generalize hc : usedU d_nodes = c at *
  cbv
  try simp only [nc] at *
  split
  · rename_i h
    simp only [hE, List.length_map, std_lss, std_leq, std_gtr, std_geq, std_eql, std_neq, std_len, std_add, std_subI, std_mulI, std_ssize, std_not, std_band, std_bcmp, std_nat, std_ofNat, std_nadd, std_nsub, std_emp, IntKind.wrap_i64, decide_eq_true_eq, decide_eq_false_iff_not, Bool.not_eq_true', Bool.not_eq_false', Option.getD_none, Option.getD_some] at h
    cbv
    try simp only [nc] at *
    rw [← hQ]
    refine endD_val rfl (int_eq ?_)
    unfold rRoomLeft
    dsimp only
    rw [hc, if_pos (by omega)]
    simp only [hE, List.length_map, std_lss, std_leq, std_gtr, std_geq, std_eql, std_neq, std_len, std_add, std_subI, std_mulI, std_ssize, std_not, std_band, std_bcmp, std_nat, std_ofNat, std_nadd, std_nsub, std_emp, IntKind.wrap_i64, decide_eq_true_eq, decide_eq_false_iff_not, Bool.not_eq_true', Bool.not_eq_false', Option.getD_none, Option.getD_some, ]
    omega
  · rename_i h
    simp only [hE, List.length_map, std_lss, std_leq, std_gtr, std_geq, std_eql, std_neq, std_len, std_add, std_subI, std_mulI, std_ssize, std_not, std_band, std_bcmp, std_nat, std_ofNat, std_nadd, std_nsub, std_emp, IntKind.wrap_i64, decide_eq_true_eq, decide_eq_false_iff_not, Bool.not_eq_true', Bool.not_eq_false', Option.getD_none, Option.getD_some] at h
    cbv
    try simp only [nc] at *
    rw [← hQ]
    refine endD_val rfl (int_eq ?_)
    unfold rRoomLeft
    dsimp only
    rw [hc, if_neg (by omega)]
end Go.Proofs.Ytamdgfklbjoaiaa.Ab
