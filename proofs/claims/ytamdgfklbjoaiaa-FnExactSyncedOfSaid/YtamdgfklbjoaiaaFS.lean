/- What functions of the program come to, for all arguments in the given bounds. -/
import Derived.Test.YtamdgfklbjoaiaaCO
set_option linter.unusedVariables false
set_option linter.unusedSimpArgs false
namespace Go.Proofs.Ytamdgfklbjoaiaa.Ab
open Go Go.Proofs
set_option maxRecDepth 20000
/-! TakenOf, SyncedOf. -/
def doneB (codes : List Int) (k : Nat) : Bool := decide (codes[k]? = some 0)
def takenU (acts : List TAct) (codes : List Int) : Nat → List ByteArray
  | 0 => []
  | k + 1 => takenU acts codes k ++ (match acts[k]? with | some a => if a.kind_ = 1 ∧ doneB codes k = true then [a.text_] else [] | none => [])
def rTakenOf (acts : List TAct) (codes : List Int) : List ByteArray := takenU acts codes acts.length
theorem takenU_succ {acts : List TAct} {codes : List Int} {k : Nat} (h : k < acts.length) : takenU acts codes (k + 1) = takenU acts codes k ++ (if acts[k].kind_ = 1 ∧ doneB codes k = true then [acts[k].text_] else []) := by
  simp only [takenU]
  rw [List.getElem?_eq_getElem h]
theorem takenU_le (acts : List TAct) (codes : List Int) : ∀ k, (takenU acts codes k).length ≤ k
  | 0 => by simp [takenU]
  | k + 1 => by
    have := takenU_le acts codes k
    simp only [takenU, List.length_append]
    split
    · split <;> simp <;> omega
    · simp; omega
theorem takenU_take (acts : List TAct) (codes : List Int) (n : Nat) : ∀ k, k ≤ n → takenU (acts.take n) codes k = takenU acts codes k
  | 0, _ => rfl
  | k + 1, h => by
    simp only [takenU]
    rw [takenU_take acts codes n k (by omega), List.getElem?_take_of_lt (by omega)]
def syncU (acts : List TAct) (codes : List Int) : Nat → Nat
  | 0 => 0
  | k + 1 => match acts[k]? with | some a => if (2 ≤ a.kind_ ∧ a.kind_ ≤ 4) ∧ doneB codes k = true then (takenU acts codes k).length else syncU acts codes k | none => syncU acts codes k
def rSyncedOf (acts : List TAct) (codes : List Int) : Int := syncU acts codes acts.length
theorem syncU_succ {acts : List TAct} {codes : List Int} {k : Nat} (h : k < acts.length) : syncU acts codes (k + 1) = if (2 ≤ acts[k].kind_ ∧ acts[k].kind_ ≤ 4) ∧ doneB codes k = true then (takenU acts codes k).length else syncU acts codes k := by
  simp only [syncU]
  rw [List.getElem?_eq_getElem h]
theorem syncU_le (acts : List TAct) (codes : List Int) : ∀ k, syncU acts codes k ≤ k
  | 0 => by simp [syncU]
  | k + 1 => by
    have := syncU_le acts codes k
    have := takenU_le acts codes k
    simp only [syncU]
    split
    · split <;> omega
    · omega
noncomputable def c54 : Code := (Try.f54.body).getD .skip
theorem ent54 : Entered Try.prog 54 := ⟨_, Try.func54, rfl, rfl⟩
noncomputable def c57 : Code := (Try.f57.body).getD .skip
theorem ent57 : Entered Try.prog 57 := ⟨_, Try.func57, rfl, rfl⟩
noncomputable def c30 : Code := (Try.f30.body).getD .skip
theorem ent30 : Entered Try.prog 30 := ⟨_, Try.func30, rfl, rfl⟩
noncomputable def c29 : Code := (Try.f29.body).getD .skip
theorem ent29 : Entered Try.prog 29 := ⟨_, Try.func29, rfl, rfl⟩
noncomputable def c14 : Code := (Try.f14.body).getD .skip
theorem ent14 : Entered Try.prog 14 := ⟨_, Try.func14, rfl, rfl⟩
noncomputable def c17 : Code := (Try.f17.body).getD .skip
theorem ent17 : Entered Try.prog 17 := ⟨_, Try.func17, rfl, rfl⟩
theorem T54 {codes : List Int} {xs : List (List D)} (hx : codes.map cI = xs) {k : Nat} {i : Int} (hi : (k : Int) = i) : CallOk Try.prog 54 [.d (.row 1 xs), .d (.sc (.int .i64 i))] [] ⟨.d (.sc (.bool (doneB codes k))), [], []⟩ := by
  refine CallOk.of_bodyD (body := c54) Try.func54 rfl (Nat.le_of_ble_eq_true (by kernel_rfl)) rfl ?_
  refine vc_ok tab_ok mixed ?_
  have hT := tab_ok
  have hm := mixed
  generalize hP : Try.prog = P at *
  generalize hA : std = A
  obtain ⟨qbin, qsh, qcmp, qscmp, qbcmp, qbnot, qneg, qwrap, qcat, qssize, qssub, qsget, qlen, qrsub, qapp, qelt, qset, qnth, qdrp, qstr, qint, qbool, qrow, qnat, qnadd, qnsub, qband, qofNat, qstrRow, qmkRow, qmx, qmn, qbytes⟩ := A
  have hE := Ar.eqs hA
  dsimp only at hE
  generalize hQ : EndD P Try.f54.results _ = Q
  have hn := rd_n hx
  cbv
  try simp only [nc] at *
  split
  · rename_i h
    simp only [hE, List.length_map, std_lss, std_leq, std_gtr, std_geq, std_eql, std_neq, std_len, std_add, std_subI, std_mulI, std_ssize, std_not, std_band, std_bcmp, std_nat, std_ofNat, std_nadd, std_nsub, IntKind.wrap_i64, decide_eq_true_eq, decide_eq_false_iff_not, Bool.not_eq_true', Bool.not_eq_false', Option.getD_none, Option.getD_some, hn] at h
    have hk' : k < codes.length := by omega
    cbv
    try simp only [nc] at *
    repeat (refine And.intro (by first | (simp only [hE]; exact rd_inR hx hi hk') | (simp only [hE, rd_elt hx hi hk']; exact ⟨rfl⟩) | (simp only [hE, rd_elt hx hi hk']; exact ⟨Nat.le_of_ble_eq_true rfl⟩)) ?_)
    obtain ⟨v, hv⟩ : ∃ v, v = codes[k] := ⟨_, rfl⟩
    rw [show qint (qnth (qelt xs i) 0) = v by rw [hv]; simp only [hE, rd_elt hx hi hk']; rfl]
    cbv
    try simp only [nc] at *
    rw [← hQ]
    refine endD_val rfl (bool_eq ?_)
    simp only [hE, std_eql]
    unfold doneB
    rw [List.getElem?_eq_getElem hk', ← hv]
    simp
  · rename_i h
    simp only [hE, List.length_map, std_lss, std_leq, std_gtr, std_geq, std_eql, std_neq, std_len, std_add, std_subI, std_mulI, std_ssize, std_not, std_band, std_bcmp, std_nat, std_ofNat, std_nadd, std_nsub, IntKind.wrap_i64, decide_eq_true_eq, decide_eq_false_iff_not, Bool.not_eq_true', Bool.not_eq_false', Option.getD_none, Option.getD_some, hn] at h
    cbv
    try simp only [nc] at *
    rw [← hQ]
    refine endD_val rfl (bool_eq ?_)
    unfold doneB
    rw [List.getElem?_eq_none (by omega)]
    rfl
theorem T57 {codes : List Int} {xs : List (List D)} (hx : codes.map cI = xs) {k : Nat} {i : Int} (hi : (k : Int) = i) : CallOk Try.prog 57 [.d (.row 1 xs), .d (.sc (.int .i64 i))] [] ⟨.d (.sc (.bool (doneB codes k))), [], []⟩ := by
  refine CallOk.of_bodyD (body := c57) Try.func57 rfl (Nat.le_of_ble_eq_true (by kernel_rfl)) rfl ?_
  refine vc_ok tab_ok mixed ?_
  have hT := tab_ok
  have hm := mixed
  generalize hP : Try.prog = P at *
  generalize hA : std = A
  obtain ⟨qbin, qsh, qcmp, qscmp, qbcmp, qbnot, qneg, qwrap, qcat, qssize, qssub, qsget, qlen, qrsub, qapp, qelt, qset, qnth, qdrp, qstr, qint, qbool, qrow, qnat, qnadd, qnsub, qband, qofNat, qstrRow, qmkRow, qmx, qmn, qbytes⟩ := A
  have hE := Ar.eqs hA
  dsimp only at hE
  generalize hQ : EndD P Try.f57.results _ = Q
  have hn := rd_n hx
  cbv
  try simp only [nc] at *
  split
  · rename_i h
    simp only [hE, List.length_map, std_lss, std_leq, std_gtr, std_geq, std_eql, std_neq, std_len, std_add, std_subI, std_mulI, std_ssize, std_not, std_band, std_bcmp, std_nat, std_ofNat, std_nadd, std_nsub, IntKind.wrap_i64, decide_eq_true_eq, decide_eq_false_iff_not, Bool.not_eq_true', Bool.not_eq_false', Option.getD_none, Option.getD_some, hn] at h
    have hk' : k < codes.length := by omega
    cbv
    try simp only [nc] at *
    repeat (refine And.intro (by first | (simp only [hE]; exact rd_inR hx hi hk') | (simp only [hE, rd_elt hx hi hk']; exact ⟨rfl⟩) | (simp only [hE, rd_elt hx hi hk']; exact ⟨Nat.le_of_ble_eq_true rfl⟩)) ?_)
    obtain ⟨v, hv⟩ : ∃ v, v = codes[k] := ⟨_, rfl⟩
    rw [show qint (qnth (qelt xs i) 0) = v by rw [hv]; simp only [hE, rd_elt hx hi hk']; rfl]
    cbv
    try simp only [nc] at *
    rw [← hQ]
    refine endD_val rfl (bool_eq ?_)
    simp only [hE, std_eql]
    unfold doneB
    rw [List.getElem?_eq_getElem hk', ← hv]
    simp
  · rename_i h
    simp only [hE, List.length_map, std_lss, std_leq, std_gtr, std_geq, std_eql, std_neq, std_len, std_add, std_subI, std_mulI, std_ssize, std_not, std_band, std_bcmp, std_nat, std_ofNat, std_nadd, std_nsub, IntKind.wrap_i64, decide_eq_true_eq, decide_eq_false_iff_not, Bool.not_eq_true', Bool.not_eq_false', Option.getD_none, Option.getD_some, hn] at h
    cbv
    try simp only [nc] at *
    rw [← hQ]
    refine endD_val rfl (bool_eq ?_)
    unfold doneB
    rw [List.getElem?_eq_none (by omega)]
    rfl
theorem T30R {acts : List TAct} {xs : List (List D)} (hx : acts.map eAct = xs) {codes : List Int} {ys : List (List D)} (hy : codes.map cI = ys) (ha : acts.length ≤ 1048576) :
    CallOk Try.prog 30 [.d (.row 4 xs), .d (.row 1 ys)] [] ⟨.ref 0 0 (rTakenOf acts codes).length, [.row 1 false ((rTakenOf acts codes).map cS)], []⟩ := by
  have e1 := ent57
  have t1 := @T57
  refine CallOk.of_body (body := c30) Try.func30 rfl (Nat.le_of_ble_eq_true (by kernel_rfl)) rfl rfl ?_
  refine vc_ok tab_ok mixed ?_
  have hT := tab_ok
  have hm := mixed
  generalize hP : Try.prog = P at *
  generalize hA : std = A
  obtain ⟨qbin, qsh, qcmp, qscmp, qbcmp, qbnot, qneg, qwrap, qcat, qssize, qssub, qsget, qlen, qrsub, qapp, qelt, qset, qnth, qdrp, qstr, qint, qbool, qrow, qnat, qnadd, qnsub, qband, qofNat, qstrRow, qmkRow, qmx, qmn, qbytes⟩ := A
  have hE := Ar.eqs hA
  dsimp only at hE
  generalize hQ : EndQ P Try.f30.results [] _ = Q
  have hn := rd_n hx
  cbv
  try simp only [nc] at *
  refine LpW.app 1 rfl (κ := Nat) (fun k => k ≤ acts.length) (fun k => acts.length - k) (fun k => [(1, .d (.row 1 ys)), (5, .ref 2 0 (takenU acts codes k).length), (9, .d (.row 4 xs)), (10, .d (.sc (.int .i64 acts.length))), (11, .d (.sc (.int .i64 k)))]) (fun k => [.row 1 false [], .dead] ++ [.row 1 false ((takenU acts codes k).map cS)]) 0 2 rfl (by omega) ?_ rfl ?_
  · refine .cons rfl (.cons rfl (.cons rfl (.cons ?_ (.cons rfl (.nil _)))))
    show AV.d (D.sc (Value.int IntKind.i64 (qlen xs))) = _
    simp only [hE, std_len, hn]
  · intro k hk
    generalize hz : (takenU acts codes k).map cS = zs
    have hzl : zs.length = (takenU acts codes k).length := by rw [← hz]; simp
    have hzk := takenU_le acts codes k
    generalize hln : (takenU acts codes k).length = n at *
    generalize hi : (k : Int) = i
    generalize hm' : (acts.length : Int) = m at *
    refine vc_ok hT hm ?_
    rw [hA]
    cbv
    try simp only [nc] at *
    split
    · rename_i h2
      simp only [hE, List.length_map, std_lss, std_leq, std_gtr, std_geq, std_eql, std_neq, std_len, std_add, std_subI, std_mulI, std_ssize, std_not, std_band, std_bcmp, std_nat, std_ofNat, std_nadd, std_nsub, IntKind.wrap_i64, decide_eq_true_eq, decide_eq_false_iff_not, Bool.not_eq_true', Bool.not_eq_false', Option.getD_none, Option.getD_some, hn] at h2
      have hk' : k < acts.length := by omega
      have hsuc := takenU_succ (codes := codes) hk'
      cbv
      try simp only [nc] at *
      repeat (refine And.intro (by first | (simp only [hE]; exact rd_inR hx hi hk') | (simp only [hE, rd_elt hx hi hk']; exact ⟨rfl⟩) | (simp only [hE, rd_elt hx hi hk']; exact ⟨Nat.le_of_ble_eq_true rfl⟩)) ?_)
      obtain ⟨w, hw⟩ : ∃ w, w = acts[k].kind_ := ⟨_, rfl⟩
      rw [show qint (qnth (qelt xs i) 0) = w by rw [hw]; simp only [hE, rd_elt hx hi hk']; rfl]
      rw [← hw] at hsuc
      split
      · rename_i h3
        simp only [hE, List.length_map, std_lss, std_leq, std_gtr, std_geq, std_eql, std_neq, std_len, std_add, std_subI, std_mulI, std_ssize, std_not, std_band, std_bcmp, std_nat, std_ofNat, std_nadd, std_nsub, IntKind.wrap_i64, decide_eq_true_eq, decide_eq_false_iff_not, Bool.not_eq_true', Bool.not_eq_false', Option.getD_none, Option.getD_some] at h3
        cbv
        try simp only [nc] at *
        refine ClW.dd (f := 57) rfl rfl rfl rfl (.cons rfl (.cons rfl .nil)) rfl e1 (t1 hy hi) rfl ?_
        generalize hd : doneB codes k = b at *
        cbv
        try simp only [nc] at *
        cases b with
        | true =>
          cbv
          try simp only [nc] at *
          repeat (refine And.intro (by first | (simp only [hE]; exact rd_inR hx hi hk') | (simp only [hE, rd_elt hx hi hk']; exact ⟨rfl⟩) | (simp only [hE, rd_elt hx hi hk']; exact ⟨Nat.le_of_ble_eq_true rfl⟩)) ?_)
          obtain ⟨t, ht⟩ : ∃ t, t = acts[k].text_ := ⟨_, rfl⟩
          rw [show qstr (qnth (qelt xs i) 1) = t by rw [ht]; simp only [hE, rd_elt hx hi hk']; rfl]
          have ha : qapp zs (qrsub [[D.sc (Value.string t)]] (qofNat 0) (qofNat (qnadd 0 1))) = (takenU acts codes (k + 1)).map cS := by
            simp only [hE]
            rw [app_one (c := cS) (x := t) (ds := [D.sc (Value.string t)]) hz rfl, hsuc, if_pos ⟨by omega, by trivial⟩, ht]
          have hN : qnat (qlen (qapp zs (qrsub [[D.sc (Value.string t)]] (qofNat 0) (qofNat (qnadd 0 1))))) = (takenU acts codes (k + 1)).length := by
            rw [ha]
            simp only [hE, std_len, std_nat, List.length_map, Int.toNat_natCast]
          have hyl : (qrsub [[D.sc (Value.string t)]] (qofNat 0) (qofNat (qnadd 0 1))).length = 1 := by simp only [hE]; rfl
          refine ⟨?_, ⟨by simp⟩, k + 1, by omega, by omega, RoundEnd.one (r := 6) (by omega) rfl rfl rfl ha (.cons rfl (.cons ?_ (.cons rfl (.cons rfl (.cons ?_ .nil)))))⟩
          · exact ⟨rfl, hzl.symm, by rw [hyl]; omega, by rw [hyl]; omega⟩
          · show some (AV.ref 2 0 (qnat (qlen (qapp zs (qrsub [[D.sc (Value.string t)]] (qofNat 0) (qofNat (qnadd 0 1))))))) = _
            rw [hN]
          · show some (AV.d (D.sc (Value.int IntKind.i64 (qbin .add .i64 i 1)))) = _
            simp only [hE, i_next hi (by omega)]
        | false =>
          cbv
          try simp only [nc] at *
          have hs' : takenU acts codes (k + 1) = takenU acts codes k := by rw [hsuc, if_neg (by simp)]; simp
          refine ⟨k + 1, by omega, by omega, RoundEnd.one (r := 2) (by omega) rfl rfl rfl (by rw [hs', hz]) (.cons rfl (.cons ?_ (.cons rfl (.cons rfl (.cons ?_ .nil)))))⟩
          · show some (AV.ref 2 0 n) = _
            rw [hs', hln]
          · show some (AV.d (D.sc (Value.int IntKind.i64 (qbin .add .i64 i 1)))) = _
            simp only [hE, i_next hi (by omega)]
      · rename_i h3
        simp only [hE, List.length_map, std_lss, std_leq, std_gtr, std_geq, std_eql, std_neq, std_len, std_add, std_subI, std_mulI, std_ssize, std_not, std_band, std_bcmp, std_nat, std_ofNat, std_nadd, std_nsub, IntKind.wrap_i64, decide_eq_true_eq, decide_eq_false_iff_not, Bool.not_eq_true', Bool.not_eq_false', Option.getD_none, Option.getD_some] at h3
        cbv
        try simp only [nc] at *
        have hs' : takenU acts codes (k + 1) = takenU acts codes k := by rw [hsuc, if_neg (by omega)]; simp
        refine ⟨k + 1, by omega, by omega, RoundEnd.one (r := 2) (by omega) rfl rfl rfl (by rw [hs', hz]) (.cons rfl (.cons ?_ (.cons rfl (.cons rfl (.cons ?_ .nil)))))⟩
        · show some (AV.ref 2 0 n) = _
          rw [hs', hln]
        · show some (AV.d (D.sc (Value.int IntKind.i64 (qbin .add .i64 i 1)))) = _
          simp only [hE, i_next hi (by omega)]
    · rename_i h2
      simp only [hE, List.length_map, std_lss, std_leq, std_gtr, std_geq, std_eql, std_neq, std_len, std_add, std_subI, std_mulI, std_ssize, std_not, std_band, std_bcmp, std_nat, std_ofNat, std_nadd, std_nsub, IntKind.wrap_i64, decide_eq_true_eq, decide_eq_false_iff_not, Bool.not_eq_true', Bool.not_eq_false', Option.getD_none, Option.getD_some, hn] at h2
      cbv
      try simp only [nc] at *
      have hk' : k = acts.length := by omega
      subst hk'
      rw [← hQ, ← hln]
      unfold rTakenOf
      rw [hz]
      exact endR_ref rfl rfl
theorem T30 {acts : List TAct} {xs : List (List D)} (hx : acts.map eAct = xs) {codes : List Int} {ys : List (List D)} (hy : codes.map cI = ys) (ha : acts.length ≤ 1048576) :
    CallOk Try.prog 30 [.d (.row 4 xs), .d (.row 1 ys)] [] ⟨.d (.row 1 ((rTakenOf acts codes).map cS)), [], []⟩ := (T30R hx hy ha).rowD rfl (by simp)
theorem T29R {acts : List TAct} {xs : List (List D)} (hx : acts.map eAct = xs) {codes : List Int} {ys : List (List D)} (hy : codes.map cI = ys) (ha : acts.length ≤ 1048576) :
    CallOk Try.prog 29 [.d (.row 4 xs), .d (.row 1 ys)] [] ⟨.ref 0 0 (rTakenOf acts codes).length, [.row 1 false ((rTakenOf acts codes).map cS)], []⟩ := by
  have e1 := ent54
  have t1 := @T54
  refine CallOk.of_body (body := c29) Try.func29 rfl (Nat.le_of_ble_eq_true (by kernel_rfl)) rfl rfl ?_
  refine vc_ok tab_ok mixed ?_
  have hT := tab_ok
  have hm := mixed
  generalize hP : Try.prog = P at *
  generalize hA : std = A
  obtain ⟨qbin, qsh, qcmp, qscmp, qbcmp, qbnot, qneg, qwrap, qcat, qssize, qssub, qsget, qlen, qrsub, qapp, qelt, qset, qnth, qdrp, qstr, qint, qbool, qrow, qnat, qnadd, qnsub, qband, qofNat, qstrRow, qmkRow, qmx, qmn, qbytes⟩ := A
  have hE := Ar.eqs hA
  dsimp only at hE
  generalize hQ : EndQ P Try.f29.results [] _ = Q
  have hn := rd_n hx
  cbv
  try simp only [nc] at *
  refine LpW.app 1 rfl (κ := Nat) (fun k => k ≤ acts.length) (fun k => acts.length - k) (fun k => [(0, .d (.row 4 xs)), (1, .d (.row 1 ys)), (5, .ref 2 0 (takenU acts codes k).length), (6, .d (.sc (.int .i64 k)))]) (fun k => [.row 1 false [], .dead] ++ [.row 1 false ((takenU acts codes k).map cS)]) 0 2 rfl (by omega) ?_ rfl ?_
  · exact .cons rfl (.cons rfl (.cons rfl (.cons rfl (.nil _))))
  · intro k hk
    generalize hz : (takenU acts codes k).map cS = zs
    have hzl : zs.length = (takenU acts codes k).length := by rw [← hz]; simp
    have hzk := takenU_le acts codes k
    generalize hln : (takenU acts codes k).length = n at *
    generalize hi : (k : Int) = i
    generalize hm' : (acts.length : Int) = m at *
    refine vc_ok hT hm ?_
    rw [hA]
    cbv
    try simp only [nc] at *
    split
    · rename_i h2
      simp only [hE, List.length_map, std_lss, std_leq, std_gtr, std_geq, std_eql, std_neq, std_len, std_add, std_subI, std_mulI, std_ssize, std_not, std_band, std_bcmp, std_nat, std_ofNat, std_nadd, std_nsub, IntKind.wrap_i64, decide_eq_true_eq, decide_eq_false_iff_not, Bool.not_eq_true', Bool.not_eq_false', Option.getD_none, Option.getD_some, hn] at h2
      have hk' : k < acts.length := by omega
      have hsuc := takenU_succ (codes := codes) hk'
      cbv
      try simp only [nc] at *
      repeat (refine And.intro (by first | (simp only [hE]; exact rd_inR hx hi hk') | (simp only [hE, rd_elt hx hi hk']; exact ⟨rfl⟩) | (simp only [hE, rd_elt hx hi hk']; exact ⟨Nat.le_of_ble_eq_true rfl⟩)) ?_)
      obtain ⟨w, hw⟩ : ∃ w, w = acts[k].kind_ := ⟨_, rfl⟩
      rw [show qint (qnth (qdrp (qelt xs i) 0) 0) = w by rw [hw]; simp only [hE, rd_elt hx hi hk']; rfl]
      rw [← hw] at hsuc
      split
      · rename_i h3
        simp only [hE, List.length_map, std_lss, std_leq, std_gtr, std_geq, std_eql, std_neq, std_len, std_add, std_subI, std_mulI, std_ssize, std_not, std_band, std_bcmp, std_nat, std_ofNat, std_nadd, std_nsub, IntKind.wrap_i64, decide_eq_true_eq, decide_eq_false_iff_not, Bool.not_eq_true', Bool.not_eq_false', Option.getD_none, Option.getD_some] at h3
        cbv
        try simp only [nc] at *
        refine ClW.dd (f := 54) rfl rfl rfl rfl (.cons rfl (.cons rfl .nil)) rfl e1 (t1 hy hi) rfl ?_
        generalize hd : doneB codes k = b at *
        cbv
        try simp only [nc] at *
        cases b with
        | true =>
          cbv
          try simp only [nc] at *
          repeat (refine And.intro (by first | (simp only [hE]; exact rd_inR hx hi hk') | (simp only [hE, rd_elt hx hi hk']; exact ⟨rfl⟩) | (simp only [hE, rd_elt hx hi hk']; exact ⟨Nat.le_of_ble_eq_true rfl⟩)) ?_)
          obtain ⟨t, ht⟩ : ∃ t, t = acts[k].text_ := ⟨_, rfl⟩
          rw [show qstr (qnth (qdrp (qelt xs i) 1) 0) = t by rw [ht]; simp only [hE, rd_elt hx hi hk']; rfl]
          have ha : qapp zs (qrsub [[D.sc (Value.string t)]] (qofNat 0) (qofNat (qnadd 0 1))) = (takenU acts codes (k + 1)).map cS := by
            simp only [hE]
            rw [app_one (c := cS) (x := t) (ds := [D.sc (Value.string t)]) hz rfl, hsuc, if_pos ⟨by omega, by trivial⟩, ht]
          have hN : qnat (qlen (qapp zs (qrsub [[D.sc (Value.string t)]] (qofNat 0) (qofNat (qnadd 0 1))))) = (takenU acts codes (k + 1)).length := by
            rw [ha]
            simp only [hE, std_len, std_nat, List.length_map, Int.toNat_natCast]
          have hyl : (qrsub [[D.sc (Value.string t)]] (qofNat 0) (qofNat (qnadd 0 1))).length = 1 := by simp only [hE]; rfl
          refine ⟨?_, ⟨by simp⟩, k + 1, by omega, by omega, RoundEnd.one (r := 4) (by omega) rfl rfl rfl ha (.cons rfl (.cons rfl (.cons ?_ (.cons ?_ .nil))))⟩
          · exact ⟨rfl, hzl.symm, by rw [hyl]; omega, by rw [hyl]; omega⟩
          · show some (AV.ref 2 0 (qnat (qlen (qapp zs (qrsub [[D.sc (Value.string t)]] (qofNat 0) (qofNat (qnadd 0 1))))))) = _
            rw [hN]
          · show some (AV.d (D.sc (Value.int IntKind.i64 (qbin .add .i64 i 1)))) = _
            simp only [hE, i_next hi (by omega)]
        | false =>
          cbv
          try simp only [nc] at *
          have hs' : takenU acts codes (k + 1) = takenU acts codes k := by rw [hsuc, if_neg (by simp)]; simp
          refine ⟨k + 1, by omega, by omega, RoundEnd.one (r := 2) (by omega) rfl rfl rfl (by rw [hs', hz]) (.cons rfl (.cons rfl (.cons ?_ (.cons ?_ .nil))))⟩
          · show some (AV.ref 2 0 n) = _
            rw [hs', hln]
          · show some (AV.d (D.sc (Value.int IntKind.i64 (qbin .add .i64 i 1)))) = _
            simp only [hE, i_next hi (by omega)]
      · rename_i h3
        simp only [hE, List.length_map, std_lss, std_leq, std_gtr, std_geq, std_eql, std_neq, std_len, std_add, std_subI, std_mulI, std_ssize, std_not, std_band, std_bcmp, std_nat, std_ofNat, std_nadd, std_nsub, IntKind.wrap_i64, decide_eq_true_eq, decide_eq_false_iff_not, Bool.not_eq_true', Bool.not_eq_false', Option.getD_none, Option.getD_some] at h3
        cbv
        try simp only [nc] at *
        have hs' : takenU acts codes (k + 1) = takenU acts codes k := by rw [hsuc, if_neg (by omega)]; simp
        refine ⟨k + 1, by omega, by omega, RoundEnd.one (r := 2) (by omega) rfl rfl rfl (by rw [hs', hz]) (.cons rfl (.cons rfl (.cons ?_ (.cons ?_ .nil))))⟩
        · show some (AV.ref 2 0 n) = _
          rw [hs', hln]
        · show some (AV.d (D.sc (Value.int IntKind.i64 (qbin .add .i64 i 1)))) = _
          simp only [hE, i_next hi (by omega)]
    · rename_i h2
      simp only [hE, List.length_map, std_lss, std_leq, std_gtr, std_geq, std_eql, std_neq, std_len, std_add, std_subI, std_mulI, std_ssize, std_not, std_band, std_bcmp, std_nat, std_ofNat, std_nadd, std_nsub, IntKind.wrap_i64, decide_eq_true_eq, decide_eq_false_iff_not, Bool.not_eq_true', Bool.not_eq_false', Option.getD_none, Option.getD_some, hn] at h2
      cbv
      try simp only [nc] at *
      have hk' : k = acts.length := by omega
      subst hk'
      rw [← hQ, ← hln]
      unfold rTakenOf
      rw [hz]
      exact endR_ref rfl rfl
theorem T29 {acts : List TAct} {xs : List (List D)} (hx : acts.map eAct = xs) {codes : List Int} {ys : List (List D)} (hy : codes.map cI = ys) (ha : acts.length ≤ 1048576) :
    CallOk Try.prog 29 [.d (.row 4 xs), .d (.row 1 ys)] [] ⟨.d (.row 1 ((rTakenOf acts codes).map cS)), [], []⟩ := (T29R hx hy ha).rowD rfl (by simp)
theorem rsub_take {α : Type} {c : α → List D} {a : List α} {xs : List (List D)} {k : Nat} {i : Int} (hx : a.map c = xs) (hi : (k : Int) = i) : (a.take k).map c = std.rsub xs 0 i := by
  subst hx hi
  show _ = ((a.map c).drop (0 : Int).toNat).take ((k : Int).toNat - (0 : Int).toNat)
  simp
theorem T17 {acts : List TAct} {xs : List (List D)} (hx : acts.map eAct = xs) {codes : List Int} {ys : List (List D)} (hy : codes.map cI = ys) (hb : totActS acts ≤ 1048576) (hb' : totIntS codes ≤ 1048576) :
    CallOk Try.prog 17 [.d (.row 4 xs), .d (.row 1 ys)] [] ⟨.d (.sc (.int .i64 (rSyncedOf acts codes))), [], []⟩ := by
  have e1 := ent57
  have t1 := @T57
  have e2 := ent56
  have t2 := @T56
  have e3 := ent30
  have t3 := @T30
  have ha := totActS_len acts
  refine CallOk.of_bodyD (body := c17) Try.func17 rfl (Nat.le_of_ble_eq_true (by kernel_rfl)) rfl ?_
  refine vc_ok tab_ok mixed ?_
  have hT := tab_ok
  have hm := mixed
  generalize hP : Try.prog = P at *
  generalize hA : std = A
  obtain ⟨qbin, qsh, qcmp, qscmp, qbcmp, qbnot, qneg, qwrap, qcat, qssize, qssub, qsget, qlen, qrsub, qapp, qelt, qset, qnth, qdrp, qstr, qint, qbool, qrow, qnat, qnadd, qnsub, qband, qofNat, qstrRow, qmkRow, qmx, qmn, qbytes⟩ := A
  have hE := Ar.eqs hA
  dsimp only at hE
  generalize hQ : EndD P Try.f17.results _ = Q
  have hn := rd_n hx
  cbv
  try simp only [nc] at *
  refine LpW.ofN (κ := Nat) (fun k => k ≤ acts.length) (fun k => acts.length - k) (fun k => [(0, .d (.row 4 xs)), (1, .d (.row 1 ys)), (5, .d (.sc (.int .i64 (syncU acts codes k)))), (8, .d (.row 4 xs)), (9, .d (.sc (.int .i64 acts.length))), (10, .d (.sc (.int .i64 k)))]) (fun k => []) 0 0 (by omega) ?_ (by first | rfl | trivial) (fun _ _ => ⟨rfl, rfl, rfl⟩) ?_
  · refine .cons rfl (.cons rfl (.cons rfl (.cons rfl (.cons ?_ (.cons rfl (.nil _))))))
    show AV.d (D.sc (Value.int IntKind.i64 (qlen xs))) = _
    simp only [hE, std_len, hn]
  · intro k hk
    generalize hc : ((syncU acts codes k : Nat) : Int) = c
    generalize hi : (k : Int) = i
    generalize hm' : (acts.length : Int) = m at *
    refine vc_ok hT hm ?_
    rw [hA]
    cbv
    try simp only [nc] at *
    split
    · rename_i h2
      simp only [hE, List.length_map, std_lss, std_leq, std_gtr, std_geq, std_eql, std_neq, std_len, std_add, std_subI, std_mulI, std_ssize, std_not, std_band, std_bcmp, std_nat, std_ofNat, std_nadd, std_nsub, IntKind.wrap_i64, decide_eq_true_eq, decide_eq_false_iff_not, Bool.not_eq_true', Bool.not_eq_false', Option.getD_none, Option.getD_some, hn] at h2
      have hk' : k < acts.length := by omega
      have hsuc := syncU_succ (codes := codes) hk'
      cbv
      try simp only [nc] at *
      repeat (refine And.intro (by first | (simp only [hE]; exact rd_inR hx hi hk') | (simp only [hE, rd_elt hx hi hk']; exact ⟨rfl⟩) | (simp only [hE, rd_elt hx hi hk']; exact ⟨Nat.le_of_ble_eq_true rfl⟩)) ?_)
      obtain ⟨w, hw⟩ : ∃ w, w = acts[k].kind_ := ⟨_, rfl⟩
      rw [show qint (qnth (qelt xs i) 0) = w by rw [hw]; simp only [hE, rd_elt hx hi hk']; rfl]
      rw [← hw] at hsuc
      refine ClW.dd (f := 56) rfl rfl rfl rfl (.cons rfl (.cons rfl (.cons rfl .nil))) rfl e2 (t2 w 2 4) rfl ?_
      cases hb24 : decide (2 ≤ w ∧ w ≤ 4) with
      | true =>
        have h24 := of_decide_eq_true hb24
        cbv
        try simp only [nc] at *
        refine ClW.dd (f := 57) rfl rfl rfl rfl (.cons rfl (.cons rfl .nil)) rfl e1 (t1 hy hi) rfl ?_
        generalize hd : doneB codes k = b at *
        cbv
        try simp only [nc] at *
        cases b with
        | true =>
          have hs1 : syncU acts codes (k + 1) = (takenU acts codes k).length := by rw [hsuc]; exact if_pos ⟨h24, by trivial⟩
          have hl : (rTakenOf (acts.take k) codes).length = (takenU acts codes k).length := by
            unfold rTakenOf
            rw [takenU_take acts codes k _ (by rw [List.length_take]; omega), List.length_take, Nat.min_eq_left (by omega)]
          cbv
          try simp only [nc] at *
          refine ⟨?_, ?_⟩
          · simp only [hE, List.length_map, std_lss, std_leq, std_gtr, std_geq, std_eql, std_neq, std_len, std_add, std_subI, std_mulI, std_ssize, std_not, std_band, std_bcmp, std_nat, std_ofNat, std_nadd, std_nsub, IntKind.wrap_i64, decide_eq_true_eq, decide_eq_false_iff_not, Bool.not_eq_true', Bool.not_eq_false', Option.getD_none, Option.getD_some, hn]; exact ⟨by omega, by omega, by omega⟩
          refine ClW.dd (f := 30) rfl rfl rfl rfl (.cons rfl (.cons rfl .nil)) rfl e3 (t3 (show (acts.take k).map eAct = qrsub xs 0 i by simp only [hE]; exact rsub_take hx hi) hy (by rw [List.length_take]; omega)) rfl ?_
          generalize hzz : (rTakenOf (acts.take k) codes).map cS = zz
          cbv
          try simp only [nc] at *
          refine ⟨k + 1, by omega, by omega, ?_, by first | rfl | trivial⟩
          refine .cons rfl (.cons rfl (.cons ?_ (.cons rfl (.cons rfl (.cons ?_ (.nil _))))))
          · show AV.d (D.sc (Value.int IntKind.i64 (qlen zz))) = _
            rw [hs1, ← hl, ← hzz]
            simp only [hE, std_len, List.length_map]
          · show AV.d (D.sc (Value.int IntKind.i64 (qbin .add .i64 i 1))) = _
            simp only [hE, i_next hi (by omega)]
        | false =>
          have hs1 : syncU acts codes (k + 1) = syncU acts codes k := by rw [hsuc]; exact if_neg (by simp)
          cbv
          try simp only [nc] at *
          refine ⟨k + 1, by omega, by omega, ?_, by first | rfl | trivial⟩
          refine .cons rfl (.cons rfl (.cons ?_ (.cons rfl (.cons rfl (.cons ?_ (.nil _))))))
          · rw [hs1, hc]
            rfl
          · show AV.d (D.sc (Value.int IntKind.i64 (qbin .add .i64 i 1))) = _
            simp only [hE, i_next hi (by omega)]
      | false =>
        have h24 := of_decide_eq_false hb24
        have hs1 : syncU acts codes (k + 1) = syncU acts codes k := by rw [hsuc]; exact if_neg (fun h => h24 h.1)
        cbv
        try simp only [nc] at *
        refine ⟨k + 1, by omega, by omega, ?_, by first | rfl | trivial⟩
        refine .cons rfl (.cons rfl (.cons ?_ (.cons rfl (.cons rfl (.cons ?_ (.nil _))))))
        · rw [hs1, hc]
          rfl
        · show AV.d (D.sc (Value.int IntKind.i64 (qbin .add .i64 i 1))) = _
          simp only [hE, i_next hi (by omega)]
    · rename_i h2
      simp only [hE, List.length_map, std_lss, std_leq, std_gtr, std_geq, std_eql, std_neq, std_len, std_add, std_subI, std_mulI, std_ssize, std_not, std_band, std_bcmp, std_nat, std_ofNat, std_nadd, std_nsub, IntKind.wrap_i64, decide_eq_true_eq, decide_eq_false_iff_not, Bool.not_eq_true', Bool.not_eq_false', Option.getD_none, Option.getD_some, hn] at h2
      cbv
      try simp only [nc] at *
      have hk' : k = acts.length := by omega
      subst hk'
      rw [← hQ]
      refine endD_val rfl (int_eq ?_)
      unfold rSyncedOf
      rw [hc]
theorem T14 {acts : List TAct} {xs : List (List D)} (hx : acts.map eAct = xs) {codes : List Int} {ys : List (List D)} (hy : codes.map cI = ys) (hb : totActS acts ≤ 1048576) (hb' : totIntS codes ≤ 1048576) :
    CallOk Try.prog 14 [.d (.row 4 xs), .d (.row 1 ys)] [] ⟨.d (.sc (.int .i64 (rSyncedOf acts codes))), [], []⟩ := by
  have e1 := ent54
  have t1 := @T54
  have ha := totActS_len acts
  refine CallOk.of_bodyD (body := c14) Try.func14 rfl (Nat.le_of_ble_eq_true (by kernel_rfl)) rfl ?_
  refine vc_ok tab_ok mixed ?_
  have hT := tab_ok
  have hm := mixed
  generalize hP : Try.prog = P at *
  generalize hA : std = A
  obtain ⟨qbin, qsh, qcmp, qscmp, qbcmp, qbnot, qneg, qwrap, qcat, qssize, qssub, qsget, qlen, qrsub, qapp, qelt, qset, qnth, qdrp, qstr, qint, qbool, qrow, qnat, qnadd, qnsub, qband, qofNat, qstrRow, qmkRow, qmx, qmn, qbytes⟩ := A
  have hE := Ar.eqs hA
  dsimp only at hE
  generalize hQ : EndD P Try.f14.results _ = Q
  have hn := rd_n hx
  cbv
  try simp only [nc] at *
  refine LpW.of (κ := Nat) (fun k => k ≤ acts.length) (fun k => acts.length - k) (fun k => [(0, .d (.row 4 xs)), (1, .d (.row 1 ys)), (5, .d (.sc (.int .i64 (takenU acts codes k).length))), (6, .d (.sc (.int .i64 (syncU acts codes k)))), (7, .d (.sc (.int .i64 k)))]) (fun k => []) 0 (by omega) ?_ (by first | rfl | trivial) ?_
  · exact .cons rfl (.cons rfl (.cons rfl (.cons rfl (.cons rfl (.nil _)))))
  · intro k hk
    have htl := takenU_le acts codes k
    generalize hu : (((takenU acts codes k).length : Nat) : Int) = u
    generalize hc : ((syncU acts codes k : Nat) : Int) = c
    generalize hi : (k : Int) = i
    refine vc_ok hT hm ?_
    rw [hA]
    cbv
    try simp only [nc] at *
    split
    · rename_i h2
      simp only [hE, List.length_map, std_lss, std_leq, std_gtr, std_geq, std_eql, std_neq, std_len, std_add, std_subI, std_mulI, std_ssize, std_not, std_band, std_bcmp, std_nat, std_ofNat, std_nadd, std_nsub, IntKind.wrap_i64, decide_eq_true_eq, decide_eq_false_iff_not, Bool.not_eq_true', Bool.not_eq_false', Option.getD_none, Option.getD_some, hn] at h2
      have hk' : k < acts.length := by omega
      have hsuc := syncU_succ (codes := codes) hk'
      have htuc := takenU_succ (codes := codes) hk'
      cbv
      try simp only [nc] at *
      refine ClW.dd (f := 54) rfl rfl rfl rfl (.cons rfl (.cons rfl .nil)) rfl e1 (t1 hy hi) rfl ?_
      generalize hd : doneB codes k = b at *
      cbv
      try simp only [nc] at *
      cases b with
      | false =>
        have hs1 : syncU acts codes (k + 1) = syncU acts codes k := by rw [hsuc]; exact if_neg (by simp)
        have ht1 : (takenU acts codes (k + 1)).length = (takenU acts codes k).length := by rw [htuc, if_neg (by simp)]; simp
        rw [show qbnot false = true by simp only [hE, std_not]; rfl]
        cbv
        try simp only [nc] at *
        refine ⟨k + 1, by omega, by omega, ?_, by first | rfl | trivial⟩
        refine .cons rfl (.cons rfl (.cons ?_ (.cons ?_ (.cons ?_ (.nil _)))))
        · rw [ht1, hu]; rfl
        · rw [hs1, hc]; rfl
        · show AV.d (D.sc (Value.int IntKind.i64 (qbin .add .i64 i 1))) = _
          simp only [hE, i_next hi (by omega)]
      | true =>
        rw [show qbnot true = false by simp only [hE, std_not]; rfl]
        cbv
        try simp only [nc] at *
        repeat (refine And.intro (by first | (simp only [hE]; exact rd_inR hx hi hk') | (simp only [hE, rd_elt hx hi hk']; exact ⟨rfl⟩) | (simp only [hE, rd_elt hx hi hk']; exact ⟨Nat.le_of_ble_eq_true rfl⟩)) ?_)
        obtain ⟨w, hw⟩ : ∃ w, w = acts[k].kind_ := ⟨_, rfl⟩
        rw [show qint (qnth (qdrp (qelt xs i) 0) 0) = w by rw [hw]; simp only [hE, rd_elt hx hi hk']; rfl]
        rw [← hw] at hsuc htuc
        split
        · rename_i h3
          simp only [hE, List.length_map, std_lss, std_leq, std_gtr, std_geq, std_eql, std_neq, std_len, std_add, std_subI, std_mulI, std_ssize, std_not, std_band, std_bcmp, std_nat, std_ofNat, std_nadd, std_nsub, IntKind.wrap_i64, decide_eq_true_eq, decide_eq_false_iff_not, Bool.not_eq_true', Bool.not_eq_false', Option.getD_none, Option.getD_some] at h3
          have hs1 : syncU acts codes (k + 1) = syncU acts codes k := by rw [hsuc]; exact if_neg (by omega)
          have ht1 : (takenU acts codes (k + 1)).length = (takenU acts codes k).length + 1 := by rw [htuc, if_pos ⟨h3, by trivial⟩]; simp
          cbv
          try simp only [nc] at *
          refine ⟨k + 1, by omega, by omega, ?_, by first | rfl | trivial⟩
          refine .cons rfl (.cons rfl (.cons ?_ (.cons ?_ (.cons ?_ (.nil _)))))
          · show AV.d (D.sc (Value.int IntKind.i64 (qbin .add .i64 u 1))) = _
            rw [show qbin .add .i64 u 1 = (((takenU acts codes (k + 1)).length : Nat) : Int) by simp only [hE, List.length_map, std_lss, std_leq, std_gtr, std_geq, std_eql, std_neq, std_len, std_add, std_subI, std_mulI, std_ssize, std_not, std_band, std_bcmp, std_nat, std_ofNat, std_nadd, std_nsub, IntKind.wrap_i64, decide_eq_true_eq, decide_eq_false_iff_not, Bool.not_eq_true', Bool.not_eq_false', Option.getD_none, Option.getD_some, ]; omega]
          · rw [hs1, hc]; rfl
          · show AV.d (D.sc (Value.int IntKind.i64 (qbin .add .i64 i 1))) = _
            simp only [hE, i_next hi (by omega)]
        rename_i h3
        simp only [hE, List.length_map, std_lss, std_leq, std_gtr, std_geq, std_eql, std_neq, std_len, std_add, std_subI, std_mulI, std_ssize, std_not, std_band, std_bcmp, std_nat, std_ofNat, std_nadd, std_nsub, IntKind.wrap_i64, decide_eq_true_eq, decide_eq_false_iff_not, Bool.not_eq_true', Bool.not_eq_false', Option.getD_none, Option.getD_some] at h3
        have ht1 : (takenU acts codes (k + 1)).length = (takenU acts codes k).length := by rw [htuc, if_neg (by omega)]; simp
        cbv
        try simp only [nc] at *
        split
        · rename_i h4
          simp only [hE, List.length_map, std_lss, std_leq, std_gtr, std_geq, std_eql, std_neq, std_len, std_add, std_subI, std_mulI, std_ssize, std_not, std_band, std_bcmp, std_nat, std_ofNat, std_nadd, std_nsub, IntKind.wrap_i64, decide_eq_true_eq, decide_eq_false_iff_not, Bool.not_eq_true', Bool.not_eq_false', Option.getD_none, Option.getD_some] at h4
          have hs1 : syncU acts codes (k + 1) = (takenU acts codes k).length := by rw [hsuc]; exact if_pos ⟨by omega, by trivial⟩
          cbv
          try simp only [nc] at *
          refine ⟨k + 1, by omega, by omega, ?_, by first | rfl | trivial⟩
          refine .cons rfl (.cons rfl (.cons ?_ (.cons ?_ (.cons ?_ (.nil _)))))
          · rw [ht1, hu]; rfl
          · rw [hs1, hu]; rfl
          · show AV.d (D.sc (Value.int IntKind.i64 (qbin .add .i64 i 1))) = _
            simp only [hE, i_next hi (by omega)]
        rename_i h4
        simp only [hE, List.length_map, std_lss, std_leq, std_gtr, std_geq, std_eql, std_neq, std_len, std_add, std_subI, std_mulI, std_ssize, std_not, std_band, std_bcmp, std_nat, std_ofNat, std_nadd, std_nsub, IntKind.wrap_i64, decide_eq_true_eq, decide_eq_false_iff_not, Bool.not_eq_true', Bool.not_eq_false', Option.getD_none, Option.getD_some] at h4
        cbv
        try simp only [nc] at *
        split
        · rename_i h5
          simp only [hE, List.length_map, std_lss, std_leq, std_gtr, std_geq, std_eql, std_neq, std_len, std_add, std_subI, std_mulI, std_ssize, std_not, std_band, std_bcmp, std_nat, std_ofNat, std_nadd, std_nsub, IntKind.wrap_i64, decide_eq_true_eq, decide_eq_false_iff_not, Bool.not_eq_true', Bool.not_eq_false', Option.getD_none, Option.getD_some] at h5
          have hs1 : syncU acts codes (k + 1) = (takenU acts codes k).length := by rw [hsuc]; exact if_pos ⟨by omega, by trivial⟩
          cbv
          try simp only [nc] at *
          refine ⟨k + 1, by omega, by omega, ?_, by first | rfl | trivial⟩
          refine .cons rfl (.cons rfl (.cons ?_ (.cons ?_ (.cons ?_ (.nil _)))))
          · rw [ht1, hu]; rfl
          · rw [hs1, hu]; rfl
          · show AV.d (D.sc (Value.int IntKind.i64 (qbin .add .i64 i 1))) = _
            simp only [hE, i_next hi (by omega)]
        rename_i h5
        simp only [hE, List.length_map, std_lss, std_leq, std_gtr, std_geq, std_eql, std_neq, std_len, std_add, std_subI, std_mulI, std_ssize, std_not, std_band, std_bcmp, std_nat, std_ofNat, std_nadd, std_nsub, IntKind.wrap_i64, decide_eq_true_eq, decide_eq_false_iff_not, Bool.not_eq_true', Bool.not_eq_false', Option.getD_none, Option.getD_some] at h5
        cbv
        try simp only [nc] at *
        split
        · rename_i h6
          simp only [hE, List.length_map, std_lss, std_leq, std_gtr, std_geq, std_eql, std_neq, std_len, std_add, std_subI, std_mulI, std_ssize, std_not, std_band, std_bcmp, std_nat, std_ofNat, std_nadd, std_nsub, IntKind.wrap_i64, decide_eq_true_eq, decide_eq_false_iff_not, Bool.not_eq_true', Bool.not_eq_false', Option.getD_none, Option.getD_some] at h6
          have hs1 : syncU acts codes (k + 1) = (takenU acts codes k).length := by rw [hsuc]; exact if_pos ⟨by omega, by trivial⟩
          cbv
          try simp only [nc] at *
          refine ⟨k + 1, by omega, by omega, ?_, by first | rfl | trivial⟩
          refine .cons rfl (.cons rfl (.cons ?_ (.cons ?_ (.cons ?_ (.nil _)))))
          · rw [ht1, hu]; rfl
          · rw [hs1, hu]; rfl
          · show AV.d (D.sc (Value.int IntKind.i64 (qbin .add .i64 i 1))) = _
            simp only [hE, i_next hi (by omega)]
        rename_i h6
        simp only [hE, List.length_map, std_lss, std_leq, std_gtr, std_geq, std_eql, std_neq, std_len, std_add, std_subI, std_mulI, std_ssize, std_not, std_band, std_bcmp, std_nat, std_ofNat, std_nadd, std_nsub, IntKind.wrap_i64, decide_eq_true_eq, decide_eq_false_iff_not, Bool.not_eq_true', Bool.not_eq_false', Option.getD_none, Option.getD_some] at h6
        cbv
        try simp only [nc] at *
        have hs1 : syncU acts codes (k + 1) = syncU acts codes k := by rw [hsuc]; exact if_neg (by omega)
        refine ⟨k + 1, by omega, by omega, ?_, by first | rfl | trivial⟩
        refine .cons rfl (.cons rfl (.cons ?_ (.cons ?_ (.cons ?_ (.nil _)))))
        · rw [ht1, hu]; rfl
        · rw [hs1, hc]; rfl
        · show AV.d (D.sc (Value.int IntKind.i64 (qbin .add .i64 i 1))) = _
          simp only [hE, i_next hi (by omega)]
    · rename_i h2
      simp only [hE, List.length_map, std_lss, std_leq, std_gtr, std_geq, std_eql, std_neq, std_len, std_add, std_subI, std_mulI, std_ssize, std_not, std_band, std_bcmp, std_nat, std_ofNat, std_nadd, std_nsub, IntKind.wrap_i64, decide_eq_true_eq, decide_eq_false_iff_not, Bool.not_eq_true', Bool.not_eq_false', Option.getD_none, Option.getD_some, hn] at h2
      cbv
      try simp only [nc] at *
      have hk' : k = acts.length := by omega
      subst hk'
      rw [← hQ]
      refine endD_val rfl (int_eq ?_)
      unfold rSyncedOf
      rw [hc]
end Go.Proofs.Ytamdgfklbjoaiaa.Ab
