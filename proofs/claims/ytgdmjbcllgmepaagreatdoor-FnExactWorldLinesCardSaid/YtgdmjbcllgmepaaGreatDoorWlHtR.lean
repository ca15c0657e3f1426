/- What functions of the program come to, for all arguments in the given bounds. -/
import Derived.Test.YtgdmjbcllgmepaaGreatDoorWlHsz
set_option linter.unusedVariables false
set_option linter.unusedSimpArgs false
namespace Go.Proofs.YtgdmjbcllgmepaaGreatDoor.Ab
section
open Go Go.Proofs
set_option maxRecDepth 20000
theorem T39R{a_nodes:List Cm}{xa_nodes:List (List D)}(ha_nodes:a_nodes.map Cs=xa_nodes){a_entries:List A3}{xa_entries:List (List D)}(ha_entries:a_entries.map A2=xa_entries){a_old:List A3}{xa_old:List (List D)}(ha_old:a_old.map A2=xa_old){a_steps:List ByteArray}{xa_steps:List (List D)}(ha_steps:a_steps.map cS=xa_steps){a_room:Int}{a_next:Int}{na_nodes:Nat}(hna_nodes:na_nodes=a_nodes.length){na_entries:Nat}(hna_entries:na_entries=a_entries.length){na_old:Nat}(hna_old:na_old=a_old.length){na_steps:Nat}(hna_steps:na_steps=a_steps.length)(hb:Dw ⟨a_nodes,a_entries,a_old,a_steps,a_room,a_next⟩≤1048576):CallOk Tryz.prog 39 [.agg [.d (.row 3 xa_nodes),.d (.row 2 xa_entries),.d (.row 2 xa_old),.d (.row 1 xa_steps),.d (.sc (.int .i64 a_room)),.d (.sc (.int .i64 a_next))]] [] ⟨.agg [.ref 0 0 na_nodes,.ref 1 0 na_entries,.ref 2 0 na_old,.ref 3 0 na_steps,.d (.sc (.int .i64 a_room)),.d (.sc (.int .i64 a_next))],[.row 3 false xa_nodes,.row 2 false xa_entries,.row 2 false xa_old,.row 1 false xa_steps],[]⟩:=by
 have ent25_:=Xel
 have T25_:=@T25
 have ent104_:=Xfn
 have T104_:=@T104
 have ent105_:=Xfk
 have T105_:=@T105
 have T104_R:=@Xg6
 have T105_R:=@XfV
 have T105_R:=@XfV
 have T25_R:=@T25R
 have nna_nodes:=Es a_nodes
 have nna_entries:=B7 a_entries
 have nna_old:=B7 a_old
 have nna_steps:=B9 a_steps
 have hb':Ct a_nodes+A5 a_entries+A5 a_old+Ay a_steps≤1048576:=hb
 refine CallOk.of_body (body:=c39) Tryz.func39 rfl (Nat.le_of_ble_eq_true (by kernel_rfl)) rfl rfl ?_
 refine Cz A6 mixed ?_
 have hT:=A6
 have hm:=mixed
 generalize hP:Tryz.prog=P at*
 generalize hA:std=A
 obtain⟨qbin,qsh,qcmp,qscmp,qbcmp,qbnot,qneg,qwrap,qcat,qssize,qssub,qsget,qlen,qrsub,qapp,qelt,qset,qnth,qdrp,qstr,qint,qbool,qrow,qnat,qnadd,qnsub,qband,qofNat,qstrRow,qmkRow,qmx,qmn,qbytes,qemp⟩:=A
 have hE:=Ar.eqs hA
 dsimp only at hE
 generalize hQ:EndQ P Tryz.f39.results [] _=Q
 cbv
 try simp only[nc]at*
 refine ClW.lntR (f:=104) rfl rfl rfl rfl (.cons rfl .nil) (.d rfl .nil) ent104_ (T104_R ha_nodes (by omega)) (by rw[←ha_nodes];exact G7 (fun _=>rfl) _) ?_
 rw[←hna_nodes]
 cbv
 try simp only[nc]at*
 refine ClW.lntR (f:=105) rfl rfl rfl rfl (.cons rfl .nil) (.d rfl .nil) ent105_ (T105_R ha_entries (by omega)) (by rw[←ha_entries];exact G7 (fun _=>rfl) _) ?_
 rw[←hna_entries]
 cbv
 try simp only[nc]at*
 refine ClW.lntR (f:=105) rfl rfl rfl rfl (.cons rfl .nil) (.d rfl .nil) ent105_ (T105_R ha_old (by omega)) (by rw[←ha_old];exact G7 (fun _=>rfl) _) ?_
 rw[←hna_old]
 cbv
 try simp only[nc]at*
 refine ClW.lntR (f:=25) rfl rfl rfl rfl (.cons rfl .nil) (.d rfl .nil) ent25_ (T25_R ha_steps (by omega)) (by rw[←ha_steps];exact G7 (fun _=>rfl) _) ?_
 rw[←hna_steps]
 cbv
 try simp only[nc]at*
 rw[←hQ]
 refine⟨[11,12,13,14],[.agg [.ref 11 0 na_nodes,.ref 12 0 na_entries,.ref 13 0 na_old,.ref 14 0 na_steps,.d (.sc (.int .i64 a_room)),.d (.sc (.int .i64 a_next))]],?_,rfl,by simp,by simp,rfl,?_,by simp,by simp⟩
 ·show Fj P _ [ResultVar.cell 2 40]=_
  simp only[Fj,Ji]
  rw[show R7 P 40=some true from(congrArg TyRow.agg (hT 40 _ (show B6 tab 40=some _ from rfl))).symm,show szT P 40=some 6 from(congrArg TyRow.sz (hT 40 _ (show B6 tab 40=some _ from rfl))).symm]
  rfl
 ·intro k i R hk hR
  rcases k with _|k
  ·simp at hk hR
   subst hk hR
   exact⟨_,rfl,rfl⟩
  rcases k with _|k
  ·simp at hk hR
   subst hk hR
   exact⟨_,rfl,rfl⟩
  rcases k with _|k
  ·simp at hk hR
   subst hk hR
   exact⟨_,rfl,rfl⟩
  rcases k with _|k
  ·simp at hk hR
   subst hk hR
   exact⟨_,rfl,rfl⟩
  simp at hk
theorem T62R{a_version:Int}{a_stride:Int}{a_roll:Int}{a_base:Int}{a_link:Int}{a_offsets:List Int}{xa_offsets:List (List D)}(ha_offsets:a_offsets.map cI=xa_offsets){a_end:Int}{a_open:Bool}{a_code:Int}{na_offsets:Nat}(hna_offsets:na_offsets=a_offsets.length)(hb:C7 ⟨a_version,a_stride,a_roll,a_base,a_link,a_offsets,a_end,a_open,a_code⟩≤1048576):CallOk Tryz.prog 62 [.agg [.d (.sc (.int .i64 a_version)),.d (.sc (.int .i64 a_stride)),.d (.sc (.int .i64 a_roll)),.d (.sc (.int .i64 a_base)),.d (.sc (.int .i64 a_link)),.d (.row 1 xa_offsets),.d (.sc (.int .i64 a_end)),.d (.sc (.bool a_open)),.d (.sc (.int .i64 a_code))]] [] ⟨.agg [.d (.sc (.int .i64 a_version)),.d (.sc (.int .i64 a_stride)),.d (.sc (.int .i64 a_roll)),.d (.sc (.int .i64 a_base)),.d (.sc (.int .i64 a_link)),.ref 0 0 na_offsets,.d (.sc (.int .i64 a_end)),.d (.sc (.bool a_open)),.d (.sc (.int .i64 a_code))],[.row 1 false xa_offsets],[]⟩:=by
 have ent28_:=Xhc
 have T28_:=@T28
 have T28_R:=@T28R
 have nna_offsets:=Gv a_offsets
 have hb':D2 a_offsets≤1048576:=hb
 refine CallOk.of_body (body:=c62) Tryz.func62 rfl (Nat.le_of_ble_eq_true (by kernel_rfl)) rfl rfl ?_
 refine Cz A6 mixed ?_
 have hT:=A6
 have hm:=mixed
 generalize hP:Tryz.prog=P at*
 generalize hA:std=A
 obtain⟨qbin,qsh,qcmp,qscmp,qbcmp,qbnot,qneg,qwrap,qcat,qssize,qssub,qsget,qlen,qrsub,qapp,qelt,qset,qnth,qdrp,qstr,qint,qbool,qrow,qnat,qnadd,qnsub,qband,qofNat,qstrRow,qmkRow,qmx,qmn,qbytes,qemp⟩:=A
 have hE:=Ar.eqs hA
 dsimp only at hE
 generalize hQ:EndQ P Tryz.f62.results [] _=Q
 cbv
 try simp only[nc]at*
 refine ClW.lntR (f:=28) rfl rfl rfl rfl (.cons rfl .nil) (.d rfl .nil) ent28_ (T28_R ha_offsets (by omega)) (by rw[←ha_offsets];exact G7 (fun _=>rfl) _) ?_
 rw[←hna_offsets]
 cbv
 try simp only[nc]at*
 rw[←hQ]
 refine⟨[5],[.agg [.d (.sc (.int .i64 a_version)),.d (.sc (.int .i64 a_stride)),.d (.sc (.int .i64 a_roll)),.d (.sc (.int .i64 a_base)),.d (.sc (.int .i64 a_link)),.ref 5 0 na_offsets,.d (.sc (.int .i64 a_end)),.d (.sc (.bool a_open)),.d (.sc (.int .i64 a_code))]],?_,rfl,by simp,by simp,rfl,?_,by simp,by simp⟩
 ·show Fj P _ [ResultVar.cell 2 41]=_
  simp only[Fj,Ji]
  rw[show R7 P 41=some true from(congrArg TyRow.agg (hT 41 _ (show B6 tab 41=some _ from rfl))).symm,show szT P 41=some 9 from(congrArg TyRow.sz (hT 41 _ (show B6 tab 41=some _ from rfl))).symm]
  rfl
 ·intro k i R hk hR
  rcases k with _|k
  ·simp at hk hR
   subst hk hR
   exact⟨_,rfl,rfl⟩
  simp at hk
theorem T16R{a_set_room:Int}{a_set_version:Int}{a_set_stride:Int}{a_set_roll:Int}{a_disk_nodes:List Cm}{xa_disk_nodes:List (List D)}(ha_disk_nodes:a_disk_nodes.map Cs=xa_disk_nodes){a_disk_entries:List A3}{xa_disk_entries:List (List D)}(ha_disk_entries:a_disk_entries.map A2=xa_disk_entries){a_disk_old:List A3}{xa_disk_old:List (List D)}(ha_disk_old:a_disk_old.map A2=xa_disk_old){a_disk_steps:List ByteArray}{xa_disk_steps:List (List D)}(ha_disk_steps:a_disk_steps.map cS=xa_disk_steps){a_disk_room:Int}{a_disk_next:Int}{a_writer_version:Int}{a_writer_stride:Int}{a_writer_roll:Int}{a_writer_base:Int}{a_writer_link:Int}{a_writer_offsets:List Int}{xa_writer_offsets:List (List D)}(ha_writer_offsets:a_writer_offsets.map cI=xa_writer_offsets){a_writer_end:Int}{a_writer_open:Bool}{a_writer_code:Int}{a_told:List ByteArray}{xa_told:List (List D)}(ha_told:a_told.map cS=xa_told){a_sure:Int}{a_falls:Int}{na_disk_nodes:Nat}(hna_disk_nodes:na_disk_nodes=a_disk_nodes.length){na_disk_entries:Nat}(hna_disk_entries:na_disk_entries=a_disk_entries.length){na_disk_old:Nat}(hna_disk_old:na_disk_old=a_disk_old.length){na_disk_steps:Nat}(hna_disk_steps:na_disk_steps=a_disk_steps.length){na_writer_offsets:Nat}(hna_writer_offsets:na_writer_offsets=a_writer_offsets.length){na_told:Nat}(hna_told:na_told=a_told.length)(hb:D4 ⟨⟨a_set_room,a_set_version,a_set_stride,a_set_roll⟩,⟨a_disk_nodes,a_disk_entries,a_disk_old,a_disk_steps,a_disk_room,a_disk_next⟩,⟨a_writer_version,a_writer_stride,a_writer_roll,a_writer_base,a_writer_link,a_writer_offsets,a_writer_end,a_writer_open,a_writer_code⟩,a_told,a_sure,a_falls⟩≤1048576):CallOk Tryz.prog 16 [.agg [.d (.sc (.int .i64 a_set_room)),.d (.sc (.int .i64 a_set_version)),.d (.sc (.int .i64 a_set_stride)),.d (.sc (.int .i64 a_set_roll)),.d (.row 3 xa_disk_nodes),.d (.row 2 xa_disk_entries),.d (.row 2 xa_disk_old),.d (.row 1 xa_disk_steps),.d (.sc (.int .i64 a_disk_room)),.d (.sc (.int .i64 a_disk_next)),.d (.sc (.int .i64 a_writer_version)),.d (.sc (.int .i64 a_writer_stride)),.d (.sc (.int .i64 a_writer_roll)),.d (.sc (.int .i64 a_writer_base)),.d (.sc (.int .i64 a_writer_link)),.d (.row 1 xa_writer_offsets),.d (.sc (.int .i64 a_writer_end)),.d (.sc (.bool a_writer_open)),.d (.sc (.int .i64 a_writer_code)),.d (.row 1 xa_told),.d (.sc (.int .i64 a_sure)),.d (.sc (.int .i64 a_falls))]] [] ⟨.agg [.d (.sc (.int .i64 a_set_room)),.d (.sc (.int .i64 a_set_version)),.d (.sc (.int .i64 a_set_stride)),.d (.sc (.int .i64 a_set_roll)),.ref 0 0 na_disk_nodes,.ref 1 0 na_disk_entries,.ref 2 0 na_disk_old,.ref 3 0 na_disk_steps,.d (.sc (.int .i64 a_disk_room)),.d (.sc (.int .i64 a_disk_next)),.d (.sc (.int .i64 a_writer_version)),.d (.sc (.int .i64 a_writer_stride)),.d (.sc (.int .i64 a_writer_roll)),.d (.sc (.int .i64 a_writer_base)),.d (.sc (.int .i64 a_writer_link)),.ref 4 0 na_writer_offsets,.d (.sc (.int .i64 a_writer_end)),.d (.sc (.bool a_writer_open)),.d (.sc (.int .i64 a_writer_code)),.ref 5 0 na_told,.d (.sc (.int .i64 a_sure)),.d (.sc (.int .i64 a_falls))],[.row 3 false xa_disk_nodes,.row 2 false xa_disk_entries,.row 2 false xa_disk_old,.row 1 false xa_disk_steps,.row 1 false xa_writer_offsets,.row 1 false xa_told],[]⟩:=by
 have ent25_:=Xel
 have T25_:=@T25
 have ent39_:=Xg0
 have T39_:=@T39
 have ent61_:=XhB
 have T61_:=@T61
 have ent62_:=XgN
 have T62_:=@T62
 have T39_R:=@T39R
 have T62_R:=@T62R
 have T25_R:=@T25R
 have nna_disk:=G6 (⟨a_disk_nodes,a_disk_entries,a_disk_old,a_disk_steps,a_disk_room,a_disk_next⟩:As)
 have nna_writer:=Fi (⟨a_writer_version,a_writer_stride,a_writer_roll,a_writer_base,a_writer_link,a_writer_offsets,a_writer_end,a_writer_open,a_writer_code⟩:C0)
 have nna_told:=B9 a_told
 have hb':Dw (⟨a_disk_nodes,a_disk_entries,a_disk_old,a_disk_steps,a_disk_room,a_disk_next⟩:As)+C7 (⟨a_writer_version,a_writer_stride,a_writer_roll,a_writer_base,a_writer_link,a_writer_offsets,a_writer_end,a_writer_open,a_writer_code⟩:C0)+Ay a_told≤1048576:=hb
 refine CallOk.of_body (body:=c16) Tryz.func16 rfl (Nat.le_of_ble_eq_true (by kernel_rfl)) rfl rfl ?_
 refine Cz A6 mixed ?_
 have hT:=A6
 have hm:=mixed
 generalize hP:Tryz.prog=P at*
 generalize hA:std=A
 obtain⟨qbin,qsh,qcmp,qscmp,qbcmp,qbnot,qneg,qwrap,qcat,qssize,qssub,qsget,qlen,qrsub,qapp,qelt,qset,qnth,qdrp,qstr,qint,qbool,qrow,qnat,qnadd,qnsub,qband,qofNat,qstrRow,qmkRow,qmx,qmn,qbytes,qemp⟩:=A
 have hE:=Ar.eqs hA
 dsimp only at hE
 generalize hQ:EndQ P Tryz.f16.results [] _=Q
 cbv
 try simp only[nc]at*
 refine ClW.dd (f:=61) rfl rfl rfl rfl (.cons rfl .nil) rfl ent61_ (T61_) rfl ?_
 cbv
 try simp only[nc]at*
 refine ClW.ddA (f:=39) rfl rfl rfl rfl (.cons rfl .nil) rfl ent39_ (T39_R ha_disk_nodes ha_disk_entries ha_disk_old ha_disk_steps hna_disk_nodes hna_disk_entries hna_disk_old hna_disk_steps (by omega)) rfl rfl rfl (by simp[Gh (fun _=>rfl) ha_disk_nodes,Gh (fun _=>rfl) ha_disk_entries,Gh (fun _=>rfl) ha_disk_old,Gh (fun _=>rfl) ha_disk_steps]) ?_
 cbv
 try simp only[nc]at*
 refine ClW.ddA (f:=62) rfl rfl rfl rfl (.cons rfl .nil) rfl ent62_ (T62_R ha_writer_offsets hna_writer_offsets (by omega)) rfl rfl rfl (by simp[Gh (fun _=>rfl) ha_writer_offsets]) ?_
 cbv
 try simp only[nc]at*
 refine ClW.lntR (f:=25) rfl rfl rfl rfl (.cons rfl .nil) (.d rfl .nil) ent25_ (T25_R ha_told (by omega)) (by rw[←ha_told];exact G7 (fun _=>rfl) _) ?_
 rw[←hna_told]
 cbv
 try simp only[nc]at*
 rw[←hQ]
 refine⟨[15,16,17,18,19,20],[.agg [.d (.sc (.int .i64 a_set_room)),.d (.sc (.int .i64 a_set_version)),.d (.sc (.int .i64 a_set_stride)),.d (.sc (.int .i64 a_set_roll)),.ref 15 0 na_disk_nodes,.ref 16 0 na_disk_entries,.ref 17 0 na_disk_old,.ref 18 0 na_disk_steps,.d (.sc (.int .i64 a_disk_room)),.d (.sc (.int .i64 a_disk_next)),.d (.sc (.int .i64 a_writer_version)),.d (.sc (.int .i64 a_writer_stride)),.d (.sc (.int .i64 a_writer_roll)),.d (.sc (.int .i64 a_writer_base)),.d (.sc (.int .i64 a_writer_link)),.ref 19 0 na_writer_offsets,.d (.sc (.int .i64 a_writer_end)),.d (.sc (.bool a_writer_open)),.d (.sc (.int .i64 a_writer_code)),.ref 20 0 na_told,.d (.sc (.int .i64 a_sure)),.d (.sc (.int .i64 a_falls))]],?_,rfl,by simp,by simp,rfl,?_,by simp,by simp⟩
 ·show Fj P _ [ResultVar.cell 2 43]=_
  simp only[Fj,Ji]
  rw[show R7 P 43=some true from(congrArg TyRow.agg (hT 43 _ (show B6 tab 43=some _ from rfl))).symm,show szT P 43=some 22 from(congrArg TyRow.sz (hT 43 _ (show B6 tab 43=some _ from rfl))).symm]
  rfl
 ·intro k i R hk hR
  rcases k with _|k
  ·simp at hk hR
   subst hk hR
   exact⟨_,rfl,rfl⟩
  rcases k with _|k
  ·simp at hk hR
   subst hk hR
   exact⟨_,rfl,rfl⟩
  rcases k with _|k
  ·simp at hk hR
   subst hk hR
   exact⟨_,rfl,rfl⟩
  rcases k with _|k
  ·simp at hk hR
   subst hk hR
   exact⟨_,rfl,rfl⟩
  rcases k with _|k
  ·simp at hk hR
   subst hk hR
   exact⟨_,rfl,rfl⟩
  rcases k with _|k
  ·simp at hk hR
   subst hk hR
   exact⟨_,rfl,rfl⟩
  simp at hk
end
section
open Go Go.Proofs
set_option maxRecDepth 20000
theorem Xd8{n:Int}(h0:0≤n)(h1:n<256):IntKind.u8.wrap n=n:=by
 show(let m:=n%(2^8:Int);if false&&decide (m≥(2^7:Int))then m - (2^8:Int)else m)=n
 simp
 omega
theorem Xgs{k:IntKind}{a b:Int}(h0:0≤a)(h1:0<b):std.bin .rem k a b=a% b:=by
 show XaG (if b=0 then none else some (.int k (a.tmod b)))=_
 rw[if_neg (by omega)]
 exact Int.tmod_eq_emod_of_nonneg h0
theorem Xf4{k:IntKind}{a b:Int}(h0:0≤a)(h1:0<b):std.bin .quo k a b=k.wrap (a/b):=by
 show XaG (if b=0 then none else some (.int k (k.wrap (a.tdiv b))))=_
 rw[if_neg (by omega),Int.tdiv_eq_ediv_of_nonneg h0]
 rfl
def mkL(k:Nat)(out:List UInt8):List UInt8:=if h:k=0 then out else mkL (k/10) (UInt8.ofNat (48+k% 10)::out)
termination_by k
decreasing_by omega
def K1(k:Int):ByteArray:=if k≤0 then tx [109,48]else tx (109::mkL k.toNat [])
theorem XeS(out:List UInt8):mkL 0 out=out:=by rw[mkL];rfl
theorem Xd4{k:Nat}(h:k≠0)(out:List UInt8):mkL (k/10) (UInt8.ofNat (48+k% 10)::out)=mkL k out:=by
 conv=>rhs;rw[mkL,dif_neg h]
noncomputable def c73:Code:=(Tryz.f73.body).getD .skip
theorem Xe0:Bd Tryz.prog 73:=⟨_,Tryz.func73,rfl,rfl⟩
theorem T73(k:Int)(hk:k<2^60):CallOk Tryz.prog 73 [.d (.sc (.int .i64 k))] [] ⟨.d (.sc (.string (K1 k))),[],[]⟩:=by
 refine CallOk.of_bodyD (body:=c73) Tryz.func73 rfl (Nat.le_of_ble_eq_true (by kernel_rfl)) rfl ?_
 refine Cz A6 mixed ?_
 have hT:=A6
 have hm:=mixed
 generalize hP:Tryz.prog=P at*
 generalize hA:std=A
 obtain⟨qbin,qsh,qcmp,qscmp,qbcmp,qbnot,qneg,qwrap,qcat,qssize,qssub,qsget,qlen,qrsub,qapp,qelt,qset,qnth,qdrp,qstr,qint,qbool,qrow,qnat,qnadd,qnsub,qband,qofNat,qstrRow,qmkRow,qmx,qmn,qbytes,qemp⟩:=A
 have hE:=Ar.eqs hA
 dsimp only at hE
 generalize hQ:EndD P Tryz.f73.results _=Q
 cbv
 try simp only[nc]at*
 split
 ·rename_i h
  simp only[hE,List.length_map,Aq,At,Au,Av,Ao,Aj,Al,An,Af,Ah,Ac,Ak,Ai,Ad,Am,Aa,Ag,Ae,Ap,IntKind.wrap_i64,decide_eq_true_eq,decide_eq_false_iff_not,Bool.not_eq_true',Bool.not_eq_false',Option.getD_none,Option.getD_some]at h
  cbv
  try simp only[nc]at*
  rw[←hQ,show K1 k=tx [109,48]from if_pos h]
  exact Bg rfl rfl
 rename_i h
 simp only[hE,List.length_map,Aq,At,Au,Av,Ao,Aj,Al,An,Af,Ah,Ac,Ak,Ai,Ad,Am,Aa,Ag,Ae,Ap,IntKind.wrap_i64,decide_eq_true_eq,decide_eq_false_iff_not,Bool.not_eq_true',Bool.not_eq_false',Option.getD_none,Option.getD_some]at h
 cbv
 try simp only[nc]at*
 refine LpW.ofN (κ:=Nat×List UInt8) (fun p=>mkL p.1 p.2=mkL k.toNat []∧p.1+p.2.length≤k.toNat) (fun p=>p.1) (fun p=>[(0,.d (.sc (.int .i64 (p.1:Nat)))),(3,.d (.sc (.string (tx p.2))))]) (fun _=>[]) (k.toNat,[]) 0 ⟨rfl,by simp⟩ ?_ (by first|rfl|trivial) (fun _ _=>⟨rfl,rfl,rfl⟩) ?_
 ·refine .cons ?_ (.cons rfl (.nil _))
  show AV.d (D.sc (Value.int IntKind.i64 k))= .d (.sc (.int .i64 ((k.toNat:Nat):Int)))
  rw[Int.toNat_of_nonneg (by omega)]
 ·rintro⟨n,out⟩ ⟨hn,hl⟩
  dsimp only at hn hl
  dsimp only
  generalize hs:tx out=s
  generalize hi:(n:Int)=i
  refine Cz hT hm ?_
  rw[hA]
  cbv
  try simp only[nc]at*
  split
  ·rename_i h2
   simp only[hE,List.length_map,Aq,At,Au,Av,Ao,Aj,Al,An,Af,Ah,Ac,Ak,Ai,Ad,Am,Aa,Ag,Ae,Ap,IntKind.wrap_i64,decide_eq_true_eq,decide_eq_false_iff_not,Bool.not_eq_true',Bool.not_eq_false',Option.getD_none,Option.getD_some]at h2
   cbv
   try simp only[nc]at*
   have hv:qwrap .u8 (qbin .add .i64 48 (qbin .rem .i64 i 10))=((UInt8.ofNat (48+n% 10)).toNat:Int):=by
    simp only[hE,Xgs (show 0≤i by omega) (show(0:Int)<10 by omega),An,XdZ]
    rw[J6 (by omega),Xd8 (by omega) (by omega),UInt8.toNat_ofNat']
    omega
   rw[hv]
   have hr:qrsub [[D.sc (Value.int IntKind.u8 ((UInt8.ofNat (48+n% 10)).toNat:Int))]] (qofNat 0) (qofNat (qnadd 0 1))=[UInt8.ofNat (48+n% 10)].map cB:=by simp only[hE];rfl
   rw[hr]
   have hb:qbytes ([UInt8.ofNat (48+n% 10)].map cB)=tx [UInt8.ofNat (48+n% 10)]:=by simp only[hE];exact Q6 _
   have hss:s.size=out.length:=by rw[←hs,A7]
   refine⟨⟨by omega⟩,⟨by simp⟩,Xew _,?_,⟨by omega⟩,(n/10,UInt8.ofNat (48+n% 10)::out),⟨?_,?_⟩,?_,?_,by first|rfl|trivial⟩
   ·rw[hb]
    refine⟨?_⟩
    rw[A7]
    show(((1+s.size:Nat)):Int)≤2^63 - 1
    omega
   ·rw[←hn]
    exact Xd4 (by omega) out
   ·simp only[List.length_cons]
    omega
   ·show n/10<n
    omega
   ·refine .cons ?_ (.cons ?_ (.nil _))
    ·show AV.d (D.sc (Value.int IntKind.i64 (qbin .quo .i64 i 10)))=_
     simp only[hE,Xf4 (show 0≤i by omega) (show(0:Int)<10 by omega)]
     rw[J6 (by omega),show i/10=((n/10:Nat):Int)by omega]
    ·show AV.d (D.sc (Value.string (qcat (qbytes ([UInt8.ofNat (48+n% 10)].map cB)) s)))=_
     rw[hb,←hs]
     simp only[hE,Xaj]
     rfl
  ·rename_i h2
   simp only[hE,List.length_map,Aq,At,Au,Av,Ao,Aj,Al,An,Af,Ah,Ac,Ak,Ai,Ad,Am,Aa,Ag,Ae,Ap,IntKind.wrap_i64,decide_eq_true_eq,decide_eq_false_iff_not,Bool.not_eq_true',Bool.not_eq_false',Option.getD_none,Option.getD_some]at h2
   cbv
   try simp only[nc]at*
   have aa:n=0:=by omega
   subst aa
   rw[XeS]at hn
   have hss:s.size=out.length:=by rw[←hs,A7]
   refine⟨⟨?_⟩,?_⟩
   ·show(((1+s.size:Nat)):Int)≤2^63 - 1
    omega
   rw[←hQ]
   refine Lx rfl (Xhk ?_)
   rw[←hs,show K1 k=tx (109::mkL k.toNat [])from if_neg h,←hn]
   simp only[hE]
   exact Xaj (a:=[109]) (b:=out)
def Ly(k:Int)(j:Nat):Cm:=(⟨k+3*(j:Int)+0,K1 (k+3*(j:Int)+1),k+3*(j:Int)+2⟩:Cm)
def H3(k:Int)(n:Nat):List Cm:=(List.range n).map (Ly k)
noncomputable def c116:Code:=(Tryz.f116.body).getD .skip
theorem XgE:Bd Tryz.prog 116:=⟨_,Tryz.func116,rfl,rfl⟩
theorem T116{a:List Cm}{xs:List (List D)}(hx:a.map Cs=xs){na:Nat}(hna:na=a.length)(ha:na<2^40)(k:Int)(h0:0≤k)(h1:k<2^50):
  CallOk Tryz.prog 116 [.ref 0 0 na,.d (.sc (.int .i64 k))] [.row 3 false xs] ⟨.d (.sc (.int .i64 (k+3*(na:Int)))),[],[(0,.row 3 false ((H3 k na).map Cs))]⟩:=by
 subst hna
 have e1:=Xe0
 have t1:=@T73
 refine CallOk.of_body (body:=c116) Tryz.func116 rfl (Nat.le_of_ble_eq_true (by kernel_rfl)) rfl rfl ?_
 refine Cz A6 mixed ?_
 have hT:=A6
 have hm:=mixed
 generalize hP:Tryz.prog=P at*
 generalize hA:std=A
 obtain⟨qbin,qsh,qcmp,qscmp,qbcmp,qbnot,qneg,qwrap,qcat,qssize,qssub,qsget,qlen,qrsub,qapp,qelt,qset,qnth,qdrp,qstr,qint,qbool,qrow,qnat,qnadd,qnsub,qband,qofNat,qstrRow,qmkRow,qmx,qmn,qbytes,qemp⟩:=A
 have hE:=Ar.eqs hA
 dsimp only at hE
 generalize hQ:EndQ P Tryz.f116.results _ _=Q
 generalize hm':a.length=m
 cbv
 try simp only[nc]at*
 refine LpW.of (κ:=Nat) (fun j=>j≤a.length) (fun j=>a.length - j) (fun j=>[(0,.ref 0 0 m),(1,.d (.sc (.int .i64 (k+3*(j:Int))))),(5,.d (.sc (.int .i64 j)))]) (fun j=>[.row 3 false ((mkd (Ly k) a j).map Cs)]) 0 (by omega) ?_ ?_ ?_
 ·refine .cons rfl (.cons ?_ (.cons rfl (.nil _)))
  show AV.d (.sc (.int .i64 k))= .d (.sc (.int .i64 (k+3*((0:Nat):Int))))
  rw[show k+3*((0:Nat):Int)=k by omega]
 ·show[Root.row 3 false xs]=[Root.row 3 false ((mkd (Ly k) a 0).map Cs)]
  rw[←hx,Pw]
 ·intro j hj
  obtain⟨l0,aa⟩:∃l,l=mkd (Ly k) a j:=⟨_,rfl⟩
  rw[←aa]
  have hll:l0.length=a.length:=by rw[aa];exact Lk hj
  generalize ab:l0.map Cs=ah
  generalize hi:(j:Int)=i
  generalize aw:k+3*i=kc0
  refine Cz hT hm ?_
  rw[hA]
  cbv
  try simp only[nc]at*
  split
  ·rename_i h2
   simp only[hE,List.length_map,Aq,At,Au,Av,Ao,Aj,Al,An,Af,Ah,Ac,Ak,Ai,Ad,Am,Aa,Ag,Ae,Ap,IntKind.wrap_i64,decide_eq_true_eq,decide_eq_false_iff_not,Bool.not_eq_true',Bool.not_eq_false',Option.getD_none,Option.getD_some]at h2
   have hj':j<a.length:=by omega
   have hjl0:j<l0.length:=by omega
   obtain⟨w0,ax⟩:∃w,w=l0[j]:=⟨_,rfl⟩
   cbv
   try simp only[nc]at*
   obtain⟨w1,ai⟩:∃w,w={w0 with id_:=kc0}:=⟨_,rfl⟩
   have aj:qset ah (qnadd 0 (qnat i)) 0 [D.sc (Value.int IntKind.i64 kc0)]=(l0.set j w1).map Cs:=by
    simp only[hE]
    exact Qw ab hi hjl0 (by rw[←ax,ai];rfl)
   obtain⟨l1,ac⟩:∃l,l=l0.set j w1:=⟨_,rfl⟩
   rw[←ac]at aj
   have hjl1:j<l1.length:=by rw[ac,List.length_set];exact hjl0
   have ak:w1=l1[j]:=by simp[ac]
   have al:qbin .add .i64 kc0 1=kc0+1:=by simp only[hE,List.length_map,Aq,At,Au,Av,Ao,Aj,Al,An,Af,Ah,Ac,Ak,Ai,Ad,Am,Aa,Ag,Ae,Ap,IntKind.wrap_i64,decide_eq_true_eq,decide_eq_false_iff_not,Bool.not_eq_true',Bool.not_eq_false',Option.getD_none,Option.getD_some,];omega
   generalize hkc1:kc0+1=kc1 at al
   rw[aj,al]
   generalize af:l1.map Cs=ay
   refine⟨by simp only[hE,List.length_map,Aq,At,Au,Av,Ao,Aj,Al,An,Af,Ah,Ac,Ak,Ai,Ad,Am,Aa,Ag,Ae,Ap,IntKind.wrap_i64,decide_eq_true_eq,decide_eq_false_iff_not,Bool.not_eq_true',Bool.not_eq_false',Option.getD_none,Option.getD_some,];exact⟨by omega,by omega⟩,by simp only[hE];exact Rz ab hi hjl0,by simp only[hE];exact Kd ab hi hjl0 (Nat.le_of_ble_eq_true rfl),?_⟩
   refine ClW.dd (f:=73) rfl rfl rfl rfl (.cons rfl .nil) rfl e1 (t1 kc1 (by omega)) rfl ?_
   generalize ht1:K1 kc1=t1
   cbv
   try simp only[nc]at*
   obtain⟨w2,am⟩:∃w,w={w1 with text_:=t1}:=⟨_,rfl⟩
   have an:qset ay (qnadd 0 (qnat i)) 1 [D.sc (Value.string t1)]=(l1.set j w2).map Cs:=by
    simp only[hE]
    exact Qw af hi hjl1 (by rw[←ak,am];rfl)
   obtain⟨l2,ad⟩:∃l,l=l1.set j w2:=⟨_,rfl⟩
   rw[←ad]at an
   have hjl2:j<l2.length:=by rw[ad,List.length_set];exact hjl1
   have ao:w2=l2[j]:=by simp[ad]
   have ap:qbin .add .i64 kc1 1=kc1+1:=by simp only[hE,List.length_map,Aq,At,Au,Av,Ao,Aj,Al,An,Af,Ah,Ac,Ak,Ai,Ad,Am,Aa,Ag,Ae,Ap,IntKind.wrap_i64,decide_eq_true_eq,decide_eq_false_iff_not,Bool.not_eq_true',Bool.not_eq_false',Option.getD_none,Option.getD_some,];omega
   generalize hkc2:kc1+1=kc2 at ap
   rw[an,ap]
   generalize ag:l2.map Cs=az
   refine⟨by simp only[hE,List.length_map,Aq,At,Au,Av,Ao,Aj,Al,An,Af,Ah,Ac,Ak,Ai,Ad,Am,Aa,Ag,Ae,Ap,IntKind.wrap_i64,decide_eq_true_eq,decide_eq_false_iff_not,Bool.not_eq_true',Bool.not_eq_false',Option.getD_none,Option.getD_some,];exact⟨by omega,by omega⟩,by simp only[hE];exact Rz af hi hjl1,by simp only[hE];exact Kd af hi hjl1 (Nat.le_of_ble_eq_true rfl),?_⟩
   obtain⟨w3,aq⟩:∃w,w={w2 with sure_:=kc2}:=⟨_,rfl⟩
   have ar:qset az (qnadd 0 (qnat i)) 2 [D.sc (Value.int IntKind.i64 kc2)]=(l2.set j w3).map Cs:=by
    simp only[hE]
    exact Qw ag hi hjl2 (by rw[←ao,aq];rfl)
   obtain⟨l3,ae⟩:∃l,l=l2.set j w3:=⟨_,rfl⟩
   rw[←ae]at ar
   have hjl3:j<l3.length:=by rw[ae,List.length_set];exact hjl2
   have a6:w3=l3[j]:=by simp[ae]
   have au:qbin .add .i64 kc2 1=kc2+1:=by simp only[hE,List.length_map,Aq,At,Au,Av,Ao,Aj,Al,An,Af,Ah,Ac,Ak,Ai,Ad,Am,Aa,Ag,Ae,Ap,IntKind.wrap_i64,decide_eq_true_eq,decide_eq_false_iff_not,Bool.not_eq_true',Bool.not_eq_false',Option.getD_none,Option.getD_some,];omega
   generalize hkc3:kc2+1=kc3 at au
   rw[ar,au]
   generalize a1:l3.map Cs=a2
   refine⟨by simp only[hE,List.length_map,Aq,At,Au,Av,Ao,Aj,Al,An,Af,Ah,Ac,Ak,Ai,Ad,Am,Aa,Ag,Ae,Ap,IntKind.wrap_i64,decide_eq_true_eq,decide_eq_false_iff_not,Bool.not_eq_true',Bool.not_eq_false',Option.getD_none,Option.getD_some,];exact⟨by omega,by omega⟩,by simp only[hE];exact Rz ag hi hjl2,by simp only[hE];exact Kd ag hi hjl2 (Nat.le_of_ble_eq_true rfl),?_⟩
   have hfin:l3=mkd (Ly k) a (j+1):=by
    rw[←Tv hj',←aa,ae,ad,ac]
    try simp only[List.set_set]
    congr 1
    rw[aq,am,ai]
    simp only[Ly,hi]
    rw[←ht1]
    rw[show kc2=k+3*i+2 by omega];rw[show kc1=k+3*i+1 by omega];rw[show kc0=k+3*i+0 by omega]
   refine⟨j+1,by omega,by omega,?_,?_⟩
   ·refine .cons rfl (.cons ?_ (.cons ?_ (.nil _)))
    ·show AV.d (D.sc (Value.int IntKind.i64 kc3))= .d (.sc (.int .i64 (k+3*((j+1:Nat):Int))))
     rw[show k+3*((j+1:Nat):Int)=kc3 by omega]
    ·show AV.d (D.sc (Value.int IntKind.i64 (qbin .add .i64 i 1)))=_
     simp only[hE,Jg hi (by omega)]
   ·show[Root.row 3 false a2]=_
    rw[←hfin,a1]
  ·rename_i h2
   simp only[hE,List.length_map,Aq,At,Au,Av,Ao,Aj,Al,An,Af,Ah,Ac,Ak,Ai,Ad,Am,Aa,Ag,Ae,Ap,IntKind.wrap_i64,decide_eq_true_eq,decide_eq_false_iff_not,Bool.not_eq_true',Bool.not_eq_false',Option.getD_none,Option.getD_some]at h2
   cbv
   try simp only[nc]at*
   have hj':j=a.length:=by omega
   subst hj'
   rw[Uk]at aa
   rw[←hQ,←hm']
   refine Py rfl ?_ ?_
   ·rw[←aw,hi]
   ·show some (Root.row 3 false ah)=_
    rw[←ab,aa]
    rfl
def Jq(k:Int)(j:Nat):A3:=(⟨K1 (k+2*(j:Int)+0),k+2*(j:Int)+1⟩:A3)
def Dt(k:Int)(n:Nat):List A3:=(List.range n).map (Jq k)
noncomputable def c117:Code:=(Tryz.f117.body).getD .skip
theorem Xhr:Bd Tryz.prog 117:=⟨_,Tryz.func117,rfl,rfl⟩
theorem T117{a:List A3}{xs:List (List D)}(hx:a.map A2=xs){na:Nat}(hna:na=a.length)(ha:na<2^40)(k:Int)(h0:0≤k)(h1:k<2^50):
  CallOk Tryz.prog 117 [.ref 0 0 na,.d (.sc (.int .i64 k))] [.row 2 false xs] ⟨.d (.sc (.int .i64 (k+2*(na:Int)))),[],[(0,.row 2 false ((Dt k na).map A2))]⟩:=by
 subst hna
 have e1:=Xe0
 have t1:=@T73
 refine CallOk.of_body (body:=c117) Tryz.func117 rfl (Nat.le_of_ble_eq_true (by kernel_rfl)) rfl rfl ?_
 refine Cz A6 mixed ?_
 have hT:=A6
 have hm:=mixed
 generalize hP:Tryz.prog=P at*
 generalize hA:std=A
 obtain⟨qbin,qsh,qcmp,qscmp,qbcmp,qbnot,qneg,qwrap,qcat,qssize,qssub,qsget,qlen,qrsub,qapp,qelt,qset,qnth,qdrp,qstr,qint,qbool,qrow,qnat,qnadd,qnsub,qband,qofNat,qstrRow,qmkRow,qmx,qmn,qbytes,qemp⟩:=A
 have hE:=Ar.eqs hA
 dsimp only at hE
 generalize hQ:EndQ P Tryz.f117.results _ _=Q
 generalize hm':a.length=m
 cbv
 try simp only[nc]at*
 refine LpW.of (κ:=Nat) (fun j=>j≤a.length) (fun j=>a.length - j) (fun j=>[(0,.ref 0 0 m),(1,.d (.sc (.int .i64 (k+2*(j:Int))))),(5,.d (.sc (.int .i64 j)))]) (fun j=>[.row 2 false ((mkd (Jq k) a j).map A2)]) 0 (by omega) ?_ ?_ ?_
 ·refine .cons rfl (.cons ?_ (.cons rfl (.nil _)))
  show AV.d (.sc (.int .i64 k))= .d (.sc (.int .i64 (k+2*((0:Nat):Int))))
  rw[show k+2*((0:Nat):Int)=k by omega]
 ·show[Root.row 2 false xs]=[Root.row 2 false ((mkd (Jq k) a 0).map A2)]
  rw[←hx,Pw]
 ·intro j hj
  obtain⟨l0,aa⟩:∃l,l=mkd (Jq k) a j:=⟨_,rfl⟩
  rw[←aa]
  have hll:l0.length=a.length:=by rw[aa];exact Lk hj
  generalize ab:l0.map A2=af
  generalize hi:(j:Int)=i
  generalize an:k+2*i=kc0
  refine Cz hT hm ?_
  rw[hA]
  cbv
  try simp only[nc]at*
  split
  ·rename_i h2
   simp only[hE,List.length_map,Aq,At,Au,Av,Ao,Aj,Al,An,Af,Ah,Ac,Ak,Ai,Ad,Am,Aa,Ag,Ae,Ap,IntKind.wrap_i64,decide_eq_true_eq,decide_eq_false_iff_not,Bool.not_eq_true',Bool.not_eq_false',Option.getD_none,Option.getD_some]at h2
   have hj':j<a.length:=by omega
   have hjl0:j<l0.length:=by omega
   obtain⟨w0,ao⟩:∃w,w=l0[j]:=⟨_,rfl⟩
   cbv
   try simp only[nc]at*
   refine ClW.dd (f:=73) rfl rfl rfl rfl (.cons rfl .nil) rfl e1 (t1 kc0 (by omega)) rfl ?_
   generalize ht0:K1 kc0=t0
   cbv
   try simp only[nc]at*
   obtain⟨w1,ag⟩:∃w,w={w0 with name_:=t0}:=⟨_,rfl⟩
   have ah:qset af (qnadd 0 (qnat i)) 0 [D.sc (Value.string t0)]=(l0.set j w1).map A2:=by
    simp only[hE]
    exact Qw ab hi hjl0 (by rw[←ao,ag];rfl)
   obtain⟨l1,ac⟩:∃l,l=l0.set j w1:=⟨_,rfl⟩
   rw[←ac]at ah
   have hjl1:j<l1.length:=by rw[ac,List.length_set];exact hjl0
   have ai:w1=l1[j]:=by simp[ac]
   have aj:qbin .add .i64 kc0 1=kc0+1:=by simp only[hE,List.length_map,Aq,At,Au,Av,Ao,Aj,Al,An,Af,Ah,Ac,Ak,Ai,Ad,Am,Aa,Ag,Ae,Ap,IntKind.wrap_i64,decide_eq_true_eq,decide_eq_false_iff_not,Bool.not_eq_true',Bool.not_eq_false',Option.getD_none,Option.getD_some,];omega
   generalize hkc1:kc0+1=kc1 at aj
   rw[ah,aj]
   generalize ae:l1.map A2=ap
   refine⟨by simp only[hE,List.length_map,Aq,At,Au,Av,Ao,Aj,Al,An,Af,Ah,Ac,Ak,Ai,Ad,Am,Aa,Ag,Ae,Ap,IntKind.wrap_i64,decide_eq_true_eq,decide_eq_false_iff_not,Bool.not_eq_true',Bool.not_eq_false',Option.getD_none,Option.getD_some,];exact⟨by omega,by omega⟩,by simp only[hE];exact Rz ab hi hjl0,by simp only[hE];exact Kd ab hi hjl0 (Nat.le_of_ble_eq_true rfl),?_⟩
   obtain⟨w2,ak⟩:∃w,w={w1 with id_:=kc1}:=⟨_,rfl⟩
   have al:qset ap (qnadd 0 (qnat i)) 1 [D.sc (Value.int IntKind.i64 kc1)]=(l1.set j w2).map A2:=by
    simp only[hE]
    exact Qw ae hi hjl1 (by rw[←ai,ak];rfl)
   obtain⟨l2,ad⟩:∃l,l=l1.set j w2:=⟨_,rfl⟩
   rw[←ad]at al
   have hjl2:j<l2.length:=by rw[ad,List.length_set];exact hjl1
   have au:w2=l2[j]:=by simp[ad]
   have am:qbin .add .i64 kc1 1=kc1+1:=by simp only[hE,List.length_map,Aq,At,Au,Av,Ao,Aj,Al,An,Af,Ah,Ac,Ak,Ai,Ad,Am,Aa,Ag,Ae,Ap,IntKind.wrap_i64,decide_eq_true_eq,decide_eq_false_iff_not,Bool.not_eq_true',Bool.not_eq_false',Option.getD_none,Option.getD_some,];omega
   generalize hkc2:kc1+1=kc2 at am
   rw[al,am]
   generalize aq:l2.map A2=ar
   refine⟨by simp only[hE,List.length_map,Aq,At,Au,Av,Ao,Aj,Al,An,Af,Ah,Ac,Ak,Ai,Ad,Am,Aa,Ag,Ae,Ap,IntKind.wrap_i64,decide_eq_true_eq,decide_eq_false_iff_not,Bool.not_eq_true',Bool.not_eq_false',Option.getD_none,Option.getD_some,];exact⟨by omega,by omega⟩,by simp only[hE];exact Rz ae hi hjl1,by simp only[hE];exact Kd ae hi hjl1 (Nat.le_of_ble_eq_true rfl),?_⟩
   have hfin:l2=mkd (Jq k) a (j+1):=by
    rw[←Tv hj',←aa,ad,ac]
    try simp only[List.set_set]
    congr 1
    rw[ak,ag]
    simp only[Jq,hi]
    rw[←ht0]
    rw[show kc1=k+2*i+1 by omega];rw[show kc0=k+2*i+0 by omega]
   refine⟨j+1,by omega,by omega,?_,?_⟩
   ·refine .cons rfl (.cons ?_ (.cons ?_ (.nil _)))
    ·show AV.d (D.sc (Value.int IntKind.i64 kc2))= .d (.sc (.int .i64 (k+2*((j+1:Nat):Int))))
     rw[show k+2*((j+1:Nat):Int)=kc2 by omega]
    ·show AV.d (D.sc (Value.int IntKind.i64 (qbin .add .i64 i 1)))=_
     simp only[hE,Jg hi (by omega)]
   ·show[Root.row 2 false ar]=_
    rw[←hfin,aq]
  ·rename_i h2
   simp only[hE,List.length_map,Aq,At,Au,Av,Ao,Aj,Al,An,Af,Ah,Ac,Ak,Ai,Ad,Am,Aa,Ag,Ae,Ap,IntKind.wrap_i64,decide_eq_true_eq,decide_eq_false_iff_not,Bool.not_eq_true',Bool.not_eq_false',Option.getD_none,Option.getD_some]at h2
   cbv
   try simp only[nc]at*
   have hj':j=a.length:=by omega
   subst hj'
   rw[Uk]at aa
   rw[←hQ,←hm']
   refine Py rfl ?_ ?_
   ·rw[←an,hi]
   ·show some (Root.row 2 false af)=_
    rw[←ab,aa]
    rfl
def F7(k:Int)(j:Nat):ByteArray:=K1 (k+1*(j:Int)+0)
def Cj(k:Int)(n:Nat):List ByteArray:=(List.range n).map (F7 k)
theorem F3{k:Int}{n:Nat}:(Cj k n).length=n:=by simp[Cj]
noncomputable def c21:Code:=(Tryz.f21.body).getD .skip
theorem XfJ:Bd Tryz.prog 21:=⟨_,Tryz.func21,rfl,rfl⟩
theorem T21{a:List ByteArray}{xs:List (List D)}(hx:a.map cS=xs){na:Nat}(hna:na=a.length)(ha:na<2^40)(k:Int)(h0:0≤k)(h1:k<2^50):
  CallOk Tryz.prog 21 [.ref 0 0 na,.d (.sc (.int .i64 k))] [.row 1 false xs] ⟨.d (.sc (.int .i64 (k+1*(na:Int)))),[],[(0,.row 1 false ((Cj k na).map cS))]⟩:=by
 subst hna
 have e1:=Xe0
 have t1:=@T73
 refine CallOk.of_body (body:=c21) Tryz.func21 rfl (Nat.le_of_ble_eq_true (by kernel_rfl)) rfl rfl ?_
 refine Cz A6 mixed ?_
 have hT:=A6
 have hm:=mixed
 generalize hP:Tryz.prog=P at*
 generalize hA:std=A
 obtain⟨qbin,qsh,qcmp,qscmp,qbcmp,qbnot,qneg,qwrap,qcat,qssize,qssub,qsget,qlen,qrsub,qapp,qelt,qset,qnth,qdrp,qstr,qint,qbool,qrow,qnat,qnadd,qnsub,qband,qofNat,qstrRow,qmkRow,qmx,qmn,qbytes,qemp⟩:=A
 have hE:=Ar.eqs hA
 dsimp only at hE
 generalize hQ:EndQ P Tryz.f21.results _ _=Q
 generalize hm':a.length=m
 cbv
 try simp only[nc]at*
 refine LpW.of (κ:=Nat) (fun j=>j≤a.length) (fun j=>a.length - j) (fun j=>[(0,.ref 0 0 m),(1,.d (.sc (.int .i64 (k+1*(j:Int))))),(5,.d (.sc (.int .i64 j)))]) (fun j=>[.row 1 false ((mkd (F7 k) a j).map cS)]) 0 (by omega) ?_ ?_ ?_
 ·refine .cons rfl (.cons ?_ (.cons rfl (.nil _)))
  show AV.d (.sc (.int .i64 k))= .d (.sc (.int .i64 (k+1*((0:Nat):Int))))
  rw[show k+1*((0:Nat):Int)=k by omega]
 ·show[Root.row 1 false xs]=[Root.row 1 false ((mkd (F7 k) a 0).map cS)]
  rw[←hx,Pw]
 ·intro j hj
  obtain⟨l0,aa⟩:∃l,l=mkd (F7 k) a j:=⟨_,rfl⟩
  rw[←aa]
  have hll:l0.length=a.length:=by rw[aa];exact Lk hj
  generalize ab:l0.map cS=ad
  generalize hi:(j:Int)=i
  generalize ah:k+1*i=kc0
  refine Cz hT hm ?_
  rw[hA]
  cbv
  try simp only[nc]at*
  split
  ·rename_i h2
   simp only[hE,List.length_map,Aq,At,Au,Av,Ao,Aj,Al,An,Af,Ah,Ac,Ak,Ai,Ad,Am,Aa,Ag,Ae,Ap,IntKind.wrap_i64,decide_eq_true_eq,decide_eq_false_iff_not,Bool.not_eq_true',Bool.not_eq_false',Option.getD_none,Option.getD_some]at h2
   have hj':j<a.length:=by omega
   have hjl0:j<l0.length:=by omega
   obtain⟨w0,ai⟩:∃w,w=l0[j]:=⟨_,rfl⟩
   cbv
   try simp only[nc]at*
   refine ClW.dd (f:=73) rfl rfl rfl rfl (.cons rfl .nil) rfl e1 (t1 kc0 (by omega)) rfl ?_
   generalize ht0:K1 kc0=t0
   cbv
   try simp only[nc]at*
   obtain⟨w1,ae⟩:∃w,w=t0:=⟨_,rfl⟩
   have af:qset ad (qnadd 0 (qnat i)) 0 [D.sc (Value.string t0)]=(l0.set j w1).map cS:=by
    simp only[hE]
    exact Qw ab hi hjl0 (by rw[←ai,ae];rfl)
   obtain⟨l1,ac⟩:∃l,l=l0.set j w1:=⟨_,rfl⟩
   rw[←ac]at af
   have hjl1:j<l1.length:=by rw[ac,List.length_set];exact hjl0
   have al:w1=l1[j]:=by simp[ac]
   have ag:qbin .add .i64 kc0 1=kc0+1:=by simp only[hE,List.length_map,Aq,At,Au,Av,Ao,Aj,Al,An,Af,Ah,Ac,Ak,Ai,Ad,Am,Aa,Ag,Ae,Ap,IntKind.wrap_i64,decide_eq_true_eq,decide_eq_false_iff_not,Bool.not_eq_true',Bool.not_eq_false',Option.getD_none,Option.getD_some,];omega
   generalize hkc1:kc0+1=kc1 at ag
   rw[af,ag]
   generalize aj:l1.map cS=ak
   refine⟨by simp only[hE,List.length_map,Aq,At,Au,Av,Ao,Aj,Al,An,Af,Ah,Ac,Ak,Ai,Ad,Am,Aa,Ag,Ae,Ap,IntKind.wrap_i64,decide_eq_true_eq,decide_eq_false_iff_not,Bool.not_eq_true',Bool.not_eq_false',Option.getD_none,Option.getD_some,];exact⟨by omega,by omega⟩,by simp only[hE];exact Rz ab hi hjl0,by simp only[hE];exact Kd ab hi hjl0 (Nat.le_of_ble_eq_true rfl),?_⟩
   have hfin:l1=mkd (F7 k) a (j+1):=by
    rw[←Tv hj',←aa,ac]
    try simp only[List.set_set]
    congr 1
    rw[ae]
    simp only[F7,hi]
    rw[←ht0]
    rw[show kc0=k+1*i+0 by omega]
   refine⟨j+1,by omega,by omega,?_,?_⟩
   ·refine .cons rfl (.cons ?_ (.cons ?_ (.nil _)))
    ·show AV.d (D.sc (Value.int IntKind.i64 kc1))= .d (.sc (.int .i64 (k+1*((j+1:Nat):Int))))
     rw[show k+1*((j+1:Nat):Int)=kc1 by omega]
    ·show AV.d (D.sc (Value.int IntKind.i64 (qbin .add .i64 i 1)))=_
     simp only[hE,Jg hi (by omega)]
   ·show[Root.row 1 false ak]=_
    rw[←hfin,aj]
  ·rename_i h2
   simp only[hE,List.length_map,Aq,At,Au,Av,Ao,Aj,Al,An,Af,Ah,Ac,Ak,Ai,Ad,Am,Aa,Ag,Ae,Ap,IntKind.wrap_i64,decide_eq_true_eq,decide_eq_false_iff_not,Bool.not_eq_true',Bool.not_eq_false',Option.getD_none,Option.getD_some]at h2
   cbv
   try simp only[nc]at*
   have hj':j=a.length:=by omega
   subst hj'
   rw[Uk]at aa
   rw[←hQ,←hm']
   refine Py rfl ?_ ?_
   ·rw[←ah,hi]
   ·show some (Root.row 1 false ad)=_
    rw[←ab,aa]
    rfl
def N7(k:Int)(j:Nat):Int:=k+1*(j:Int)+0
def Jf(k:Int)(n:Nat):List Int:=(List.range n).map (N7 k)
noncomputable def c46:Code:=(Tryz.f46.body).getD .skip
theorem ent46:Bd Tryz.prog 46:=⟨_,Tryz.func46,rfl,rfl⟩
theorem T46{a:List Int}{xs:List (List D)}(hx:a.map cI=xs){na:Nat}(hna:na=a.length)(ha:na<2^40)(k:Int)(h0:0≤k)(h1:k<2^50):
  CallOk Tryz.prog 46 [.ref 0 0 na,.d (.sc (.int .i64 k))] [.row 1 false xs] ⟨.d (.sc (.int .i64 (k+1*(na:Int)))),[],[(0,.row 1 false ((Jf k na).map cI))]⟩:=by
 subst hna
 refine CallOk.of_body (body:=c46) Tryz.func46 rfl (Nat.le_of_ble_eq_true (by kernel_rfl)) rfl rfl ?_
 refine Cz A6 mixed ?_
 have hT:=A6
 have hm:=mixed
 generalize hP:Tryz.prog=P at*
 generalize hA:std=A
 obtain⟨qbin,qsh,qcmp,qscmp,qbcmp,qbnot,qneg,qwrap,qcat,qssize,qssub,qsget,qlen,qrsub,qapp,qelt,qset,qnth,qdrp,qstr,qint,qbool,qrow,qnat,qnadd,qnsub,qband,qofNat,qstrRow,qmkRow,qmx,qmn,qbytes,qemp⟩:=A
 have hE:=Ar.eqs hA
 dsimp only at hE
 generalize hQ:EndQ P Tryz.f46.results _ _=Q
 generalize hm':a.length=m
 cbv
 try simp only[nc]at*
 refine LpW.of (κ:=Nat) (fun j=>j≤a.length) (fun j=>a.length - j) (fun j=>[(0,.ref 0 0 m),(1,.d (.sc (.int .i64 (k+1*(j:Int))))),(5,.d (.sc (.int .i64 j)))]) (fun j=>[.row 1 false ((mkd (N7 k) a j).map cI)]) 0 (by omega) ?_ ?_ ?_
 ·refine .cons rfl (.cons ?_ (.cons rfl (.nil _)))
  show AV.d (.sc (.int .i64 k))= .d (.sc (.int .i64 (k+1*((0:Nat):Int))))
  rw[show k+1*((0:Nat):Int)=k by omega]
 ·show[Root.row 1 false xs]=[Root.row 1 false ((mkd (N7 k) a 0).map cI)]
  rw[←hx,Pw]
 ·intro j hj
  obtain⟨l0,aa⟩:∃l,l=mkd (N7 k) a j:=⟨_,rfl⟩
  rw[←aa]
  have hll:l0.length=a.length:=by rw[aa];exact Lk hj
  generalize ab:l0.map cI=ad
  generalize hi:(j:Int)=i
  generalize ah:k+1*i=kc0
  refine Cz hT hm ?_
  rw[hA]
  cbv
  try simp only[nc]at*
  split
  ·rename_i h2
   simp only[hE,List.length_map,Aq,At,Au,Av,Ao,Aj,Al,An,Af,Ah,Ac,Ak,Ai,Ad,Am,Aa,Ag,Ae,Ap,IntKind.wrap_i64,decide_eq_true_eq,decide_eq_false_iff_not,Bool.not_eq_true',Bool.not_eq_false',Option.getD_none,Option.getD_some]at h2
   have hj':j<a.length:=by omega
   have hjl0:j<l0.length:=by omega
   obtain⟨w0,ai⟩:∃w,w=l0[j]:=⟨_,rfl⟩
   cbv
   try simp only[nc]at*
   obtain⟨w1,ae⟩:∃w,w=kc0:=⟨_,rfl⟩
   have af:qset ad (qnadd 0 (qnat i)) 0 [D.sc (Value.int IntKind.i64 kc0)]=(l0.set j w1).map cI:=by
    simp only[hE]
    exact Qw ab hi hjl0 (by rw[←ai,ae];rfl)
   obtain⟨l1,ac⟩:∃l,l=l0.set j w1:=⟨_,rfl⟩
   rw[←ac]at af
   have hjl1:j<l1.length:=by rw[ac,List.length_set];exact hjl0
   have al:w1=l1[j]:=by simp[ac]
   have ag:qbin .add .i64 kc0 1=kc0+1:=by simp only[hE,List.length_map,Aq,At,Au,Av,Ao,Aj,Al,An,Af,Ah,Ac,Ak,Ai,Ad,Am,Aa,Ag,Ae,Ap,IntKind.wrap_i64,decide_eq_true_eq,decide_eq_false_iff_not,Bool.not_eq_true',Bool.not_eq_false',Option.getD_none,Option.getD_some,];omega
   generalize hkc1:kc0+1=kc1 at ag
   rw[af,ag]
   generalize aj:l1.map cI=ak
   refine⟨by simp only[hE,List.length_map,Aq,At,Au,Av,Ao,Aj,Al,An,Af,Ah,Ac,Ak,Ai,Ad,Am,Aa,Ag,Ae,Ap,IntKind.wrap_i64,decide_eq_true_eq,decide_eq_false_iff_not,Bool.not_eq_true',Bool.not_eq_false',Option.getD_none,Option.getD_some,];exact⟨by omega,by omega⟩,by simp only[hE];exact Rz ab hi hjl0,by simp only[hE];exact Kd ab hi hjl0 (Nat.le_of_ble_eq_true rfl),?_⟩
   have hfin:l1=mkd (N7 k) a (j+1):=by
    rw[←Tv hj',←aa,ac]
    try simp only[List.set_set]
    congr 1
    rw[ae]
    simp only[N7,hi]
    rw[show kc0=k+1*i+0 by omega]
   refine⟨j+1,by omega,by omega,?_,?_⟩
   ·refine .cons rfl (.cons ?_ (.cons ?_ (.nil _)))
    ·show AV.d (D.sc (Value.int IntKind.i64 kc1))= .d (.sc (.int .i64 (k+1*((j+1:Nat):Int))))
     rw[show k+1*((j+1:Nat):Int)=kc1 by omega]
    ·show AV.d (D.sc (Value.int IntKind.i64 (qbin .add .i64 i 1)))=_
     simp only[hE,Jg hi (by omega)]
   ·show[Root.row 1 false ak]=_
    rw[←hfin,aj]
  ·rename_i h2
   simp only[hE,List.length_map,Aq,At,Au,Av,Ao,Aj,Al,An,Af,Ah,Ac,Ak,Ai,Ad,Am,Aa,Ag,Ae,Ap,IntKind.wrap_i64,decide_eq_true_eq,decide_eq_false_iff_not,Bool.not_eq_true',Bool.not_eq_false',Option.getD_none,Option.getD_some]at h2
   cbv
   try simp only[nc]at*
   have hj':j=a.length:=by omega
   subst hj'
   rw[Uk]at aa
   rw[←hQ,←hm']
   refine Py rfl ?_ ?_
   ·rw[←ah,hi]
   ·show some (Root.row 1 false ad)=_
    rw[←ab,aa]
    rfl
end
section
open Go Go.Proofs
set_option maxRecDepth 20000
noncomputable def c22:Code:=(Tryz.f22.body).getD .skip
theorem ent22:Bd Tryz.prog 22:=⟨_,Tryz.func22,rfl,rfl⟩
theorem T22{n:Nat}{k:Int}{xs:List (List D)}(hx:(Cj k n).map cS=xs)(ha:n<2^40)(h0:0≤k)(h1:k<2^50):
  CallOk Tryz.prog 22 [.d (.row 1 xs),.d (.sc (.int .i64 k))] [] ⟨.d (.sc (.int .i64 (k+1*(n:Int)))),[],[]⟩:=by
 have e1:=Xe0
 have t1:=@T73
 refine CallOk.of_bodyD (body:=c22) Tryz.func22 rfl (Nat.le_of_ble_eq_true (by kernel_rfl)) rfl ?_
 refine Cz A6 mixed ?_
 have hT:=A6
 have hm:=mixed
 generalize hP:Tryz.prog=P at*
 generalize hA:std=A
 obtain⟨qbin,qsh,qcmp,qscmp,qbcmp,qbnot,qneg,qwrap,qcat,qssize,qssub,qsget,qlen,qrsub,qapp,qelt,qset,qnth,qdrp,qstr,qint,qbool,qrow,qnat,qnadd,qnsub,qband,qofNat,qstrRow,qmkRow,qmx,qmn,qbytes,qemp⟩:=A
 have hE:=Ar.eqs hA
 dsimp only at hE
 generalize hQ:EndD P Tryz.f22.results _=Q
 have hn:=Xb5 hx
 rw[F3]at hn
 have hself:(∀v:Int,qcmp .neq v v=false)∧(∀v:ByteArray,qscmp .neq v v=false):=by
  refine⟨fun v=>?_,fun v=>?_⟩<;>simp only[hE,Aj,Fx]<;>simp
 obtain⟨hself1,hself2⟩:=hself
 cbv
 try simp only[nc]at*
 refine LpW.of (κ:=Nat) (fun j=>j≤n) (fun j=>n - j) (fun j=>[(0,.d (.row 1 xs)),(1,.d (.sc (.int .i64 (k+1*(j:Int))))),(5,.d (.sc (.int .i64 j)))]) (fun j=>[]) 0 (by omega) ?_ (by first|rfl|trivial) ?_
 ·refine .cons rfl (.cons ?_ (.cons rfl (.nil _)))
  show AV.d (.sc (.int .i64 k))= .d (.sc (.int .i64 (k+1*((0:Nat):Int))))
  rw[show k+1*((0:Nat):Int)=k by omega]
 ·intro j hj
  generalize hi:(j:Int)=i
  generalize ab:k+1*i=kc0
  refine Cz hT hm ?_
  rw[hA]
  cbv
  try simp only[nc]at*
  split
  ·rename_i h2
   simp only[hE,List.length_map,Aq,At,Au,Av,Ao,Aj,Al,An,Af,Ah,Ac,Ak,Ai,Ad,Am,Aa,Ag,Ae,Ap,IntKind.wrap_i64,decide_eq_true_eq,decide_eq_false_iff_not,Bool.not_eq_true',Bool.not_eq_false',Option.getD_none,Option.getD_some,hn]at h2
   have hj':j<n:=by omega
   have hjl:j<(Cj k n).length:=by rw[F3];exact hj'
   have hge:(Cj k n)[j]=F7 k j:=by simp[Cj]
   have he:std.elt xs i=cS (F7 k j):=by rw[Dd hx hi hjl,hge]
   cbv
   try simp only[nc]at*
   repeat (refine And.intro (by first|(simp only[hE];exact Kl hx hi hjl)|(simp only[hE,Dd hx hi hjl];exact⟨rfl⟩)|(simp only[hE,Dd hx hi hjl];exact⟨Nat.le_of_ble_eq_true rfl⟩)) ?_)
   obtain⟨t0,ht0⟩:∃t,t=K1 kc0:=⟨_,rfl⟩
   rw[show qstr (qnth (qelt xs i) 0)=t0 by simp only[hE,he];show K1 (k+1*(j:Int)+0)=t0;rw[ht0,show k+1*(j:Int)+0=kc0 by omega]]
   refine ClW.dd (f:=73) rfl rfl rfl rfl (.cons rfl .nil) rfl e1 (t1 kc0 (by omega)) rfl ?_
   rw[←ht0]
   cbv
   try simp only[nc]at*
   rw[hself2]
   cbv
   try simp only[nc]at*
   have aa:qbin .add .i64 kc0 1=kc0+1:=by simp only[hE,List.length_map,Aq,At,Au,Av,Ao,Aj,Al,An,Af,Ah,Ac,Ak,Ai,Ad,Am,Aa,Ag,Ae,Ap,IntKind.wrap_i64,decide_eq_true_eq,decide_eq_false_iff_not,Bool.not_eq_true',Bool.not_eq_false',Option.getD_none,Option.getD_some,];omega
   generalize hkc1:kc0+1=kc1 at aa
   rw[aa]
   refine⟨j+1,by omega,by omega,?_,by first|rfl|trivial⟩
   refine .cons rfl (.cons ?_ (.cons ?_ (.nil _)))
   ·show AV.d (D.sc (Value.int IntKind.i64 kc1))= .d (.sc (.int .i64 (k+1*((j+1:Nat):Int))))
    rw[show k+1*((j+1:Nat):Int)=kc1 by omega]
   ·show AV.d (D.sc (Value.int IntKind.i64 (qbin .add .i64 i 1)))=_
    simp only[hE,Jg hi (by omega)]
  ·rename_i h2
   simp only[hE,List.length_map,Aq,At,Au,Av,Ao,Aj,Al,An,Af,Ah,Ac,Ak,Ai,Ad,Am,Aa,Ag,Ae,Ap,IntKind.wrap_i64,decide_eq_true_eq,decide_eq_false_iff_not,Bool.not_eq_true',Bool.not_eq_false',Option.getD_none,Option.getD_some,hn]at h2
   cbv
   try simp only[nc]at*
   have hj':j=n:=by omega
   rw[←hQ]
   refine Lx rfl (Z4 ?_)
   omega
end
section
open Go Go.Proofs
set_option maxRecDepth 20000
noncomputable def c42:Code:=(Tryz.f42.body).getD .skip
theorem ent42:Bd Tryz.prog 42:=⟨_,Tryz.func42,rfl,rfl⟩
theorem T42{a_nodes:List Cm}{xa_nodes:List (List D)}(ha_nodes:a_nodes.map Cs=xa_nodes){a_entries:List A3}{xa_entries:List (List D)}(ha_entries:a_entries.map A2=xa_entries){a_old:List A3}{xa_old:List (List D)}(ha_old:a_old.map A2=xa_old){a_steps:List ByteArray}{xa_steps:List (List D)}(ha_steps:a_steps.map cS=xa_steps){a_room:Int}{a_next:Int}{na_nodes:Nat}(hna_nodes:na_nodes=a_nodes.length){na_entries:Nat}(hna_entries:na_entries=a_entries.length){na_old:Nat}(hna_old:na_old=a_old.length){na_steps:Nat}(hna_steps:na_steps=a_steps.length)(hb:Dw ⟨a_nodes,a_entries,a_old,a_steps,a_room,a_next⟩≤1048576){k:Int}(h0:0≤k)(h1:k<2^45):
  CallOk Tryz.prog 42 [.agg [.ref 0 0 na_nodes,.ref 1 0 na_entries,.ref 2 0 na_old,.ref 3 0 na_steps,.d (.sc (.int .i64 a_room)),.d (.sc (.int .i64 a_next))],.d (.sc (.int .i64 k))] [.row 3 false xa_nodes,.row 2 false xa_entries,.row 2 false xa_old,.row 1 false xa_steps] ⟨.d (.sc (.int .i64 (k+3*(na_nodes:Int)+2*(na_entries:Int)+2*(na_old:Int)+1*(na_steps:Int)))),[],[(0,.row 3 false ((H3 (k) na_nodes).map Cs)),(1,.row 2 false ((Dt (k+3*(na_nodes:Int)) na_entries).map A2)),(2,.row 2 false ((Dt (k+3*(na_nodes:Int)+2*(na_entries:Int)) na_old).map A2)),(3,.row 1 false ((Cj (k+3*(na_nodes:Int)+2*(na_entries:Int)+2*(na_old:Int)) na_steps).map cS))]⟩:=by
 have ent21_:=XfJ
 have T21_:=@T21
 have ent116_:=XgE
 have T116_:=@T116
 have ent117_:=Xhr
 have T117_:=@T117
 have nna_nodes:=Es a_nodes
 have nna_entries:=B7 a_entries
 have nna_old:=B7 a_old
 have nna_steps:=B9 a_steps
 have hb':Ct a_nodes+A5 a_entries+A5 a_old+Ay a_steps≤1048576:=hb
 have bla_nodes:=K9 a_nodes
 have bla_entries:=Ew a_entries
 have bla_old:=Ew a_old
 have bla_steps:=E4 a_steps
 have bna_nodes:(na_nodes:Int)≤1048576:=by omega
 have bna_entries:(na_entries:Int)≤1048576:=by omega
 have bna_old:(na_old:Int)≤1048576:=by omega
 have bna_steps:(na_steps:Int)≤1048576:=by omega
 refine CallOk.of_body (body:=c42) Tryz.func42 rfl (Nat.le_of_ble_eq_true (by kernel_rfl)) rfl rfl ?_
 refine Cz A6 mixed ?_
 have hT:=A6
 have hm:=mixed
 generalize hP:Tryz.prog=P at*
 generalize hA:std=A
 obtain⟨qbin,qsh,qcmp,qscmp,qbcmp,qbnot,qneg,qwrap,qcat,qssize,qssub,qsget,qlen,qrsub,qapp,qelt,qset,qnth,qdrp,qstr,qint,qbool,qrow,qnat,qnadd,qnsub,qband,qofNat,qstrRow,qmkRow,qmx,qmn,qbytes,qemp⟩:=A
 have hE:=Ar.eqs hA
 dsimp only at hE
 generalize hQ:EndQ P Tryz.f42.results _ _=Q
 cbv
 try simp only[nc]at*
 refine ClW.mut1 (f:=116) rfl rfl rfl rfl (.cons rfl (.cons rfl .nil)) rfl ent116_ (T116_ ha_nodes hna_nodes (by omega) k (by omega) (by omega)) rfl ?_
 generalize hkq0:(k:Int)+3*(na_nodes:Int)=kq0
 generalize hmq0:(H3 k na_nodes).map Cs=mq0
 cbv
 try simp only[nc]at*
 refine ClW.mut1 (f:=117) rfl rfl rfl rfl (.cons rfl (.cons rfl .nil)) rfl ent117_ (T117_ ha_entries hna_entries (by omega) kq0 (by omega) (by omega)) rfl ?_
 generalize hkq1:(kq0:Int)+2*(na_entries:Int)=kq1
 generalize hmq1:(Dt kq0 na_entries).map A2=mq1
 cbv
 try simp only[nc]at*
 refine ClW.mut1 (f:=117) rfl rfl rfl rfl (.cons rfl (.cons rfl .nil)) rfl ent117_ (T117_ ha_old hna_old (by omega) kq1 (by omega) (by omega)) rfl ?_
 generalize hkq2:(kq1:Int)+2*(na_old:Int)=kq2
 generalize hmq2:(Dt kq1 na_old).map A2=mq2
 cbv
 try simp only[nc]at*
 refine ClW.mut1 (f:=21) rfl rfl rfl rfl (.cons rfl (.cons rfl .nil)) rfl ent21_ (T21_ ha_steps hna_steps (by omega) kq2 (by omega) (by omega)) rfl ?_
 generalize hkq3:(kq2:Int)+1*(na_steps:Int)=kq3
 generalize hmq3:(Cj kq2 na_steps).map cS=mq3
 cbv
 try simp only[nc]at*
 rw[←hQ]
 refine Rm rfl (Z4 (by omega)) ?_ (by simp)
 intro r R hR
 rcases r with _|r
 ·refine⟨_,_,_,rfl,?_⟩
  rw[←hmq0]
  try simp only[←hkq0,←hkq1,←hkq2,←hkq3]
  rfl
 rcases r with _|r
 ·refine⟨_,_,_,rfl,?_⟩
  rw[←hmq1]
  try simp only[←hkq0,←hkq1,←hkq2,←hkq3]
  rfl
 rcases r with _|r
 ·refine⟨_,_,_,rfl,?_⟩
  rw[←hmq2]
  try simp only[←hkq0,←hkq1,←hkq2,←hkq3]
  rfl
 rcases r with _|r
 ·refine⟨_,_,_,rfl,?_⟩
  rw[←hmq3]
  try simp only[←hkq0,←hkq1,←hkq2,←hkq3]
  rfl
 simp at hR
noncomputable def c72:Code:=(Tryz.f72.body).getD .skip
theorem ent72:Bd Tryz.prog 72:=⟨_,Tryz.func72,rfl,rfl⟩
theorem T72{a_version:Int}{a_stride:Int}{a_roll:Int}{a_base:Int}{a_link:Int}{a_offsets:List Int}{xa_offsets:List (List D)}(ha_offsets:a_offsets.map cI=xa_offsets){a_end:Int}{a_open:Bool}{a_code:Int}{na_offsets:Nat}(hna_offsets:na_offsets=a_offsets.length)(hb:C7 ⟨a_version,a_stride,a_roll,a_base,a_link,a_offsets,a_end,a_open,a_code⟩≤1048576){k:Int}(h0:0≤k)(h1:k<2^45):
  CallOk Tryz.prog 72 [.agg [.d (.sc (.int .i64 a_version)),.d (.sc (.int .i64 a_stride)),.d (.sc (.int .i64 a_roll)),.d (.sc (.int .i64 a_base)),.d (.sc (.int .i64 a_link)),.ref 0 0 na_offsets,.d (.sc (.int .i64 a_end)),.d (.sc (.bool a_open)),.d (.sc (.int .i64 a_code))],.d (.sc (.int .i64 k))] [.row 1 false xa_offsets] ⟨.d (.sc (.int .i64 (k+1*(na_offsets:Int)))),[],[(0,.row 1 false ((Jf (k) na_offsets).map cI))]⟩:=by
 have ent46_:=ent46
 have T46_:=@T46
 have nna_offsets:=Gv a_offsets
 have hb':D2 a_offsets≤1048576:=hb
 have bla_offsets:=Q5 a_offsets
 have bna_offsets:(na_offsets:Int)≤1048576:=by omega
 refine CallOk.of_body (body:=c72) Tryz.func72 rfl (Nat.le_of_ble_eq_true (by kernel_rfl)) rfl rfl ?_
 refine Cz A6 mixed ?_
 have hT:=A6
 have hm:=mixed
 generalize hP:Tryz.prog=P at*
 generalize hA:std=A
 obtain⟨qbin,qsh,qcmp,qscmp,qbcmp,qbnot,qneg,qwrap,qcat,qssize,qssub,qsget,qlen,qrsub,qapp,qelt,qset,qnth,qdrp,qstr,qint,qbool,qrow,qnat,qnadd,qnsub,qband,qofNat,qstrRow,qmkRow,qmx,qmn,qbytes,qemp⟩:=A
 have hE:=Ar.eqs hA
 dsimp only at hE
 generalize hQ:EndQ P Tryz.f72.results _ _=Q
 cbv
 try simp only[nc]at*
 refine ClW.mut1 (f:=46) rfl rfl rfl rfl (.cons rfl (.cons rfl .nil)) rfl ent46_ (T46_ ha_offsets hna_offsets (by omega) k (by omega) (by omega)) rfl ?_
 generalize hkq0:(k:Int)+1*(na_offsets:Int)=kq0
 generalize hmq0:(Jf k na_offsets).map cI=mq0
 cbv
 try simp only[nc]at*
 rw[←hQ]
 refine Rm rfl (Z4 (by omega)) ?_ (by simp)
 intro r R hR
 rcases r with _|r
 ·refine⟨_,_,_,rfl,?_⟩
  rw[←hmq0]
  try simp only[←hkq0]
  rfl
 simp at hR
noncomputable def c20:Code:=(Tryz.f20.body).getD .skip
theorem ent20:Bd Tryz.prog 20:=⟨_,Tryz.func20,rfl,rfl⟩
theorem T20{a_set_room:Int}{a_set_version:Int}{a_set_stride:Int}{a_set_roll:Int}{a_disk_nodes:List Cm}{xa_disk_nodes:List (List D)}(ha_disk_nodes:a_disk_nodes.map Cs=xa_disk_nodes){a_disk_entries:List A3}{xa_disk_entries:List (List D)}(ha_disk_entries:a_disk_entries.map A2=xa_disk_entries){a_disk_old:List A3}{xa_disk_old:List (List D)}(ha_disk_old:a_disk_old.map A2=xa_disk_old){a_disk_steps:List ByteArray}{xa_disk_steps:List (List D)}(ha_disk_steps:a_disk_steps.map cS=xa_disk_steps){a_disk_room:Int}{a_disk_next:Int}{a_writer_version:Int}{a_writer_stride:Int}{a_writer_roll:Int}{a_writer_base:Int}{a_writer_link:Int}{a_writer_offsets:List Int}{xa_writer_offsets:List (List D)}(ha_writer_offsets:a_writer_offsets.map cI=xa_writer_offsets){a_writer_end:Int}{a_writer_open:Bool}{a_writer_code:Int}{a_told:List ByteArray}{xa_told:List (List D)}(ha_told:a_told.map cS=xa_told){a_sure:Int}{a_falls:Int}{na_disk_nodes:Nat}(hna_disk_nodes:na_disk_nodes=a_disk_nodes.length){na_disk_entries:Nat}(hna_disk_entries:na_disk_entries=a_disk_entries.length){na_disk_old:Nat}(hna_disk_old:na_disk_old=a_disk_old.length){na_disk_steps:Nat}(hna_disk_steps:na_disk_steps=a_disk_steps.length){na_writer_offsets:Nat}(hna_writer_offsets:na_writer_offsets=a_writer_offsets.length){na_told:Nat}(hna_told:na_told=a_told.length)(hb:D4 ⟨⟨a_set_room,a_set_version,a_set_stride,a_set_roll⟩,⟨a_disk_nodes,a_disk_entries,a_disk_old,a_disk_steps,a_disk_room,a_disk_next⟩,⟨a_writer_version,a_writer_stride,a_writer_roll,a_writer_base,a_writer_link,a_writer_offsets,a_writer_end,a_writer_open,a_writer_code⟩,a_told,a_sure,a_falls⟩≤1048576){k:Int}(h0:0≤k)(h1:k<2^40):
  CallOk Tryz.prog 20 [.agg [.d (.sc (.int .i64 a_set_room)),.d (.sc (.int .i64 a_set_version)),.d (.sc (.int .i64 a_set_stride)),.d (.sc (.int .i64 a_set_roll)),.ref 0 0 na_disk_nodes,.ref 1 0 na_disk_entries,.ref 2 0 na_disk_old,.ref 3 0 na_disk_steps,.d (.sc (.int .i64 a_disk_room)),.d (.sc (.int .i64 a_disk_next)),.d (.sc (.int .i64 a_writer_version)),.d (.sc (.int .i64 a_writer_stride)),.d (.sc (.int .i64 a_writer_roll)),.d (.sc (.int .i64 a_writer_base)),.d (.sc (.int .i64 a_writer_link)),.ref 4 0 na_writer_offsets,.d (.sc (.int .i64 a_writer_end)),.d (.sc (.bool a_writer_open)),.d (.sc (.int .i64 a_writer_code)),.ref 5 0 na_told,.d (.sc (.int .i64 a_sure)),.d (.sc (.int .i64 a_falls))],.d (.sc (.int .i64 k))] [.row 3 false xa_disk_nodes,.row 2 false xa_disk_entries,.row 2 false xa_disk_old,.row 1 false xa_disk_steps,.row 1 false xa_writer_offsets,.row 1 false xa_told] ⟨.d (.sc (.int .i64 (k+3*(na_disk_nodes:Int)+2*(na_disk_entries:Int)+2*(na_disk_old:Int)+1*(na_disk_steps:Int)+1*(na_writer_offsets:Int)+1*(na_told:Int)))),[],[(0,.row 3 false ((H3 (k) na_disk_nodes).map Cs)),(1,.row 2 false ((Dt (k+3*(na_disk_nodes:Int)) na_disk_entries).map A2)),(2,.row 2 false ((Dt (k+3*(na_disk_nodes:Int)+2*(na_disk_entries:Int)) na_disk_old).map A2)),(3,.row 1 false ((Cj (k+3*(na_disk_nodes:Int)+2*(na_disk_entries:Int)+2*(na_disk_old:Int)) na_disk_steps).map cS)),(4,.row 1 false ((Jf (k+3*(na_disk_nodes:Int)+2*(na_disk_entries:Int)+2*(na_disk_old:Int)+1*(na_disk_steps:Int)) na_writer_offsets).map cI)),(5,.row 1 false ((Cj (k+3*(na_disk_nodes:Int)+2*(na_disk_entries:Int)+2*(na_disk_old:Int)+1*(na_disk_steps:Int)+1*(na_writer_offsets:Int)) na_told).map cS))]⟩:=by
 have ent21_:=XfJ
 have T21_:=@T21
 have ent42_:=ent42
 have T42_:=@T42
 have ent72_:=ent72
 have T72_:=@T72
 have nna_disk:=G6 (⟨a_disk_nodes,a_disk_entries,a_disk_old,a_disk_steps,a_disk_room,a_disk_next⟩:As)
 have nna_writer:=Fi (⟨a_writer_version,a_writer_stride,a_writer_roll,a_writer_base,a_writer_link,a_writer_offsets,a_writer_end,a_writer_open,a_writer_code⟩:C0)
 have nna_told:=B9 a_told
 have hb':Dw (⟨a_disk_nodes,a_disk_entries,a_disk_old,a_disk_steps,a_disk_room,a_disk_next⟩:As)+C7 (⟨a_writer_version,a_writer_stride,a_writer_roll,a_writer_base,a_writer_link,a_writer_offsets,a_writer_end,a_writer_open,a_writer_code⟩:C0)+Ay a_told≤1048576:=hb
 have bla_disk_nodes:=K9 a_disk_nodes
 have bla_disk_entries:=Ew a_disk_entries
 have bla_disk_old:=Ew a_disk_old
 have bla_disk_steps:=E4 a_disk_steps
 have bla_writer_offsets:=Q5 a_writer_offsets
 have bla_told:=E4 a_told
 have hb_a_disk:Dw (⟨a_disk_nodes,a_disk_entries,a_disk_old,a_disk_steps,a_disk_room,a_disk_next⟩:As)≤1048576:=by omega
 have nna_disk_nodes:=Es a_disk_nodes
 have nna_disk_entries:=B7 a_disk_entries
 have nna_disk_old:=B7 a_disk_old
 have nna_disk_steps:=B9 a_disk_steps
 have hb_a_disk':Ct a_disk_nodes+A5 a_disk_entries+A5 a_disk_old+Ay a_disk_steps≤1048576:=hb_a_disk
 have hb_a_writer:C7 (⟨a_writer_version,a_writer_stride,a_writer_roll,a_writer_base,a_writer_link,a_writer_offsets,a_writer_end,a_writer_open,a_writer_code⟩:C0)≤1048576:=by omega
 have nna_writer_offsets:=Gv a_writer_offsets
 have hb_a_writer':D2 a_writer_offsets≤1048576:=hb_a_writer
 have bna_disk_nodes:(na_disk_nodes:Int)≤1048576:=by omega
 have bna_disk_entries:(na_disk_entries:Int)≤1048576:=by omega
 have bna_disk_old:(na_disk_old:Int)≤1048576:=by omega
 have bna_disk_steps:(na_disk_steps:Int)≤1048576:=by omega
 have bna_writer_offsets:(na_writer_offsets:Int)≤1048576:=by omega
 have bna_told:(na_told:Int)≤1048576:=by omega
 refine CallOk.of_body (body:=c20) Tryz.func20 rfl (Nat.le_of_ble_eq_true (by kernel_rfl)) rfl rfl ?_
 refine Cz A6 mixed ?_
 have hT:=A6
 have hm:=mixed
 generalize hP:Tryz.prog=P at*
 generalize hA:std=A
 obtain⟨qbin,qsh,qcmp,qscmp,qbcmp,qbnot,qneg,qwrap,qcat,qssize,qssub,qsget,qlen,qrsub,qapp,qelt,qset,qnth,qdrp,qstr,qint,qbool,qrow,qnat,qnadd,qnsub,qband,qofNat,qstrRow,qmkRow,qmx,qmn,qbytes,qemp⟩:=A
 have hE:=Ar.eqs hA
 dsimp only at hE
 generalize hQ:EndQ P Tryz.f20.results _ _=Q
 cbv
 try simp only[nc]at*
 refine ClW.mutN (f:=42) (π:=[0,1,2,3]) rfl rfl rfl rfl (.cons rfl (.cons rfl .nil)) rfl ent42_ (T42_ ha_disk_nodes ha_disk_entries ha_disk_old ha_disk_steps hna_disk_nodes hna_disk_entries hna_disk_old hna_disk_steps (by omega) (by omega) (by omega)) rfl (by simp) rfl (by simp) rfl rfl (by simp) ?_
 generalize hkq0:k+3*(na_disk_nodes:Int)+2*(na_disk_entries:Int)+2*(na_disk_old:Int)+1*(na_disk_steps:Int)=kq0
 generalize hmq0:(H3 (k) na_disk_nodes).map Cs=mq0
 generalize hmq1:(Dt (k+3*(na_disk_nodes:Int)) na_disk_entries).map A2=mq1
 generalize hmq2:(Dt (k+3*(na_disk_nodes:Int)+2*(na_disk_entries:Int)) na_disk_old).map A2=mq2
 generalize hmq3:(Cj (k+3*(na_disk_nodes:Int)+2*(na_disk_entries:Int)+2*(na_disk_old:Int)) na_disk_steps).map cS=mq3
 cbv
 try simp only[nc]at*
 refine ClW.mutN (f:=72) (π:=[4]) rfl rfl rfl rfl (.cons rfl (.cons rfl .nil)) rfl ent72_ (T72_ ha_writer_offsets hna_writer_offsets (by omega) (by omega) (by omega)) rfl (by simp) rfl (by simp) rfl rfl (by simp) ?_
 generalize hkq1:kq0+1*(na_writer_offsets:Int)=kq1
 generalize hmq4:(Jf (kq0) na_writer_offsets).map cI=mq4
 cbv
 try simp only[nc]at*
 refine ClW.mut1 (f:=21) rfl rfl rfl rfl (.cons rfl (.cons rfl .nil)) rfl ent21_ (T21_ ha_told hna_told (by omega) kq1 (by omega) (by omega)) rfl ?_
 generalize hkq2:(kq1:Int)+1*(na_told:Int)=kq2
 generalize hmq5:(Cj kq1 na_told).map cS=mq5
 cbv
 try simp only[nc]at*
 rw[←hQ]
 refine Rm rfl (Z4 (by omega)) ?_ (by simp)
 intro r R hR
 rcases r with _|r
 ·refine⟨_,_,_,rfl,?_⟩
  rw[←hmq0]
  try simp only[←hkq0,←hkq1,←hkq2]
  rfl
 rcases r with _|r
 ·refine⟨_,_,_,rfl,?_⟩
  rw[←hmq1]
  try simp only[←hkq0,←hkq1,←hkq2]
  rfl
 rcases r with _|r
 ·refine⟨_,_,_,rfl,?_⟩
  rw[←hmq2]
  try simp only[←hkq0,←hkq1,←hkq2]
  rfl
 rcases r with _|r
 ·refine⟨_,_,_,rfl,?_⟩
  rw[←hmq3]
  try simp only[←hkq0,←hkq1,←hkq2]
  rfl
 rcases r with _|r
 ·refine⟨_,_,_,rfl,?_⟩
  rw[←hmq4]
  try simp only[←hkq0,←hkq1,←hkq2]
  rfl
 rcases r with _|r
 ·refine⟨_,_,_,rfl,?_⟩
  rw[←hmq5]
  try simp only[←hkq0,←hkq1,←hkq2]
  rfl
 simp at hR
end
end Go.Proofs.YtgdmjbcllgmepaaGreatDoor.Ab
