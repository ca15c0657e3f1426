/- What functions of the program come to, for all arguments in the given bounds. -/
import Derived.Test.YtgdmjbcllgmepaaGreatDoorEcH
set_option linter.unusedVariables false
set_option linter.unusedSimpArgs false
namespace Go.Proofs.YtgdmjbcllgmepaaGreatDoor.Ab
section
open Go Go.Proofs
set_option maxRecDepth 20000
noncomputable def c182:Code:=(Tryz.f182.body).getD .skip
theorem Xme:Dl Tryz.prog 182:=⟨_,Tryz.func182,rfl,rfl⟩
theorem T182{a_id:Int}{a_text:ByteArray}{a_sure:Int}{left:Int}(h0:0≤left)(h1:left<2^40)(hok:XeY ⟨a_id,a_text,a_sure⟩):
  CallOk Tryz.prog 182 [.agg [.d (.sc (.int .i64 a_id)),.d (.sc (.string a_text)),.d (.sc (.int .i64 a_sure))],.d (.sc (.int .i64 left))] [] ⟨.d (.sc (.int .i64 (Iu (Dx ⟨a_id,a_text,a_sure⟩) left))),[],[]⟩:=by
 refine CallOk.of_bodyD (body:=c182) Tryz.func182 rfl (Nat.le_of_ble_eq_true (by kernel_rfl)) rfl ?_
 refine Iv D3 mixed ?_
 have hT:=D3
 have hm:=mixed
 generalize hP:Tryz.prog=P at*
 generalize hA:std=A
 obtain⟨qbin,qsh,qcmp,qscmp,qbcmp,qbnot,qneg,qwrap,qcat,qssize,qssub,qsget,qlen,qrsub,qapp,qelt,qset,qnth,qdrp,qstr,qint,qbool,qrow,qnat,qnadd,qnsub,qband,qofNat,qstrRow,qmkRow,qmx,qmn,qbytes,qemp⟩:=A
 have hE:=Ar.eqs hA
 dsimp only at hE
 generalize hQ:EndD P Tryz.f182.results _=Q
 have hok':a_text.size<2^47:=hok
 generalize hto:Dx ⟨a_id,a_text,a_sure⟩=to at*
 have hto':(a_text.size:Int)=to:=hto
 clear hok hto
 have k0:=hok'
 cbv
 try simp only[nc]at*
 obtain⟨l0,aa⟩:∃l,l=left - (a_text.size:Int):=⟨_,rfl⟩
 rw[show qbin .sub .i64 left (qssize a_text)=l0 by simp only[hE,List.length_map,B2,B0,B1,Bz,Bv,Bm,Bj,Bx,Bc,Bd,Aw,Bk,A9,A0,Bq,Ax,Bb,Ba,B3,IntKind.wrap_i64,decide_eq_true_eq,decide_eq_false_iff_not,Bool.not_eq_true',Bool.not_eq_false',Option.getD_none,Option.getD_some,];omega]
 split
 ·rename_i h2
  simp only[hE,List.length_map,B2,B0,B1,Bz,Bv,Bm,Bj,Bx,Bc,Bd,Aw,Bk,A9,A0,Bq,Ax,Bb,Ba,B3,IntKind.wrap_i64,decide_eq_true_eq,decide_eq_false_iff_not,Bool.not_eq_true',Bool.not_eq_false',Option.getD_none,Option.getD_some]at h2
  cbv
  try simp only[nc]at*
  rw[←hQ,show Iu to left= -1 by unfold Iu;rw[if_neg (by omega)]]
  exact Dk rfl rfl
 rename_i h20
 simp only[hE,List.length_map,B2,B0,B1,Bz,Bv,Bm,Bj,Bx,Bc,Bd,Aw,Bk,A9,A0,Bq,Ax,Bb,Ba,B3,IntKind.wrap_i64,decide_eq_true_eq,decide_eq_false_iff_not,Bool.not_eq_true',Bool.not_eq_false',Option.getD_none,Option.getD_some]at h20
 cbv
 try simp only[nc]at*
 rw[←hQ,show Iu to left=l0 by unfold Iu;rw[if_pos (by omega)];omega]
 exact Dk rfl rfl
noncomputable def c95:Code:=(Tryz.f95.body).getD .skip
theorem ent95:Dl Tryz.prog 95:=⟨_,Tryz.func95,rfl,rfl⟩
theorem T95{a:List Be}{xs:List (List D)}(hx:a.map A8=xs){left:Int}(h0:0≤left)(h1:left<2^40)(hok:Z1 a):
  CallOk Tryz.prog 95 [.d (.row 3 xs),.d (.sc (.int .i64 left))] [] ⟨.d (.sc (.int .i64 (Iu (D5 a) left))),[],[]⟩:=by
 have ent182_:=Xme
 have T182_:=@T182
 obtain⟨ha,hs⟩:=hok
 refine CallOk.of_bodyD (body:=c95) Tryz.func95 rfl (Nat.le_of_ble_eq_true (by kernel_rfl)) rfl ?_
 refine Iv D3 mixed ?_
 have hT:=D3
 have hm:=mixed
 generalize hP:Tryz.prog=P at*
 generalize hA:std=A
 obtain⟨qbin,qsh,qcmp,qscmp,qbcmp,qbnot,qneg,qwrap,qcat,qssize,qssub,qsget,qlen,qrsub,qapp,qelt,qset,qnth,qdrp,qstr,qint,qbool,qrow,qnat,qnadd,qnsub,qband,qofNat,qstrRow,qmkRow,qmx,qmn,qbytes,qemp⟩:=A
 have hE:=Ar.eqs hA
 dsimp only at hE
 generalize hQ:EndD P Tryz.f95.results _=Q
 have hn:=Xj4 hx
 cbv
 try simp only[nc]at*
 split
 ·rename_i h2
  simp only[hE,List.length_map,B2,B0,B1,Bz,Bv,Bm,Bj,Bx,Bc,Bd,Aw,Bk,A9,A0,Bq,Ax,Bb,Ba,B3,IntKind.wrap_i64,decide_eq_true_eq,decide_eq_false_iff_not,Bool.not_eq_true',Bool.not_eq_false',Option.getD_none,Option.getD_some,hn]at h2
  cbv
  try simp only[nc]at*
  have:=Cz (fun x=>Dx x) a (fun x _=>Fk x)
  rw[←hQ,show Iu (D5 a) left= -1 by unfold Iu D5;rw[if_neg (by omega)]]
  exact Dk rfl rfl
 ·rename_i h2
  simp only[hE,List.length_map,B2,B0,B1,Bz,Bv,Bm,Bj,Bx,Bc,Bd,Aw,Bk,A9,A0,Bq,Ax,Bb,Ba,B3,IntKind.wrap_i64,decide_eq_true_eq,decide_eq_false_iff_not,Bool.not_eq_true',Bool.not_eq_false',Option.getD_none,Option.getD_some,hn]at h2
  cbv
  try simp only[nc]at*
  refine LpW.of (κ:=Nat) (fun k=>k≤a.length∧0≤left - (a.length+J7 (fun x=>Dx x) (a.take k))) (fun k=>a.length - k) (fun k=>[(0,.d (.row 3 xs)),(1,.d (.sc (.int .i64 (left - (a.length+J7 (fun x=>Dx x) (a.take k)))))),(5,.d (.sc (.int .i64 k)))]) (fun _=>[]) 0 ⟨by omega,by simp[J7];omega⟩ ?_ (by first|rfl|trivial) ?_
  ·refine .cons rfl (.cons ?_ (.cons rfl (.nil _)))
   show AV.d (D.sc (Value.int IntKind.i64 (qbin .sub .i64 left (qlen xs))))=_
   rw[show qbin .sub .i64 left (qlen xs)=left - a.length by simp only[hE,List.length_map,B2,B0,B1,Bz,Bv,Bm,Bj,Bx,Bc,Bd,Aw,Bk,A9,A0,Bq,Ax,Bb,Ba,B3,IntKind.wrap_i64,decide_eq_true_eq,decide_eq_false_iff_not,Bool.not_eq_true',Bool.not_eq_false',Option.getD_none,Option.getD_some,hn];omega]
   simp[J7]
  ·rintro k ⟨hk,hl⟩
   generalize hleft:left - (a.length+J7 (fun x=>Dx x) (a.take k))=l at*
   generalize hi:(k:Int)=i
   refine Iv hT hm ?_
   rw[hA]
   cbv
   try simp only[nc]at*
   split
   ·rename_i h3
    simp only[hE,List.length_map,B2,B0,B1,Bz,Bv,Bm,Bj,Bx,Bc,Bd,Aw,Bk,A9,A0,Bq,Ax,Bb,Ba,B3,IntKind.wrap_i64,decide_eq_true_eq,decide_eq_false_iff_not,Bool.not_eq_true',Bool.not_eq_false',Option.getD_none,Option.getD_some,hn]at h3
    have hk':k<a.length:=by omega
    have hsz:=hs a[k] (List.getElem_mem hk')
    have hp:=Cz (fun x=>Dx x) (a.take k) (fun x _=>Fk x)
    have hsum:=V5 (fun x=>Dx x) a hk'
    have hle:=Oj (fun x=>Dx x) a (fun x _=>Fk x) (k+1)
    have hel:=Fk a[k]
    cbv
    try simp only[nc]at*
    repeat (refine And.intro (by first|(simp only[hE];exact Rv hx hi hk')|(simp only[hE,Fz hx hi hk'];exact⟨rfl⟩)|(simp only[hE,Fz hx hi hk'];exact⟨Nat.le_of_ble_eq_true rfl⟩)) ?_)
    obtain⟨wv,hwv⟩:∃w,w=a[k]:=⟨_,rfl⟩
    have hev:qelt xs i=A8 wv:=by simp only[hE];rw[Fz hx hi hk',hwv]
    rw[←hwv]at hsz hsum hel
    obtain⟨v_id,v_text,v_sure⟩:=wv
    rw[show qint (qnth (qelt xs i) 0)=v_id by rw[hev];simp only[hE];rfl,show qstr (qnth (qelt xs i) 1)=v_text by rw[hev];simp only[hE];rfl,show qint (qnth (qelt xs i) 2)=v_sure by rw[hev];simp only[hE];rfl]
    refine ClW.dd (f:=182) rfl rfl rfl rfl (.cons rfl (.cons rfl .nil)) rfl ent182_ (T182_ (by omega) (by omega) hsz) rfl ?_
    generalize hl':Iu (Dx (⟨v_id,v_text,v_sure⟩:Be)) l=l'
    cbv
    try simp only[nc]at*
    split
    ·rename_i h4
     simp only[hE,List.length_map,B2,B0,B1,Bz,Bv,Bm,Bj,Bx,Bc,Bd,Aw,Bk,A9,A0,Bq,Ax,Bb,Ba,B3,IntKind.wrap_i64,decide_eq_true_eq,decide_eq_false_iff_not,Bool.not_eq_true',Bool.not_eq_false',Option.getD_none,Option.getD_some]at h4
     cbv
     try simp only[nc]at*
     have hb:¬Dx (⟨v_id,v_text,v_sure⟩:Be)≤l:=by intro hle';unfold Iu at hl';rw[if_pos hle']at hl';omega
     rw[←hQ,show Iu (D5 a) left= -1 by unfold Iu D5;rw[if_neg (by omega)]]
     exact Dk rfl rfl
    ·rename_i h4
     simp only[hE,List.length_map,B2,B0,B1,Bz,Bv,Bm,Bj,Bx,Bc,Bd,Aw,Bk,A9,A0,Bq,Ax,Bb,Ba,B3,IntKind.wrap_i64,decide_eq_true_eq,decide_eq_false_iff_not,Bool.not_eq_true',Bool.not_eq_false',Option.getD_none,Option.getD_some]at h4
     obtain⟨g,g'⟩:=Qd (t:=Dx (⟨v_id,v_text,v_sure⟩:Be)) (left:=l) (by omega)
     cbv
     try simp only[nc]at*
     refine⟨k+1,⟨by omega,by omega⟩,by omega,?_,by trivial⟩
     refine .cons rfl (.cons ?_ (.cons ?_ (.nil _)))
     ·rw[show left - (a.length+J7 (fun x=>Dx x) (a.take (k+1)))=l' by omega]
      rfl
     ·show AV.d (D.sc (Value.int IntKind.i64 (qbin .add .i64 i 1)))=_
      rw[show qbin .add .i64 i 1=((k+1:Nat):Int)by simp only[hE,List.length_map,B2,B0,B1,Bz,Bv,Bm,Bj,Bx,Bc,Bd,Aw,Bk,A9,A0,Bq,Ax,Bb,Ba,B3,IntKind.wrap_i64,decide_eq_true_eq,decide_eq_false_iff_not,Bool.not_eq_true',Bool.not_eq_false',Option.getD_none,Option.getD_some,];omega]
   ·rename_i h3
    simp only[hE,List.length_map,B2,B0,B1,Bz,Bv,Bm,Bj,Bx,Bc,Bd,Aw,Bk,A9,A0,Bq,Ax,Bb,Ba,B3,IntKind.wrap_i64,decide_eq_true_eq,decide_eq_false_iff_not,Bool.not_eq_true',Bool.not_eq_false',Option.getD_none,Option.getD_some,hn]at h3
    cbv
    try simp only[nc]at*
    have hk':k=a.length:=by omega
    subst hk'
    rw[List.take_length]at hleft
    rw[←hQ,show Iu (D5 a) left=l by unfold Iu D5;rw[if_pos (by omega)];omega]
    exact Dk rfl rfl
noncomputable def c183:Code:=(Tryz.f183.body).getD .skip
theorem XmP:Dl Tryz.prog 183:=⟨_,Tryz.func183,rfl,rfl⟩
theorem T183{a_name:ByteArray}{a_id:Int}{left:Int}(h0:0≤left)(h1:left<2^40)(hok:Zt ⟨a_name,a_id⟩):
  CallOk Tryz.prog 183 [.agg [.d (.sc (.string a_name)),.d (.sc (.int .i64 a_id))],.d (.sc (.int .i64 left))] [] ⟨.d (.sc (.int .i64 (Iu (C1 ⟨a_name,a_id⟩) left))),[],[]⟩:=by
 refine CallOk.of_bodyD (body:=c183) Tryz.func183 rfl (Nat.le_of_ble_eq_true (by kernel_rfl)) rfl ?_
 refine Iv D3 mixed ?_
 have hT:=D3
 have hm:=mixed
 generalize hP:Tryz.prog=P at*
 generalize hA:std=A
 obtain⟨qbin,qsh,qcmp,qscmp,qbcmp,qbnot,qneg,qwrap,qcat,qssize,qssub,qsget,qlen,qrsub,qapp,qelt,qset,qnth,qdrp,qstr,qint,qbool,qrow,qnat,qnadd,qnsub,qband,qofNat,qstrRow,qmkRow,qmx,qmn,qbytes,qemp⟩:=A
 have hE:=Ar.eqs hA
 dsimp only at hE
 generalize hQ:EndD P Tryz.f183.results _=Q
 have hok':a_name.size<2^47:=hok
 generalize hto:C1 ⟨a_name,a_id⟩=to at*
 have hto':(a_name.size:Int)=to:=hto
 clear hok hto
 have k0:=hok'
 cbv
 try simp only[nc]at*
 obtain⟨l0,aa⟩:∃l,l=left - (a_name.size:Int):=⟨_,rfl⟩
 rw[show qbin .sub .i64 left (qssize a_name)=l0 by simp only[hE,List.length_map,B2,B0,B1,Bz,Bv,Bm,Bj,Bx,Bc,Bd,Aw,Bk,A9,A0,Bq,Ax,Bb,Ba,B3,IntKind.wrap_i64,decide_eq_true_eq,decide_eq_false_iff_not,Bool.not_eq_true',Bool.not_eq_false',Option.getD_none,Option.getD_some,];omega]
 split
 ·rename_i h2
  simp only[hE,List.length_map,B2,B0,B1,Bz,Bv,Bm,Bj,Bx,Bc,Bd,Aw,Bk,A9,A0,Bq,Ax,Bb,Ba,B3,IntKind.wrap_i64,decide_eq_true_eq,decide_eq_false_iff_not,Bool.not_eq_true',Bool.not_eq_false',Option.getD_none,Option.getD_some]at h2
  cbv
  try simp only[nc]at*
  rw[←hQ,show Iu to left= -1 by unfold Iu;rw[if_neg (by omega)]]
  exact Dk rfl rfl
 rename_i h20
 simp only[hE,List.length_map,B2,B0,B1,Bz,Bv,Bm,Bj,Bx,Bc,Bd,Aw,Bk,A9,A0,Bq,Ax,Bb,Ba,B3,IntKind.wrap_i64,decide_eq_true_eq,decide_eq_false_iff_not,Bool.not_eq_true',Bool.not_eq_false',Option.getD_none,Option.getD_some]at h20
 cbv
 try simp only[nc]at*
 rw[←hQ,show Iu to left=l0 by unfold Iu;rw[if_pos (by omega)];omega]
 exact Dk rfl rfl
noncomputable def c96:Code:=(Tryz.f96.body).getD .skip
theorem ent96:Dl Tryz.prog 96:=⟨_,Tryz.func96,rfl,rfl⟩
theorem T96{a:List Ad}{xs:List (List D)}(hx:a.map Ac=xs){left:Int}(h0:0≤left)(h1:left<2^40)(hok:O2 a):
  CallOk Tryz.prog 96 [.d (.row 2 xs),.d (.sc (.int .i64 left))] [] ⟨.d (.sc (.int .i64 (Iu (Cr a) left))),[],[]⟩:=by
 have ent183_:=XmP
 have T183_:=@T183
 obtain⟨ha,hs⟩:=hok
 refine CallOk.of_bodyD (body:=c96) Tryz.func96 rfl (Nat.le_of_ble_eq_true (by kernel_rfl)) rfl ?_
 refine Iv D3 mixed ?_
 have hT:=D3
 have hm:=mixed
 generalize hP:Tryz.prog=P at*
 generalize hA:std=A
 obtain⟨qbin,qsh,qcmp,qscmp,qbcmp,qbnot,qneg,qwrap,qcat,qssize,qssub,qsget,qlen,qrsub,qapp,qelt,qset,qnth,qdrp,qstr,qint,qbool,qrow,qnat,qnadd,qnsub,qband,qofNat,qstrRow,qmkRow,qmx,qmn,qbytes,qemp⟩:=A
 have hE:=Ar.eqs hA
 dsimp only at hE
 generalize hQ:EndD P Tryz.f96.results _=Q
 have hn:=Xj4 hx
 cbv
 try simp only[nc]at*
 split
 ·rename_i h2
  simp only[hE,List.length_map,B2,B0,B1,Bz,Bv,Bm,Bj,Bx,Bc,Bd,Aw,Bk,A9,A0,Bq,Ax,Bb,Ba,B3,IntKind.wrap_i64,decide_eq_true_eq,decide_eq_false_iff_not,Bool.not_eq_true',Bool.not_eq_false',Option.getD_none,Option.getD_some,hn]at h2
  cbv
  try simp only[nc]at*
  have:=Cz (fun x=>C1 x) a (fun x _=>Ev x)
  rw[←hQ,show Iu (Cr a) left= -1 by unfold Iu Cr;rw[if_neg (by omega)]]
  exact Dk rfl rfl
 ·rename_i h2
  simp only[hE,List.length_map,B2,B0,B1,Bz,Bv,Bm,Bj,Bx,Bc,Bd,Aw,Bk,A9,A0,Bq,Ax,Bb,Ba,B3,IntKind.wrap_i64,decide_eq_true_eq,decide_eq_false_iff_not,Bool.not_eq_true',Bool.not_eq_false',Option.getD_none,Option.getD_some,hn]at h2
  cbv
  try simp only[nc]at*
  refine LpW.of (κ:=Nat) (fun k=>k≤a.length∧0≤left - (a.length+J7 (fun x=>C1 x) (a.take k))) (fun k=>a.length - k) (fun k=>[(0,.d (.row 2 xs)),(1,.d (.sc (.int .i64 (left - (a.length+J7 (fun x=>C1 x) (a.take k)))))),(5,.d (.sc (.int .i64 k)))]) (fun _=>[]) 0 ⟨by omega,by simp[J7];omega⟩ ?_ (by first|rfl|trivial) ?_
  ·refine .cons rfl (.cons ?_ (.cons rfl (.nil _)))
   show AV.d (D.sc (Value.int IntKind.i64 (qbin .sub .i64 left (qlen xs))))=_
   rw[show qbin .sub .i64 left (qlen xs)=left - a.length by simp only[hE,List.length_map,B2,B0,B1,Bz,Bv,Bm,Bj,Bx,Bc,Bd,Aw,Bk,A9,A0,Bq,Ax,Bb,Ba,B3,IntKind.wrap_i64,decide_eq_true_eq,decide_eq_false_iff_not,Bool.not_eq_true',Bool.not_eq_false',Option.getD_none,Option.getD_some,hn];omega]
   simp[J7]
  ·rintro k ⟨hk,hl⟩
   generalize hleft:left - (a.length+J7 (fun x=>C1 x) (a.take k))=l at*
   generalize hi:(k:Int)=i
   refine Iv hT hm ?_
   rw[hA]
   cbv
   try simp only[nc]at*
   split
   ·rename_i h3
    simp only[hE,List.length_map,B2,B0,B1,Bz,Bv,Bm,Bj,Bx,Bc,Bd,Aw,Bk,A9,A0,Bq,Ax,Bb,Ba,B3,IntKind.wrap_i64,decide_eq_true_eq,decide_eq_false_iff_not,Bool.not_eq_true',Bool.not_eq_false',Option.getD_none,Option.getD_some,hn]at h3
    have hk':k<a.length:=by omega
    have hsz:=hs a[k] (List.getElem_mem hk')
    have hp:=Cz (fun x=>C1 x) (a.take k) (fun x _=>Ev x)
    have hsum:=V5 (fun x=>C1 x) a hk'
    have hle:=Oj (fun x=>C1 x) a (fun x _=>Ev x) (k+1)
    have hel:=Ev a[k]
    cbv
    try simp only[nc]at*
    repeat (refine And.intro (by first|(simp only[hE];exact Rv hx hi hk')|(simp only[hE,Fz hx hi hk'];exact⟨rfl⟩)|(simp only[hE,Fz hx hi hk'];exact⟨Nat.le_of_ble_eq_true rfl⟩)) ?_)
    obtain⟨wv,hwv⟩:∃w,w=a[k]:=⟨_,rfl⟩
    have hev:qelt xs i=Ac wv:=by simp only[hE];rw[Fz hx hi hk',hwv]
    rw[←hwv]at hsz hsum hel
    obtain⟨v_name,v_id⟩:=wv
    rw[show qstr (qnth (qelt xs i) 0)=v_name by rw[hev];simp only[hE];rfl,show qint (qnth (qelt xs i) 1)=v_id by rw[hev];simp only[hE];rfl]
    refine ClW.dd (f:=183) rfl rfl rfl rfl (.cons rfl (.cons rfl .nil)) rfl ent183_ (T183_ (by omega) (by omega) hsz) rfl ?_
    generalize hl':Iu (C1 (⟨v_name,v_id⟩:Ad)) l=l'
    cbv
    try simp only[nc]at*
    split
    ·rename_i h4
     simp only[hE,List.length_map,B2,B0,B1,Bz,Bv,Bm,Bj,Bx,Bc,Bd,Aw,Bk,A9,A0,Bq,Ax,Bb,Ba,B3,IntKind.wrap_i64,decide_eq_true_eq,decide_eq_false_iff_not,Bool.not_eq_true',Bool.not_eq_false',Option.getD_none,Option.getD_some]at h4
     cbv
     try simp only[nc]at*
     have hb:¬C1 (⟨v_name,v_id⟩:Ad)≤l:=by intro hle';unfold Iu at hl';rw[if_pos hle']at hl';omega
     rw[←hQ,show Iu (Cr a) left= -1 by unfold Iu Cr;rw[if_neg (by omega)]]
     exact Dk rfl rfl
    ·rename_i h4
     simp only[hE,List.length_map,B2,B0,B1,Bz,Bv,Bm,Bj,Bx,Bc,Bd,Aw,Bk,A9,A0,Bq,Ax,Bb,Ba,B3,IntKind.wrap_i64,decide_eq_true_eq,decide_eq_false_iff_not,Bool.not_eq_true',Bool.not_eq_false',Option.getD_none,Option.getD_some]at h4
     obtain⟨g,g'⟩:=Qd (t:=C1 (⟨v_name,v_id⟩:Ad)) (left:=l) (by omega)
     cbv
     try simp only[nc]at*
     refine⟨k+1,⟨by omega,by omega⟩,by omega,?_,by trivial⟩
     refine .cons rfl (.cons ?_ (.cons ?_ (.nil _)))
     ·rw[show left - (a.length+J7 (fun x=>C1 x) (a.take (k+1)))=l' by omega]
      rfl
     ·show AV.d (D.sc (Value.int IntKind.i64 (qbin .add .i64 i 1)))=_
      rw[show qbin .add .i64 i 1=((k+1:Nat):Int)by simp only[hE,List.length_map,B2,B0,B1,Bz,Bv,Bm,Bj,Bx,Bc,Bd,Aw,Bk,A9,A0,Bq,Ax,Bb,Ba,B3,IntKind.wrap_i64,decide_eq_true_eq,decide_eq_false_iff_not,Bool.not_eq_true',Bool.not_eq_false',Option.getD_none,Option.getD_some,];omega]
   ·rename_i h3
    simp only[hE,List.length_map,B2,B0,B1,Bz,Bv,Bm,Bj,Bx,Bc,Bd,Aw,Bk,A9,A0,Bq,Ax,Bb,Ba,B3,IntKind.wrap_i64,decide_eq_true_eq,decide_eq_false_iff_not,Bool.not_eq_true',Bool.not_eq_false',Option.getD_none,Option.getD_some,hn]at h3
    cbv
    try simp only[nc]at*
    have hk':k=a.length:=by omega
    subst hk'
    rw[List.take_length]at hleft
    rw[←hQ,show Iu (Cr a) left=l by unfold Iu Cr;rw[if_pos (by omega)];omega]
    exact Dk rfl rfl
noncomputable def c23:Code:=(Tryz.f23.body).getD .skip
theorem ent23:Dl Tryz.prog 23:=⟨_,Tryz.func23,rfl,rfl⟩
theorem T23{a:List ByteArray}{xs:List (List D)}(hx:a.map cS=xs){left:Int}(h0:0≤left)(h1:left<2^40)(hok:Q8 a):
  CallOk Tryz.prog 23 [.d (.row 1 xs),.d (.sc (.int .i64 left))] [] ⟨.d (.sc (.int .i64 (Iu (C6 a) left))),[],[]⟩:=by
 obtain⟨ha,hs⟩:=hok
 refine CallOk.of_bodyD (body:=c23) Tryz.func23 rfl (Nat.le_of_ble_eq_true (by kernel_rfl)) rfl ?_
 refine Iv D3 mixed ?_
 have hT:=D3
 have hm:=mixed
 generalize hP:Tryz.prog=P at*
 generalize hA:std=A
 obtain⟨qbin,qsh,qcmp,qscmp,qbcmp,qbnot,qneg,qwrap,qcat,qssize,qssub,qsget,qlen,qrsub,qapp,qelt,qset,qnth,qdrp,qstr,qint,qbool,qrow,qnat,qnadd,qnsub,qband,qofNat,qstrRow,qmkRow,qmx,qmn,qbytes,qemp⟩:=A
 have hE:=Ar.eqs hA
 dsimp only at hE
 generalize hQ:EndD P Tryz.f23.results _=Q
 have hn:=Xj4 hx
 cbv
 try simp only[nc]at*
 split
 ·rename_i h2
  simp only[hE,List.length_map,B2,B0,B1,Bz,Bv,Bm,Bj,Bx,Bc,Bd,Aw,Bk,A9,A0,Bq,Ax,Bb,Ba,B3,IntKind.wrap_i64,decide_eq_true_eq,decide_eq_false_iff_not,Bool.not_eq_true',Bool.not_eq_false',Option.getD_none,Option.getD_some,hn]at h2
  cbv
  try simp only[nc]at*
  have:=Cz (fun x=>(x.size:Int)) a (fun x _=>Fh x)
  rw[←hQ,show Iu (C6 a) left= -1 by unfold Iu C6;rw[if_neg (by omega)]]
  exact Dk rfl rfl
 ·rename_i h2
  simp only[hE,List.length_map,B2,B0,B1,Bz,Bv,Bm,Bj,Bx,Bc,Bd,Aw,Bk,A9,A0,Bq,Ax,Bb,Ba,B3,IntKind.wrap_i64,decide_eq_true_eq,decide_eq_false_iff_not,Bool.not_eq_true',Bool.not_eq_false',Option.getD_none,Option.getD_some,hn]at h2
  cbv
  try simp only[nc]at*
  refine LpW.of (κ:=Nat) (fun k=>k≤a.length∧0≤left - (a.length+J7 (fun x=>(x.size:Int)) (a.take k))) (fun k=>a.length - k) (fun k=>[(0,.d (.row 1 xs)),(1,.d (.sc (.int .i64 (left - (a.length+J7 (fun x=>(x.size:Int)) (a.take k)))))),(5,.d (.sc (.int .i64 k)))]) (fun _=>[]) 0 ⟨by omega,by simp[J7];omega⟩ ?_ (by first|rfl|trivial) ?_
  ·refine .cons rfl (.cons ?_ (.cons rfl (.nil _)))
   show AV.d (D.sc (Value.int IntKind.i64 (qbin .sub .i64 left (qlen xs))))=_
   rw[show qbin .sub .i64 left (qlen xs)=left - a.length by simp only[hE,List.length_map,B2,B0,B1,Bz,Bv,Bm,Bj,Bx,Bc,Bd,Aw,Bk,A9,A0,Bq,Ax,Bb,Ba,B3,IntKind.wrap_i64,decide_eq_true_eq,decide_eq_false_iff_not,Bool.not_eq_true',Bool.not_eq_false',Option.getD_none,Option.getD_some,hn];omega]
   simp[J7]
  ·rintro k ⟨hk,hl⟩
   generalize hleft:left - (a.length+J7 (fun x=>(x.size:Int)) (a.take k))=l at*
   generalize hi:(k:Int)=i
   refine Iv hT hm ?_
   rw[hA]
   cbv
   try simp only[nc]at*
   split
   ·rename_i h3
    simp only[hE,List.length_map,B2,B0,B1,Bz,Bv,Bm,Bj,Bx,Bc,Bd,Aw,Bk,A9,A0,Bq,Ax,Bb,Ba,B3,IntKind.wrap_i64,decide_eq_true_eq,decide_eq_false_iff_not,Bool.not_eq_true',Bool.not_eq_false',Option.getD_none,Option.getD_some,hn]at h3
    have hk':k<a.length:=by omega
    have hsz:=hs a[k] (List.getElem_mem hk')
    have hp:=Cz (fun x=>(x.size:Int)) (a.take k) (fun x _=>Fh x)
    have hsum:=V5 (fun x=>(x.size:Int)) a hk'
    have hle:=Oj (fun x=>(x.size:Int)) a (fun x _=>Fh x) (k+1)
    have hel:=Fh a[k]
    cbv
    try simp only[nc]at*
    repeat (refine And.intro (by first|(simp only[hE];exact Rv hx hi hk')|(simp only[hE,Fz hx hi hk'];exact⟨rfl⟩)|(simp only[hE,Fz hx hi hk'];exact⟨Nat.le_of_ble_eq_true rfl⟩)) ?_)
    obtain⟨s,hsk⟩:∃s,s=a[k]:=⟨_,rfl⟩
    rw[show qstr (qnth (qelt xs i) 0)=s by rw[hsk];simp only[hE,Fz hx hi hk'];rfl]
    rw[←hsk]at hsz hsum hel
    obtain⟨l',hl'⟩:∃l',l'=l - (s.size:Int):=⟨_,rfl⟩
    rw[show qbin .sub .i64 l (qssize s)=l' by simp only[hE,List.length_map,B2,B0,B1,Bz,Bv,Bm,Bj,Bx,Bc,Bd,Aw,Bk,A9,A0,Bq,Ax,Bb,Ba,B3,IntKind.wrap_i64,decide_eq_true_eq,decide_eq_false_iff_not,Bool.not_eq_true',Bool.not_eq_false',Option.getD_none,Option.getD_some,];omega]
    split
    ·rename_i h4
     simp only[hE,List.length_map,B2,B0,B1,Bz,Bv,Bm,Bj,Bx,Bc,Bd,Aw,Bk,A9,A0,Bq,Ax,Bb,Ba,B3,IntKind.wrap_i64,decide_eq_true_eq,decide_eq_false_iff_not,Bool.not_eq_true',Bool.not_eq_false',Option.getD_none,Option.getD_some]at h4
     cbv
     try simp only[nc]at*
     rw[←hQ,show Iu (C6 a) left= -1 by unfold Iu C6;rw[if_neg (by omega)]]
     exact Dk rfl rfl
    ·rename_i h4
     simp only[hE,List.length_map,B2,B0,B1,Bz,Bv,Bm,Bj,Bx,Bc,Bd,Aw,Bk,A9,A0,Bq,Ax,Bb,Ba,B3,IntKind.wrap_i64,decide_eq_true_eq,decide_eq_false_iff_not,Bool.not_eq_true',Bool.not_eq_false',Option.getD_none,Option.getD_some]at h4
     cbv
     try simp only[nc]at*
     refine⟨k+1,⟨by omega,by omega⟩,by omega,?_,by trivial⟩
     refine .cons rfl (.cons ?_ (.cons ?_ (.nil _)))
     ·rw[show left - (a.length+J7 (fun x=>(x.size:Int)) (a.take (k+1)))=l' by omega]
      rfl
     ·show AV.d (D.sc (Value.int IntKind.i64 (qbin .add .i64 i 1)))=_
      rw[show qbin .add .i64 i 1=((k+1:Nat):Int)by simp only[hE,List.length_map,B2,B0,B1,Bz,Bv,Bm,Bj,Bx,Bc,Bd,Aw,Bk,A9,A0,Bq,Ax,Bb,Ba,B3,IntKind.wrap_i64,decide_eq_true_eq,decide_eq_false_iff_not,Bool.not_eq_true',Bool.not_eq_false',Option.getD_none,Option.getD_some,];omega]
   ·rename_i h3
    simp only[hE,List.length_map,B2,B0,B1,Bz,Bv,Bm,Bj,Bx,Bc,Bd,Aw,Bk,A9,A0,Bq,Ax,Bb,Ba,B3,IntKind.wrap_i64,decide_eq_true_eq,decide_eq_false_iff_not,Bool.not_eq_true',Bool.not_eq_false',Option.getD_none,Option.getD_some,hn]at h3
    cbv
    try simp only[nc]at*
    have hk':k=a.length:=by omega
    subst hk'
    rw[List.take_length]at hleft
    rw[←hQ,show Iu (C6 a) left=l by unfold Iu C6;rw[if_pos (by omega)];omega]
    exact Dk rfl rfl
noncomputable def c37:Code:=(Tryz.f37.body).getD .skip
theorem ent37:Dl Tryz.prog 37:=⟨_,Tryz.func37,rfl,rfl⟩
theorem T37{a_nodes:List Be}{xa_nodes:List (List D)}(ha_nodes:a_nodes.map A8=xa_nodes){a_entries:List Ad}{xa_entries:List (List D)}(ha_entries:a_entries.map Ac=xa_entries){a_old:List Ad}{xa_old:List (List D)}(ha_old:a_old.map Ac=xa_old){a_steps:List ByteArray}{xa_steps:List (List D)}(ha_steps:a_steps.map cS=xa_steps){a_room:Int}{a_next:Int}{left:Int}(h0:0≤left)(h1:left<2^40)(hok:Xif ⟨a_nodes,a_entries,a_old,a_steps,a_room,a_next⟩):
  CallOk Tryz.prog 37 [.agg [.d (.row 3 xa_nodes),.d (.row 2 xa_entries),.d (.row 2 xa_old),.d (.row 1 xa_steps),.d (.sc (.int .i64 a_room)),.d (.sc (.int .i64 a_next))],.d (.sc (.int .i64 left))] [] ⟨.d (.sc (.int .i64 (Iu (H3 ⟨a_nodes,a_entries,a_old,a_steps,a_room,a_next⟩) left))),[],[]⟩:=by
 have ent23_:=ent23
 have T23_:=@T23
 have ent95_:=ent95
 have T95_:=@T95
 have ent96_:=ent96
 have T96_:=@T96
 refine CallOk.of_bodyD (body:=c37) Tryz.func37 rfl (Nat.le_of_ble_eq_true (by kernel_rfl)) rfl ?_
 refine Iv D3 mixed ?_
 have hT:=D3
 have hm:=mixed
 generalize hP:Tryz.prog=P at*
 generalize hA:std=A
 obtain⟨qbin,qsh,qcmp,qscmp,qbcmp,qbnot,qneg,qwrap,qcat,qssize,qssub,qsget,qlen,qrsub,qapp,qelt,qset,qnth,qdrp,qstr,qint,qbool,qrow,qnat,qnadd,qnsub,qband,qofNat,qstrRow,qmkRow,qmx,qmn,qbytes,qemp⟩:=A
 have hE:=Ar.eqs hA
 dsimp only at hE
 generalize hQ:EndD P Tryz.f37.results _=Q
 have nna_nodes:=I9 a_nodes
 have nna_entries:=D4 a_entries
 have nna_old:=D4 a_old
 have nna_steps:=Hc a_steps
 have hok':Z1 a_nodes∧O2 a_entries∧O2 a_old∧Q8 a_steps:=hok
 generalize hto:H3 ⟨a_nodes,a_entries,a_old,a_steps,a_room,a_next⟩=to at*
 have hto':D5 a_nodes+Cr a_entries+Cr a_old+C6 a_steps=to:=hto
 clear hok hto
 obtain⟨k0,k1,k2,k3⟩:=hok'
 cbv
 try simp only[nc]at*
 refine ClW.dd (f:=95) rfl rfl rfl rfl (.cons rfl (.cons rfl .nil)) rfl ent95_ (T95_ ha_nodes (by omega) (by omega) k0) rfl ?_
 generalize aa:Iu (D5 a_nodes) left=l0
 cbv
 try simp only[nc]at*
 split
 ·rename_i h2
  simp only[hE,List.length_map,B2,B0,B1,Bz,Bv,Bm,Bj,Bx,Bc,Bd,Aw,Bk,A9,A0,Bq,Ax,Bb,Ba,B3,IntKind.wrap_i64,decide_eq_true_eq,decide_eq_false_iff_not,Bool.not_eq_true',Bool.not_eq_false',Option.getD_none,Option.getD_some]at h2
  cbv
  try simp only[nc]at*
  have ae:¬D5 a_nodes≤left:=by intro hle;unfold Iu at aa;rw[if_pos hle]at aa;omega
  rw[←hQ,show Iu to left= -1 by unfold Iu;rw[if_neg (by omega)]]
  exact Dk rfl rfl
 rename_i h20
 simp only[hE,List.length_map,B2,B0,B1,Bz,Bv,Bm,Bj,Bx,Bc,Bd,Aw,Bk,A9,A0,Bq,Ax,Bb,Ba,B3,IntKind.wrap_i64,decide_eq_true_eq,decide_eq_false_iff_not,Bool.not_eq_true',Bool.not_eq_false',Option.getD_none,Option.getD_some]at h20
 obtain⟨g0,g0'⟩:=Qd (t:=D5 a_nodes) (left:=left) (by omega)
 cbv
 try simp only[nc]at*
 refine ClW.dd (f:=96) rfl rfl rfl rfl (.cons rfl (.cons rfl .nil)) rfl ent96_ (T96_ ha_entries (by omega) (by omega) k1) rfl ?_
 generalize ab:Iu (Cr a_entries) l0=l1
 cbv
 try simp only[nc]at*
 split
 ·rename_i h2
  simp only[hE,List.length_map,B2,B0,B1,Bz,Bv,Bm,Bj,Bx,Bc,Bd,Aw,Bk,A9,A0,Bq,Ax,Bb,Ba,B3,IntKind.wrap_i64,decide_eq_true_eq,decide_eq_false_iff_not,Bool.not_eq_true',Bool.not_eq_false',Option.getD_none,Option.getD_some]at h2
  cbv
  try simp only[nc]at*
  have af:¬Cr a_entries≤l0:=by intro hle;unfold Iu at ab;rw[if_pos hle]at ab;omega
  rw[←hQ,show Iu to left= -1 by unfold Iu;rw[if_neg (by omega)]]
  exact Dk rfl rfl
 rename_i h21
 simp only[hE,List.length_map,B2,B0,B1,Bz,Bv,Bm,Bj,Bx,Bc,Bd,Aw,Bk,A9,A0,Bq,Ax,Bb,Ba,B3,IntKind.wrap_i64,decide_eq_true_eq,decide_eq_false_iff_not,Bool.not_eq_true',Bool.not_eq_false',Option.getD_none,Option.getD_some]at h21
 obtain⟨g1,g1'⟩:=Qd (t:=Cr a_entries) (left:=l0) (by omega)
 cbv
 try simp only[nc]at*
 refine ClW.dd (f:=96) rfl rfl rfl rfl (.cons rfl (.cons rfl .nil)) rfl ent96_ (T96_ ha_old (by omega) (by omega) k2) rfl ?_
 generalize ac:Iu (Cr a_old) l1=l2
 cbv
 try simp only[nc]at*
 split
 ·rename_i h2
  simp only[hE,List.length_map,B2,B0,B1,Bz,Bv,Bm,Bj,Bx,Bc,Bd,Aw,Bk,A9,A0,Bq,Ax,Bb,Ba,B3,IntKind.wrap_i64,decide_eq_true_eq,decide_eq_false_iff_not,Bool.not_eq_true',Bool.not_eq_false',Option.getD_none,Option.getD_some]at h2
  cbv
  try simp only[nc]at*
  have hb2:¬Cr a_old≤l1:=by intro hle;unfold Iu at ac;rw[if_pos hle]at ac;omega
  rw[←hQ,show Iu to left= -1 by unfold Iu;rw[if_neg (by omega)]]
  exact Dk rfl rfl
 rename_i h22
 simp only[hE,List.length_map,B2,B0,B1,Bz,Bv,Bm,Bj,Bx,Bc,Bd,Aw,Bk,A9,A0,Bq,Ax,Bb,Ba,B3,IntKind.wrap_i64,decide_eq_true_eq,decide_eq_false_iff_not,Bool.not_eq_true',Bool.not_eq_false',Option.getD_none,Option.getD_some]at h22
 obtain⟨g2,g2'⟩:=Qd (t:=Cr a_old) (left:=l1) (by omega)
 cbv
 try simp only[nc]at*
 refine ClW.dd (f:=23) rfl rfl rfl rfl (.cons rfl (.cons rfl .nil)) rfl ent23_ (T23_ ha_steps (by omega) (by omega) k3) rfl ?_
 generalize ad:Iu (C6 a_steps) l2=l3
 cbv
 try simp only[nc]at*
 split
 ·rename_i h2
  simp only[hE,List.length_map,B2,B0,B1,Bz,Bv,Bm,Bj,Bx,Bc,Bd,Aw,Bk,A9,A0,Bq,Ax,Bb,Ba,B3,IntKind.wrap_i64,decide_eq_true_eq,decide_eq_false_iff_not,Bool.not_eq_true',Bool.not_eq_false',Option.getD_none,Option.getD_some]at h2
  cbv
  try simp only[nc]at*
  have ag:¬C6 a_steps≤l2:=by intro hle;unfold Iu at ad;rw[if_pos hle]at ad;omega
  rw[←hQ,show Iu to left= -1 by unfold Iu;rw[if_neg (by omega)]]
  exact Dk rfl rfl
 rename_i h23
 simp only[hE,List.length_map,B2,B0,B1,Bz,Bv,Bm,Bj,Bx,Bc,Bd,Aw,Bk,A9,A0,Bq,Ax,Bb,Ba,B3,IntKind.wrap_i64,decide_eq_true_eq,decide_eq_false_iff_not,Bool.not_eq_true',Bool.not_eq_false',Option.getD_none,Option.getD_some]at h23
 obtain⟨g3,g3'⟩:=Qd (t:=C6 a_steps) (left:=l2) (by omega)
 cbv
 try simp only[nc]at*
 rw[←hQ,show Iu to left=l3 by unfold Iu;rw[if_pos (by omega)];omega]
 exact Dk rfl rfl
end
section
open Go Go.Proofs
set_option maxRecDepth 20000
noncomputable def c193:Code:=(Tryz.f193.body).getD .skip
theorem XmN:Dl Tryz.prog 193:=⟨_,Tryz.func193,rfl,rfl⟩
theorem T193{a_id:Int}{a_text:ByteArray}{a_sure:Int}(hb:Dx ⟨a_id,a_text,a_sure⟩≤1048576):CallOk Tryz.prog 193 [.agg [.d (.sc (.int .i64 a_id)),.d (.sc (.string a_text)),.d (.sc (.int .i64 a_sure))]] [] ⟨.agg [.d (.sc (.int .i64 a_id)),.d (.sc (.string a_text)),.d (.sc (.int .i64 a_sure))],[],[]⟩:=by
 have hb':(a_text.size:Int)≤1048576:=hb
 refine CallOk.of_bodyD (body:=c193) Tryz.func193 rfl (Nat.le_of_ble_eq_true (by kernel_rfl)) rfl ?_
 refine Iv D3 mixed ?_
 have hT:=D3
 have hm:=mixed
 generalize hP:Tryz.prog=P at*
 generalize hA:std=A
 obtain⟨qbin,qsh,qcmp,qscmp,qbcmp,qbnot,qneg,qwrap,qcat,qssize,qssub,qsget,qlen,qrsub,qapp,qelt,qset,qnth,qdrp,qstr,qint,qbool,qrow,qnat,qnadd,qnsub,qband,qofNat,qstrRow,qmkRow,qmx,qmn,qbytes,qemp⟩:=A
 have hE:=Ar.eqs hA
 dsimp only at hE
 generalize hQ:EndD P Tryz.f193.results _=Q
 cbv
 try simp only[nc]at*
 rw[←hQ]
 exact Wy hT (by rfl) (by rfl) (by rfl) (by rfl) rfl
noncomputable def c104:Code:=(Tryz.f104.body).getD .skip
theorem XmJ:Dl Tryz.prog 104:=⟨_,Tryz.func104,rfl,rfl⟩
theorem T104R{a:List Be}{xs:List (List D)}(hx:a.map A8=xs)(hb:D5 a≤1048576):CallOk Tryz.prog 104 [.d (.row 3 xs)] [] ⟨.ref 0 0 a.length,[.row 3 false xs],[]⟩:=by
 have ent193_:=XmN
 have T193_:=@T193
 have aa:(a.length:Int)+J7 (fun x=>Dx x) a≤1048576:=hb
 have hsn:=Cz (fun x=>Dx x) a (fun x _=>Fk x)
 refine CallOk.of_body (body:=c104) Tryz.func104 rfl (Nat.le_of_ble_eq_true (by kernel_rfl)) rfl rfl ?_
 refine Iv D3 mixed ?_
 have hT:=D3
 have hm:=mixed
 generalize hP:Tryz.prog=P at*
 generalize hA:std=A
 obtain⟨qbin,qsh,qcmp,qscmp,qbcmp,qbnot,qneg,qwrap,qcat,qssize,qssub,qsget,qlen,qrsub,qapp,qelt,qset,qnth,qdrp,qstr,qint,qbool,qrow,qnat,qnadd,qnsub,qband,qofNat,qstrRow,qmkRow,qmx,qmn,qbytes,qemp⟩:=A
 have hE:=Ar.eqs hA
 dsimp only at hE
 generalize hQ:EndQ P Tryz.f104.results [] _=Q
 have hn:=Xj4 hx
 cbv
 try simp only[nc]at*
 refine⟨?_,?_⟩
 ·simp only[hE,List.length_map,B2,B0,B1,Bz,Bv,Bm,Bj,Bx,Bc,Bd,Aw,Bk,A9,A0,Bq,Ax,Bb,Ba,B3,IntKind.wrap_i64,decide_eq_true_eq,decide_eq_false_iff_not,Bool.not_eq_true',Bool.not_eq_false',Option.getD_none,Option.getD_some,hn];exact⟨by omega,by omega,by omega,by omega⟩
 refine LpW.of (κ:=Nat) (fun k=>k≤a.length) (fun k=>a.length - k) (fun k=>[(0,.d (.row 3 xs)),(3,.ref 1 0 a.length),(4,.d (.sc (.int .i64 k)))]) (fun k=>[.row 3 false [],.row 3 false (Lb A8 a [.sc (.int .i64 0),.sc (.string default),.sc (.int .i64 0)] k)]) 0 (by simp) ?_ ?_ ?_
 ·refine .cons rfl (.cons ?_ (.cons rfl (.nil _)))
  show AV.ref 1 0 (qnat (qlen xs))=_
  simp only[hE,Bj,Bq,hn,Int.toNat_natCast]
 ·show[Root.row 3 false [],Root.row 3 false (qmkRow (qlen xs) [.sc (.int .i64 0),.sc (.string default),.sc (.int .i64 0)])]=_
  simp only[hE,Bj,hn,XdN]
  rfl
 ·intro k hk
  generalize hz:Lb A8 a [.sc (.int .i64 0),.sc (.string default),.sc (.int .i64 0)] k=zs
  generalize hi:(k:Int)=i
  generalize hm':a.length=m
  refine Iv hT hm ?_
  rw[hA]
  cbv
  try simp only[nc]at*
  split
  ·rename_i h2
   simp only[hE,List.length_map,B2,B0,B1,Bz,Bv,Bm,Bj,Bx,Bc,Bd,Aw,Bk,A9,A0,Bq,Ax,Bb,Ba,B3,IntKind.wrap_i64,decide_eq_true_eq,decide_eq_false_iff_not,Bool.not_eq_true',Bool.not_eq_false',Option.getD_none,Option.getD_some,hn]at h2
   have hk':k<a.length:=by omega
   cbv
   try simp only[nc]at*
   repeat (refine And.intro (by first|(simp only[hE];exact Rv hx hi hk')|(simp only[hE,Fz hx hi hk'];exact⟨rfl⟩)|(simp only[hE,Fz hx hi hk'];exact⟨Nat.le_of_ble_eq_true rfl⟩)) ?_)
   have hset:=Xhi hk' hz hi (by rfl)
   have hmem:=F9 (fun x=>Dx x) (fun x=>Fk x) (List.getElem_mem hk')
   obtain⟨wv,hwv⟩:∃w,w=a[k]:=⟨_,rfl⟩
   have hev:qelt xs i=A8 wv:=by simp only[hE];rw[Fz hx hi hk',hwv]
   rw[←hwv]at hset hmem
   obtain⟨v_id,v_text,v_sure⟩:=wv
   rw[show qint (qnth (qelt xs i) 0)=v_id by rw[hev];simp only[hE];rfl,show qstr (qnth (qelt xs i) 1)=v_text by rw[hev];simp only[hE];rfl,show qint (qnth (qelt xs i) 2)=v_sure by rw[hev];simp only[hE];rfl]
   refine ClW.dd (f:=193) rfl rfl rfl rfl (.cons rfl .nil) rfl ent193_ (T193_ (by omega)) rfl ?_
   cbv
   try simp only[nc]at*
   refine⟨?_,?_,?_,k+1,by omega,by omega,?_,?_⟩
   ·simp only[hE,List.length_map,B2,B0,B1,Bz,Bv,Bm,Bj,Bx,Bc,Bd,Aw,Bk,A9,A0,Bq,Ax,Bb,Ba,B3,IntKind.wrap_i64,decide_eq_true_eq,decide_eq_false_iff_not,Bool.not_eq_true',Bool.not_eq_false',Option.getD_none,Option.getD_some,];exact⟨by omega,by omega⟩
   ·simp only[hE];exact XiG hk' hz hi
   ·simp only[hE];exact XaJ hk' hz hi (Nat.le_refl _)
   ·refine .cons rfl (.cons rfl (.cons ?_ (.nil _)))
    show AV.d (D.sc (Value.int IntKind.i64 (qbin .add .i64 i 1)))=_
    simp only[hE,Yw hi (by omega)]
   ·have e:A8 (⟨v_id,v_text,v_sure⟩:Be)=[.sc (.int .i64 v_id),.sc (.string v_text),.sc (.int .i64 v_sure)]:=rfl
    simp only[hE]
    rw[e]at hset
    rw[←hset]
    try rfl
  ·rename_i h2
   simp only[hE,List.length_map,B2,B0,B1,Bz,Bv,Bm,Bj,Bx,Bc,Bd,Aw,Bk,A9,A0,Bq,Ax,Bb,Ba,B3,IntKind.wrap_i64,decide_eq_true_eq,decide_eq_false_iff_not,Bool.not_eq_true',Bool.not_eq_false',Option.getD_none,Option.getD_some,hn]at h2
   cbv
   try simp only[nc]at*
   have hk':k=a.length:=by omega
   subst hk'
   rw[←hQ,hm']
   rw[XhG]at hz
   have hxz:zs=xs:=by rw[←hz,hx]
   subst hxz
   exact XaG rfl rfl
theorem T104{a:List Be}{xs:List (List D)}(hx:a.map A8=xs)(hb:D5 a≤1048576):CallOk Tryz.prog 104 [.d (.row 3 xs)] [] ⟨.d (.row 3 xs),[],[]⟩:=(T104R hx hb).rowD rfl (by rw[←hx,List.length_map])
noncomputable def c194:Code:=(Tryz.f194.body).getD .skip
theorem XmO:Dl Tryz.prog 194:=⟨_,Tryz.func194,rfl,rfl⟩
theorem T194{a_name:ByteArray}{a_id:Int}(hb:C1 ⟨a_name,a_id⟩≤1048576):CallOk Tryz.prog 194 [.agg [.d (.sc (.string a_name)),.d (.sc (.int .i64 a_id))]] [] ⟨.agg [.d (.sc (.string a_name)),.d (.sc (.int .i64 a_id))],[],[]⟩:=by
 have hb':(a_name.size:Int)≤1048576:=hb
 refine CallOk.of_bodyD (body:=c194) Tryz.func194 rfl (Nat.le_of_ble_eq_true (by kernel_rfl)) rfl ?_
 refine Iv D3 mixed ?_
 have hT:=D3
 have hm:=mixed
 generalize hP:Tryz.prog=P at*
 generalize hA:std=A
 obtain⟨qbin,qsh,qcmp,qscmp,qbcmp,qbnot,qneg,qwrap,qcat,qssize,qssub,qsget,qlen,qrsub,qapp,qelt,qset,qnth,qdrp,qstr,qint,qbool,qrow,qnat,qnadd,qnsub,qband,qofNat,qstrRow,qmkRow,qmx,qmn,qbytes,qemp⟩:=A
 have hE:=Ar.eqs hA
 dsimp only at hE
 generalize hQ:EndD P Tryz.f194.results _=Q
 cbv
 try simp only[nc]at*
 rw[←hQ]
 exact Wy hT (by rfl) (by rfl) (by rfl) (by rfl) rfl
noncomputable def c105:Code:=(Tryz.f105.body).getD .skip
theorem XmK:Dl Tryz.prog 105:=⟨_,Tryz.func105,rfl,rfl⟩
theorem T105R{a:List Ad}{xs:List (List D)}(hx:a.map Ac=xs)(hb:Cr a≤1048576):CallOk Tryz.prog 105 [.d (.row 2 xs)] [] ⟨.ref 0 0 a.length,[.row 2 false xs],[]⟩:=by
 have ent194_:=XmO
 have T194_:=@T194
 have aa:(a.length:Int)+J7 (fun x=>C1 x) a≤1048576:=hb
 have hsn:=Cz (fun x=>C1 x) a (fun x _=>Ev x)
 refine CallOk.of_body (body:=c105) Tryz.func105 rfl (Nat.le_of_ble_eq_true (by kernel_rfl)) rfl rfl ?_
 refine Iv D3 mixed ?_
 have hT:=D3
 have hm:=mixed
 generalize hP:Tryz.prog=P at*
 generalize hA:std=A
 obtain⟨qbin,qsh,qcmp,qscmp,qbcmp,qbnot,qneg,qwrap,qcat,qssize,qssub,qsget,qlen,qrsub,qapp,qelt,qset,qnth,qdrp,qstr,qint,qbool,qrow,qnat,qnadd,qnsub,qband,qofNat,qstrRow,qmkRow,qmx,qmn,qbytes,qemp⟩:=A
 have hE:=Ar.eqs hA
 dsimp only at hE
 generalize hQ:EndQ P Tryz.f105.results [] _=Q
 have hn:=Xj4 hx
 cbv
 try simp only[nc]at*
 refine⟨?_,?_⟩
 ·simp only[hE,List.length_map,B2,B0,B1,Bz,Bv,Bm,Bj,Bx,Bc,Bd,Aw,Bk,A9,A0,Bq,Ax,Bb,Ba,B3,IntKind.wrap_i64,decide_eq_true_eq,decide_eq_false_iff_not,Bool.not_eq_true',Bool.not_eq_false',Option.getD_none,Option.getD_some,hn];exact⟨by omega,by omega,by omega,by omega⟩
 refine LpW.of (κ:=Nat) (fun k=>k≤a.length) (fun k=>a.length - k) (fun k=>[(0,.d (.row 2 xs)),(3,.ref 1 0 a.length),(4,.d (.sc (.int .i64 k)))]) (fun k=>[.row 2 false [],.row 2 false (Lb Ac a [.sc (.string default),.sc (.int .i64 0)] k)]) 0 (by simp) ?_ ?_ ?_
 ·refine .cons rfl (.cons ?_ (.cons rfl (.nil _)))
  show AV.ref 1 0 (qnat (qlen xs))=_
  simp only[hE,Bj,Bq,hn,Int.toNat_natCast]
 ·show[Root.row 2 false [],Root.row 2 false (qmkRow (qlen xs) [.sc (.string default),.sc (.int .i64 0)])]=_
  simp only[hE,Bj,hn,XdN]
  rfl
 ·intro k hk
  generalize hz:Lb Ac a [.sc (.string default),.sc (.int .i64 0)] k=zs
  generalize hi:(k:Int)=i
  generalize hm':a.length=m
  refine Iv hT hm ?_
  rw[hA]
  cbv
  try simp only[nc]at*
  split
  ·rename_i h2
   simp only[hE,List.length_map,B2,B0,B1,Bz,Bv,Bm,Bj,Bx,Bc,Bd,Aw,Bk,A9,A0,Bq,Ax,Bb,Ba,B3,IntKind.wrap_i64,decide_eq_true_eq,decide_eq_false_iff_not,Bool.not_eq_true',Bool.not_eq_false',Option.getD_none,Option.getD_some,hn]at h2
   have hk':k<a.length:=by omega
   cbv
   try simp only[nc]at*
   repeat (refine And.intro (by first|(simp only[hE];exact Rv hx hi hk')|(simp only[hE,Fz hx hi hk'];exact⟨rfl⟩)|(simp only[hE,Fz hx hi hk'];exact⟨Nat.le_of_ble_eq_true rfl⟩)) ?_)
   have hset:=Xhi hk' hz hi (by rfl)
   have hmem:=F9 (fun x=>C1 x) (fun x=>Ev x) (List.getElem_mem hk')
   obtain⟨wv,hwv⟩:∃w,w=a[k]:=⟨_,rfl⟩
   have hev:qelt xs i=Ac wv:=by simp only[hE];rw[Fz hx hi hk',hwv]
   rw[←hwv]at hset hmem
   obtain⟨v_name,v_id⟩:=wv
   rw[show qstr (qnth (qelt xs i) 0)=v_name by rw[hev];simp only[hE];rfl,show qint (qnth (qelt xs i) 1)=v_id by rw[hev];simp only[hE];rfl]
   refine ClW.dd (f:=194) rfl rfl rfl rfl (.cons rfl .nil) rfl ent194_ (T194_ (by omega)) rfl ?_
   cbv
   try simp only[nc]at*
   refine⟨?_,?_,?_,k+1,by omega,by omega,?_,?_⟩
   ·simp only[hE,List.length_map,B2,B0,B1,Bz,Bv,Bm,Bj,Bx,Bc,Bd,Aw,Bk,A9,A0,Bq,Ax,Bb,Ba,B3,IntKind.wrap_i64,decide_eq_true_eq,decide_eq_false_iff_not,Bool.not_eq_true',Bool.not_eq_false',Option.getD_none,Option.getD_some,];exact⟨by omega,by omega⟩
   ·simp only[hE];exact XiG hk' hz hi
   ·simp only[hE];exact XaJ hk' hz hi (Nat.le_refl _)
   ·refine .cons rfl (.cons rfl (.cons ?_ (.nil _)))
    show AV.d (D.sc (Value.int IntKind.i64 (qbin .add .i64 i 1)))=_
    simp only[hE,Yw hi (by omega)]
   ·have e:Ac (⟨v_name,v_id⟩:Ad)=[.sc (.string v_name),.sc (.int .i64 v_id)]:=rfl
    simp only[hE]
    rw[e]at hset
    rw[←hset]
    try rfl
  ·rename_i h2
   simp only[hE,List.length_map,B2,B0,B1,Bz,Bv,Bm,Bj,Bx,Bc,Bd,Aw,Bk,A9,A0,Bq,Ax,Bb,Ba,B3,IntKind.wrap_i64,decide_eq_true_eq,decide_eq_false_iff_not,Bool.not_eq_true',Bool.not_eq_false',Option.getD_none,Option.getD_some,hn]at h2
   cbv
   try simp only[nc]at*
   have hk':k=a.length:=by omega
   subst hk'
   rw[←hQ,hm']
   rw[XhG]at hz
   have hxz:zs=xs:=by rw[←hz,hx]
   subst hxz
   exact XaG rfl rfl
theorem T105{a:List Ad}{xs:List (List D)}(hx:a.map Ac=xs)(hb:Cr a≤1048576):CallOk Tryz.prog 105 [.d (.row 2 xs)] [] ⟨.d (.row 2 xs),[],[]⟩:=(T105R hx hb).rowD rfl (by rw[←hx,List.length_map])
noncomputable def c25:Code:=(Tryz.f25.body).getD .skip
theorem ent25:Dl Tryz.prog 25:=⟨_,Tryz.func25,rfl,rfl⟩
theorem T25R{a:List ByteArray}{xs:List (List D)}(hx:a.map cS=xs)(hb:C6 a≤1048576):CallOk Tryz.prog 25 [.d (.row 1 xs)] [] ⟨.ref 0 0 a.length,[.row 1 false xs],[]⟩:=by
 have aa:(a.length:Int)+J7 (fun x=>(x.size:Int)) a≤1048576:=hb
 have hsn:=Cz (fun x=>(x.size:Int)) a (fun x _=>Fh x)
 refine CallOk.of_body (body:=c25) Tryz.func25 rfl (Nat.le_of_ble_eq_true (by kernel_rfl)) rfl rfl ?_
 refine Iv D3 mixed ?_
 have hT:=D3
 have hm:=mixed
 generalize hP:Tryz.prog=P at*
 generalize hA:std=A
 obtain⟨qbin,qsh,qcmp,qscmp,qbcmp,qbnot,qneg,qwrap,qcat,qssize,qssub,qsget,qlen,qrsub,qapp,qelt,qset,qnth,qdrp,qstr,qint,qbool,qrow,qnat,qnadd,qnsub,qband,qofNat,qstrRow,qmkRow,qmx,qmn,qbytes,qemp⟩:=A
 have hE:=Ar.eqs hA
 dsimp only at hE
 generalize hQ:EndQ P Tryz.f25.results [] _=Q
 have hn:=Xj4 hx
 cbv
 try simp only[nc]at*
 refine⟨?_,?_⟩
 ·simp only[hE,List.length_map,B2,B0,B1,Bz,Bv,Bm,Bj,Bx,Bc,Bd,Aw,Bk,A9,A0,Bq,Ax,Bb,Ba,B3,IntKind.wrap_i64,decide_eq_true_eq,decide_eq_false_iff_not,Bool.not_eq_true',Bool.not_eq_false',Option.getD_none,Option.getD_some,hn];exact⟨by omega,by omega,by omega,by omega⟩
 refine LpW.of (κ:=Nat) (fun k=>k≤a.length) (fun k=>a.length - k) (fun k=>[(0,.d (.row 1 xs)),(3,.ref 1 0 a.length),(4,.d (.sc (.int .i64 k)))]) (fun k=>[.row 1 false [],.row 1 false (Lb cS a [.sc (.string default)] k)]) 0 (by simp) ?_ ?_ ?_
 ·refine .cons rfl (.cons ?_ (.cons rfl (.nil _)))
  show AV.ref 1 0 (qnat (qlen xs))=_
  simp only[hE,Bj,Bq,hn,Int.toNat_natCast]
 ·show[Root.row 1 false [],Root.row 1 false (qmkRow (qlen xs) [.sc (.string default)])]=_
  simp only[hE,Bj,hn,XdN]
  rfl
 ·intro k hk
  generalize hz:Lb cS a [.sc (.string default)] k=zs
  generalize hi:(k:Int)=i
  generalize hm':a.length=m
  refine Iv hT hm ?_
  rw[hA]
  cbv
  try simp only[nc]at*
  split
  ·rename_i h2
   simp only[hE,List.length_map,B2,B0,B1,Bz,Bv,Bm,Bj,Bx,Bc,Bd,Aw,Bk,A9,A0,Bq,Ax,Bb,Ba,B3,IntKind.wrap_i64,decide_eq_true_eq,decide_eq_false_iff_not,Bool.not_eq_true',Bool.not_eq_false',Option.getD_none,Option.getD_some,hn]at h2
   have hk':k<a.length:=by omega
   cbv
   try simp only[nc]at*
   repeat (refine And.intro (by first|(simp only[hE];exact Rv hx hi hk')|(simp only[hE,Fz hx hi hk'];exact⟨rfl⟩)|(simp only[hE,Fz hx hi hk'];exact⟨Nat.le_of_ble_eq_true rfl⟩)) ?_)
   refine⟨?_,?_,?_,k+1,by omega,by omega,?_,?_⟩
   ·simp only[hE,List.length_map,B2,B0,B1,Bz,Bv,Bm,Bj,Bx,Bc,Bd,Aw,Bk,A9,A0,Bq,Ax,Bb,Ba,B3,IntKind.wrap_i64,decide_eq_true_eq,decide_eq_false_iff_not,Bool.not_eq_true',Bool.not_eq_false',Option.getD_none,Option.getD_some,];exact⟨by omega,by omega⟩
   ·simp only[hE];exact XiG hk' hz hi
   ·simp only[hE];exact XaJ hk' hz hi (Nat.le_refl _)
   ·refine .cons rfl (.cons rfl (.cons ?_ (.nil _)))
    show AV.d (D.sc (Value.int IntKind.i64 (qbin .add .i64 i 1)))=_
    simp only[hE,Yw hi (by omega)]
   ·have e:[D.sc (Value.string (qstr (qnth (qelt xs i) 0)))]=cS a[k]:=by simp only[hE,Fz hx hi hk'];rfl
    rw[e]
    simp only[hE]
    rw[Xhi hk' hz hi rfl]
  ·rename_i h2
   simp only[hE,List.length_map,B2,B0,B1,Bz,Bv,Bm,Bj,Bx,Bc,Bd,Aw,Bk,A9,A0,Bq,Ax,Bb,Ba,B3,IntKind.wrap_i64,decide_eq_true_eq,decide_eq_false_iff_not,Bool.not_eq_true',Bool.not_eq_false',Option.getD_none,Option.getD_some,hn]at h2
   cbv
   try simp only[nc]at*
   have hk':k=a.length:=by omega
   subst hk'
   rw[←hQ,hm']
   rw[XhG]at hz
   have hxz:zs=xs:=by rw[←hz,hx]
   subst hxz
   exact XaG rfl rfl
theorem T25{a:List ByteArray}{xs:List (List D)}(hx:a.map cS=xs)(hb:C6 a≤1048576):CallOk Tryz.prog 25 [.d (.row 1 xs)] [] ⟨.d (.row 1 xs),[],[]⟩:=(T25R hx hb).rowD rfl (by rw[←hx,List.length_map])
noncomputable def c39:Code:=(Tryz.f39.body).getD .skip
theorem ent39:Dl Tryz.prog 39:=⟨_,Tryz.func39,rfl,rfl⟩
theorem T39{a_nodes:List Be}{xa_nodes:List (List D)}(ha_nodes:a_nodes.map A8=xa_nodes){a_entries:List Ad}{xa_entries:List (List D)}(ha_entries:a_entries.map Ac=xa_entries){a_old:List Ad}{xa_old:List (List D)}(ha_old:a_old.map Ac=xa_old){a_steps:List ByteArray}{xa_steps:List (List D)}(ha_steps:a_steps.map cS=xa_steps){a_room:Int}{a_next:Int}(hb:H3 ⟨a_nodes,a_entries,a_old,a_steps,a_room,a_next⟩≤1048576):CallOk Tryz.prog 39 [.agg [.d (.row 3 xa_nodes),.d (.row 2 xa_entries),.d (.row 2 xa_old),.d (.row 1 xa_steps),.d (.sc (.int .i64 a_room)),.d (.sc (.int .i64 a_next))]] [] ⟨.agg [.d (.row 3 xa_nodes),.d (.row 2 xa_entries),.d (.row 2 xa_old),.d (.row 1 xa_steps),.d (.sc (.int .i64 a_room)),.d (.sc (.int .i64 a_next))],[],[]⟩:=by
 have ent25_:=ent25
 have T25_:=@T25
 have ent104_:=XmJ
 have T104_:=@T104
 have ent105_:=XmK
 have T105_:=@T105
 have nna_nodes:=I9 a_nodes
 have nna_entries:=D4 a_entries
 have nna_old:=D4 a_old
 have nna_steps:=Hc a_steps
 have hb':D5 a_nodes+Cr a_entries+Cr a_old+C6 a_steps≤1048576:=hb
 refine CallOk.of_bodyD (body:=c39) Tryz.func39 rfl (Nat.le_of_ble_eq_true (by kernel_rfl)) rfl ?_
 refine Iv D3 mixed ?_
 have hT:=D3
 have hm:=mixed
 generalize hP:Tryz.prog=P at*
 generalize hA:std=A
 obtain⟨qbin,qsh,qcmp,qscmp,qbcmp,qbnot,qneg,qwrap,qcat,qssize,qssub,qsget,qlen,qrsub,qapp,qelt,qset,qnth,qdrp,qstr,qint,qbool,qrow,qnat,qnadd,qnsub,qband,qofNat,qstrRow,qmkRow,qmx,qmn,qbytes,qemp⟩:=A
 have hE:=Ar.eqs hA
 dsimp only at hE
 generalize hQ:EndD P Tryz.f39.results _=Q
 cbv
 try simp only[nc]at*
 refine ClW.dd (f:=104) rfl rfl rfl rfl (.cons rfl .nil) rfl ent104_ (T104_ ha_nodes (by omega)) rfl ?_
 cbv
 try simp only[nc]at*
 refine ClW.dd (f:=105) rfl rfl rfl rfl (.cons rfl .nil) rfl ent105_ (T105_ ha_entries (by omega)) rfl ?_
 cbv
 try simp only[nc]at*
 refine ClW.dd (f:=105) rfl rfl rfl rfl (.cons rfl .nil) rfl ent105_ (T105_ ha_old (by omega)) rfl ?_
 cbv
 try simp only[nc]at*
 refine ClW.dd (f:=25) rfl rfl rfl rfl (.cons rfl .nil) rfl ent25_ (T25_ ha_steps (by omega)) rfl ?_
 cbv
 try simp only[nc]at*
 rw[←hQ]
 exact Wy hT (by rfl) (by rfl) (by rfl) (by rfl) rfl
end
section
open Go Go.Proofs
set_option maxRecDepth 20000
noncomputable def c206:Code:=(Tryz.f206.body).getD .skip
theorem XmF:Dl Tryz.prog 206:=⟨_,Tryz.func206,rfl,rfl⟩
theorem T206{a_id:Int}{a_text:ByteArray}{a_sure:Int}(hb:Dx ⟨a_id,a_text,a_sure⟩≤1099511627776):CallOk Tryz.prog 206 [.agg [.d (.sc (.int .i64 a_id)),.d (.sc (.string a_text)),.d (.sc (.int .i64 a_sure))],.agg [.d (.sc (.int .i64 a_id)),.d (.sc (.string a_text)),.d (.sc (.int .i64 a_sure))]] [] ⟨.d (.sc (.bool true)),[],[]⟩:=by
 have hb':(a_text.size:Int)≤1099511627776:=hb
 refine CallOk.of_bodyD (body:=c206) Tryz.func206 rfl (Nat.le_of_ble_eq_true (by kernel_rfl)) rfl ?_
 refine Iv D3 mixed ?_
 have hT:=D3
 have hm:=mixed
 generalize hP:Tryz.prog=P at*
 generalize hA:std=A
 obtain⟨qbin,qsh,qcmp,qscmp,qbcmp,qbnot,qneg,qwrap,qcat,qssize,qssub,qsget,qlen,qrsub,qapp,qelt,qset,qnth,qdrp,qstr,qint,qbool,qrow,qnat,qnadd,qnsub,qband,qofNat,qstrRow,qmkRow,qmx,qmn,qbytes,qemp⟩:=A
 have hE:=Ar.eqs hA
 dsimp only at hE
 generalize hQ:EndD P Tryz.f206.results _=Q
 have hself:(∀v:Int,qcmp .neq v v=false)∧(∀v:ByteArray,qscmp .neq v v=false)∧(∀v:Bool,qbnot (qbcmp v v)=false)∧qbnot true=false:=by
  refine⟨fun v=>?_,fun v=>?_,fun v=>?_,?_⟩<;>simp only[hE,Bm,Nl,A0,Bk]<;>simp
 obtain⟨hself1,hself2,hself3,hself4⟩:=hself
 cbv
 try simp only[nc]at*
 rw[hself1]
 cbv
 try simp only[nc]at*
 rw[hself2]
 cbv
 try simp only[nc]at*
 rw[hself1]
 cbv
 try simp only[nc]at*
 rw[←hQ]
 exact Dk rfl rfl
noncomputable def c114:Code:=(Tryz.f114.body).getD .skip
theorem Xmg:Dl Tryz.prog 114:=⟨_,Tryz.func114,rfl,rfl⟩
theorem T114{a:List Be}{xs:List (List D)}(hx:a.map A8=xs)(hb:D5 a≤1099511627776):CallOk Tryz.prog 114 [.d (.row 3 xs),.d (.row 3 xs)] [] ⟨.d (.sc (.bool true)),[],[]⟩:=by
 have ent206_:=XmF
 have T206_:=@T206
 have aa:(a.length:Int)+J7 (fun x=>Dx x) a≤1099511627776:=hb
 have hsn:=Cz (fun x=>Dx x) a (fun x _=>Fk x)
 refine CallOk.of_bodyD (body:=c114) Tryz.func114 rfl (Nat.le_of_ble_eq_true (by kernel_rfl)) rfl ?_
 refine Iv D3 mixed ?_
 have hT:=D3
 have hm:=mixed
 generalize hP:Tryz.prog=P at*
 generalize hA:std=A
 obtain⟨qbin,qsh,qcmp,qscmp,qbcmp,qbnot,qneg,qwrap,qcat,qssize,qssub,qsget,qlen,qrsub,qapp,qelt,qset,qnth,qdrp,qstr,qint,qbool,qrow,qnat,qnadd,qnsub,qband,qofNat,qstrRow,qmkRow,qmx,qmn,qbytes,qemp⟩:=A
 have hE:=Ar.eqs hA
 dsimp only at hE
 generalize hQ:EndD P Tryz.f114.results _=Q
 have hn:=Xj4 hx
 have hself:(∀v:Int,qcmp .neq v v=false)∧(∀v:ByteArray,qscmp .neq v v=false)∧(∀v:Bool,qbnot (qbcmp v v)=false)∧qbnot true=false:=by
  refine⟨fun v=>?_,fun v=>?_,fun v=>?_,?_⟩<;>simp only[hE,Bm,Nl,A0,Bk]<;>simp
 obtain⟨hself1,hself2,hself3,hself4⟩:=hself
 cbv
 try simp only[nc]at*
 rw[hself1]
 cbv
 try simp only[nc]at*
 refine LpW.of (κ:=Nat) (fun k=>k≤a.length) (fun k=>a.length - k) (fun k=>[(0,.d (.row 3 xs)),(1,.d (.row 3 xs)),(5,.d (.sc (.int .i64 k)))]) (fun _=>[]) 0 (by omega) ?_ (by first|rfl|trivial) ?_
 ·exact .cons rfl (.cons rfl (.cons rfl (.nil _)))
 ·intro k hk
  generalize hi:(k:Int)=i
  refine Iv hT hm ?_
  rw[hA]
  cbv
  try simp only[nc]at*
  split
  ·rename_i h3
   simp only[hE,List.length_map,B2,B0,B1,Bz,Bv,Bm,Bj,Bx,Bc,Bd,Aw,Bk,A9,A0,Bq,Ax,Bb,Ba,B3,IntKind.wrap_i64,decide_eq_true_eq,decide_eq_false_iff_not,Bool.not_eq_true',Bool.not_eq_false',Option.getD_none,Option.getD_some,hn]at h3
   have hk':k<a.length:=by omega
   cbv
   try simp only[nc]at*
   repeat (refine And.intro (by first|(simp only[hE];exact Rv hx hi hk')|(simp only[hE,Fz hx hi hk'];exact⟨rfl⟩)|(simp only[hE,Fz hx hi hk'];exact⟨Nat.le_of_ble_eq_true rfl⟩)) ?_)
   have hmem:=F9 (fun x=>Dx x) (fun x=>Fk x) (List.getElem_mem hk')
   obtain⟨wv,hwv⟩:∃w,w=a[k]:=⟨_,rfl⟩
   have hev:qelt xs i=A8 wv:=by simp only[hE];rw[Fz hx hi hk',hwv]
   rw[←hwv]at hmem
   obtain⟨v_id,v_text,v_sure⟩:=wv
   rw[show qint (qnth (qelt xs i) 0)=v_id by rw[hev];simp only[hE];rfl,show qstr (qnth (qelt xs i) 1)=v_text by rw[hev];simp only[hE];rfl,show qint (qnth (qelt xs i) 2)=v_sure by rw[hev];simp only[hE];rfl]
   refine ClW.dd (f:=206) rfl rfl rfl rfl (.cons rfl (.cons rfl .nil)) rfl ent206_ (T206_ (by omega)) rfl ?_
   cbv
   try simp only[nc]at*
   rw[hself4]
   cbv
   try simp only[nc]at*
   refine⟨k+1,by omega,by omega,?_,by trivial⟩
   refine .cons rfl (.cons rfl (.cons ?_ (.nil _)))
   show AV.d (D.sc (Value.int IntKind.i64 (qbin .add .i64 i 1)))=_
   simp only[hE,Yw hi (by omega)]
  ·rename_i h3
   simp only[hE,List.length_map,B2,B0,B1,Bz,Bv,Bm,Bj,Bx,Bc,Bd,Aw,Bk,A9,A0,Bq,Ax,Bb,Ba,B3,IntKind.wrap_i64,decide_eq_true_eq,decide_eq_false_iff_not,Bool.not_eq_true',Bool.not_eq_false',Option.getD_none,Option.getD_some,hn]at h3
   cbv
   try simp only[nc]at*
   rw[←hQ]
   exact Dk rfl rfl
noncomputable def c207:Code:=(Tryz.f207.body).getD .skip
theorem Xmy:Dl Tryz.prog 207:=⟨_,Tryz.func207,rfl,rfl⟩
theorem T207{a_name:ByteArray}{a_id:Int}(hb:C1 ⟨a_name,a_id⟩≤1099511627776):CallOk Tryz.prog 207 [.agg [.d (.sc (.string a_name)),.d (.sc (.int .i64 a_id))],.agg [.d (.sc (.string a_name)),.d (.sc (.int .i64 a_id))]] [] ⟨.d (.sc (.bool true)),[],[]⟩:=by
 have hb':(a_name.size:Int)≤1099511627776:=hb
 refine CallOk.of_bodyD (body:=c207) Tryz.func207 rfl (Nat.le_of_ble_eq_true (by kernel_rfl)) rfl ?_
 refine Iv D3 mixed ?_
 have hT:=D3
 have hm:=mixed
 generalize hP:Tryz.prog=P at*
 generalize hA:std=A
 obtain⟨qbin,qsh,qcmp,qscmp,qbcmp,qbnot,qneg,qwrap,qcat,qssize,qssub,qsget,qlen,qrsub,qapp,qelt,qset,qnth,qdrp,qstr,qint,qbool,qrow,qnat,qnadd,qnsub,qband,qofNat,qstrRow,qmkRow,qmx,qmn,qbytes,qemp⟩:=A
 have hE:=Ar.eqs hA
 dsimp only at hE
 generalize hQ:EndD P Tryz.f207.results _=Q
 have hself:(∀v:Int,qcmp .neq v v=false)∧(∀v:ByteArray,qscmp .neq v v=false)∧(∀v:Bool,qbnot (qbcmp v v)=false)∧qbnot true=false:=by
  refine⟨fun v=>?_,fun v=>?_,fun v=>?_,?_⟩<;>simp only[hE,Bm,Nl,A0,Bk]<;>simp
 obtain⟨hself1,hself2,hself3,hself4⟩:=hself
 cbv
 try simp only[nc]at*
 rw[hself2]
 cbv
 try simp only[nc]at*
 rw[hself1]
 cbv
 try simp only[nc]at*
 rw[←hQ]
 exact Dk rfl rfl
noncomputable def c115:Code:=(Tryz.f115.body).getD .skip
theorem Xmw:Dl Tryz.prog 115:=⟨_,Tryz.func115,rfl,rfl⟩
theorem T115{a:List Ad}{xs:List (List D)}(hx:a.map Ac=xs)(hb:Cr a≤1099511627776):CallOk Tryz.prog 115 [.d (.row 2 xs),.d (.row 2 xs)] [] ⟨.d (.sc (.bool true)),[],[]⟩:=by
 have ent207_:=Xmy
 have T207_:=@T207
 have aa:(a.length:Int)+J7 (fun x=>C1 x) a≤1099511627776:=hb
 have hsn:=Cz (fun x=>C1 x) a (fun x _=>Ev x)
 refine CallOk.of_bodyD (body:=c115) Tryz.func115 rfl (Nat.le_of_ble_eq_true (by kernel_rfl)) rfl ?_
 refine Iv D3 mixed ?_
 have hT:=D3
 have hm:=mixed
 generalize hP:Tryz.prog=P at*
 generalize hA:std=A
 obtain⟨qbin,qsh,qcmp,qscmp,qbcmp,qbnot,qneg,qwrap,qcat,qssize,qssub,qsget,qlen,qrsub,qapp,qelt,qset,qnth,qdrp,qstr,qint,qbool,qrow,qnat,qnadd,qnsub,qband,qofNat,qstrRow,qmkRow,qmx,qmn,qbytes,qemp⟩:=A
 have hE:=Ar.eqs hA
 dsimp only at hE
 generalize hQ:EndD P Tryz.f115.results _=Q
 have hn:=Xj4 hx
 have hself:(∀v:Int,qcmp .neq v v=false)∧(∀v:ByteArray,qscmp .neq v v=false)∧(∀v:Bool,qbnot (qbcmp v v)=false)∧qbnot true=false:=by
  refine⟨fun v=>?_,fun v=>?_,fun v=>?_,?_⟩<;>simp only[hE,Bm,Nl,A0,Bk]<;>simp
 obtain⟨hself1,hself2,hself3,hself4⟩:=hself
 cbv
 try simp only[nc]at*
 rw[hself1]
 cbv
 try simp only[nc]at*
 refine LpW.of (κ:=Nat) (fun k=>k≤a.length) (fun k=>a.length - k) (fun k=>[(0,.d (.row 2 xs)),(1,.d (.row 2 xs)),(5,.d (.sc (.int .i64 k)))]) (fun _=>[]) 0 (by omega) ?_ (by first|rfl|trivial) ?_
 ·exact .cons rfl (.cons rfl (.cons rfl (.nil _)))
 ·intro k hk
  generalize hi:(k:Int)=i
  refine Iv hT hm ?_
  rw[hA]
  cbv
  try simp only[nc]at*
  split
  ·rename_i h3
   simp only[hE,List.length_map,B2,B0,B1,Bz,Bv,Bm,Bj,Bx,Bc,Bd,Aw,Bk,A9,A0,Bq,Ax,Bb,Ba,B3,IntKind.wrap_i64,decide_eq_true_eq,decide_eq_false_iff_not,Bool.not_eq_true',Bool.not_eq_false',Option.getD_none,Option.getD_some,hn]at h3
   have hk':k<a.length:=by omega
   cbv
   try simp only[nc]at*
   repeat (refine And.intro (by first|(simp only[hE];exact Rv hx hi hk')|(simp only[hE,Fz hx hi hk'];exact⟨rfl⟩)|(simp only[hE,Fz hx hi hk'];exact⟨Nat.le_of_ble_eq_true rfl⟩)) ?_)
   have hmem:=F9 (fun x=>C1 x) (fun x=>Ev x) (List.getElem_mem hk')
   obtain⟨wv,hwv⟩:∃w,w=a[k]:=⟨_,rfl⟩
   have hev:qelt xs i=Ac wv:=by simp only[hE];rw[Fz hx hi hk',hwv]
   rw[←hwv]at hmem
   obtain⟨v_name,v_id⟩:=wv
   rw[show qstr (qnth (qelt xs i) 0)=v_name by rw[hev];simp only[hE];rfl,show qint (qnth (qelt xs i) 1)=v_id by rw[hev];simp only[hE];rfl]
   refine ClW.dd (f:=207) rfl rfl rfl rfl (.cons rfl (.cons rfl .nil)) rfl ent207_ (T207_ (by omega)) rfl ?_
   cbv
   try simp only[nc]at*
   rw[hself4]
   cbv
   try simp only[nc]at*
   refine⟨k+1,by omega,by omega,?_,by trivial⟩
   refine .cons rfl (.cons rfl (.cons ?_ (.nil _)))
   show AV.d (D.sc (Value.int IntKind.i64 (qbin .add .i64 i 1)))=_
   simp only[hE,Yw hi (by omega)]
  ·rename_i h3
   simp only[hE,List.length_map,B2,B0,B1,Bz,Bv,Bm,Bj,Bx,Bc,Bd,Aw,Bk,A9,A0,Bq,Ax,Bb,Ba,B3,IntKind.wrap_i64,decide_eq_true_eq,decide_eq_false_iff_not,Bool.not_eq_true',Bool.not_eq_false',Option.getD_none,Option.getD_some,hn]at h3
   cbv
   try simp only[nc]at*
   rw[←hQ]
   exact Dk rfl rfl
noncomputable def c18:Code:=(Tryz.f18.body).getD .skip
theorem ent18:Dl Tryz.prog 18:=⟨_,Tryz.func18,rfl,rfl⟩
theorem T18{a:List ByteArray}{xs:List (List D)}(hx:a.map cS=xs)(hb:C6 a≤1099511627776):CallOk Tryz.prog 18 [.d (.row 1 xs),.d (.row 1 xs)] [] ⟨.d (.sc (.bool true)),[],[]⟩:=by
 have aa:(a.length:Int)+J7 (fun x=>(x.size:Int)) a≤1099511627776:=hb
 have hsn:=Cz (fun x=>(x.size:Int)) a (fun x _=>Fh x)
 refine CallOk.of_bodyD (body:=c18) Tryz.func18 rfl (Nat.le_of_ble_eq_true (by kernel_rfl)) rfl ?_
 refine Iv D3 mixed ?_
 have hT:=D3
 have hm:=mixed
 generalize hP:Tryz.prog=P at*
 generalize hA:std=A
 obtain⟨qbin,qsh,qcmp,qscmp,qbcmp,qbnot,qneg,qwrap,qcat,qssize,qssub,qsget,qlen,qrsub,qapp,qelt,qset,qnth,qdrp,qstr,qint,qbool,qrow,qnat,qnadd,qnsub,qband,qofNat,qstrRow,qmkRow,qmx,qmn,qbytes,qemp⟩:=A
 have hE:=Ar.eqs hA
 dsimp only at hE
 generalize hQ:EndD P Tryz.f18.results _=Q
 have hn:=Xj4 hx
 have hself:(∀v:Int,qcmp .neq v v=false)∧(∀v:ByteArray,qscmp .neq v v=false)∧(∀v:Bool,qbnot (qbcmp v v)=false)∧qbnot true=false:=by
  refine⟨fun v=>?_,fun v=>?_,fun v=>?_,?_⟩<;>simp only[hE,Bm,Nl,A0,Bk]<;>simp
 obtain⟨hself1,hself2,hself3,hself4⟩:=hself
 cbv
 try simp only[nc]at*
 rw[hself1]
 cbv
 try simp only[nc]at*
 refine LpW.of (κ:=Nat) (fun k=>k≤a.length) (fun k=>a.length - k) (fun k=>[(0,.d (.row 1 xs)),(1,.d (.row 1 xs)),(5,.d (.sc (.int .i64 k)))]) (fun _=>[]) 0 (by omega) ?_ (by first|rfl|trivial) ?_
 ·exact .cons rfl (.cons rfl (.cons rfl (.nil _)))
 ·intro k hk
  generalize hi:(k:Int)=i
  refine Iv hT hm ?_
  rw[hA]
  cbv
  try simp only[nc]at*
  split
  ·rename_i h3
   simp only[hE,List.length_map,B2,B0,B1,Bz,Bv,Bm,Bj,Bx,Bc,Bd,Aw,Bk,A9,A0,Bq,Ax,Bb,Ba,B3,IntKind.wrap_i64,decide_eq_true_eq,decide_eq_false_iff_not,Bool.not_eq_true',Bool.not_eq_false',Option.getD_none,Option.getD_some,hn]at h3
   have hk':k<a.length:=by omega
   cbv
   try simp only[nc]at*
   repeat (refine And.intro (by first|(simp only[hE];exact Rv hx hi hk')|(simp only[hE,Fz hx hi hk'];exact⟨rfl⟩)|(simp only[hE,Fz hx hi hk'];exact⟨Nat.le_of_ble_eq_true rfl⟩)) ?_)
   rw[hself2]
   cbv
   try simp only[nc]at*
   refine⟨k+1,by omega,by omega,?_,by trivial⟩
   refine .cons rfl (.cons rfl (.cons ?_ (.nil _)))
   show AV.d (D.sc (Value.int IntKind.i64 (qbin .add .i64 i 1)))=_
   simp only[hE,Yw hi (by omega)]
  ·rename_i h3
   simp only[hE,List.length_map,B2,B0,B1,Bz,Bv,Bm,Bj,Bx,Bc,Bd,Aw,Bk,A9,A0,Bq,Ax,Bb,Ba,B3,IntKind.wrap_i64,decide_eq_true_eq,decide_eq_false_iff_not,Bool.not_eq_true',Bool.not_eq_false',Option.getD_none,Option.getD_some,hn]at h3
   cbv
   try simp only[nc]at*
   rw[←hQ]
   exact Dk rfl rfl
noncomputable def c41:Code:=(Tryz.f41.body).getD .skip
theorem ent41:Dl Tryz.prog 41:=⟨_,Tryz.func41,rfl,rfl⟩
theorem T41{a_nodes:List Be}{xa_nodes:List (List D)}(ha_nodes:a_nodes.map A8=xa_nodes){a_entries:List Ad}{xa_entries:List (List D)}(ha_entries:a_entries.map Ac=xa_entries){a_old:List Ad}{xa_old:List (List D)}(ha_old:a_old.map Ac=xa_old){a_steps:List ByteArray}{xa_steps:List (List D)}(ha_steps:a_steps.map cS=xa_steps){a_room:Int}{a_next:Int}(hb:H3 ⟨a_nodes,a_entries,a_old,a_steps,a_room,a_next⟩≤1099511627776):CallOk Tryz.prog 41 [.agg [.d (.row 3 xa_nodes),.d (.row 2 xa_entries),.d (.row 2 xa_old),.d (.row 1 xa_steps),.d (.sc (.int .i64 a_room)),.d (.sc (.int .i64 a_next))],.agg [.d (.row 3 xa_nodes),.d (.row 2 xa_entries),.d (.row 2 xa_old),.d (.row 1 xa_steps),.d (.sc (.int .i64 a_room)),.d (.sc (.int .i64 a_next))]] [] ⟨.d (.sc (.bool true)),[],[]⟩:=by
 have ent18_:=ent18
 have T18_:=@T18
 have ent114_:=Xmg
 have T114_:=@T114
 have ent115_:=Xmw
 have T115_:=@T115
 have nna_nodes:=I9 a_nodes
 have nna_entries:=D4 a_entries
 have nna_old:=D4 a_old
 have nna_steps:=Hc a_steps
 have hb':D5 a_nodes+Cr a_entries+Cr a_old+C6 a_steps≤1099511627776:=hb
 refine CallOk.of_bodyD (body:=c41) Tryz.func41 rfl (Nat.le_of_ble_eq_true (by kernel_rfl)) rfl ?_
 refine Iv D3 mixed ?_
 have hT:=D3
 have hm:=mixed
 generalize hP:Tryz.prog=P at*
 generalize hA:std=A
 obtain⟨qbin,qsh,qcmp,qscmp,qbcmp,qbnot,qneg,qwrap,qcat,qssize,qssub,qsget,qlen,qrsub,qapp,qelt,qset,qnth,qdrp,qstr,qint,qbool,qrow,qnat,qnadd,qnsub,qband,qofNat,qstrRow,qmkRow,qmx,qmn,qbytes,qemp⟩:=A
 have hE:=Ar.eqs hA
 dsimp only at hE
 generalize hQ:EndD P Tryz.f41.results _=Q
 have hself:(∀v:Int,qcmp .neq v v=false)∧(∀v:ByteArray,qscmp .neq v v=false)∧(∀v:Bool,qbnot (qbcmp v v)=false)∧qbnot true=false:=by
  refine⟨fun v=>?_,fun v=>?_,fun v=>?_,?_⟩<;>simp only[hE,Bm,Nl,A0,Bk]<;>simp
 obtain⟨hself1,hself2,hself3,hself4⟩:=hself
 cbv
 try simp only[nc]at*
 refine ClW.dd (f:=114) rfl rfl rfl rfl (.cons rfl (.cons rfl .nil)) rfl ent114_ (T114_ ha_nodes (by omega)) rfl ?_
 cbv
 try simp only[nc]at*
 rw[hself4]
 cbv
 try simp only[nc]at*
 refine ClW.dd (f:=115) rfl rfl rfl rfl (.cons rfl (.cons rfl .nil)) rfl ent115_ (T115_ ha_entries (by omega)) rfl ?_
 cbv
 try simp only[nc]at*
 rw[hself4]
 cbv
 try simp only[nc]at*
 refine ClW.dd (f:=115) rfl rfl rfl rfl (.cons rfl (.cons rfl .nil)) rfl ent115_ (T115_ ha_old (by omega)) rfl ?_
 cbv
 try simp only[nc]at*
 rw[hself4]
 cbv
 try simp only[nc]at*
 refine ClW.dd (f:=18) rfl rfl rfl rfl (.cons rfl (.cons rfl .nil)) rfl ent18_ (T18_ ha_steps (by omega)) rfl ?_
 cbv
 try simp only[nc]at*
 rw[hself4]
 cbv
 try simp only[nc]at*
 rw[hself1]
 cbv
 try simp only[nc]at*
 rw[hself1]
 cbv
 try simp only[nc]at*
 rw[←hQ]
 exact Dk rfl rfl
end
end Go.Proofs.YtgdmjbcllgmepaaGreatDoor.Ab
