/- What functions come to. -/
import Derived.Test.YtjbmpmmffjgedaaGreatDoorCsH
set_option linter.unusedVariables false
set_option linter.unusedSimpArgs false
set_option maxRecDepth 20000
namespace Go.Proofs.YtjbmpmmffjgedaaGreatDoor.Ab
section
open Go Go.Proofs
noncomputable def c191:Code:=(Tryz.f191.body).getD .skip
theorem XlB:Dp Tryz.prog 191:=⟨_,Tryz.func191,rfl,rfl⟩
theorem T191{a_id:Int}{a_text:ByteArray}{a_sure:Int}{left:Int}(h0:0≤left)(h1:left<2^40)(hok:XeA ⟨a_id,a_text,a_sure⟩):
  CallOk Tryz.prog 191 [.agg [.d (.sc (.int .i64 a_id)),.d (.sc (.string a_text)),.d (.sc (.int .i64 a_sure))],.d (.sc (.int .i64 left))] [] ⟨.d (.sc (.int .i64 (Ie (El ⟨a_id,a_text,a_sure⟩) left))),[],[]⟩:=by
 refine CallOk.of_bodyD (body:=c191) Tryz.func191 rfl (Nat.le_of_ble_eq_true (by kernel_rfl)) rfl ?_
 refine Gz D1 mixed ?_
 have hT:=D1
 have hm:=mixed
 generalize hP:Tryz.prog=P at*
 generalize hA:std=A
 obtain⟨qbin,qsh,qcmp,qscmp,qbcmp,qbnot,qneg,qwrap,qcat,qssize,qssub,qsget,qlen,qrsub,qapp,qelt,qset,qnth,qdrp,qstr,qint,qbool,qrow,qnat,qnadd,qnsub,qband,qofNat,qstrRow,qmkRow,qmx,qmn,qbytes,qemp⟩:=A
 have hE:=Ar.eqs hA
 dsimp only at hE
 generalize hQ:EndD P Tryz.f191.results _=Q
 have hok':a_text.size<2^47:=hok
 generalize hto:El ⟨a_id,a_text,a_sure⟩=to at*
 have hto':(a_text.size:Int)=to:=hto
 clear hok hto
 have k0:=hok'
 cbv
 try simp only[nc]at*
 obtain⟨l0,aa⟩:∃l,l=left - (a_text.size:Int):=⟨_,rfl⟩
 rw[show qbin .sub .i64 left (qssize a_text)=l0 by simp only[hE,List.length_map,Bb,A8,Bc,Ba,A7,A3,A2,A6,Az,Aw,Aj,Bd,Ax,Av,A4,Ai,Ay,Au,A9,IntKind.wrap_i64,decide_eq_true_eq,decide_eq_false_iff_not,Bool.not_eq_true',Bool.not_eq_false',Option.getD_none,Option.getD_some,];omega]
 split
 ·rename_i h2
  simp only[hE,List.length_map,Bb,A8,Bc,Ba,A7,A3,A2,A6,Az,Aw,Aj,Bd,Ax,Av,A4,Ai,Ay,Au,A9,IntKind.wrap_i64,decide_eq_true_eq,decide_eq_false_iff_not,Bool.not_eq_true',Bool.not_eq_false',Option.getD_none,Option.getD_some]at h2
  cbv
  try simp only[nc]at*
  rw[←hQ,show Ie to left= -1 by unfold Ie;rw[if_neg (by omega)]]
  exact Eh rfl rfl
 rename_i h20
 simp only[hE,List.length_map,Bb,A8,Bc,Ba,A7,A3,A2,A6,Az,Aw,Aj,Bd,Ax,Av,A4,Ai,Ay,Au,A9,IntKind.wrap_i64,decide_eq_true_eq,decide_eq_false_iff_not,Bool.not_eq_true',Bool.not_eq_false',Option.getD_none,Option.getD_some]at h20
 cbv
 try simp only[nc]at*
 rw[←hQ,show Ie to left=l0 by unfold Ie;rw[if_pos (by omega)];omega]
 exact Eh rfl rfl
noncomputable def c109:Code:=(Tryz.f109.body).getD .skip
theorem Xll:Dp Tryz.prog 109:=⟨_,Tryz.func109,rfl,rfl⟩
theorem T109{a:List Bg}{xs:List (List D)}(hx:a.map Bi=xs){left:Int}(h0:0≤left)(h1:left<2^40)(hok:Xaj a):
  CallOk Tryz.prog 109 [.d (.row 3 xs),.d (.sc (.int .i64 left))] [] ⟨.d (.sc (.int .i64 (Ie (Ef a) left))),[],[]⟩:=by
 have ent191_:=XlB
 have T191_:=@T191
 obtain⟨ha,hs⟩:=hok
 refine CallOk.of_bodyD (body:=c109) Tryz.func109 rfl (Nat.le_of_ble_eq_true (by kernel_rfl)) rfl ?_
 refine Gz D1 mixed ?_
 have hT:=D1
 have hm:=mixed
 generalize hP:Tryz.prog=P at*
 generalize hA:std=A
 obtain⟨qbin,qsh,qcmp,qscmp,qbcmp,qbnot,qneg,qwrap,qcat,qssize,qssub,qsget,qlen,qrsub,qapp,qelt,qset,qnth,qdrp,qstr,qint,qbool,qrow,qnat,qnadd,qnsub,qband,qofNat,qstrRow,qmkRow,qmx,qmn,qbytes,qemp⟩:=A
 have hE:=Ar.eqs hA
 dsimp only at hE
 generalize hQ:EndD P Tryz.f109.results _=Q
 have hn:=Xi4 hx
 cbv
 try simp only[nc]at*
 split
 ·rename_i h2
  simp only[hE,List.length_map,Bb,A8,Bc,Ba,A7,A3,A2,A6,Az,Aw,Aj,Bd,Ax,Av,A4,Ai,Ay,Au,A9,IntKind.wrap_i64,decide_eq_true_eq,decide_eq_false_iff_not,Bool.not_eq_true',Bool.not_eq_false',Option.getD_none,Option.getD_some,hn]at h2
  cbv
  try simp only[nc]at*
  have:=Dg (fun x=>El x) a (fun x _=>Gs x)
  rw[←hQ,show Ie (Ef a) left= -1 by unfold Ie Ef;rw[if_neg (by omega)]]
  exact Eh rfl rfl
 ·rename_i h2
  simp only[hE,List.length_map,Bb,A8,Bc,Ba,A7,A3,A2,A6,Az,Aw,Aj,Bd,Ax,Av,A4,Ai,Ay,Au,A9,IntKind.wrap_i64,decide_eq_true_eq,decide_eq_false_iff_not,Bool.not_eq_true',Bool.not_eq_false',Option.getD_none,Option.getD_some,hn]at h2
  cbv
  try simp only[nc]at*
  refine LpW.of (κ:=Nat) (fun k=>k≤a.length∧0≤left - (a.length+Kc (fun x=>El x) (a.take k))) (fun k=>a.length - k) (fun k=>[(0,.d (.row 3 xs)),(1,.d (.sc (.int .i64 (left - (a.length+Kc (fun x=>El x) (a.take k)))))),(5,.d (.sc (.int .i64 k)))]) (fun _=>[]) 0 ⟨by omega,by simp[Kc];omega⟩ ?_ (by first|rfl|trivial) ?_
  ·refine .cons rfl (.cons ?_ (.cons rfl (.nil _)))
   show AV.d (D.sc (Value.int IntKind.i64 (qbin .sub .i64 left (qlen xs))))=_
   rw[show qbin .sub .i64 left (qlen xs)=left - a.length by simp only[hE,List.length_map,Bb,A8,Bc,Ba,A7,A3,A2,A6,Az,Aw,Aj,Bd,Ax,Av,A4,Ai,Ay,Au,A9,IntKind.wrap_i64,decide_eq_true_eq,decide_eq_false_iff_not,Bool.not_eq_true',Bool.not_eq_false',Option.getD_none,Option.getD_some,hn];omega]
   simp[Kc]
  ·rintro k ⟨hk,hl⟩
   generalize hleft:left - (a.length+Kc (fun x=>El x) (a.take k))=l at*
   generalize hi:(k:Int)=i
   refine Gz hT hm ?_
   rw[hA]
   cbv
   try simp only[nc]at*
   split
   ·rename_i h3
    simp only[hE,List.length_map,Bb,A8,Bc,Ba,A7,A3,A2,A6,Az,Aw,Aj,Bd,Ax,Av,A4,Ai,Ay,Au,A9,IntKind.wrap_i64,decide_eq_true_eq,decide_eq_false_iff_not,Bool.not_eq_true',Bool.not_eq_false',Option.getD_none,Option.getD_some,hn]at h3
    have hk':k<a.length:=by omega
    have hsz:=hs a[k] (List.getElem_mem hk')
    have hp:=Dg (fun x=>El x) (a.take k) (fun x _=>Gs x)
    have hsum:=Vn (fun x=>El x) a hk'
    have hle:=Nn (fun x=>El x) a (fun x _=>Gs x) (k+1)
    have hel:=Gs a[k]
    cbv
    try simp only[nc]at*
    repeat (refine And.intro (by first|(simp only[hE];exact M5 hx hi hk')|(simp only[hE,Er hx hi hk'];exact⟨rfl⟩)|(simp only[hE,Er hx hi hk'];exact⟨Nat.le_of_ble_eq_true rfl⟩)) ?_)
    obtain⟨wv,hwv⟩:∃w,w=a[k]:=⟨_,rfl⟩
    have hev:qelt xs i=Bi wv:=by simp only[hE];rw[Er hx hi hk',hwv]
    rw[←hwv]at hsz hsum hel
    obtain⟨v_id,v_text,v_sure⟩:=wv
    rw[show qint (qnth (qelt xs i) 0)=v_id by rw[hev];simp only[hE];rfl,show qstr (qnth (qelt xs i) 1)=v_text by rw[hev];simp only[hE];rfl,show qint (qnth (qelt xs i) 2)=v_sure by rw[hev];simp only[hE];rfl]
    refine ClW.dd (f:=191) rfl rfl rfl rfl (.cons rfl (.cons rfl .nil)) rfl ent191_ (T191_ (by omega) (by omega) hsz) rfl ?_
    generalize hl':Ie (El (⟨v_id,v_text,v_sure⟩:Bg)) l=l'
    cbv
    try simp only[nc]at*
    split
    ·rename_i h4
     simp only[hE,List.length_map,Bb,A8,Bc,Ba,A7,A3,A2,A6,Az,Aw,Aj,Bd,Ax,Av,A4,Ai,Ay,Au,A9,IntKind.wrap_i64,decide_eq_true_eq,decide_eq_false_iff_not,Bool.not_eq_true',Bool.not_eq_false',Option.getD_none,Option.getD_some]at h4
     cbv
     try simp only[nc]at*
     have hb:¬El (⟨v_id,v_text,v_sure⟩:Bg)≤l:=by intro hle';unfold Ie at hl';rw[if_pos hle']at hl';omega
     rw[←hQ,show Ie (Ef a) left= -1 by unfold Ie Ef;rw[if_neg (by omega)]]
     exact Eh rfl rfl
    ·rename_i h4
     simp only[hE,List.length_map,Bb,A8,Bc,Ba,A7,A3,A2,A6,Az,Aw,Aj,Bd,Ax,Av,A4,Ai,Ay,Au,A9,IntKind.wrap_i64,decide_eq_true_eq,decide_eq_false_iff_not,Bool.not_eq_true',Bool.not_eq_false',Option.getD_none,Option.getD_some]at h4
     obtain⟨g,g'⟩:=P5 (t:=El (⟨v_id,v_text,v_sure⟩:Bg)) (left:=l) (by omega)
     cbv
     try simp only[nc]at*
     refine⟨k+1,⟨by omega,by omega⟩,by omega,?_,by trivial⟩
     refine .cons rfl (.cons ?_ (.cons ?_ (.nil _)))
     ·rw[show left - (a.length+Kc (fun x=>El x) (a.take (k+1)))=l' by omega]
      rfl
     ·show AV.d (D.sc (Value.int IntKind.i64 (qbin .add .i64 i 1)))=_
      rw[show qbin .add .i64 i 1=((k+1:Nat):Int)by simp only[hE,List.length_map,Bb,A8,Bc,Ba,A7,A3,A2,A6,Az,Aw,Aj,Bd,Ax,Av,A4,Ai,Ay,Au,A9,IntKind.wrap_i64,decide_eq_true_eq,decide_eq_false_iff_not,Bool.not_eq_true',Bool.not_eq_false',Option.getD_none,Option.getD_some,];omega]
   ·rename_i h3
    simp only[hE,List.length_map,Bb,A8,Bc,Ba,A7,A3,A2,A6,Az,Aw,Aj,Bd,Ax,Av,A4,Ai,Ay,Au,A9,IntKind.wrap_i64,decide_eq_true_eq,decide_eq_false_iff_not,Bool.not_eq_true',Bool.not_eq_false',Option.getD_none,Option.getD_some,hn]at h3
    cbv
    try simp only[nc]at*
    have hk':k=a.length:=by omega
    subst hk'
    rw[List.take_length]at hleft
    rw[←hQ,show Ie (Ef a) left=l by unfold Ie Ef;rw[if_pos (by omega)];omega]
    exact Eh rfl rfl
noncomputable def c192:Code:=(Tryz.f192.body).getD .skip
theorem XlZ:Dp Tryz.prog 192:=⟨_,Tryz.func192,rfl,rfl⟩
theorem T192{a_name:ByteArray}{a_id:Int}{left:Int}(h0:0≤left)(h1:left<2^40)(hok:Xat ⟨a_name,a_id⟩):
  CallOk Tryz.prog 192 [.agg [.d (.sc (.string a_name)),.d (.sc (.int .i64 a_id))],.d (.sc (.int .i64 left))] [] ⟨.d (.sc (.int .i64 (Ie (Dj ⟨a_name,a_id⟩) left))),[],[]⟩:=by
 refine CallOk.of_bodyD (body:=c192) Tryz.func192 rfl (Nat.le_of_ble_eq_true (by kernel_rfl)) rfl ?_
 refine Gz D1 mixed ?_
 have hT:=D1
 have hm:=mixed
 generalize hP:Tryz.prog=P at*
 generalize hA:std=A
 obtain⟨qbin,qsh,qcmp,qscmp,qbcmp,qbnot,qneg,qwrap,qcat,qssize,qssub,qsget,qlen,qrsub,qapp,qelt,qset,qnth,qdrp,qstr,qint,qbool,qrow,qnat,qnadd,qnsub,qband,qofNat,qstrRow,qmkRow,qmx,qmn,qbytes,qemp⟩:=A
 have hE:=Ar.eqs hA
 dsimp only at hE
 generalize hQ:EndD P Tryz.f192.results _=Q
 have hok':a_name.size<2^47:=hok
 generalize hto:Dj ⟨a_name,a_id⟩=to at*
 have hto':(a_name.size:Int)=to:=hto
 clear hok hto
 have k0:=hok'
 cbv
 try simp only[nc]at*
 obtain⟨l0,aa⟩:∃l,l=left - (a_name.size:Int):=⟨_,rfl⟩
 rw[show qbin .sub .i64 left (qssize a_name)=l0 by simp only[hE,List.length_map,Bb,A8,Bc,Ba,A7,A3,A2,A6,Az,Aw,Aj,Bd,Ax,Av,A4,Ai,Ay,Au,A9,IntKind.wrap_i64,decide_eq_true_eq,decide_eq_false_iff_not,Bool.not_eq_true',Bool.not_eq_false',Option.getD_none,Option.getD_some,];omega]
 split
 ·rename_i h2
  simp only[hE,List.length_map,Bb,A8,Bc,Ba,A7,A3,A2,A6,Az,Aw,Aj,Bd,Ax,Av,A4,Ai,Ay,Au,A9,IntKind.wrap_i64,decide_eq_true_eq,decide_eq_false_iff_not,Bool.not_eq_true',Bool.not_eq_false',Option.getD_none,Option.getD_some]at h2
  cbv
  try simp only[nc]at*
  rw[←hQ,show Ie to left= -1 by unfold Ie;rw[if_neg (by omega)]]
  exact Eh rfl rfl
 rename_i h20
 simp only[hE,List.length_map,Bb,A8,Bc,Ba,A7,A3,A2,A6,Az,Aw,Aj,Bd,Ax,Av,A4,Ai,Ay,Au,A9,IntKind.wrap_i64,decide_eq_true_eq,decide_eq_false_iff_not,Bool.not_eq_true',Bool.not_eq_false',Option.getD_none,Option.getD_some]at h20
 cbv
 try simp only[nc]at*
 rw[←hQ,show Ie to left=l0 by unfold Ie;rw[if_pos (by omega)];omega]
 exact Eh rfl rfl
noncomputable def c110:Code:=(Tryz.f110.body).getD .skip
theorem Xlz:Dp Tryz.prog 110:=⟨_,Tryz.func110,rfl,rfl⟩
theorem T110{a:List Ad}{xs:List (List D)}(hx:a.map Ac=xs){left:Int}(h0:0≤left)(h1:left<2^40)(hok:O2 a):
  CallOk Tryz.prog 110 [.d (.row 2 xs),.d (.sc (.int .i64 left))] [] ⟨.d (.sc (.int .i64 (Ie (Cv a) left))),[],[]⟩:=by
 have ent192_:=XlZ
 have T192_:=@T192
 obtain⟨ha,hs⟩:=hok
 refine CallOk.of_bodyD (body:=c110) Tryz.func110 rfl (Nat.le_of_ble_eq_true (by kernel_rfl)) rfl ?_
 refine Gz D1 mixed ?_
 have hT:=D1
 have hm:=mixed
 generalize hP:Tryz.prog=P at*
 generalize hA:std=A
 obtain⟨qbin,qsh,qcmp,qscmp,qbcmp,qbnot,qneg,qwrap,qcat,qssize,qssub,qsget,qlen,qrsub,qapp,qelt,qset,qnth,qdrp,qstr,qint,qbool,qrow,qnat,qnadd,qnsub,qband,qofNat,qstrRow,qmkRow,qmx,qmn,qbytes,qemp⟩:=A
 have hE:=Ar.eqs hA
 dsimp only at hE
 generalize hQ:EndD P Tryz.f110.results _=Q
 have hn:=Xi4 hx
 cbv
 try simp only[nc]at*
 split
 ·rename_i h2
  simp only[hE,List.length_map,Bb,A8,Bc,Ba,A7,A3,A2,A6,Az,Aw,Aj,Bd,Ax,Av,A4,Ai,Ay,Au,A9,IntKind.wrap_i64,decide_eq_true_eq,decide_eq_false_iff_not,Bool.not_eq_true',Bool.not_eq_false',Option.getD_none,Option.getD_some,hn]at h2
  cbv
  try simp only[nc]at*
  have:=Dg (fun x=>Dj x) a (fun x _=>Fu x)
  rw[←hQ,show Ie (Cv a) left= -1 by unfold Ie Cv;rw[if_neg (by omega)]]
  exact Eh rfl rfl
 ·rename_i h2
  simp only[hE,List.length_map,Bb,A8,Bc,Ba,A7,A3,A2,A6,Az,Aw,Aj,Bd,Ax,Av,A4,Ai,Ay,Au,A9,IntKind.wrap_i64,decide_eq_true_eq,decide_eq_false_iff_not,Bool.not_eq_true',Bool.not_eq_false',Option.getD_none,Option.getD_some,hn]at h2
  cbv
  try simp only[nc]at*
  refine LpW.of (κ:=Nat) (fun k=>k≤a.length∧0≤left - (a.length+Kc (fun x=>Dj x) (a.take k))) (fun k=>a.length - k) (fun k=>[(0,.d (.row 2 xs)),(1,.d (.sc (.int .i64 (left - (a.length+Kc (fun x=>Dj x) (a.take k)))))),(5,.d (.sc (.int .i64 k)))]) (fun _=>[]) 0 ⟨by omega,by simp[Kc];omega⟩ ?_ (by first|rfl|trivial) ?_
  ·refine .cons rfl (.cons ?_ (.cons rfl (.nil _)))
   show AV.d (D.sc (Value.int IntKind.i64 (qbin .sub .i64 left (qlen xs))))=_
   rw[show qbin .sub .i64 left (qlen xs)=left - a.length by simp only[hE,List.length_map,Bb,A8,Bc,Ba,A7,A3,A2,A6,Az,Aw,Aj,Bd,Ax,Av,A4,Ai,Ay,Au,A9,IntKind.wrap_i64,decide_eq_true_eq,decide_eq_false_iff_not,Bool.not_eq_true',Bool.not_eq_false',Option.getD_none,Option.getD_some,hn];omega]
   simp[Kc]
  ·rintro k ⟨hk,hl⟩
   generalize hleft:left - (a.length+Kc (fun x=>Dj x) (a.take k))=l at*
   generalize hi:(k:Int)=i
   refine Gz hT hm ?_
   rw[hA]
   cbv
   try simp only[nc]at*
   split
   ·rename_i h3
    simp only[hE,List.length_map,Bb,A8,Bc,Ba,A7,A3,A2,A6,Az,Aw,Aj,Bd,Ax,Av,A4,Ai,Ay,Au,A9,IntKind.wrap_i64,decide_eq_true_eq,decide_eq_false_iff_not,Bool.not_eq_true',Bool.not_eq_false',Option.getD_none,Option.getD_some,hn]at h3
    have hk':k<a.length:=by omega
    have hsz:=hs a[k] (List.getElem_mem hk')
    have hp:=Dg (fun x=>Dj x) (a.take k) (fun x _=>Fu x)
    have hsum:=Vn (fun x=>Dj x) a hk'
    have hle:=Nn (fun x=>Dj x) a (fun x _=>Fu x) (k+1)
    have hel:=Fu a[k]
    cbv
    try simp only[nc]at*
    repeat (refine And.intro (by first|(simp only[hE];exact M5 hx hi hk')|(simp only[hE,Er hx hi hk'];exact⟨rfl⟩)|(simp only[hE,Er hx hi hk'];exact⟨Nat.le_of_ble_eq_true rfl⟩)) ?_)
    obtain⟨wv,hwv⟩:∃w,w=a[k]:=⟨_,rfl⟩
    have hev:qelt xs i=Ac wv:=by simp only[hE];rw[Er hx hi hk',hwv]
    rw[←hwv]at hsz hsum hel
    obtain⟨v_name,v_id⟩:=wv
    rw[show qstr (qnth (qelt xs i) 0)=v_name by rw[hev];simp only[hE];rfl,show qint (qnth (qelt xs i) 1)=v_id by rw[hev];simp only[hE];rfl]
    refine ClW.dd (f:=192) rfl rfl rfl rfl (.cons rfl (.cons rfl .nil)) rfl ent192_ (T192_ (by omega) (by omega) hsz) rfl ?_
    generalize hl':Ie (Dj (⟨v_name,v_id⟩:Ad)) l=l'
    cbv
    try simp only[nc]at*
    split
    ·rename_i h4
     simp only[hE,List.length_map,Bb,A8,Bc,Ba,A7,A3,A2,A6,Az,Aw,Aj,Bd,Ax,Av,A4,Ai,Ay,Au,A9,IntKind.wrap_i64,decide_eq_true_eq,decide_eq_false_iff_not,Bool.not_eq_true',Bool.not_eq_false',Option.getD_none,Option.getD_some]at h4
     cbv
     try simp only[nc]at*
     have hb:¬Dj (⟨v_name,v_id⟩:Ad)≤l:=by intro hle';unfold Ie at hl';rw[if_pos hle']at hl';omega
     rw[←hQ,show Ie (Cv a) left= -1 by unfold Ie Cv;rw[if_neg (by omega)]]
     exact Eh rfl rfl
    ·rename_i h4
     simp only[hE,List.length_map,Bb,A8,Bc,Ba,A7,A3,A2,A6,Az,Aw,Aj,Bd,Ax,Av,A4,Ai,Ay,Au,A9,IntKind.wrap_i64,decide_eq_true_eq,decide_eq_false_iff_not,Bool.not_eq_true',Bool.not_eq_false',Option.getD_none,Option.getD_some]at h4
     obtain⟨g,g'⟩:=P5 (t:=Dj (⟨v_name,v_id⟩:Ad)) (left:=l) (by omega)
     cbv
     try simp only[nc]at*
     refine⟨k+1,⟨by omega,by omega⟩,by omega,?_,by trivial⟩
     refine .cons rfl (.cons ?_ (.cons ?_ (.nil _)))
     ·rw[show left - (a.length+Kc (fun x=>Dj x) (a.take (k+1)))=l' by omega]
      rfl
     ·show AV.d (D.sc (Value.int IntKind.i64 (qbin .add .i64 i 1)))=_
      rw[show qbin .add .i64 i 1=((k+1:Nat):Int)by simp only[hE,List.length_map,Bb,A8,Bc,Ba,A7,A3,A2,A6,Az,Aw,Aj,Bd,Ax,Av,A4,Ai,Ay,Au,A9,IntKind.wrap_i64,decide_eq_true_eq,decide_eq_false_iff_not,Bool.not_eq_true',Bool.not_eq_false',Option.getD_none,Option.getD_some,];omega]
   ·rename_i h3
    simp only[hE,List.length_map,Bb,A8,Bc,Ba,A7,A3,A2,A6,Az,Aw,Aj,Bd,Ax,Av,A4,Ai,Ay,Au,A9,IntKind.wrap_i64,decide_eq_true_eq,decide_eq_false_iff_not,Bool.not_eq_true',Bool.not_eq_false',Option.getD_none,Option.getD_some,hn]at h3
    cbv
    try simp only[nc]at*
    have hk':k=a.length:=by omega
    subst hk'
    rw[List.take_length]at hleft
    rw[←hQ,show Ie (Cv a) left=l by unfold Ie Cv;rw[if_pos (by omega)];omega]
    exact Eh rfl rfl
noncomputable def c111:Code:=(Tryz.f111.body).getD .skip
theorem XlK:Dp Tryz.prog 111:=⟨_,Tryz.func111,rfl,rfl⟩
theorem T111{a:List ByteArray}{xs:List (List D)}(hx:a.map cS=xs){left:Int}(h0:0≤left)(h1:left<2^40)(hok:Qx a):
  CallOk Tryz.prog 111 [.d (.row 1 xs),.d (.sc (.int .i64 left))] [] ⟨.d (.sc (.int .i64 (Ie (De a) left))),[],[]⟩:=by
 obtain⟨ha,hs⟩:=hok
 refine CallOk.of_bodyD (body:=c111) Tryz.func111 rfl (Nat.le_of_ble_eq_true (by kernel_rfl)) rfl ?_
 refine Gz D1 mixed ?_
 have hT:=D1
 have hm:=mixed
 generalize hP:Tryz.prog=P at*
 generalize hA:std=A
 obtain⟨qbin,qsh,qcmp,qscmp,qbcmp,qbnot,qneg,qwrap,qcat,qssize,qssub,qsget,qlen,qrsub,qapp,qelt,qset,qnth,qdrp,qstr,qint,qbool,qrow,qnat,qnadd,qnsub,qband,qofNat,qstrRow,qmkRow,qmx,qmn,qbytes,qemp⟩:=A
 have hE:=Ar.eqs hA
 dsimp only at hE
 generalize hQ:EndD P Tryz.f111.results _=Q
 have hn:=Xi4 hx
 cbv
 try simp only[nc]at*
 split
 ·rename_i h2
  simp only[hE,List.length_map,Bb,A8,Bc,Ba,A7,A3,A2,A6,Az,Aw,Aj,Bd,Ax,Av,A4,Ai,Ay,Au,A9,IntKind.wrap_i64,decide_eq_true_eq,decide_eq_false_iff_not,Bool.not_eq_true',Bool.not_eq_false',Option.getD_none,Option.getD_some,hn]at h2
  cbv
  try simp only[nc]at*
  have:=Dg (fun x=>(x.size:Int)) a (fun x _=>F7 x)
  rw[←hQ,show Ie (De a) left= -1 by unfold Ie De;rw[if_neg (by omega)]]
  exact Eh rfl rfl
 ·rename_i h2
  simp only[hE,List.length_map,Bb,A8,Bc,Ba,A7,A3,A2,A6,Az,Aw,Aj,Bd,Ax,Av,A4,Ai,Ay,Au,A9,IntKind.wrap_i64,decide_eq_true_eq,decide_eq_false_iff_not,Bool.not_eq_true',Bool.not_eq_false',Option.getD_none,Option.getD_some,hn]at h2
  cbv
  try simp only[nc]at*
  refine LpW.of (κ:=Nat) (fun k=>k≤a.length∧0≤left - (a.length+Kc (fun x=>(x.size:Int)) (a.take k))) (fun k=>a.length - k) (fun k=>[(0,.d (.row 1 xs)),(1,.d (.sc (.int .i64 (left - (a.length+Kc (fun x=>(x.size:Int)) (a.take k)))))),(5,.d (.sc (.int .i64 k)))]) (fun _=>[]) 0 ⟨by omega,by simp[Kc];omega⟩ ?_ (by first|rfl|trivial) ?_
  ·refine .cons rfl (.cons ?_ (.cons rfl (.nil _)))
   show AV.d (D.sc (Value.int IntKind.i64 (qbin .sub .i64 left (qlen xs))))=_
   rw[show qbin .sub .i64 left (qlen xs)=left - a.length by simp only[hE,List.length_map,Bb,A8,Bc,Ba,A7,A3,A2,A6,Az,Aw,Aj,Bd,Ax,Av,A4,Ai,Ay,Au,A9,IntKind.wrap_i64,decide_eq_true_eq,decide_eq_false_iff_not,Bool.not_eq_true',Bool.not_eq_false',Option.getD_none,Option.getD_some,hn];omega]
   simp[Kc]
  ·rintro k ⟨hk,hl⟩
   generalize hleft:left - (a.length+Kc (fun x=>(x.size:Int)) (a.take k))=l at*
   generalize hi:(k:Int)=i
   refine Gz hT hm ?_
   rw[hA]
   cbv
   try simp only[nc]at*
   split
   ·rename_i h3
    simp only[hE,List.length_map,Bb,A8,Bc,Ba,A7,A3,A2,A6,Az,Aw,Aj,Bd,Ax,Av,A4,Ai,Ay,Au,A9,IntKind.wrap_i64,decide_eq_true_eq,decide_eq_false_iff_not,Bool.not_eq_true',Bool.not_eq_false',Option.getD_none,Option.getD_some,hn]at h3
    have hk':k<a.length:=by omega
    have hsz:=hs a[k] (List.getElem_mem hk')
    have hp:=Dg (fun x=>(x.size:Int)) (a.take k) (fun x _=>F7 x)
    have hsum:=Vn (fun x=>(x.size:Int)) a hk'
    have hle:=Nn (fun x=>(x.size:Int)) a (fun x _=>F7 x) (k+1)
    have hel:=F7 a[k]
    cbv
    try simp only[nc]at*
    repeat (refine And.intro (by first|(simp only[hE];exact M5 hx hi hk')|(simp only[hE,Er hx hi hk'];exact⟨rfl⟩)|(simp only[hE,Er hx hi hk'];exact⟨Nat.le_of_ble_eq_true rfl⟩)) ?_)
    obtain⟨s,hsk⟩:∃s,s=a[k]:=⟨_,rfl⟩
    rw[show qstr (qnth (qelt xs i) 0)=s by rw[hsk];simp only[hE,Er hx hi hk'];rfl]
    rw[←hsk]at hsz hsum hel
    obtain⟨l',hl'⟩:∃l',l'=l - (s.size:Int):=⟨_,rfl⟩
    rw[show qbin .sub .i64 l (qssize s)=l' by simp only[hE,List.length_map,Bb,A8,Bc,Ba,A7,A3,A2,A6,Az,Aw,Aj,Bd,Ax,Av,A4,Ai,Ay,Au,A9,IntKind.wrap_i64,decide_eq_true_eq,decide_eq_false_iff_not,Bool.not_eq_true',Bool.not_eq_false',Option.getD_none,Option.getD_some,];omega]
    split
    ·rename_i h4
     simp only[hE,List.length_map,Bb,A8,Bc,Ba,A7,A3,A2,A6,Az,Aw,Aj,Bd,Ax,Av,A4,Ai,Ay,Au,A9,IntKind.wrap_i64,decide_eq_true_eq,decide_eq_false_iff_not,Bool.not_eq_true',Bool.not_eq_false',Option.getD_none,Option.getD_some]at h4
     cbv
     try simp only[nc]at*
     rw[←hQ,show Ie (De a) left= -1 by unfold Ie De;rw[if_neg (by omega)]]
     exact Eh rfl rfl
    ·rename_i h4
     simp only[hE,List.length_map,Bb,A8,Bc,Ba,A7,A3,A2,A6,Az,Aw,Aj,Bd,Ax,Av,A4,Ai,Ay,Au,A9,IntKind.wrap_i64,decide_eq_true_eq,decide_eq_false_iff_not,Bool.not_eq_true',Bool.not_eq_false',Option.getD_none,Option.getD_some]at h4
     cbv
     try simp only[nc]at*
     refine⟨k+1,⟨by omega,by omega⟩,by omega,?_,by trivial⟩
     refine .cons rfl (.cons ?_ (.cons ?_ (.nil _)))
     ·rw[show left - (a.length+Kc (fun x=>(x.size:Int)) (a.take (k+1)))=l' by omega]
      rfl
     ·show AV.d (D.sc (Value.int IntKind.i64 (qbin .add .i64 i 1)))=_
      rw[show qbin .add .i64 i 1=((k+1:Nat):Int)by simp only[hE,List.length_map,Bb,A8,Bc,Ba,A7,A3,A2,A6,Az,Aw,Aj,Bd,Ax,Av,A4,Ai,Ay,Au,A9,IntKind.wrap_i64,decide_eq_true_eq,decide_eq_false_iff_not,Bool.not_eq_true',Bool.not_eq_false',Option.getD_none,Option.getD_some,];omega]
   ·rename_i h3
    simp only[hE,List.length_map,Bb,A8,Bc,Ba,A7,A3,A2,A6,Az,Aw,Aj,Bd,Ax,Av,A4,Ai,Ay,Au,A9,IntKind.wrap_i64,decide_eq_true_eq,decide_eq_false_iff_not,Bool.not_eq_true',Bool.not_eq_false',Option.getD_none,Option.getD_some,hn]at h3
    cbv
    try simp only[nc]at*
    have hk':k=a.length:=by omega
    subst hk'
    rw[List.take_length]at hleft
    rw[←hQ,show Ie (De a) left=l by unfold Ie De;rw[if_pos (by omega)];omega]
    exact Eh rfl rfl
noncomputable def c47:Code:=(Tryz.f47.body).getD .skip
theorem ent47:Dp Tryz.prog 47:=⟨_,Tryz.func47,rfl,rfl⟩
theorem T47{a_nodes:List Bg}{xa_nodes:List (List D)}(ha_nodes:a_nodes.map Bi=xa_nodes){a_entries:List Ad}{xa_entries:List (List D)}(ha_entries:a_entries.map Ac=xa_entries){a_old:List Ad}{xa_old:List (List D)}(ha_old:a_old.map Ac=xa_old){a_steps:List ByteArray}{xa_steps:List (List D)}(ha_steps:a_steps.map cS=xa_steps){a_room:Int}{a_next:Int}{left:Int}(h0:0≤left)(h1:left<2^40)(hok:Xej ⟨a_nodes,a_entries,a_old,a_steps,a_room,a_next⟩):
  CallOk Tryz.prog 47 [.agg [.d (.row 3 xa_nodes),.d (.row 2 xa_entries),.d (.row 2 xa_old),.d (.row 1 xa_steps),.d (.sc (.int .i64 a_room)),.d (.sc (.int .i64 a_next))],.d (.sc (.int .i64 left))] [] ⟨.d (.sc (.int .i64 (Ie (Lk ⟨a_nodes,a_entries,a_old,a_steps,a_room,a_next⟩) left))),[],[]⟩:=by
 have ent109_:=Xll
 have T109_:=@T109
 have ent110_:=Xlz
 have T110_:=@T110
 have ent111_:=XlK
 have T111_:=@T111
 refine CallOk.of_bodyD (body:=c47) Tryz.func47 rfl (Nat.le_of_ble_eq_true (by kernel_rfl)) rfl ?_
 refine Gz D1 mixed ?_
 have hT:=D1
 have hm:=mixed
 generalize hP:Tryz.prog=P at*
 generalize hA:std=A
 obtain⟨qbin,qsh,qcmp,qscmp,qbcmp,qbnot,qneg,qwrap,qcat,qssize,qssub,qsget,qlen,qrsub,qapp,qelt,qset,qnth,qdrp,qstr,qint,qbool,qrow,qnat,qnadd,qnsub,qband,qofNat,qstrRow,qmkRow,qmx,qmn,qbytes,qemp⟩:=A
 have hE:=Ar.eqs hA
 dsimp only at hE
 generalize hQ:EndD P Tryz.f47.results _=Q
 have nna_nodes:=Ki a_nodes
 have nna_entries:=Ez a_entries
 have nna_old:=Ez a_old
 have nna_steps:=Hy a_steps
 have hok':Xaj a_nodes∧O2 a_entries∧O2 a_old∧Qx a_steps:=hok
 generalize hto:Lk ⟨a_nodes,a_entries,a_old,a_steps,a_room,a_next⟩=to at*
 have hto':Ef a_nodes+Cv a_entries+Cv a_old+De a_steps=to:=hto
 clear hok hto
 obtain⟨k0,k1,k2,k3⟩:=hok'
 cbv
 try simp only[nc]at*
 refine ClW.dd (f:=109) rfl rfl rfl rfl (.cons rfl (.cons rfl .nil)) rfl ent109_ (T109_ ha_nodes (by omega) (by omega) k0) rfl ?_
 generalize aa:Ie (Ef a_nodes) left=l0
 cbv
 try simp only[nc]at*
 split
 ·rename_i h2
  simp only[hE,List.length_map,Bb,A8,Bc,Ba,A7,A3,A2,A6,Az,Aw,Aj,Bd,Ax,Av,A4,Ai,Ay,Au,A9,IntKind.wrap_i64,decide_eq_true_eq,decide_eq_false_iff_not,Bool.not_eq_true',Bool.not_eq_false',Option.getD_none,Option.getD_some]at h2
  cbv
  try simp only[nc]at*
  have ae:¬Ef a_nodes≤left:=by intro hle;unfold Ie at aa;rw[if_pos hle]at aa;omega
  rw[←hQ,show Ie to left= -1 by unfold Ie;rw[if_neg (by omega)]]
  exact Eh rfl rfl
 rename_i h20
 simp only[hE,List.length_map,Bb,A8,Bc,Ba,A7,A3,A2,A6,Az,Aw,Aj,Bd,Ax,Av,A4,Ai,Ay,Au,A9,IntKind.wrap_i64,decide_eq_true_eq,decide_eq_false_iff_not,Bool.not_eq_true',Bool.not_eq_false',Option.getD_none,Option.getD_some]at h20
 obtain⟨g0,g0'⟩:=P5 (t:=Ef a_nodes) (left:=left) (by omega)
 cbv
 try simp only[nc]at*
 refine ClW.dd (f:=110) rfl rfl rfl rfl (.cons rfl (.cons rfl .nil)) rfl ent110_ (T110_ ha_entries (by omega) (by omega) k1) rfl ?_
 generalize ab:Ie (Cv a_entries) l0=l1
 cbv
 try simp only[nc]at*
 split
 ·rename_i h2
  simp only[hE,List.length_map,Bb,A8,Bc,Ba,A7,A3,A2,A6,Az,Aw,Aj,Bd,Ax,Av,A4,Ai,Ay,Au,A9,IntKind.wrap_i64,decide_eq_true_eq,decide_eq_false_iff_not,Bool.not_eq_true',Bool.not_eq_false',Option.getD_none,Option.getD_some]at h2
  cbv
  try simp only[nc]at*
  have af:¬Cv a_entries≤l0:=by intro hle;unfold Ie at ab;rw[if_pos hle]at ab;omega
  rw[←hQ,show Ie to left= -1 by unfold Ie;rw[if_neg (by omega)]]
  exact Eh rfl rfl
 rename_i h21
 simp only[hE,List.length_map,Bb,A8,Bc,Ba,A7,A3,A2,A6,Az,Aw,Aj,Bd,Ax,Av,A4,Ai,Ay,Au,A9,IntKind.wrap_i64,decide_eq_true_eq,decide_eq_false_iff_not,Bool.not_eq_true',Bool.not_eq_false',Option.getD_none,Option.getD_some]at h21
 obtain⟨g1,g1'⟩:=P5 (t:=Cv a_entries) (left:=l0) (by omega)
 cbv
 try simp only[nc]at*
 refine ClW.dd (f:=110) rfl rfl rfl rfl (.cons rfl (.cons rfl .nil)) rfl ent110_ (T110_ ha_old (by omega) (by omega) k2) rfl ?_
 generalize ac:Ie (Cv a_old) l1=l2
 cbv
 try simp only[nc]at*
 split
 ·rename_i h2
  simp only[hE,List.length_map,Bb,A8,Bc,Ba,A7,A3,A2,A6,Az,Aw,Aj,Bd,Ax,Av,A4,Ai,Ay,Au,A9,IntKind.wrap_i64,decide_eq_true_eq,decide_eq_false_iff_not,Bool.not_eq_true',Bool.not_eq_false',Option.getD_none,Option.getD_some]at h2
  cbv
  try simp only[nc]at*
  have hb2:¬Cv a_old≤l1:=by intro hle;unfold Ie at ac;rw[if_pos hle]at ac;omega
  rw[←hQ,show Ie to left= -1 by unfold Ie;rw[if_neg (by omega)]]
  exact Eh rfl rfl
 rename_i h22
 simp only[hE,List.length_map,Bb,A8,Bc,Ba,A7,A3,A2,A6,Az,Aw,Aj,Bd,Ax,Av,A4,Ai,Ay,Au,A9,IntKind.wrap_i64,decide_eq_true_eq,decide_eq_false_iff_not,Bool.not_eq_true',Bool.not_eq_false',Option.getD_none,Option.getD_some]at h22
 obtain⟨g2,g2'⟩:=P5 (t:=Cv a_old) (left:=l1) (by omega)
 cbv
 try simp only[nc]at*
 refine ClW.dd (f:=111) rfl rfl rfl rfl (.cons rfl (.cons rfl .nil)) rfl ent111_ (T111_ ha_steps (by omega) (by omega) k3) rfl ?_
 generalize ad:Ie (De a_steps) l2=l3
 cbv
 try simp only[nc]at*
 split
 ·rename_i h2
  simp only[hE,List.length_map,Bb,A8,Bc,Ba,A7,A3,A2,A6,Az,Aw,Aj,Bd,Ax,Av,A4,Ai,Ay,Au,A9,IntKind.wrap_i64,decide_eq_true_eq,decide_eq_false_iff_not,Bool.not_eq_true',Bool.not_eq_false',Option.getD_none,Option.getD_some]at h2
  cbv
  try simp only[nc]at*
  have ag:¬De a_steps≤l2:=by intro hle;unfold Ie at ad;rw[if_pos hle]at ad;omega
  rw[←hQ,show Ie to left= -1 by unfold Ie;rw[if_neg (by omega)]]
  exact Eh rfl rfl
 rename_i h23
 simp only[hE,List.length_map,Bb,A8,Bc,Ba,A7,A3,A2,A6,Az,Aw,Aj,Bd,Ax,Av,A4,Ai,Ay,Au,A9,IntKind.wrap_i64,decide_eq_true_eq,decide_eq_false_iff_not,Bool.not_eq_true',Bool.not_eq_false',Option.getD_none,Option.getD_some]at h23
 obtain⟨g3,g3'⟩:=P5 (t:=De a_steps) (left:=l2) (by omega)
 cbv
 try simp only[nc]at*
 rw[←hQ,show Ie to left=l3 by unfold Ie;rw[if_pos (by omega)];omega]
 exact Eh rfl rfl
end
section
open Go Go.Proofs
noncomputable def c196:Code:=(Tryz.f196.body).getD .skip
theorem Xl6:Dp Tryz.prog 196:=⟨_,Tryz.func196,rfl,rfl⟩
theorem T196{a_id:Int}{a_text:ByteArray}{a_sure:Int}(hb:El ⟨a_id,a_text,a_sure⟩≤1048576):CallOk Tryz.prog 196 [.agg [.d (.sc (.int .i64 a_id)),.d (.sc (.string a_text)),.d (.sc (.int .i64 a_sure))]] [] ⟨.agg [.d (.sc (.int .i64 a_id)),.d (.sc (.string a_text)),.d (.sc (.int .i64 a_sure))],[],[]⟩:=by
 have hb':(a_text.size:Int)≤1048576:=hb
 refine CallOk.of_bodyD (body:=c196) Tryz.func196 rfl (Nat.le_of_ble_eq_true (by kernel_rfl)) rfl ?_
 refine Gz D1 mixed ?_
 have hT:=D1
 have hm:=mixed
 generalize hP:Tryz.prog=P at*
 generalize hA:std=A
 obtain⟨qbin,qsh,qcmp,qscmp,qbcmp,qbnot,qneg,qwrap,qcat,qssize,qssub,qsget,qlen,qrsub,qapp,qelt,qset,qnth,qdrp,qstr,qint,qbool,qrow,qnat,qnadd,qnsub,qband,qofNat,qstrRow,qmkRow,qmx,qmn,qbytes,qemp⟩:=A
 have hE:=Ar.eqs hA
 dsimp only at hE
 generalize hQ:EndD P Tryz.f196.results _=Q
 cbv
 try simp only[nc]at*
 rw[←hQ]
 exact Ve hT (by rfl) (by rfl) (by rfl) (by rfl) rfl
noncomputable def c116:Code:=(Tryz.f116.body).getD .skip
theorem Xkd:Dp Tryz.prog 116:=⟨_,Tryz.func116,rfl,rfl⟩
theorem Xlt{a:List Bg}{xs:List (List D)}(hx:a.map Bi=xs)(hb:Ef a≤1048576):CallOk Tryz.prog 116 [.d (.row 3 xs)] [] ⟨.ref 0 0 a.length,[.row 3 false xs],[]⟩:=by
 have ent196_:=Xl6
 have T196_:=@T196
 have aa:(a.length:Int)+Kc (fun x=>El x) a≤1048576:=hb
 have hsn:=Dg (fun x=>El x) a (fun x _=>Gs x)
 refine CallOk.of_body (body:=c116) Tryz.func116 rfl (Nat.le_of_ble_eq_true (by kernel_rfl)) rfl rfl ?_
 refine Gz D1 mixed ?_
 have hT:=D1
 have hm:=mixed
 generalize hP:Tryz.prog=P at*
 generalize hA:std=A
 obtain⟨qbin,qsh,qcmp,qscmp,qbcmp,qbnot,qneg,qwrap,qcat,qssize,qssub,qsget,qlen,qrsub,qapp,qelt,qset,qnth,qdrp,qstr,qint,qbool,qrow,qnat,qnadd,qnsub,qband,qofNat,qstrRow,qmkRow,qmx,qmn,qbytes,qemp⟩:=A
 have hE:=Ar.eqs hA
 dsimp only at hE
 generalize hQ:EndQ P Tryz.f116.results [] _=Q
 have hn:=Xi4 hx
 cbv
 try simp only[nc]at*
 refine⟨?_,?_⟩
 ·simp only[hE,List.length_map,Bb,A8,Bc,Ba,A7,A3,A2,A6,Az,Aw,Aj,Bd,Ax,Av,A4,Ai,Ay,Au,A9,IntKind.wrap_i64,decide_eq_true_eq,decide_eq_false_iff_not,Bool.not_eq_true',Bool.not_eq_false',Option.getD_none,Option.getD_some,hn];exact⟨by omega,by omega,by omega,by omega⟩
 refine LpW.of (κ:=Nat) (fun k=>k≤a.length) (fun k=>a.length - k) (fun k=>[(0,.d (.row 3 xs)),(3,.ref 1 0 a.length),(4,.d (.sc (.int .i64 k)))]) (fun k=>[.row 3 false [],.row 3 false (Ko Bi a [.sc (.int .i64 0),.sc (.string default),.sc (.int .i64 0)] k)]) 0 (by simp) ?_ ?_ ?_
 ·refine .cons rfl (.cons ?_ (.cons rfl (.nil _)))
  show AV.ref 1 0 (qnat (qlen xs))=_
  simp only[hE,A2,A4,hn,Int.toNat_natCast]
 ·show[Root.row 3 false [],Root.row 3 false (qmkRow (qlen xs) [.sc (.int .i64 0),.sc (.string default),.sc (.int .i64 0)])]=_
  simp only[hE,A2,hn,Xc9]
  rfl
 ·intro k hk
  generalize hz:Ko Bi a [.sc (.int .i64 0),.sc (.string default),.sc (.int .i64 0)] k=zs
  generalize hi:(k:Int)=i
  generalize hm':a.length=m
  refine Gz hT hm ?_
  rw[hA]
  cbv
  try simp only[nc]at*
  split
  ·rename_i h2
   simp only[hE,List.length_map,Bb,A8,Bc,Ba,A7,A3,A2,A6,Az,Aw,Aj,Bd,Ax,Av,A4,Ai,Ay,Au,A9,IntKind.wrap_i64,decide_eq_true_eq,decide_eq_false_iff_not,Bool.not_eq_true',Bool.not_eq_false',Option.getD_none,Option.getD_some,hn]at h2
   have hk':k<a.length:=by omega
   cbv
   try simp only[nc]at*
   repeat (refine And.intro (by first|(simp only[hE];exact M5 hx hi hk')|(simp only[hE,Er hx hi hk'];exact⟨rfl⟩)|(simp only[hE,Er hx hi hk'];exact⟨Nat.le_of_ble_eq_true rfl⟩)) ?_)
   have hset:=Xha hk' hz hi (by rfl)
   have hmem:=Hj (fun x=>El x) (fun x=>Gs x) (List.getElem_mem hk')
   obtain⟨wv,hwv⟩:∃w,w=a[k]:=⟨_,rfl⟩
   have hev:qelt xs i=Bi wv:=by simp only[hE];rw[Er hx hi hk',hwv]
   rw[←hwv]at hset hmem
   obtain⟨v_id,v_text,v_sure⟩:=wv
   rw[show qint (qnth (qelt xs i) 0)=v_id by rw[hev];simp only[hE];rfl,show qstr (qnth (qelt xs i) 1)=v_text by rw[hev];simp only[hE];rfl,show qint (qnth (qelt xs i) 2)=v_sure by rw[hev];simp only[hE];rfl]
   refine ClW.dd (f:=196) rfl rfl rfl rfl (.cons rfl .nil) rfl ent196_ (T196_ (by omega)) rfl ?_
   cbv
   try simp only[nc]at*
   refine⟨?_,?_,?_,k+1,by omega,by omega,?_,?_⟩
   ·simp only[hE,List.length_map,Bb,A8,Bc,Ba,A7,A3,A2,A6,Az,Aw,Aj,Bd,Ax,Av,A4,Ai,Ay,Au,A9,IntKind.wrap_i64,decide_eq_true_eq,decide_eq_false_iff_not,Bool.not_eq_true',Bool.not_eq_false',Option.getD_none,Option.getD_some,];exact⟨by omega,by omega⟩
   ·simp only[hE];exact Xhf hk' hz hi
   ·simp only[hE];exact Zd hk' hz hi (Nat.le_refl _)
   ·refine .cons rfl (.cons rfl (.cons ?_ (.nil _)))
    show AV.d (D.sc (Value.int IntKind.i64 (qbin .add .i64 i 1)))=_
    simp only[hE,Qu hi (by omega)]
   ·have e:Bi (⟨v_id,v_text,v_sure⟩:Bg)=[.sc (.int .i64 v_id),.sc (.string v_text),.sc (.int .i64 v_sure)]:=rfl
    simp only[hE]
    rw[e]at hset
    rw[←hset]
    try rfl
  ·rename_i h2
   simp only[hE,List.length_map,Bb,A8,Bc,Ba,A7,A3,A2,A6,Az,Aw,Aj,Bd,Ax,Av,A4,Ai,Ay,Au,A9,IntKind.wrap_i64,decide_eq_true_eq,decide_eq_false_iff_not,Bool.not_eq_true',Bool.not_eq_false',Option.getD_none,Option.getD_some,hn]at h2
   cbv
   try simp only[nc]at*
   have hk':k=a.length:=by omega
   subst hk'
   rw[←hQ,hm']
   rw[XhL]at hz
   have hxz:zs=xs:=by rw[←hz,hx]
   subst hxz
   exact Y9 rfl rfl
theorem T116{a:List Bg}{xs:List (List D)}(hx:a.map Bi=xs)(hb:Ef a≤1048576):CallOk Tryz.prog 116 [.d (.row 3 xs)] [] ⟨.d (.row 3 xs),[],[]⟩:=(Xlt hx hb).rowD rfl (by rw[←hx,List.length_map])
noncomputable def c197:Code:=(Tryz.f197.body).getD .skip
theorem Xlx:Dp Tryz.prog 197:=⟨_,Tryz.func197,rfl,rfl⟩
theorem T197{a_name:ByteArray}{a_id:Int}(hb:Dj ⟨a_name,a_id⟩≤1048576):CallOk Tryz.prog 197 [.agg [.d (.sc (.string a_name)),.d (.sc (.int .i64 a_id))]] [] ⟨.agg [.d (.sc (.string a_name)),.d (.sc (.int .i64 a_id))],[],[]⟩:=by
 have hb':(a_name.size:Int)≤1048576:=hb
 refine CallOk.of_bodyD (body:=c197) Tryz.func197 rfl (Nat.le_of_ble_eq_true (by kernel_rfl)) rfl ?_
 refine Gz D1 mixed ?_
 have hT:=D1
 have hm:=mixed
 generalize hP:Tryz.prog=P at*
 generalize hA:std=A
 obtain⟨qbin,qsh,qcmp,qscmp,qbcmp,qbnot,qneg,qwrap,qcat,qssize,qssub,qsget,qlen,qrsub,qapp,qelt,qset,qnth,qdrp,qstr,qint,qbool,qrow,qnat,qnadd,qnsub,qband,qofNat,qstrRow,qmkRow,qmx,qmn,qbytes,qemp⟩:=A
 have hE:=Ar.eqs hA
 dsimp only at hE
 generalize hQ:EndD P Tryz.f197.results _=Q
 cbv
 try simp only[nc]at*
 rw[←hQ]
 exact Ve hT (by rfl) (by rfl) (by rfl) (by rfl) rfl
noncomputable def c117:Code:=(Tryz.f117.body).getD .skip
theorem XjR:Dp Tryz.prog 117:=⟨_,Tryz.func117,rfl,rfl⟩
theorem Xkk{a:List Ad}{xs:List (List D)}(hx:a.map Ac=xs)(hb:Cv a≤1048576):CallOk Tryz.prog 117 [.d (.row 2 xs)] [] ⟨.ref 0 0 a.length,[.row 2 false xs],[]⟩:=by
 have ent197_:=Xlx
 have T197_:=@T197
 have aa:(a.length:Int)+Kc (fun x=>Dj x) a≤1048576:=hb
 have hsn:=Dg (fun x=>Dj x) a (fun x _=>Fu x)
 refine CallOk.of_body (body:=c117) Tryz.func117 rfl (Nat.le_of_ble_eq_true (by kernel_rfl)) rfl rfl ?_
 refine Gz D1 mixed ?_
 have hT:=D1
 have hm:=mixed
 generalize hP:Tryz.prog=P at*
 generalize hA:std=A
 obtain⟨qbin,qsh,qcmp,qscmp,qbcmp,qbnot,qneg,qwrap,qcat,qssize,qssub,qsget,qlen,qrsub,qapp,qelt,qset,qnth,qdrp,qstr,qint,qbool,qrow,qnat,qnadd,qnsub,qband,qofNat,qstrRow,qmkRow,qmx,qmn,qbytes,qemp⟩:=A
 have hE:=Ar.eqs hA
 dsimp only at hE
 generalize hQ:EndQ P Tryz.f117.results [] _=Q
 have hn:=Xi4 hx
 cbv
 try simp only[nc]at*
 refine⟨?_,?_⟩
 ·simp only[hE,List.length_map,Bb,A8,Bc,Ba,A7,A3,A2,A6,Az,Aw,Aj,Bd,Ax,Av,A4,Ai,Ay,Au,A9,IntKind.wrap_i64,decide_eq_true_eq,decide_eq_false_iff_not,Bool.not_eq_true',Bool.not_eq_false',Option.getD_none,Option.getD_some,hn];exact⟨by omega,by omega,by omega,by omega⟩
 refine LpW.of (κ:=Nat) (fun k=>k≤a.length) (fun k=>a.length - k) (fun k=>[(0,.d (.row 2 xs)),(3,.ref 1 0 a.length),(4,.d (.sc (.int .i64 k)))]) (fun k=>[.row 2 false [],.row 2 false (Ko Ac a [.sc (.string default),.sc (.int .i64 0)] k)]) 0 (by simp) ?_ ?_ ?_
 ·refine .cons rfl (.cons ?_ (.cons rfl (.nil _)))
  show AV.ref 1 0 (qnat (qlen xs))=_
  simp only[hE,A2,A4,hn,Int.toNat_natCast]
 ·show[Root.row 2 false [],Root.row 2 false (qmkRow (qlen xs) [.sc (.string default),.sc (.int .i64 0)])]=_
  simp only[hE,A2,hn,Xc9]
  rfl
 ·intro k hk
  generalize hz:Ko Ac a [.sc (.string default),.sc (.int .i64 0)] k=zs
  generalize hi:(k:Int)=i
  generalize hm':a.length=m
  refine Gz hT hm ?_
  rw[hA]
  cbv
  try simp only[nc]at*
  split
  ·rename_i h2
   simp only[hE,List.length_map,Bb,A8,Bc,Ba,A7,A3,A2,A6,Az,Aw,Aj,Bd,Ax,Av,A4,Ai,Ay,Au,A9,IntKind.wrap_i64,decide_eq_true_eq,decide_eq_false_iff_not,Bool.not_eq_true',Bool.not_eq_false',Option.getD_none,Option.getD_some,hn]at h2
   have hk':k<a.length:=by omega
   cbv
   try simp only[nc]at*
   repeat (refine And.intro (by first|(simp only[hE];exact M5 hx hi hk')|(simp only[hE,Er hx hi hk'];exact⟨rfl⟩)|(simp only[hE,Er hx hi hk'];exact⟨Nat.le_of_ble_eq_true rfl⟩)) ?_)
   have hset:=Xha hk' hz hi (by rfl)
   have hmem:=Hj (fun x=>Dj x) (fun x=>Fu x) (List.getElem_mem hk')
   obtain⟨wv,hwv⟩:∃w,w=a[k]:=⟨_,rfl⟩
   have hev:qelt xs i=Ac wv:=by simp only[hE];rw[Er hx hi hk',hwv]
   rw[←hwv]at hset hmem
   obtain⟨v_name,v_id⟩:=wv
   rw[show qstr (qnth (qelt xs i) 0)=v_name by rw[hev];simp only[hE];rfl,show qint (qnth (qelt xs i) 1)=v_id by rw[hev];simp only[hE];rfl]
   refine ClW.dd (f:=197) rfl rfl rfl rfl (.cons rfl .nil) rfl ent197_ (T197_ (by omega)) rfl ?_
   cbv
   try simp only[nc]at*
   refine⟨?_,?_,?_,k+1,by omega,by omega,?_,?_⟩
   ·simp only[hE,List.length_map,Bb,A8,Bc,Ba,A7,A3,A2,A6,Az,Aw,Aj,Bd,Ax,Av,A4,Ai,Ay,Au,A9,IntKind.wrap_i64,decide_eq_true_eq,decide_eq_false_iff_not,Bool.not_eq_true',Bool.not_eq_false',Option.getD_none,Option.getD_some,];exact⟨by omega,by omega⟩
   ·simp only[hE];exact Xhf hk' hz hi
   ·simp only[hE];exact Zd hk' hz hi (Nat.le_refl _)
   ·refine .cons rfl (.cons rfl (.cons ?_ (.nil _)))
    show AV.d (D.sc (Value.int IntKind.i64 (qbin .add .i64 i 1)))=_
    simp only[hE,Qu hi (by omega)]
   ·have e:Ac (⟨v_name,v_id⟩:Ad)=[.sc (.string v_name),.sc (.int .i64 v_id)]:=rfl
    simp only[hE]
    rw[e]at hset
    rw[←hset]
    try rfl
  ·rename_i h2
   simp only[hE,List.length_map,Bb,A8,Bc,Ba,A7,A3,A2,A6,Az,Aw,Aj,Bd,Ax,Av,A4,Ai,Ay,Au,A9,IntKind.wrap_i64,decide_eq_true_eq,decide_eq_false_iff_not,Bool.not_eq_true',Bool.not_eq_false',Option.getD_none,Option.getD_some,hn]at h2
   cbv
   try simp only[nc]at*
   have hk':k=a.length:=by omega
   subst hk'
   rw[←hQ,hm']
   rw[XhL]at hz
   have hxz:zs=xs:=by rw[←hz,hx]
   subst hxz
   exact Y9 rfl rfl
theorem T117{a:List Ad}{xs:List (List D)}(hx:a.map Ac=xs)(hb:Cv a≤1048576):CallOk Tryz.prog 117 [.d (.row 2 xs)] [] ⟨.d (.row 2 xs),[],[]⟩:=(Xkk hx hb).rowD rfl (by rw[←hx,List.length_map])
noncomputable def c118:Code:=(Tryz.f118.body).getD .skip
theorem Xkc:Dp Tryz.prog 118:=⟨_,Tryz.func118,rfl,rfl⟩
theorem XlH{a:List ByteArray}{xs:List (List D)}(hx:a.map cS=xs)(hb:De a≤1048576):CallOk Tryz.prog 118 [.d (.row 1 xs)] [] ⟨.ref 0 0 a.length,[.row 1 false xs],[]⟩:=by
 have aa:(a.length:Int)+Kc (fun x=>(x.size:Int)) a≤1048576:=hb
 have hsn:=Dg (fun x=>(x.size:Int)) a (fun x _=>F7 x)
 refine CallOk.of_body (body:=c118) Tryz.func118 rfl (Nat.le_of_ble_eq_true (by kernel_rfl)) rfl rfl ?_
 refine Gz D1 mixed ?_
 have hT:=D1
 have hm:=mixed
 generalize hP:Tryz.prog=P at*
 generalize hA:std=A
 obtain⟨qbin,qsh,qcmp,qscmp,qbcmp,qbnot,qneg,qwrap,qcat,qssize,qssub,qsget,qlen,qrsub,qapp,qelt,qset,qnth,qdrp,qstr,qint,qbool,qrow,qnat,qnadd,qnsub,qband,qofNat,qstrRow,qmkRow,qmx,qmn,qbytes,qemp⟩:=A
 have hE:=Ar.eqs hA
 dsimp only at hE
 generalize hQ:EndQ P Tryz.f118.results [] _=Q
 have hn:=Xi4 hx
 cbv
 try simp only[nc]at*
 refine⟨?_,?_⟩
 ·simp only[hE,List.length_map,Bb,A8,Bc,Ba,A7,A3,A2,A6,Az,Aw,Aj,Bd,Ax,Av,A4,Ai,Ay,Au,A9,IntKind.wrap_i64,decide_eq_true_eq,decide_eq_false_iff_not,Bool.not_eq_true',Bool.not_eq_false',Option.getD_none,Option.getD_some,hn];exact⟨by omega,by omega,by omega,by omega⟩
 refine LpW.of (κ:=Nat) (fun k=>k≤a.length) (fun k=>a.length - k) (fun k=>[(0,.d (.row 1 xs)),(3,.ref 1 0 a.length),(4,.d (.sc (.int .i64 k)))]) (fun k=>[.row 1 false [],.row 1 false (Ko cS a [.sc (.string default)] k)]) 0 (by simp) ?_ ?_ ?_
 ·refine .cons rfl (.cons ?_ (.cons rfl (.nil _)))
  show AV.ref 1 0 (qnat (qlen xs))=_
  simp only[hE,A2,A4,hn,Int.toNat_natCast]
 ·show[Root.row 1 false [],Root.row 1 false (qmkRow (qlen xs) [.sc (.string default)])]=_
  simp only[hE,A2,hn,Xc9]
  rfl
 ·intro k hk
  generalize hz:Ko cS a [.sc (.string default)] k=zs
  generalize hi:(k:Int)=i
  generalize hm':a.length=m
  refine Gz hT hm ?_
  rw[hA]
  cbv
  try simp only[nc]at*
  split
  ·rename_i h2
   simp only[hE,List.length_map,Bb,A8,Bc,Ba,A7,A3,A2,A6,Az,Aw,Aj,Bd,Ax,Av,A4,Ai,Ay,Au,A9,IntKind.wrap_i64,decide_eq_true_eq,decide_eq_false_iff_not,Bool.not_eq_true',Bool.not_eq_false',Option.getD_none,Option.getD_some,hn]at h2
   have hk':k<a.length:=by omega
   cbv
   try simp only[nc]at*
   repeat (refine And.intro (by first|(simp only[hE];exact M5 hx hi hk')|(simp only[hE,Er hx hi hk'];exact⟨rfl⟩)|(simp only[hE,Er hx hi hk'];exact⟨Nat.le_of_ble_eq_true rfl⟩)) ?_)
   refine⟨?_,?_,?_,k+1,by omega,by omega,?_,?_⟩
   ·simp only[hE,List.length_map,Bb,A8,Bc,Ba,A7,A3,A2,A6,Az,Aw,Aj,Bd,Ax,Av,A4,Ai,Ay,Au,A9,IntKind.wrap_i64,decide_eq_true_eq,decide_eq_false_iff_not,Bool.not_eq_true',Bool.not_eq_false',Option.getD_none,Option.getD_some,];exact⟨by omega,by omega⟩
   ·simp only[hE];exact Xhf hk' hz hi
   ·simp only[hE];exact Zd hk' hz hi (Nat.le_refl _)
   ·refine .cons rfl (.cons rfl (.cons ?_ (.nil _)))
    show AV.d (D.sc (Value.int IntKind.i64 (qbin .add .i64 i 1)))=_
    simp only[hE,Qu hi (by omega)]
   ·have e:[D.sc (Value.string (qstr (qnth (qelt xs i) 0)))]=cS a[k]:=by simp only[hE,Er hx hi hk'];rfl
    rw[e]
    simp only[hE]
    rw[Xha hk' hz hi rfl]
  ·rename_i h2
   simp only[hE,List.length_map,Bb,A8,Bc,Ba,A7,A3,A2,A6,Az,Aw,Aj,Bd,Ax,Av,A4,Ai,Ay,Au,A9,IntKind.wrap_i64,decide_eq_true_eq,decide_eq_false_iff_not,Bool.not_eq_true',Bool.not_eq_false',Option.getD_none,Option.getD_some,hn]at h2
   cbv
   try simp only[nc]at*
   have hk':k=a.length:=by omega
   subst hk'
   rw[←hQ,hm']
   rw[XhL]at hz
   have hxz:zs=xs:=by rw[←hz,hx]
   subst hxz
   exact Y9 rfl rfl
theorem T118{a:List ByteArray}{xs:List (List D)}(hx:a.map cS=xs)(hb:De a≤1048576):CallOk Tryz.prog 118 [.d (.row 1 xs)] [] ⟨.d (.row 1 xs),[],[]⟩:=(XlH hx hb).rowD rfl (by rw[←hx,List.length_map])
noncomputable def c49:Code:=(Tryz.f49.body).getD .skip
theorem Xi9:Dp Tryz.prog 49:=⟨_,Tryz.func49,rfl,rfl⟩
theorem T49{a_nodes:List Bg}{xa_nodes:List (List D)}(ha_nodes:a_nodes.map Bi=xa_nodes){a_entries:List Ad}{xa_entries:List (List D)}(ha_entries:a_entries.map Ac=xa_entries){a_old:List Ad}{xa_old:List (List D)}(ha_old:a_old.map Ac=xa_old){a_steps:List ByteArray}{xa_steps:List (List D)}(ha_steps:a_steps.map cS=xa_steps){a_room:Int}{a_next:Int}(hb:Lk ⟨a_nodes,a_entries,a_old,a_steps,a_room,a_next⟩≤1048576):CallOk Tryz.prog 49 [.agg [.d (.row 3 xa_nodes),.d (.row 2 xa_entries),.d (.row 2 xa_old),.d (.row 1 xa_steps),.d (.sc (.int .i64 a_room)),.d (.sc (.int .i64 a_next))]] [] ⟨.agg [.d (.row 3 xa_nodes),.d (.row 2 xa_entries),.d (.row 2 xa_old),.d (.row 1 xa_steps),.d (.sc (.int .i64 a_room)),.d (.sc (.int .i64 a_next))],[],[]⟩:=by
 have ent116_:=Xkd
 have T116_:=@T116
 have ent117_:=XjR
 have T117_:=@T117
 have ent118_:=Xkc
 have T118_:=@T118
 have nna_nodes:=Ki a_nodes
 have nna_entries:=Ez a_entries
 have nna_old:=Ez a_old
 have nna_steps:=Hy a_steps
 have hb':Ef a_nodes+Cv a_entries+Cv a_old+De a_steps≤1048576:=hb
 refine CallOk.of_bodyD (body:=c49) Tryz.func49 rfl (Nat.le_of_ble_eq_true (by kernel_rfl)) rfl ?_
 refine Gz D1 mixed ?_
 have hT:=D1
 have hm:=mixed
 generalize hP:Tryz.prog=P at*
 generalize hA:std=A
 obtain⟨qbin,qsh,qcmp,qscmp,qbcmp,qbnot,qneg,qwrap,qcat,qssize,qssub,qsget,qlen,qrsub,qapp,qelt,qset,qnth,qdrp,qstr,qint,qbool,qrow,qnat,qnadd,qnsub,qband,qofNat,qstrRow,qmkRow,qmx,qmn,qbytes,qemp⟩:=A
 have hE:=Ar.eqs hA
 dsimp only at hE
 generalize hQ:EndD P Tryz.f49.results _=Q
 cbv
 try simp only[nc]at*
 refine ClW.dd (f:=116) rfl rfl rfl rfl (.cons rfl .nil) rfl ent116_ (T116_ ha_nodes (by omega)) rfl ?_
 cbv
 try simp only[nc]at*
 refine ClW.dd (f:=117) rfl rfl rfl rfl (.cons rfl .nil) rfl ent117_ (T117_ ha_entries (by omega)) rfl ?_
 cbv
 try simp only[nc]at*
 refine ClW.dd (f:=117) rfl rfl rfl rfl (.cons rfl .nil) rfl ent117_ (T117_ ha_old (by omega)) rfl ?_
 cbv
 try simp only[nc]at*
 refine ClW.dd (f:=118) rfl rfl rfl rfl (.cons rfl .nil) rfl ent118_ (T118_ ha_steps (by omega)) rfl ?_
 cbv
 try simp only[nc]at*
 rw[←hQ]
 exact Ve hT (by rfl) (by rfl) (by rfl) (by rfl) rfl
end
section
open Go Go.Proofs
noncomputable def c127:Code:=(Tryz.f127.body).getD .skip
noncomputable def c51:Code:=(Tryz.f51.body).getD .skip
end
section
open Go Go.Proofs
theorem T49R{a_nodes:List Bg}{xa_nodes:List (List D)}(ha_nodes:a_nodes.map Bi=xa_nodes){a_entries:List Ad}{xa_entries:List (List D)}(ha_entries:a_entries.map Ac=xa_entries){a_old:List Ad}{xa_old:List (List D)}(ha_old:a_old.map Ac=xa_old){a_steps:List ByteArray}{xa_steps:List (List D)}(ha_steps:a_steps.map cS=xa_steps){a_room:Int}{a_next:Int}{na_nodes:Nat}(hna_nodes:na_nodes=a_nodes.length){na_entries:Nat}(hna_entries:na_entries=a_entries.length){na_old:Nat}(hna_old:na_old=a_old.length){na_steps:Nat}(hna_steps:na_steps=a_steps.length)(hb:Lk ⟨a_nodes,a_entries,a_old,a_steps,a_room,a_next⟩≤1048576):CallOk Tryz.prog 49 [.agg [.d (.row 3 xa_nodes),.d (.row 2 xa_entries),.d (.row 2 xa_old),.d (.row 1 xa_steps),.d (.sc (.int .i64 a_room)),.d (.sc (.int .i64 a_next))]] [] ⟨.agg [.ref 0 0 na_nodes,.ref 1 0 na_entries,.ref 2 0 na_old,.ref 3 0 na_steps,.d (.sc (.int .i64 a_room)),.d (.sc (.int .i64 a_next))],[.row 3 false xa_nodes,.row 2 false xa_entries,.row 2 false xa_old,.row 1 false xa_steps],[]⟩:=by
 have ent116_:=Xkd
 have T116_:=@T116
 have ent117_:=XjR
 have T117_:=@T117
 have ent118_:=Xkc
 have T118_:=@T118
 have T116_R:=@Xlt
 have T117_R:=@Xkk
 have T117_R:=@Xkk
 have T118_R:=@XlH
 have nna_nodes:=Ki a_nodes
 have nna_entries:=Ez a_entries
 have nna_old:=Ez a_old
 have nna_steps:=Hy a_steps
 have hb':Ef a_nodes+Cv a_entries+Cv a_old+De a_steps≤1048576:=hb
 refine CallOk.of_body (body:=c49) Tryz.func49 rfl (Nat.le_of_ble_eq_true (by kernel_rfl)) rfl rfl ?_
 refine Gz D1 mixed ?_
 have hT:=D1
 have hm:=mixed
 generalize hP:Tryz.prog=P at*
 generalize hA:std=A
 obtain⟨qbin,qsh,qcmp,qscmp,qbcmp,qbnot,qneg,qwrap,qcat,qssize,qssub,qsget,qlen,qrsub,qapp,qelt,qset,qnth,qdrp,qstr,qint,qbool,qrow,qnat,qnadd,qnsub,qband,qofNat,qstrRow,qmkRow,qmx,qmn,qbytes,qemp⟩:=A
 have hE:=Ar.eqs hA
 dsimp only at hE
 generalize hQ:EndQ P Tryz.f49.results [] _=Q
 cbv
 try simp only[nc]at*
 refine ClW.lntR (f:=116) rfl rfl rfl rfl (.cons rfl .nil) (.d rfl .nil) ent116_ (T116_R ha_nodes (by omega)) (by rw[←ha_nodes];exact Hc (fun _=>rfl) _) ?_
 rw[←hna_nodes]
 cbv
 try simp only[nc]at*
 refine ClW.lntR (f:=117) rfl rfl rfl rfl (.cons rfl .nil) (.d rfl .nil) ent117_ (T117_R ha_entries (by omega)) (by rw[←ha_entries];exact Hc (fun _=>rfl) _) ?_
 rw[←hna_entries]
 cbv
 try simp only[nc]at*
 refine ClW.lntR (f:=117) rfl rfl rfl rfl (.cons rfl .nil) (.d rfl .nil) ent117_ (T117_R ha_old (by omega)) (by rw[←ha_old];exact Hc (fun _=>rfl) _) ?_
 rw[←hna_old]
 cbv
 try simp only[nc]at*
 refine ClW.lntR (f:=118) rfl rfl rfl rfl (.cons rfl .nil) (.d rfl .nil) ent118_ (T118_R ha_steps (by omega)) (by rw[←ha_steps];exact Hc (fun _=>rfl) _) ?_
 rw[←hna_steps]
 cbv
 try simp only[nc]at*
 rw[←hQ]
 refine⟨[11,12,13,14],[.agg [.ref 11 0 na_nodes,.ref 12 0 na_entries,.ref 13 0 na_old,.ref 14 0 na_steps,.d (.sc (.int .i64 a_room)),.d (.sc (.int .i64 a_next))]],?_,rfl,by simp,by simp,rfl,?_,by simp,by simp⟩
 ·show Hw P _ [ResultVar.cell 2 28]=_
  simp only[Hw,Pa]
  rw[show Xq P 28=some true from(congrArg TyRow.agg (hT 28 _ (show Di tab 28=some _ from rfl))).symm,show szT P 28=some 6 from(congrArg TyRow.sz (hT 28 _ (show Di tab 28=some _ from rfl))).symm]
  rfl
 ·intro k i R hk hR
  rcases k with _|k
  ·simp at hk hR
   subst hk hR
   exact⟨_,rfl,rfl⟩
  rcases k with _|k
  ·simp at hk hR
   subst hk hR
   exact⟨_,rfl,rfl⟩
  rcases k with _|k
  ·simp at hk hR
   subst hk hR
   exact⟨_,rfl,rfl⟩
  rcases k with _|k
  ·simp at hk hR
   subst hk hR
   exact⟨_,rfl,rfl⟩
  simp at hk
end
section
open Go Go.Proofs
theorem Xje{n:Int}(h0:0≤n)(h1:n<256):IntKind.u8.wrap n=n:=by
 show(let m:=n%(2^8:Int);if false&&decide (m≥(2^7:Int))then m - (2^8:Int)else m)=n
 simp
 omega
theorem XkX{k:IntKind}{a b:Int}(h0:0≤a)(h1:0<b):std.bin .rem k a b=a% b:=by
 show Xey (if b=0 then none else some (.int k (a.tmod b)))=_
 rw[if_neg (by omega)]
 exact Int.tmod_eq_emod_of_nonneg h0
theorem Xko{k:IntKind}{a b:Int}(h0:0≤a)(h1:0<b):std.bin .quo k a b=k.wrap (a/b):=by
 show Xey (if b=0 then none else some (.int k (k.wrap (a.tdiv b))))=_
 rw[if_neg (by omega),Int.tdiv_eq_ediv_of_nonneg h0]
 rfl
def mkL(k:Nat)(out:List UInt8):List UInt8:=if h:k=0 then out else mkL (k/10) (UInt8.ofNat (48+k% 10)::out)
termination_by k
decreasing_by omega
def Jx(k:Int):ByteArray:=if k≤0 then tx [109,48]else tx (109::mkL k.toNat [])
theorem Xju(out:List UInt8):mkL 0 out=out:=by rw[mkL];rfl
theorem XiL{k:Nat}(h:k≠0)(out:List UInt8):mkL (k/10) (UInt8.ofNat (48+k% 10)::out)=mkL k out:=by
 conv=>rhs;rw[mkL,dif_neg h]
noncomputable def c210:Code:=(Tryz.f210.body).getD .skip
theorem Xw:Dp Tryz.prog 210:=⟨_,Tryz.func210,rfl,rfl⟩
theorem Xlh(k:Int)(hk:k<2^60):CallOk Tryz.prog 210 [.d (.sc (.int .i64 k))] [] ⟨.d (.sc (.string (Jx k))),[],[]⟩:=by
 refine CallOk.of_bodyD (body:=c210) Tryz.func210 rfl (Nat.le_of_ble_eq_true (by kernel_rfl)) rfl ?_
 refine Gz D1 mixed ?_
 have hT:=D1
 have hm:=mixed
 generalize hP:Tryz.prog=P at*
 generalize hA:std=A
 obtain⟨qbin,qsh,qcmp,qscmp,qbcmp,qbnot,qneg,qwrap,qcat,qssize,qssub,qsget,qlen,qrsub,qapp,qelt,qset,qnth,qdrp,qstr,qint,qbool,qrow,qnat,qnadd,qnsub,qband,qofNat,qstrRow,qmkRow,qmx,qmn,qbytes,qemp⟩:=A
 have hE:=Ar.eqs hA
 dsimp only at hE
 generalize hQ:EndD P Tryz.f210.results _=Q
 cbv
 try simp only[nc]at*
 split
 ·rename_i h
  simp only[hE,List.length_map,Bb,A8,Bc,Ba,A7,A3,A2,A6,Az,Aw,Aj,Bd,Ax,Av,A4,Ai,Ay,Au,A9,IntKind.wrap_i64,decide_eq_true_eq,decide_eq_false_iff_not,Bool.not_eq_true',Bool.not_eq_false',Option.getD_none,Option.getD_some]at h
  cbv
  try simp only[nc]at*
  rw[←hQ,show Jx k=tx [109,48]from if_pos h]
  exact Eh rfl rfl
 rename_i h
 simp only[hE,List.length_map,Bb,A8,Bc,Ba,A7,A3,A2,A6,Az,Aw,Aj,Bd,Ax,Av,A4,Ai,Ay,Au,A9,IntKind.wrap_i64,decide_eq_true_eq,decide_eq_false_iff_not,Bool.not_eq_true',Bool.not_eq_false',Option.getD_none,Option.getD_some]at h
 cbv
 try simp only[nc]at*
 refine LpW.ofN (κ:=Nat×List UInt8) (fun p=>mkL p.1 p.2=mkL k.toNat []∧p.1+p.2.length≤k.toNat) (fun p=>p.1) (fun p=>[(0,.d (.sc (.int .i64 (p.1:Nat)))),(3,.d (.sc (.string (tx p.2))))]) (fun _=>[]) (k.toNat,[]) 0 ⟨rfl,by simp⟩ ?_ (by first|rfl|trivial) (fun _ _=>⟨rfl,rfl,rfl⟩) ?_
 ·refine .cons ?_ (.cons rfl (.nil _))
  show AV.d (D.sc (Value.int IntKind.i64 k))= .d (.sc (.int .i64 ((k.toNat:Nat):Int)))
  rw[Int.toNat_of_nonneg (by omega)]
 ·rintro⟨n,out⟩ ⟨hn,hl⟩
  dsimp only at hn hl
  dsimp only
  generalize hs:tx out=s
  generalize hi:(n:Int)=i
  refine Gz hT hm ?_
  rw[hA]
  cbv
  try simp only[nc]at*
  split
  ·rename_i h2
   simp only[hE,List.length_map,Bb,A8,Bc,Ba,A7,A3,A2,A6,Az,Aw,Aj,Bd,Ax,Av,A4,Ai,Ay,Au,A9,IntKind.wrap_i64,decide_eq_true_eq,decide_eq_false_iff_not,Bool.not_eq_true',Bool.not_eq_false',Option.getD_none,Option.getD_some]at h2
   cbv
   try simp only[nc]at*
   have hv:qwrap .u8 (qbin .add .i64 48 (qbin .rem .i64 i 10))=((UInt8.ofNat (48+n% 10)).toNat:Int):=by
    simp only[hE,XkX (show 0≤i by omega) (show(0:Int)<10 by omega),A6,Xin]
    rw[Nc (by omega),Xje (by omega) (by omega),UInt8.toNat_ofNat']
    omega
   rw[hv]
   have hr:qrsub [[D.sc (Value.int IntKind.u8 ((UInt8.ofNat (48+n% 10)).toNat:Int))]] (qofNat 0) (qofNat (qnadd 0 1))=[UInt8.ofNat (48+n% 10)].map cB:=by simp only[hE];rfl
   rw[hr]
   have hb:qbytes ([UInt8.ofNat (48+n% 10)].map cB)=tx [UInt8.ofNat (48+n% 10)]:=by simp only[hE];exact Uy _
   have hss:s.size=out.length:=by rw[←hs,B3]
   refine⟨⟨by omega⟩,⟨by simp⟩,XjM _,?_,⟨by omega⟩,(n/10,UInt8.ofNat (48+n% 10)::out),⟨?_,?_⟩,?_,?_,by first|rfl|trivial⟩
   ·rw[hb]
    refine⟨?_⟩
    rw[B3]
    show(((1+s.size:Nat)):Int)≤2^63 - 1
    omega
   ·rw[←hn]
    exact XiL (by omega) out
   ·simp only[List.length_cons]
    omega
   ·show n/10<n
    omega
   ·refine .cons ?_ (.cons ?_ (.nil _))
    ·show AV.d (D.sc (Value.int IntKind.i64 (qbin .quo .i64 i 10)))=_
     simp only[hE,Xko (show 0≤i by omega) (show(0:Int)<10 by omega)]
     rw[Nc (by omega),show i/10=((n/10:Nat):Int)by omega]
    ·show AV.d (D.sc (Value.string (qcat (qbytes ([UInt8.ofNat (48+n% 10)].map cB)) s)))=_
     rw[hb,←hs]
     simp only[hE,Xd3]
     rfl
  ·rename_i h2
   simp only[hE,List.length_map,Bb,A8,Bc,Ba,A7,A3,A2,A6,Az,Aw,Aj,Bd,Ax,Av,A4,Ai,Ay,Au,A9,IntKind.wrap_i64,decide_eq_true_eq,decide_eq_false_iff_not,Bool.not_eq_true',Bool.not_eq_false',Option.getD_none,Option.getD_some]at h2
   cbv
   try simp only[nc]at*
   have aa:n=0:=by omega
   subst aa
   rw[Xju]at hn
   have hss:s.size=out.length:=by rw[←hs,B3]
   refine⟨⟨?_⟩,?_⟩
   ·show(((1+s.size:Nat)):Int)≤2^63 - 1
    omega
   rw[←hQ]
   refine Kw rfl (XlI ?_)
   rw[←hs,show Jx k=tx (109::mkL k.toNat [])from if_neg h,←hn]
   simp only[hE]
   exact Xd3 (a:=[109]) (b:=out)
def Kv(k:Int)(j:Nat):Bg:=(⟨k+3*(j:Int)+0,Jx (k+3*(j:Int)+1),k+3*(j:Int)+2⟩:Bg)
def Fe(k:Int)(n:Nat):List Bg:=(List.range n).map (Kv k)
theorem Dc{k:Int}{n:Nat}:(Fe k n).length=n:=by simp[Fe]
noncomputable def c130:Code:=(Tryz.f130.body).getD .skip
theorem Xlu:Dp Tryz.prog 130:=⟨_,Tryz.func130,rfl,rfl⟩
theorem T130{a:List Bg}{xs:List (List D)}(hx:a.map Bi=xs){na:Nat}(hna:na=a.length)(ha:na<2^40)(k:Int)(h0:0≤k)(h1:k<2^50):
  CallOk Tryz.prog 130 [.ref 0 0 na,.d (.sc (.int .i64 k))] [.row 3 false xs] ⟨.d (.sc (.int .i64 (k+3*(na:Int)))),[],[(0,.row 3 false ((Fe k na).map Bi))]⟩:=by
 subst hna
 have e1:=Xw
 have t1:=@Xlh
 refine CallOk.of_body (body:=c130) Tryz.func130 rfl (Nat.le_of_ble_eq_true (by kernel_rfl)) rfl rfl ?_
 refine Gz D1 mixed ?_
 have hT:=D1
 have hm:=mixed
 generalize hP:Tryz.prog=P at*
 generalize hA:std=A
 obtain⟨qbin,qsh,qcmp,qscmp,qbcmp,qbnot,qneg,qwrap,qcat,qssize,qssub,qsget,qlen,qrsub,qapp,qelt,qset,qnth,qdrp,qstr,qint,qbool,qrow,qnat,qnadd,qnsub,qband,qofNat,qstrRow,qmkRow,qmx,qmn,qbytes,qemp⟩:=A
 have hE:=Ar.eqs hA
 dsimp only at hE
 generalize hQ:EndQ P Tryz.f130.results _ _=Q
 generalize hm':a.length=m
 cbv
 try simp only[nc]at*
 refine LpW.of (κ:=Nat) (fun j=>j≤a.length) (fun j=>a.length - j) (fun j=>[(0,.ref 0 0 m),(1,.d (.sc (.int .i64 (k+3*(j:Int))))),(5,.d (.sc (.int .i64 j)))]) (fun j=>[.row 3 false ((mkd (Kv k) a j).map Bi)]) 0 (by omega) ?_ ?_ ?_
 ·refine .cons rfl (.cons ?_ (.cons rfl (.nil _)))
  show AV.d (.sc (.int .i64 k))= .d (.sc (.int .i64 (k+3*((0:Nat):Int))))
  rw[show k+3*((0:Nat):Int)=k by omega]
 ·show[Root.row 3 false xs]=[Root.row 3 false ((mkd (Kv k) a 0).map Bi)]
  rw[←hx,Yv]
 ·intro j hj
  obtain⟨l0,aa⟩:∃l,l=mkd (Kv k) a j:=⟨_,rfl⟩
  rw[←aa]
  have hll:l0.length=a.length:=by rw[aa];exact Sj hj
  generalize ab:l0.map Bi=ah
  generalize hi:(j:Int)=i
  generalize aw:k+3*i=kc0
  refine Gz hT hm ?_
  rw[hA]
  cbv
  try simp only[nc]at*
  split
  ·rename_i h2
   simp only[hE,List.length_map,Bb,A8,Bc,Ba,A7,A3,A2,A6,Az,Aw,Aj,Bd,Ax,Av,A4,Ai,Ay,Au,A9,IntKind.wrap_i64,decide_eq_true_eq,decide_eq_false_iff_not,Bool.not_eq_true',Bool.not_eq_false',Option.getD_none,Option.getD_some]at h2
   have hj':j<a.length:=by omega
   have hjl0:j<l0.length:=by omega
   obtain⟨w0,ax⟩:∃w,w=l0[j]:=⟨_,rfl⟩
   cbv
   try simp only[nc]at*
   obtain⟨w1,ai⟩:∃w,w={w0 with id_:=kc0}:=⟨_,rfl⟩
   have aj:qset ah (qnadd 0 (qnat i)) 0 [D.sc (Value.int IntKind.i64 kc0)]=(l0.set j w1).map Bi:=by
    simp only[hE]
    exact Xz ab hi hjl0 (by rw[←ax,ai];rfl)
   obtain⟨l1,ac⟩:∃l,l=l0.set j w1:=⟨_,rfl⟩
   rw[←ac]at aj
   have hjl1:j<l1.length:=by rw[ac,List.length_set];exact hjl0
   have ak:w1=l1[j]:=by simp[ac]
   have al:qbin .add .i64 kc0 1=kc0+1:=by simp only[hE,List.length_map,Bb,A8,Bc,Ba,A7,A3,A2,A6,Az,Aw,Aj,Bd,Ax,Av,A4,Ai,Ay,Au,A9,IntKind.wrap_i64,decide_eq_true_eq,decide_eq_false_iff_not,Bool.not_eq_true',Bool.not_eq_false',Option.getD_none,Option.getD_some,];omega
   generalize hkc1:kc0+1=kc1 at al
   rw[aj,al]
   generalize af:l1.map Bi=ay
   refine⟨by simp only[hE,List.length_map,Bb,A8,Bc,Ba,A7,A3,A2,A6,Az,Aw,Aj,Bd,Ax,Av,A4,Ai,Ay,Au,A9,IntKind.wrap_i64,decide_eq_true_eq,decide_eq_false_iff_not,Bool.not_eq_true',Bool.not_eq_false',Option.getD_none,Option.getD_some,];exact⟨by omega,by omega⟩,by simp only[hE];exact Ye ab hi hjl0,by simp only[hE];exact Of ab hi hjl0 (Nat.le_of_ble_eq_true rfl),?_⟩
   refine ClW.dd (f:=210) rfl rfl rfl rfl (.cons rfl .nil) rfl e1 (t1 kc1 (by omega)) rfl ?_
   generalize ht1:Jx kc1=t1
   cbv
   try simp only[nc]at*
   obtain⟨w2,am⟩:∃w,w={w1 with text_:=t1}:=⟨_,rfl⟩
   have an:qset ay (qnadd 0 (qnat i)) 1 [D.sc (Value.string t1)]=(l1.set j w2).map Bi:=by
    simp only[hE]
    exact Xz af hi hjl1 (by rw[←ak,am];rfl)
   obtain⟨l2,ad⟩:∃l,l=l1.set j w2:=⟨_,rfl⟩
   rw[←ad]at an
   have hjl2:j<l2.length:=by rw[ad,List.length_set];exact hjl1
   have ao:w2=l2[j]:=by simp[ad]
   have ap:qbin .add .i64 kc1 1=kc1+1:=by simp only[hE,List.length_map,Bb,A8,Bc,Ba,A7,A3,A2,A6,Az,Aw,Aj,Bd,Ax,Av,A4,Ai,Ay,Au,A9,IntKind.wrap_i64,decide_eq_true_eq,decide_eq_false_iff_not,Bool.not_eq_true',Bool.not_eq_false',Option.getD_none,Option.getD_some,];omega
   generalize hkc2:kc1+1=kc2 at ap
   rw[an,ap]
   generalize ag:l2.map Bi=az
   refine⟨by simp only[hE,List.length_map,Bb,A8,Bc,Ba,A7,A3,A2,A6,Az,Aw,Aj,Bd,Ax,Av,A4,Ai,Ay,Au,A9,IntKind.wrap_i64,decide_eq_true_eq,decide_eq_false_iff_not,Bool.not_eq_true',Bool.not_eq_false',Option.getD_none,Option.getD_some,];exact⟨by omega,by omega⟩,by simp only[hE];exact Ye af hi hjl1,by simp only[hE];exact Of af hi hjl1 (Nat.le_of_ble_eq_true rfl),?_⟩
   obtain⟨w3,aq⟩:∃w,w={w2 with sure_:=kc2}:=⟨_,rfl⟩
   have ar:qset az (qnadd 0 (qnat i)) 2 [D.sc (Value.int IntKind.i64 kc2)]=(l2.set j w3).map Bi:=by
    simp only[hE]
    exact Xz ag hi hjl2 (by rw[←ao,aq];rfl)
   obtain⟨l3,ae⟩:∃l,l=l2.set j w3:=⟨_,rfl⟩
   rw[←ae]at ar
   have hjl3:j<l3.length:=by rw[ae,List.length_set];exact hjl2
   have a2:w3=l3[j]:=by simp[ae]
   have au:qbin .add .i64 kc2 1=kc2+1:=by simp only[hE,List.length_map,Bb,A8,Bc,Ba,A7,A3,A2,A6,Az,Aw,Aj,Bd,Ax,Av,A4,Ai,Ay,Au,A9,IntKind.wrap_i64,decide_eq_true_eq,decide_eq_false_iff_not,Bool.not_eq_true',Bool.not_eq_false',Option.getD_none,Option.getD_some,];omega
   generalize hkc3:kc2+1=kc3 at au
   rw[ar,au]
   generalize a0:l3.map Bi=a1
   refine⟨by simp only[hE,List.length_map,Bb,A8,Bc,Ba,A7,A3,A2,A6,Az,Aw,Aj,Bd,Ax,Av,A4,Ai,Ay,Au,A9,IntKind.wrap_i64,decide_eq_true_eq,decide_eq_false_iff_not,Bool.not_eq_true',Bool.not_eq_false',Option.getD_none,Option.getD_some,];exact⟨by omega,by omega⟩,by simp only[hE];exact Ye ag hi hjl2,by simp only[hE];exact Of ag hi hjl2 (Nat.le_of_ble_eq_true rfl),?_⟩
   have hfin:l3=mkd (Kv k) a (j+1):=by
    rw[←Xdk hj',←aa,ae,ad,ac]
    try simp only[List.set_set]
    congr 1
    rw[aq,am,ai]
    simp only[Kv,hi]
    rw[←ht1]
    rw[show kc2=k+3*i+2 by omega];rw[show kc1=k+3*i+1 by omega];rw[show kc0=k+3*i+0 by omega]
   refine⟨j+1,by omega,by omega,?_,?_⟩
   ·refine .cons rfl (.cons ?_ (.cons ?_ (.nil _)))
    ·show AV.d (D.sc (Value.int IntKind.i64 kc3))= .d (.sc (.int .i64 (k+3*((j+1:Nat):Int))))
     rw[show k+3*((j+1:Nat):Int)=kc3 by omega]
    ·show AV.d (D.sc (Value.int IntKind.i64 (qbin .add .i64 i 1)))=_
     simp only[hE,Qu hi (by omega)]
   ·show[Root.row 3 false a1]=_
    rw[←hfin,a0]
  ·rename_i h2
   simp only[hE,List.length_map,Bb,A8,Bc,Ba,A7,A3,A2,A6,Az,Aw,Aj,Bd,Ax,Av,A4,Ai,Ay,Au,A9,IntKind.wrap_i64,decide_eq_true_eq,decide_eq_false_iff_not,Bool.not_eq_true',Bool.not_eq_false',Option.getD_none,Option.getD_some]at h2
   cbv
   try simp only[nc]at*
   have hj':j=a.length:=by omega
   subst hj'
   rw[XdI]at aa
   rw[←hQ,←hm']
   refine Xan rfl ?_ ?_
   ·rw[←aw,hi]
   ·show some (Root.row 3 false ah)=_
    rw[←ab,aa]
    rfl
def I3(k:Int)(j:Nat):Ad:=(⟨Jx (k+2*(j:Int)+0),k+2*(j:Int)+1⟩:Ad)
def Dn(k:Int)(n:Nat):List Ad:=(List.range n).map (I3 k)
theorem C7{k:Int}{n:Nat}:(Dn k n).length=n:=by simp[Dn]
noncomputable def c131:Code:=(Tryz.f131.body).getD .skip
theorem XjY:Dp Tryz.prog 131:=⟨_,Tryz.func131,rfl,rfl⟩
theorem T131{a:List Ad}{xs:List (List D)}(hx:a.map Ac=xs){na:Nat}(hna:na=a.length)(ha:na<2^40)(k:Int)(h0:0≤k)(h1:k<2^50):
  CallOk Tryz.prog 131 [.ref 0 0 na,.d (.sc (.int .i64 k))] [.row 2 false xs] ⟨.d (.sc (.int .i64 (k+2*(na:Int)))),[],[(0,.row 2 false ((Dn k na).map Ac))]⟩:=by
 subst hna
 have e1:=Xw
 have t1:=@Xlh
 refine CallOk.of_body (body:=c131) Tryz.func131 rfl (Nat.le_of_ble_eq_true (by kernel_rfl)) rfl rfl ?_
 refine Gz D1 mixed ?_
 have hT:=D1
 have hm:=mixed
 generalize hP:Tryz.prog=P at*
 generalize hA:std=A
 obtain⟨qbin,qsh,qcmp,qscmp,qbcmp,qbnot,qneg,qwrap,qcat,qssize,qssub,qsget,qlen,qrsub,qapp,qelt,qset,qnth,qdrp,qstr,qint,qbool,qrow,qnat,qnadd,qnsub,qband,qofNat,qstrRow,qmkRow,qmx,qmn,qbytes,qemp⟩:=A
 have hE:=Ar.eqs hA
 dsimp only at hE
 generalize hQ:EndQ P Tryz.f131.results _ _=Q
 generalize hm':a.length=m
 cbv
 try simp only[nc]at*
 refine LpW.of (κ:=Nat) (fun j=>j≤a.length) (fun j=>a.length - j) (fun j=>[(0,.ref 0 0 m),(1,.d (.sc (.int .i64 (k+2*(j:Int))))),(5,.d (.sc (.int .i64 j)))]) (fun j=>[.row 2 false ((mkd (I3 k) a j).map Ac)]) 0 (by omega) ?_ ?_ ?_
 ·refine .cons rfl (.cons ?_ (.cons rfl (.nil _)))
  show AV.d (.sc (.int .i64 k))= .d (.sc (.int .i64 (k+2*((0:Nat):Int))))
  rw[show k+2*((0:Nat):Int)=k by omega]
 ·show[Root.row 2 false xs]=[Root.row 2 false ((mkd (I3 k) a 0).map Ac)]
  rw[←hx,Yv]
 ·intro j hj
  obtain⟨l0,aa⟩:∃l,l=mkd (I3 k) a j:=⟨_,rfl⟩
  rw[←aa]
  have hll:l0.length=a.length:=by rw[aa];exact Sj hj
  generalize ab:l0.map Ac=af
  generalize hi:(j:Int)=i
  generalize an:k+2*i=kc0
  refine Gz hT hm ?_
  rw[hA]
  cbv
  try simp only[nc]at*
  split
  ·rename_i h2
   simp only[hE,List.length_map,Bb,A8,Bc,Ba,A7,A3,A2,A6,Az,Aw,Aj,Bd,Ax,Av,A4,Ai,Ay,Au,A9,IntKind.wrap_i64,decide_eq_true_eq,decide_eq_false_iff_not,Bool.not_eq_true',Bool.not_eq_false',Option.getD_none,Option.getD_some]at h2
   have hj':j<a.length:=by omega
   have hjl0:j<l0.length:=by omega
   obtain⟨w0,ao⟩:∃w,w=l0[j]:=⟨_,rfl⟩
   cbv
   try simp only[nc]at*
   refine ClW.dd (f:=210) rfl rfl rfl rfl (.cons rfl .nil) rfl e1 (t1 kc0 (by omega)) rfl ?_
   generalize ht0:Jx kc0=t0
   cbv
   try simp only[nc]at*
   obtain⟨w1,ag⟩:∃w,w={w0 with name_:=t0}:=⟨_,rfl⟩
   have ah:qset af (qnadd 0 (qnat i)) 0 [D.sc (Value.string t0)]=(l0.set j w1).map Ac:=by
    simp only[hE]
    exact Xz ab hi hjl0 (by rw[←ao,ag];rfl)
   obtain⟨l1,ac⟩:∃l,l=l0.set j w1:=⟨_,rfl⟩
   rw[←ac]at ah
   have hjl1:j<l1.length:=by rw[ac,List.length_set];exact hjl0
   have ai:w1=l1[j]:=by simp[ac]
   have aj:qbin .add .i64 kc0 1=kc0+1:=by simp only[hE,List.length_map,Bb,A8,Bc,Ba,A7,A3,A2,A6,Az,Aw,Aj,Bd,Ax,Av,A4,Ai,Ay,Au,A9,IntKind.wrap_i64,decide_eq_true_eq,decide_eq_false_iff_not,Bool.not_eq_true',Bool.not_eq_false',Option.getD_none,Option.getD_some,];omega
   generalize hkc1:kc0+1=kc1 at aj
   rw[ah,aj]
   generalize ae:l1.map Ac=ap
   refine⟨by simp only[hE,List.length_map,Bb,A8,Bc,Ba,A7,A3,A2,A6,Az,Aw,Aj,Bd,Ax,Av,A4,Ai,Ay,Au,A9,IntKind.wrap_i64,decide_eq_true_eq,decide_eq_false_iff_not,Bool.not_eq_true',Bool.not_eq_false',Option.getD_none,Option.getD_some,];exact⟨by omega,by omega⟩,by simp only[hE];exact Ye ab hi hjl0,by simp only[hE];exact Of ab hi hjl0 (Nat.le_of_ble_eq_true rfl),?_⟩
   obtain⟨w2,ak⟩:∃w,w={w1 with id_:=kc1}:=⟨_,rfl⟩
   have al:qset ap (qnadd 0 (qnat i)) 1 [D.sc (Value.int IntKind.i64 kc1)]=(l1.set j w2).map Ac:=by
    simp only[hE]
    exact Xz ae hi hjl1 (by rw[←ai,ak];rfl)
   obtain⟨l2,ad⟩:∃l,l=l1.set j w2:=⟨_,rfl⟩
   rw[←ad]at al
   have hjl2:j<l2.length:=by rw[ad,List.length_set];exact hjl1
   have au:w2=l2[j]:=by simp[ad]
   have am:qbin .add .i64 kc1 1=kc1+1:=by simp only[hE,List.length_map,Bb,A8,Bc,Ba,A7,A3,A2,A6,Az,Aw,Aj,Bd,Ax,Av,A4,Ai,Ay,Au,A9,IntKind.wrap_i64,decide_eq_true_eq,decide_eq_false_iff_not,Bool.not_eq_true',Bool.not_eq_false',Option.getD_none,Option.getD_some,];omega
   generalize hkc2:kc1+1=kc2 at am
   rw[al,am]
   generalize aq:l2.map Ac=ar
   refine⟨by simp only[hE,List.length_map,Bb,A8,Bc,Ba,A7,A3,A2,A6,Az,Aw,Aj,Bd,Ax,Av,A4,Ai,Ay,Au,A9,IntKind.wrap_i64,decide_eq_true_eq,decide_eq_false_iff_not,Bool.not_eq_true',Bool.not_eq_false',Option.getD_none,Option.getD_some,];exact⟨by omega,by omega⟩,by simp only[hE];exact Ye ae hi hjl1,by simp only[hE];exact Of ae hi hjl1 (Nat.le_of_ble_eq_true rfl),?_⟩
   have hfin:l2=mkd (I3 k) a (j+1):=by
    rw[←Xdk hj',←aa,ad,ac]
    try simp only[List.set_set]
    congr 1
    rw[ak,ag]
    simp only[I3,hi]
    rw[←ht0]
    rw[show kc1=k+2*i+1 by omega];rw[show kc0=k+2*i+0 by omega]
   refine⟨j+1,by omega,by omega,?_,?_⟩
   ·refine .cons rfl (.cons ?_ (.cons ?_ (.nil _)))
    ·show AV.d (D.sc (Value.int IntKind.i64 kc2))= .d (.sc (.int .i64 (k+2*((j+1:Nat):Int))))
     rw[show k+2*((j+1:Nat):Int)=kc2 by omega]
    ·show AV.d (D.sc (Value.int IntKind.i64 (qbin .add .i64 i 1)))=_
     simp only[hE,Qu hi (by omega)]
   ·show[Root.row 2 false ar]=_
    rw[←hfin,aq]
  ·rename_i h2
   simp only[hE,List.length_map,Bb,A8,Bc,Ba,A7,A3,A2,A6,Az,Aw,Aj,Bd,Ax,Av,A4,Ai,Ay,Au,A9,IntKind.wrap_i64,decide_eq_true_eq,decide_eq_false_iff_not,Bool.not_eq_true',Bool.not_eq_false',Option.getD_none,Option.getD_some]at h2
   cbv
   try simp only[nc]at*
   have hj':j=a.length:=by omega
   subst hj'
   rw[XdI]at aa
   rw[←hQ,←hm']
   refine Xan rfl ?_ ?_
   ·rw[←an,hi]
   ·show some (Root.row 2 false af)=_
    rw[←ab,aa]
    rfl
def Hq(k:Int)(j:Nat):ByteArray:=Jx (k+1*(j:Int)+0)
def D7(k:Int)(n:Nat):List ByteArray:=(List.range n).map (Hq k)
theorem Cy{k:Int}{n:Nat}:(D7 k n).length=n:=by simp[D7]
noncomputable def c132:Code:=(Tryz.f132.body).getD .skip
theorem XlT:Dp Tryz.prog 132:=⟨_,Tryz.func132,rfl,rfl⟩
theorem T132{a:List ByteArray}{xs:List (List D)}(hx:a.map cS=xs){na:Nat}(hna:na=a.length)(ha:na<2^40)(k:Int)(h0:0≤k)(h1:k<2^50):
  CallOk Tryz.prog 132 [.ref 0 0 na,.d (.sc (.int .i64 k))] [.row 1 false xs] ⟨.d (.sc (.int .i64 (k+1*(na:Int)))),[],[(0,.row 1 false ((D7 k na).map cS))]⟩:=by
 subst hna
 have e1:=Xw
 have t1:=@Xlh
 refine CallOk.of_body (body:=c132) Tryz.func132 rfl (Nat.le_of_ble_eq_true (by kernel_rfl)) rfl rfl ?_
 refine Gz D1 mixed ?_
 have hT:=D1
 have hm:=mixed
 generalize hP:Tryz.prog=P at*
 generalize hA:std=A
 obtain⟨qbin,qsh,qcmp,qscmp,qbcmp,qbnot,qneg,qwrap,qcat,qssize,qssub,qsget,qlen,qrsub,qapp,qelt,qset,qnth,qdrp,qstr,qint,qbool,qrow,qnat,qnadd,qnsub,qband,qofNat,qstrRow,qmkRow,qmx,qmn,qbytes,qemp⟩:=A
 have hE:=Ar.eqs hA
 dsimp only at hE
 generalize hQ:EndQ P Tryz.f132.results _ _=Q
 generalize hm':a.length=m
 cbv
 try simp only[nc]at*
 refine LpW.of (κ:=Nat) (fun j=>j≤a.length) (fun j=>a.length - j) (fun j=>[(0,.ref 0 0 m),(1,.d (.sc (.int .i64 (k+1*(j:Int))))),(5,.d (.sc (.int .i64 j)))]) (fun j=>[.row 1 false ((mkd (Hq k) a j).map cS)]) 0 (by omega) ?_ ?_ ?_
 ·refine .cons rfl (.cons ?_ (.cons rfl (.nil _)))
  show AV.d (.sc (.int .i64 k))= .d (.sc (.int .i64 (k+1*((0:Nat):Int))))
  rw[show k+1*((0:Nat):Int)=k by omega]
 ·show[Root.row 1 false xs]=[Root.row 1 false ((mkd (Hq k) a 0).map cS)]
  rw[←hx,Yv]
 ·intro j hj
  obtain⟨l0,aa⟩:∃l,l=mkd (Hq k) a j:=⟨_,rfl⟩
  rw[←aa]
  have hll:l0.length=a.length:=by rw[aa];exact Sj hj
  generalize ab:l0.map cS=ad
  generalize hi:(j:Int)=i
  generalize ah:k+1*i=kc0
  refine Gz hT hm ?_
  rw[hA]
  cbv
  try simp only[nc]at*
  split
  ·rename_i h2
   simp only[hE,List.length_map,Bb,A8,Bc,Ba,A7,A3,A2,A6,Az,Aw,Aj,Bd,Ax,Av,A4,Ai,Ay,Au,A9,IntKind.wrap_i64,decide_eq_true_eq,decide_eq_false_iff_not,Bool.not_eq_true',Bool.not_eq_false',Option.getD_none,Option.getD_some]at h2
   have hj':j<a.length:=by omega
   have hjl0:j<l0.length:=by omega
   obtain⟨w0,ai⟩:∃w,w=l0[j]:=⟨_,rfl⟩
   cbv
   try simp only[nc]at*
   refine ClW.dd (f:=210) rfl rfl rfl rfl (.cons rfl .nil) rfl e1 (t1 kc0 (by omega)) rfl ?_
   generalize ht0:Jx kc0=t0
   cbv
   try simp only[nc]at*
   obtain⟨w1,ae⟩:∃w,w=t0:=⟨_,rfl⟩
   have af:qset ad (qnadd 0 (qnat i)) 0 [D.sc (Value.string t0)]=(l0.set j w1).map cS:=by
    simp only[hE]
    exact Xz ab hi hjl0 (by rw[←ai,ae];rfl)
   obtain⟨l1,ac⟩:∃l,l=l0.set j w1:=⟨_,rfl⟩
   rw[←ac]at af
   have hjl1:j<l1.length:=by rw[ac,List.length_set];exact hjl0
   have al:w1=l1[j]:=by simp[ac]
   have ag:qbin .add .i64 kc0 1=kc0+1:=by simp only[hE,List.length_map,Bb,A8,Bc,Ba,A7,A3,A2,A6,Az,Aw,Aj,Bd,Ax,Av,A4,Ai,Ay,Au,A9,IntKind.wrap_i64,decide_eq_true_eq,decide_eq_false_iff_not,Bool.not_eq_true',Bool.not_eq_false',Option.getD_none,Option.getD_some,];omega
   generalize hkc1:kc0+1=kc1 at ag
   rw[af,ag]
   generalize aj:l1.map cS=ak
   refine⟨by simp only[hE,List.length_map,Bb,A8,Bc,Ba,A7,A3,A2,A6,Az,Aw,Aj,Bd,Ax,Av,A4,Ai,Ay,Au,A9,IntKind.wrap_i64,decide_eq_true_eq,decide_eq_false_iff_not,Bool.not_eq_true',Bool.not_eq_false',Option.getD_none,Option.getD_some,];exact⟨by omega,by omega⟩,by simp only[hE];exact Ye ab hi hjl0,by simp only[hE];exact Of ab hi hjl0 (Nat.le_of_ble_eq_true rfl),?_⟩
   have hfin:l1=mkd (Hq k) a (j+1):=by
    rw[←Xdk hj',←aa,ac]
    try simp only[List.set_set]
    congr 1
    rw[ae]
    simp only[Hq,hi]
    rw[←ht0]
    rw[show kc0=k+1*i+0 by omega]
   refine⟨j+1,by omega,by omega,?_,?_⟩
   ·refine .cons rfl (.cons ?_ (.cons ?_ (.nil _)))
    ·show AV.d (D.sc (Value.int IntKind.i64 kc1))= .d (.sc (.int .i64 (k+1*((j+1:Nat):Int))))
     rw[show k+1*((j+1:Nat):Int)=kc1 by omega]
    ·show AV.d (D.sc (Value.int IntKind.i64 (qbin .add .i64 i 1)))=_
     simp only[hE,Qu hi (by omega)]
   ·show[Root.row 1 false ak]=_
    rw[←hfin,aj]
  ·rename_i h2
   simp only[hE,List.length_map,Bb,A8,Bc,Ba,A7,A3,A2,A6,Az,Aw,Aj,Bd,Ax,Av,A4,Ai,Ay,Au,A9,IntKind.wrap_i64,decide_eq_true_eq,decide_eq_false_iff_not,Bool.not_eq_true',Bool.not_eq_false',Option.getD_none,Option.getD_some]at h2
   cbv
   try simp only[nc]at*
   have hj':j=a.length:=by omega
   subst hj'
   rw[XdI]at aa
   rw[←hQ,←hm']
   refine Xan rfl ?_ ?_
   ·rw[←ah,hi]
   ·show some (Root.row 1 false ad)=_
    rw[←ab,aa]
    rfl
end
section
open Go Go.Proofs
noncomputable def c133:Code:=(Tryz.f133.body).getD .skip
theorem Xmb:Dp Tryz.prog 133:=⟨_,Tryz.func133,rfl,rfl⟩
theorem T133{n:Nat}{k:Int}{xs:List (List D)}(hx:(Fe k n).map Bi=xs)(ha:n<2^40)(h0:0≤k)(h1:k<2^50):
  CallOk Tryz.prog 133 [.d (.row 3 xs),.d (.sc (.int .i64 k))] [] ⟨.d (.sc (.int .i64 (k+3*(n:Int)))),[],[]⟩:=by
 have eM:=Xw
 have tM:=@Xlh
 refine CallOk.of_bodyD (body:=c133) Tryz.func133 rfl (Nat.le_of_ble_eq_true (by kernel_rfl)) rfl ?_
 refine Gz D1 mixed ?_
 have hT:=D1
 have hm:=mixed
 generalize hP:Tryz.prog=P at*
 generalize hA:std=A
 obtain⟨qbin,qsh,qcmp,qscmp,qbcmp,qbnot,qneg,qwrap,qcat,qssize,qssub,qsget,qlen,qrsub,qapp,qelt,qset,qnth,qdrp,qstr,qint,qbool,qrow,qnat,qnadd,qnsub,qband,qofNat,qstrRow,qmkRow,qmx,qmn,qbytes,qemp⟩:=A
 have hE:=Ar.eqs hA
 dsimp only at hE
 generalize hQ:EndD P Tryz.f133.results _=Q
 have hn:=Xi4 hx
 rw[Dc]at hn
 have hself:(∀v:Int,qcmp .neq v v=false)∧(∀v:ByteArray,qscmp .neq v v=false):=by
  refine⟨fun v=>?_,fun v=>?_⟩<;>simp only[hE,A3,Zu]<;>simp
 obtain⟨hself1,hself2⟩:=hself
 cbv
 try simp only[nc]at*
 refine LpW.of (κ:=Nat) (fun j=>j≤n) (fun j=>n - j) (fun j=>[(0,.d (.row 3 xs)),(1,.d (.sc (.int .i64 (k+3*(j:Int))))),(5,.d (.sc (.int .i64 j)))]) (fun j=>[]) 0 (by omega) ?_ (by first|rfl|trivial) ?_
 ·refine .cons rfl (.cons ?_ (.cons rfl (.nil _)))
  show AV.d (.sc (.int .i64 k))= .d (.sc (.int .i64 (k+3*((0:Nat):Int))))
  rw[show k+3*((0:Nat):Int)=k by omega]
 ·intro j hj
  generalize hi:(j:Int)=i
  generalize ad:k+3*i=kc0
  refine Gz hT hm ?_
  rw[hA]
  cbv
  try simp only[nc]at*
  split
  ·rename_i h2
   simp only[hE,List.length_map,Bb,A8,Bc,Ba,A7,A3,A2,A6,Az,Aw,Aj,Bd,Ax,Av,A4,Ai,Ay,Au,A9,IntKind.wrap_i64,decide_eq_true_eq,decide_eq_false_iff_not,Bool.not_eq_true',Bool.not_eq_false',Option.getD_none,Option.getD_some,hn]at h2
   have hj':j<n:=by omega
   have hjl:j<(Fe k n).length:=by rw[Dc];exact hj'
   have hge:(Fe k n)[j]=Kv k j:=by simp[Fe]
   have he:std.elt xs i=Bi (Kv k j):=by rw[Er hx hi hjl,hge]
   cbv
   try simp only[nc]at*
   repeat (refine And.intro (by first|(simp only[hE];exact M5 hx hi hjl)|(simp only[hE,Er hx hi hjl];exact⟨rfl⟩)|(simp only[hE,Er hx hi hjl];exact⟨Nat.le_of_ble_eq_true rfl⟩)) ?_)
   rw[show qint (qnth (qdrp (qelt xs i) 0) 0)=kc0 by simp only[hE,he];show k+3*(j:Int)+0=kc0;omega]
   rw[hself1]
   cbv
   try simp only[nc]at*
   have aa:qbin .add .i64 kc0 1=kc0+1:=by simp only[hE,List.length_map,Bb,A8,Bc,Ba,A7,A3,A2,A6,Az,Aw,Aj,Bd,Ax,Av,A4,Ai,Ay,Au,A9,IntKind.wrap_i64,decide_eq_true_eq,decide_eq_false_iff_not,Bool.not_eq_true',Bool.not_eq_false',Option.getD_none,Option.getD_some,];omega
   generalize hkc1:kc0+1=kc1 at aa
   rw[aa]
   repeat (refine And.intro (by first|(simp only[hE];exact M5 hx hi hjl)|(simp only[hE,Er hx hi hjl];exact⟨rfl⟩)|(simp only[hE,Er hx hi hjl];exact⟨Nat.le_of_ble_eq_true rfl⟩)) ?_)
   obtain⟨t1,ht1⟩:∃t,t=Jx kc1:=⟨_,rfl⟩
   rw[show qstr (qnth (qdrp (qelt xs i) 1) 0)=t1 by simp only[hE,he];show Jx (k+3*(j:Int)+1)=t1;rw[ht1,show k+3*(j:Int)+1=kc1 by omega]]
   refine ClW.dd (f:=210) rfl rfl rfl rfl (.cons rfl .nil) rfl eM (tM kc1 (by omega)) rfl ?_
   rw[←ht1]
   cbv
   try simp only[nc]at*
   rw[hself2]
   cbv
   try simp only[nc]at*
   have ab:qbin .add .i64 kc1 1=kc1+1:=by simp only[hE,List.length_map,Bb,A8,Bc,Ba,A7,A3,A2,A6,Az,Aw,Aj,Bd,Ax,Av,A4,Ai,Ay,Au,A9,IntKind.wrap_i64,decide_eq_true_eq,decide_eq_false_iff_not,Bool.not_eq_true',Bool.not_eq_false',Option.getD_none,Option.getD_some,];omega
   generalize hkc2:kc1+1=kc2 at ab
   rw[ab]
   repeat (refine And.intro (by first|(simp only[hE];exact M5 hx hi hjl)|(simp only[hE,Er hx hi hjl];exact⟨rfl⟩)|(simp only[hE,Er hx hi hjl];exact⟨Nat.le_of_ble_eq_true rfl⟩)) ?_)
   rw[show qint (qnth (qdrp (qelt xs i) 2) 0)=kc2 by simp only[hE,he];show k+3*(j:Int)+2=kc2;omega]
   rw[hself1]
   cbv
   try simp only[nc]at*
   have ac:qbin .add .i64 kc2 1=kc2+1:=by simp only[hE,List.length_map,Bb,A8,Bc,Ba,A7,A3,A2,A6,Az,Aw,Aj,Bd,Ax,Av,A4,Ai,Ay,Au,A9,IntKind.wrap_i64,decide_eq_true_eq,decide_eq_false_iff_not,Bool.not_eq_true',Bool.not_eq_false',Option.getD_none,Option.getD_some,];omega
   generalize hkc3:kc2+1=kc3 at ac
   rw[ac]
   refine⟨j+1,by omega,by omega,?_,by first|rfl|trivial⟩
   refine .cons rfl (.cons ?_ (.cons ?_ (.nil _)))
   ·show AV.d (D.sc (Value.int IntKind.i64 kc3))= .d (.sc (.int .i64 (k+3*((j+1:Nat):Int))))
    rw[show k+3*((j+1:Nat):Int)=kc3 by omega]
   ·show AV.d (D.sc (Value.int IntKind.i64 (qbin .add .i64 i 1)))=_
    simp only[hE,Qu hi (by omega)]
  ·rename_i h2
   simp only[hE,List.length_map,Bb,A8,Bc,Ba,A7,A3,A2,A6,Az,Aw,Aj,Bd,Ax,Av,A4,Ai,Ay,Au,A9,IntKind.wrap_i64,decide_eq_true_eq,decide_eq_false_iff_not,Bool.not_eq_true',Bool.not_eq_false',Option.getD_none,Option.getD_some,hn]at h2
   cbv
   try simp only[nc]at*
   have hj':j=n:=by omega
   rw[←hQ]
   refine Kw rfl (Xgk ?_)
   omega
noncomputable def c134:Code:=(Tryz.f134.body).getD .skip
theorem XjW:Dp Tryz.prog 134:=⟨_,Tryz.func134,rfl,rfl⟩
theorem T134{n:Nat}{k:Int}{xs:List (List D)}(hx:(Dn k n).map Ac=xs)(ha:n<2^40)(h0:0≤k)(h1:k<2^50):
  CallOk Tryz.prog 134 [.d (.row 2 xs),.d (.sc (.int .i64 k))] [] ⟨.d (.sc (.int .i64 (k+2*(n:Int)))),[],[]⟩:=by
 have eM:=Xw
 have tM:=@Xlh
 refine CallOk.of_bodyD (body:=c134) Tryz.func134 rfl (Nat.le_of_ble_eq_true (by kernel_rfl)) rfl ?_
 refine Gz D1 mixed ?_
 have hT:=D1
 have hm:=mixed
 generalize hP:Tryz.prog=P at*
 generalize hA:std=A
 obtain⟨qbin,qsh,qcmp,qscmp,qbcmp,qbnot,qneg,qwrap,qcat,qssize,qssub,qsget,qlen,qrsub,qapp,qelt,qset,qnth,qdrp,qstr,qint,qbool,qrow,qnat,qnadd,qnsub,qband,qofNat,qstrRow,qmkRow,qmx,qmn,qbytes,qemp⟩:=A
 have hE:=Ar.eqs hA
 dsimp only at hE
 generalize hQ:EndD P Tryz.f134.results _=Q
 have hn:=Xi4 hx
 rw[C7]at hn
 have hself:(∀v:Int,qcmp .neq v v=false)∧(∀v:ByteArray,qscmp .neq v v=false):=by
  refine⟨fun v=>?_,fun v=>?_⟩<;>simp only[hE,A3,Zu]<;>simp
 obtain⟨hself1,hself2⟩:=hself
 cbv
 try simp only[nc]at*
 refine LpW.of (κ:=Nat) (fun j=>j≤n) (fun j=>n - j) (fun j=>[(0,.d (.row 2 xs)),(1,.d (.sc (.int .i64 (k+2*(j:Int))))),(5,.d (.sc (.int .i64 j)))]) (fun j=>[]) 0 (by omega) ?_ (by first|rfl|trivial) ?_
 ·refine .cons rfl (.cons ?_ (.cons rfl (.nil _)))
  show AV.d (.sc (.int .i64 k))= .d (.sc (.int .i64 (k+2*((0:Nat):Int))))
  rw[show k+2*((0:Nat):Int)=k by omega]
 ·intro j hj
  generalize hi:(j:Int)=i
  generalize ac:k+2*i=kc0
  refine Gz hT hm ?_
  rw[hA]
  cbv
  try simp only[nc]at*
  split
  ·rename_i h2
   simp only[hE,List.length_map,Bb,A8,Bc,Ba,A7,A3,A2,A6,Az,Aw,Aj,Bd,Ax,Av,A4,Ai,Ay,Au,A9,IntKind.wrap_i64,decide_eq_true_eq,decide_eq_false_iff_not,Bool.not_eq_true',Bool.not_eq_false',Option.getD_none,Option.getD_some,hn]at h2
   have hj':j<n:=by omega
   have hjl:j<(Dn k n).length:=by rw[C7];exact hj'
   have hge:(Dn k n)[j]=I3 k j:=by simp[Dn]
   have he:std.elt xs i=Ac (I3 k j):=by rw[Er hx hi hjl,hge]
   cbv
   try simp only[nc]at*
   repeat (refine And.intro (by first|(simp only[hE];exact M5 hx hi hjl)|(simp only[hE,Er hx hi hjl];exact⟨rfl⟩)|(simp only[hE,Er hx hi hjl];exact⟨Nat.le_of_ble_eq_true rfl⟩)) ?_)
   obtain⟨t0,ht0⟩:∃t,t=Jx kc0:=⟨_,rfl⟩
   rw[show qstr (qnth (qdrp (qelt xs i) 0) 0)=t0 by simp only[hE,he];show Jx (k+2*(j:Int)+0)=t0;rw[ht0,show k+2*(j:Int)+0=kc0 by omega]]
   refine ClW.dd (f:=210) rfl rfl rfl rfl (.cons rfl .nil) rfl eM (tM kc0 (by omega)) rfl ?_
   rw[←ht0]
   cbv
   try simp only[nc]at*
   rw[hself2]
   cbv
   try simp only[nc]at*
   have aa:qbin .add .i64 kc0 1=kc0+1:=by simp only[hE,List.length_map,Bb,A8,Bc,Ba,A7,A3,A2,A6,Az,Aw,Aj,Bd,Ax,Av,A4,Ai,Ay,Au,A9,IntKind.wrap_i64,decide_eq_true_eq,decide_eq_false_iff_not,Bool.not_eq_true',Bool.not_eq_false',Option.getD_none,Option.getD_some,];omega
   generalize hkc1:kc0+1=kc1 at aa
   rw[aa]
   repeat (refine And.intro (by first|(simp only[hE];exact M5 hx hi hjl)|(simp only[hE,Er hx hi hjl];exact⟨rfl⟩)|(simp only[hE,Er hx hi hjl];exact⟨Nat.le_of_ble_eq_true rfl⟩)) ?_)
   rw[show qint (qnth (qdrp (qelt xs i) 1) 0)=kc1 by simp only[hE,he];show k+2*(j:Int)+1=kc1;omega]
   rw[hself1]
   cbv
   try simp only[nc]at*
   have ab:qbin .add .i64 kc1 1=kc1+1:=by simp only[hE,List.length_map,Bb,A8,Bc,Ba,A7,A3,A2,A6,Az,Aw,Aj,Bd,Ax,Av,A4,Ai,Ay,Au,A9,IntKind.wrap_i64,decide_eq_true_eq,decide_eq_false_iff_not,Bool.not_eq_true',Bool.not_eq_false',Option.getD_none,Option.getD_some,];omega
   generalize hkc2:kc1+1=kc2 at ab
   rw[ab]
   refine⟨j+1,by omega,by omega,?_,by first|rfl|trivial⟩
   refine .cons rfl (.cons ?_ (.cons ?_ (.nil _)))
   ·show AV.d (D.sc (Value.int IntKind.i64 kc2))= .d (.sc (.int .i64 (k+2*((j+1:Nat):Int))))
    rw[show k+2*((j+1:Nat):Int)=kc2 by omega]
   ·show AV.d (D.sc (Value.int IntKind.i64 (qbin .add .i64 i 1)))=_
    simp only[hE,Qu hi (by omega)]
  ·rename_i h2
   simp only[hE,List.length_map,Bb,A8,Bc,Ba,A7,A3,A2,A6,Az,Aw,Aj,Bd,Ax,Av,A4,Ai,Ay,Au,A9,IntKind.wrap_i64,decide_eq_true_eq,decide_eq_false_iff_not,Bool.not_eq_true',Bool.not_eq_false',Option.getD_none,Option.getD_some,hn]at h2
   cbv
   try simp only[nc]at*
   have hj':j=n:=by omega
   rw[←hQ]
   refine Kw rfl (Xgk ?_)
   omega
noncomputable def c135:Code:=(Tryz.f135.body).getD .skip
theorem Xmd:Dp Tryz.prog 135:=⟨_,Tryz.func135,rfl,rfl⟩
theorem T135{n:Nat}{k:Int}{xs:List (List D)}(hx:(D7 k n).map cS=xs)(ha:n<2^40)(h0:0≤k)(h1:k<2^50):
  CallOk Tryz.prog 135 [.d (.row 1 xs),.d (.sc (.int .i64 k))] [] ⟨.d (.sc (.int .i64 (k+1*(n:Int)))),[],[]⟩:=by
 have eM:=Xw
 have tM:=@Xlh
 refine CallOk.of_bodyD (body:=c135) Tryz.func135 rfl (Nat.le_of_ble_eq_true (by kernel_rfl)) rfl ?_
 refine Gz D1 mixed ?_
 have hT:=D1
 have hm:=mixed
 generalize hP:Tryz.prog=P at*
 generalize hA:std=A
 obtain⟨qbin,qsh,qcmp,qscmp,qbcmp,qbnot,qneg,qwrap,qcat,qssize,qssub,qsget,qlen,qrsub,qapp,qelt,qset,qnth,qdrp,qstr,qint,qbool,qrow,qnat,qnadd,qnsub,qband,qofNat,qstrRow,qmkRow,qmx,qmn,qbytes,qemp⟩:=A
 have hE:=Ar.eqs hA
 dsimp only at hE
 generalize hQ:EndD P Tryz.f135.results _=Q
 have hn:=Xi4 hx
 rw[Cy]at hn
 have hself:(∀v:Int,qcmp .neq v v=false)∧(∀v:ByteArray,qscmp .neq v v=false):=by
  refine⟨fun v=>?_,fun v=>?_⟩<;>simp only[hE,A3,Zu]<;>simp
 obtain⟨hself1,hself2⟩:=hself
 cbv
 try simp only[nc]at*
 refine LpW.of (κ:=Nat) (fun j=>j≤n) (fun j=>n - j) (fun j=>[(0,.d (.row 1 xs)),(1,.d (.sc (.int .i64 (k+1*(j:Int))))),(5,.d (.sc (.int .i64 j)))]) (fun j=>[]) 0 (by omega) ?_ (by first|rfl|trivial) ?_
 ·refine .cons rfl (.cons ?_ (.cons rfl (.nil _)))
  show AV.d (.sc (.int .i64 k))= .d (.sc (.int .i64 (k+1*((0:Nat):Int))))
  rw[show k+1*((0:Nat):Int)=k by omega]
 ·intro j hj
  generalize hi:(j:Int)=i
  generalize ab:k+1*i=kc0
  refine Gz hT hm ?_
  rw[hA]
  cbv
  try simp only[nc]at*
  split
  ·rename_i h2
   simp only[hE,List.length_map,Bb,A8,Bc,Ba,A7,A3,A2,A6,Az,Aw,Aj,Bd,Ax,Av,A4,Ai,Ay,Au,A9,IntKind.wrap_i64,decide_eq_true_eq,decide_eq_false_iff_not,Bool.not_eq_true',Bool.not_eq_false',Option.getD_none,Option.getD_some,hn]at h2
   have hj':j<n:=by omega
   have hjl:j<(D7 k n).length:=by rw[Cy];exact hj'
   have hge:(D7 k n)[j]=Hq k j:=by simp[D7]
   have he:std.elt xs i=cS (Hq k j):=by rw[Er hx hi hjl,hge]
   cbv
   try simp only[nc]at*
   repeat (refine And.intro (by first|(simp only[hE];exact M5 hx hi hjl)|(simp only[hE,Er hx hi hjl];exact⟨rfl⟩)|(simp only[hE,Er hx hi hjl];exact⟨Nat.le_of_ble_eq_true rfl⟩)) ?_)
   obtain⟨t0,ht0⟩:∃t,t=Jx kc0:=⟨_,rfl⟩
   rw[show qstr (qnth (qelt xs i) 0)=t0 by simp only[hE,he];show Jx (k+1*(j:Int)+0)=t0;rw[ht0,show k+1*(j:Int)+0=kc0 by omega]]
   refine ClW.dd (f:=210) rfl rfl rfl rfl (.cons rfl .nil) rfl eM (tM kc0 (by omega)) rfl ?_
   rw[←ht0]
   cbv
   try simp only[nc]at*
   rw[hself2]
   cbv
   try simp only[nc]at*
   have aa:qbin .add .i64 kc0 1=kc0+1:=by simp only[hE,List.length_map,Bb,A8,Bc,Ba,A7,A3,A2,A6,Az,Aw,Aj,Bd,Ax,Av,A4,Ai,Ay,Au,A9,IntKind.wrap_i64,decide_eq_true_eq,decide_eq_false_iff_not,Bool.not_eq_true',Bool.not_eq_false',Option.getD_none,Option.getD_some,];omega
   generalize hkc1:kc0+1=kc1 at aa
   rw[aa]
   refine⟨j+1,by omega,by omega,?_,by first|rfl|trivial⟩
   refine .cons rfl (.cons ?_ (.cons ?_ (.nil _)))
   ·show AV.d (D.sc (Value.int IntKind.i64 kc1))= .d (.sc (.int .i64 (k+1*((j+1:Nat):Int))))
    rw[show k+1*((j+1:Nat):Int)=kc1 by omega]
   ·show AV.d (D.sc (Value.int IntKind.i64 (qbin .add .i64 i 1)))=_
    simp only[hE,Qu hi (by omega)]
  ·rename_i h2
   simp only[hE,List.length_map,Bb,A8,Bc,Ba,A7,A3,A2,A6,Az,Aw,Aj,Bd,Ax,Av,A4,Ai,Ay,Au,A9,IntKind.wrap_i64,decide_eq_true_eq,decide_eq_false_iff_not,Bool.not_eq_true',Bool.not_eq_false',Option.getD_none,Option.getD_some,hn]at h2
   cbv
   try simp only[nc]at*
   have hj':j=n:=by omega
   rw[←hQ]
   refine Kw rfl (Xgk ?_)
   omega
end
section
open Go Go.Proofs
end
end Go.Proofs.YtjbmpmmffjgedaaGreatDoor.Ab
