/- What functions of the program come to, for all arguments in the given bounds. -/
import Derived.Test.YtgdmjbcllgmepaaGreatDoorWlH
set_option linter.unusedVariables false
set_option linter.unusedSimpArgs false
namespace Go.Proofs.YtgdmjbcllgmepaaGreatDoor.Ab
section
open Go Go.Proofs
set_option maxRecDepth 20000
noncomputable def c182:Code:=(Tryz.f182.body).getD .skip
theorem Xhw:Bd Tryz.prog 182:=⟨_,Tryz.func182,rfl,rfl⟩
theorem T182{a_id:Int}{a_text:ByteArray}{a_sure:Int}{left:Int}(h0:0≤left)(h1:left<2^40)(hok:Xa0 ⟨a_id,a_text,a_sure⟩):
  CallOk Tryz.prog 182 [.agg [.d (.sc (.int .i64 a_id)),.d (.sc (.string a_text)),.d (.sc (.int .i64 a_sure))],.d (.sc (.int .i64 left))] [] ⟨.d (.sc (.int .i64 (Ed (Cx ⟨a_id,a_text,a_sure⟩) left))),[],[]⟩:=by
 refine CallOk.of_bodyD (body:=c182) Tryz.func182 rfl (Nat.le_of_ble_eq_true (by kernel_rfl)) rfl ?_
 refine Cz A6 mixed ?_
 have hT:=A6
 have hm:=mixed
 generalize hP:Tryz.prog=P at*
 generalize hA:std=A
 obtain⟨qbin,qsh,qcmp,qscmp,qbcmp,qbnot,qneg,qwrap,qcat,qssize,qssub,qsget,qlen,qrsub,qapp,qelt,qset,qnth,qdrp,qstr,qint,qbool,qrow,qnat,qnadd,qnsub,qband,qofNat,qstrRow,qmkRow,qmx,qmn,qbytes,qemp⟩:=A
 have hE:=Ar.eqs hA
 dsimp only at hE
 generalize hQ:EndD P Tryz.f182.results _=Q
 have hok':a_text.size<2^47:=hok
 generalize hto:Cx ⟨a_id,a_text,a_sure⟩=to at*
 have hto':(a_text.size:Int)=to:=hto
 clear hok hto
 have k0:=hok'
 cbv
 try simp only[nc]at*
 obtain⟨l0,aa⟩:∃l,l=left - (a_text.size:Int):=⟨_,rfl⟩
 rw[show qbin .sub .i64 left (qssize a_text)=l0 by simp only[hE,List.length_map,Aq,At,Au,Av,Ao,Aj,Al,An,Af,Ah,Ac,Ak,Ai,Ad,Am,Aa,Ag,Ae,Ap,IntKind.wrap_i64,decide_eq_true_eq,decide_eq_false_iff_not,Bool.not_eq_true',Bool.not_eq_false',Option.getD_none,Option.getD_some,];omega]
 split
 ·rename_i h2
  simp only[hE,List.length_map,Aq,At,Au,Av,Ao,Aj,Al,An,Af,Ah,Ac,Ak,Ai,Ad,Am,Aa,Ag,Ae,Ap,IntKind.wrap_i64,decide_eq_true_eq,decide_eq_false_iff_not,Bool.not_eq_true',Bool.not_eq_false',Option.getD_none,Option.getD_some]at h2
  cbv
  try simp only[nc]at*
  rw[←hQ,show Ed to left= -1 by unfold Ed;rw[if_neg (by omega)]]
  exact Bg rfl rfl
 rename_i h20
 simp only[hE,List.length_map,Aq,At,Au,Av,Ao,Aj,Al,An,Af,Ah,Ac,Ak,Ai,Ad,Am,Aa,Ag,Ae,Ap,IntKind.wrap_i64,decide_eq_true_eq,decide_eq_false_iff_not,Bool.not_eq_true',Bool.not_eq_false',Option.getD_none,Option.getD_some]at h20
 cbv
 try simp only[nc]at*
 rw[←hQ,show Ed to left=l0 by unfold Ed;rw[if_pos (by omega)];omega]
 exact Bg rfl rfl
noncomputable def c95:Code:=(Tryz.f95.body).getD .skip
theorem ent95:Bd Tryz.prog 95:=⟨_,Tryz.func95,rfl,rfl⟩
theorem T95{a:List Cm}{xs:List (List D)}(hx:a.map Cs=xs){left:Int}(h0:0≤left)(h1:left<2^40)(hok:U7 a):
  CallOk Tryz.prog 95 [.d (.row 3 xs),.d (.sc (.int .i64 left))] [] ⟨.d (.sc (.int .i64 (Ed (Ct a) left))),[],[]⟩:=by
 have ent182_:=Xhw
 have T182_:=@T182
 obtain⟨ha,hs⟩:=hok
 refine CallOk.of_bodyD (body:=c95) Tryz.func95 rfl (Nat.le_of_ble_eq_true (by kernel_rfl)) rfl ?_
 refine Cz A6 mixed ?_
 have hT:=A6
 have hm:=mixed
 generalize hP:Tryz.prog=P at*
 generalize hA:std=A
 obtain⟨qbin,qsh,qcmp,qscmp,qbcmp,qbnot,qneg,qwrap,qcat,qssize,qssub,qsget,qlen,qrsub,qapp,qelt,qset,qnth,qdrp,qstr,qint,qbool,qrow,qnat,qnadd,qnsub,qband,qofNat,qstrRow,qmkRow,qmx,qmn,qbytes,qemp⟩:=A
 have hE:=Ar.eqs hA
 dsimp only at hE
 generalize hQ:EndD P Tryz.f95.results _=Q
 have hn:=Xb5 hx
 cbv
 try simp only[nc]at*
 split
 ·rename_i h2
  simp only[hE,List.length_map,Aq,At,Au,Av,Ao,Aj,Al,An,Af,Ah,Ac,Ak,Ai,Ad,Am,Aa,Ag,Ae,Ap,IntKind.wrap_i64,decide_eq_true_eq,decide_eq_false_iff_not,Bool.not_eq_true',Bool.not_eq_false',Option.getD_none,Option.getD_some,hn]at h2
  cbv
  try simp only[nc]at*
  have:=Bx (fun x=>Cx x) a (fun x _=>D9 x)
  rw[←hQ,show Ed (Ct a) left= -1 by unfold Ed Ct;rw[if_neg (by omega)]]
  exact Bg rfl rfl
 ·rename_i h2
  simp only[hE,List.length_map,Aq,At,Au,Av,Ao,Aj,Al,An,Af,Ah,Ac,Ak,Ai,Ad,Am,Aa,Ag,Ae,Ap,IntKind.wrap_i64,decide_eq_true_eq,decide_eq_false_iff_not,Bool.not_eq_true',Bool.not_eq_false',Option.getD_none,Option.getD_some,hn]at h2
  cbv
  try simp only[nc]at*
  refine LpW.of (κ:=Nat) (fun k=>k≤a.length∧0≤left - (a.length+G8 (fun x=>Cx x) (a.take k))) (fun k=>a.length - k) (fun k=>[(0,.d (.row 3 xs)),(1,.d (.sc (.int .i64 (left - (a.length+G8 (fun x=>Cx x) (a.take k)))))),(5,.d (.sc (.int .i64 k)))]) (fun _=>[]) 0 ⟨by omega,by simp[G8];omega⟩ ?_ (by first|rfl|trivial) ?_
  ·refine .cons rfl (.cons ?_ (.cons rfl (.nil _)))
   show AV.d (D.sc (Value.int IntKind.i64 (qbin .sub .i64 left (qlen xs))))=_
   rw[show qbin .sub .i64 left (qlen xs)=left - a.length by simp only[hE,List.length_map,Aq,At,Au,Av,Ao,Aj,Al,An,Af,Ah,Ac,Ak,Ai,Ad,Am,Aa,Ag,Ae,Ap,IntKind.wrap_i64,decide_eq_true_eq,decide_eq_false_iff_not,Bool.not_eq_true',Bool.not_eq_false',Option.getD_none,Option.getD_some,hn];omega]
   simp[G8]
  ·rintro k ⟨hk,hl⟩
   generalize hleft:left - (a.length+G8 (fun x=>Cx x) (a.take k))=l at*
   generalize hi:(k:Int)=i
   refine Cz hT hm ?_
   rw[hA]
   cbv
   try simp only[nc]at*
   split
   ·rename_i h3
    simp only[hE,List.length_map,Aq,At,Au,Av,Ao,Aj,Al,An,Af,Ah,Ac,Ak,Ai,Ad,Am,Aa,Ag,Ae,Ap,IntKind.wrap_i64,decide_eq_true_eq,decide_eq_false_iff_not,Bool.not_eq_true',Bool.not_eq_false',Option.getD_none,Option.getD_some,hn]at h3
    have hk':k<a.length:=by omega
    have hsz:=hs a[k] (List.getElem_mem hk')
    have hp:=Bx (fun x=>Cx x) (a.take k) (fun x _=>D9 x)
    have hsum:=Ri (fun x=>Cx x) a hk'
    have hle:=Lf (fun x=>Cx x) a (fun x _=>D9 x) (k+1)
    have hel:=D9 a[k]
    cbv
    try simp only[nc]at*
    repeat (refine And.intro (by first|(simp only[hE];exact Kl hx hi hk')|(simp only[hE,Dd hx hi hk'];exact⟨rfl⟩)|(simp only[hE,Dd hx hi hk'];exact⟨Nat.le_of_ble_eq_true rfl⟩)) ?_)
    obtain⟨wv,hwv⟩:∃w,w=a[k]:=⟨_,rfl⟩
    have hev:qelt xs i=Cs wv:=by simp only[hE];rw[Dd hx hi hk',hwv]
    rw[←hwv]at hsz hsum hel
    obtain⟨v_id,v_text,v_sure⟩:=wv
    rw[show qint (qnth (qelt xs i) 0)=v_id by rw[hev];simp only[hE];rfl,show qstr (qnth (qelt xs i) 1)=v_text by rw[hev];simp only[hE];rfl,show qint (qnth (qelt xs i) 2)=v_sure by rw[hev];simp only[hE];rfl]
    refine ClW.dd (f:=182) rfl rfl rfl rfl (.cons rfl (.cons rfl .nil)) rfl ent182_ (T182_ (by omega) (by omega) hsz) rfl ?_
    generalize hl':Ed (Cx (⟨v_id,v_text,v_sure⟩:Cm)) l=l'
    cbv
    try simp only[nc]at*
    split
    ·rename_i h4
     simp only[hE,List.length_map,Aq,At,Au,Av,Ao,Aj,Al,An,Af,Ah,Ac,Ak,Ai,Ad,Am,Aa,Ag,Ae,Ap,IntKind.wrap_i64,decide_eq_true_eq,decide_eq_false_iff_not,Bool.not_eq_true',Bool.not_eq_false',Option.getD_none,Option.getD_some]at h4
     cbv
     try simp only[nc]at*
     have hb:¬Cx (⟨v_id,v_text,v_sure⟩:Cm)≤l:=by intro hle';unfold Ed at hl';rw[if_pos hle']at hl';omega
     rw[←hQ,show Ed (Ct a) left= -1 by unfold Ed Ct;rw[if_neg (by omega)]]
     exact Bg rfl rfl
    ·rename_i h4
     simp only[hE,List.length_map,Aq,At,Au,Av,Ao,Aj,Al,An,Af,Ah,Ac,Ak,Ai,Ad,Am,Aa,Ag,Ae,Ap,IntKind.wrap_i64,decide_eq_true_eq,decide_eq_false_iff_not,Bool.not_eq_true',Bool.not_eq_false',Option.getD_none,Option.getD_some]at h4
     obtain⟨g,g'⟩:=Ic (t:=Cx (⟨v_id,v_text,v_sure⟩:Cm)) (left:=l) (by omega)
     cbv
     try simp only[nc]at*
     refine⟨k+1,⟨by omega,by omega⟩,by omega,?_,by trivial⟩
     refine .cons rfl (.cons ?_ (.cons ?_ (.nil _)))
     ·rw[show left - (a.length+G8 (fun x=>Cx x) (a.take (k+1)))=l' by omega]
      rfl
     ·show AV.d (D.sc (Value.int IntKind.i64 (qbin .add .i64 i 1)))=_
      rw[show qbin .add .i64 i 1=((k+1:Nat):Int)by simp only[hE,List.length_map,Aq,At,Au,Av,Ao,Aj,Al,An,Af,Ah,Ac,Ak,Ai,Ad,Am,Aa,Ag,Ae,Ap,IntKind.wrap_i64,decide_eq_true_eq,decide_eq_false_iff_not,Bool.not_eq_true',Bool.not_eq_false',Option.getD_none,Option.getD_some,];omega]
   ·rename_i h3
    simp only[hE,List.length_map,Aq,At,Au,Av,Ao,Aj,Al,An,Af,Ah,Ac,Ak,Ai,Ad,Am,Aa,Ag,Ae,Ap,IntKind.wrap_i64,decide_eq_true_eq,decide_eq_false_iff_not,Bool.not_eq_true',Bool.not_eq_false',Option.getD_none,Option.getD_some,hn]at h3
    cbv
    try simp only[nc]at*
    have hk':k=a.length:=by omega
    subst hk'
    rw[List.take_length]at hleft
    rw[←hQ,show Ed (Ct a) left=l by unfold Ed Ct;rw[if_pos (by omega)];omega]
    exact Bg rfl rfl
noncomputable def c183:Code:=(Tryz.f183.body).getD .skip
theorem Xho:Bd Tryz.prog 183:=⟨_,Tryz.func183,rfl,rfl⟩
theorem T183{a_name:ByteArray}{a_id:Int}{left:Int}(h0:0≤left)(h1:left<2^40)(hok:Ur ⟨a_name,a_id⟩):
  CallOk Tryz.prog 183 [.agg [.d (.sc (.string a_name)),.d (.sc (.int .i64 a_id))],.d (.sc (.int .i64 left))] [] ⟨.d (.sc (.int .i64 (Ed (B5 ⟨a_name,a_id⟩) left))),[],[]⟩:=by
 refine CallOk.of_bodyD (body:=c183) Tryz.func183 rfl (Nat.le_of_ble_eq_true (by kernel_rfl)) rfl ?_
 refine Cz A6 mixed ?_
 have hT:=A6
 have hm:=mixed
 generalize hP:Tryz.prog=P at*
 generalize hA:std=A
 obtain⟨qbin,qsh,qcmp,qscmp,qbcmp,qbnot,qneg,qwrap,qcat,qssize,qssub,qsget,qlen,qrsub,qapp,qelt,qset,qnth,qdrp,qstr,qint,qbool,qrow,qnat,qnadd,qnsub,qband,qofNat,qstrRow,qmkRow,qmx,qmn,qbytes,qemp⟩:=A
 have hE:=Ar.eqs hA
 dsimp only at hE
 generalize hQ:EndD P Tryz.f183.results _=Q
 have hok':a_name.size<2^47:=hok
 generalize hto:B5 ⟨a_name,a_id⟩=to at*
 have hto':(a_name.size:Int)=to:=hto
 clear hok hto
 have k0:=hok'
 cbv
 try simp only[nc]at*
 obtain⟨l0,aa⟩:∃l,l=left - (a_name.size:Int):=⟨_,rfl⟩
 rw[show qbin .sub .i64 left (qssize a_name)=l0 by simp only[hE,List.length_map,Aq,At,Au,Av,Ao,Aj,Al,An,Af,Ah,Ac,Ak,Ai,Ad,Am,Aa,Ag,Ae,Ap,IntKind.wrap_i64,decide_eq_true_eq,decide_eq_false_iff_not,Bool.not_eq_true',Bool.not_eq_false',Option.getD_none,Option.getD_some,];omega]
 split
 ·rename_i h2
  simp only[hE,List.length_map,Aq,At,Au,Av,Ao,Aj,Al,An,Af,Ah,Ac,Ak,Ai,Ad,Am,Aa,Ag,Ae,Ap,IntKind.wrap_i64,decide_eq_true_eq,decide_eq_false_iff_not,Bool.not_eq_true',Bool.not_eq_false',Option.getD_none,Option.getD_some]at h2
  cbv
  try simp only[nc]at*
  rw[←hQ,show Ed to left= -1 by unfold Ed;rw[if_neg (by omega)]]
  exact Bg rfl rfl
 rename_i h20
 simp only[hE,List.length_map,Aq,At,Au,Av,Ao,Aj,Al,An,Af,Ah,Ac,Ak,Ai,Ad,Am,Aa,Ag,Ae,Ap,IntKind.wrap_i64,decide_eq_true_eq,decide_eq_false_iff_not,Bool.not_eq_true',Bool.not_eq_false',Option.getD_none,Option.getD_some]at h20
 cbv
 try simp only[nc]at*
 rw[←hQ,show Ed to left=l0 by unfold Ed;rw[if_pos (by omega)];omega]
 exact Bg rfl rfl
noncomputable def c96:Code:=(Tryz.f96.body).getD .skip
theorem ent96:Bd Tryz.prog 96:=⟨_,Tryz.func96,rfl,rfl⟩
theorem T96{a:List A3}{xs:List (List D)}(hx:a.map A2=xs){left:Int}(h0:0≤left)(h1:left<2^40)(hok:Lr a):
  CallOk Tryz.prog 96 [.d (.row 2 xs),.d (.sc (.int .i64 left))] [] ⟨.d (.sc (.int .i64 (Ed (A5 a) left))),[],[]⟩:=by
 have ent183_:=Xho
 have T183_:=@T183
 obtain⟨ha,hs⟩:=hok
 refine CallOk.of_bodyD (body:=c96) Tryz.func96 rfl (Nat.le_of_ble_eq_true (by kernel_rfl)) rfl ?_
 refine Cz A6 mixed ?_
 have hT:=A6
 have hm:=mixed
 generalize hP:Tryz.prog=P at*
 generalize hA:std=A
 obtain⟨qbin,qsh,qcmp,qscmp,qbcmp,qbnot,qneg,qwrap,qcat,qssize,qssub,qsget,qlen,qrsub,qapp,qelt,qset,qnth,qdrp,qstr,qint,qbool,qrow,qnat,qnadd,qnsub,qband,qofNat,qstrRow,qmkRow,qmx,qmn,qbytes,qemp⟩:=A
 have hE:=Ar.eqs hA
 dsimp only at hE
 generalize hQ:EndD P Tryz.f96.results _=Q
 have hn:=Xb5 hx
 cbv
 try simp only[nc]at*
 split
 ·rename_i h2
  simp only[hE,List.length_map,Aq,At,Au,Av,Ao,Aj,Al,An,Af,Ah,Ac,Ak,Ai,Ad,Am,Aa,Ag,Ae,Ap,IntKind.wrap_i64,decide_eq_true_eq,decide_eq_false_iff_not,Bool.not_eq_true',Bool.not_eq_false',Option.getD_none,Option.getD_some,hn]at h2
  cbv
  try simp only[nc]at*
  have:=Bx (fun x=>B5 x) a (fun x _=>Dk x)
  rw[←hQ,show Ed (A5 a) left= -1 by unfold Ed A5;rw[if_neg (by omega)]]
  exact Bg rfl rfl
 ·rename_i h2
  simp only[hE,List.length_map,Aq,At,Au,Av,Ao,Aj,Al,An,Af,Ah,Ac,Ak,Ai,Ad,Am,Aa,Ag,Ae,Ap,IntKind.wrap_i64,decide_eq_true_eq,decide_eq_false_iff_not,Bool.not_eq_true',Bool.not_eq_false',Option.getD_none,Option.getD_some,hn]at h2
  cbv
  try simp only[nc]at*
  refine LpW.of (κ:=Nat) (fun k=>k≤a.length∧0≤left - (a.length+G8 (fun x=>B5 x) (a.take k))) (fun k=>a.length - k) (fun k=>[(0,.d (.row 2 xs)),(1,.d (.sc (.int .i64 (left - (a.length+G8 (fun x=>B5 x) (a.take k)))))),(5,.d (.sc (.int .i64 k)))]) (fun _=>[]) 0 ⟨by omega,by simp[G8];omega⟩ ?_ (by first|rfl|trivial) ?_
  ·refine .cons rfl (.cons ?_ (.cons rfl (.nil _)))
   show AV.d (D.sc (Value.int IntKind.i64 (qbin .sub .i64 left (qlen xs))))=_
   rw[show qbin .sub .i64 left (qlen xs)=left - a.length by simp only[hE,List.length_map,Aq,At,Au,Av,Ao,Aj,Al,An,Af,Ah,Ac,Ak,Ai,Ad,Am,Aa,Ag,Ae,Ap,IntKind.wrap_i64,decide_eq_true_eq,decide_eq_false_iff_not,Bool.not_eq_true',Bool.not_eq_false',Option.getD_none,Option.getD_some,hn];omega]
   simp[G8]
  ·rintro k ⟨hk,hl⟩
   generalize hleft:left - (a.length+G8 (fun x=>B5 x) (a.take k))=l at*
   generalize hi:(k:Int)=i
   refine Cz hT hm ?_
   rw[hA]
   cbv
   try simp only[nc]at*
   split
   ·rename_i h3
    simp only[hE,List.length_map,Aq,At,Au,Av,Ao,Aj,Al,An,Af,Ah,Ac,Ak,Ai,Ad,Am,Aa,Ag,Ae,Ap,IntKind.wrap_i64,decide_eq_true_eq,decide_eq_false_iff_not,Bool.not_eq_true',Bool.not_eq_false',Option.getD_none,Option.getD_some,hn]at h3
    have hk':k<a.length:=by omega
    have hsz:=hs a[k] (List.getElem_mem hk')
    have hp:=Bx (fun x=>B5 x) (a.take k) (fun x _=>Dk x)
    have hsum:=Ri (fun x=>B5 x) a hk'
    have hle:=Lf (fun x=>B5 x) a (fun x _=>Dk x) (k+1)
    have hel:=Dk a[k]
    cbv
    try simp only[nc]at*
    repeat (refine And.intro (by first|(simp only[hE];exact Kl hx hi hk')|(simp only[hE,Dd hx hi hk'];exact⟨rfl⟩)|(simp only[hE,Dd hx hi hk'];exact⟨Nat.le_of_ble_eq_true rfl⟩)) ?_)
    obtain⟨wv,hwv⟩:∃w,w=a[k]:=⟨_,rfl⟩
    have hev:qelt xs i=A2 wv:=by simp only[hE];rw[Dd hx hi hk',hwv]
    rw[←hwv]at hsz hsum hel
    obtain⟨v_name,v_id⟩:=wv
    rw[show qstr (qnth (qelt xs i) 0)=v_name by rw[hev];simp only[hE];rfl,show qint (qnth (qelt xs i) 1)=v_id by rw[hev];simp only[hE];rfl]
    refine ClW.dd (f:=183) rfl rfl rfl rfl (.cons rfl (.cons rfl .nil)) rfl ent183_ (T183_ (by omega) (by omega) hsz) rfl ?_
    generalize hl':Ed (B5 (⟨v_name,v_id⟩:A3)) l=l'
    cbv
    try simp only[nc]at*
    split
    ·rename_i h4
     simp only[hE,List.length_map,Aq,At,Au,Av,Ao,Aj,Al,An,Af,Ah,Ac,Ak,Ai,Ad,Am,Aa,Ag,Ae,Ap,IntKind.wrap_i64,decide_eq_true_eq,decide_eq_false_iff_not,Bool.not_eq_true',Bool.not_eq_false',Option.getD_none,Option.getD_some]at h4
     cbv
     try simp only[nc]at*
     have hb:¬B5 (⟨v_name,v_id⟩:A3)≤l:=by intro hle';unfold Ed at hl';rw[if_pos hle']at hl';omega
     rw[←hQ,show Ed (A5 a) left= -1 by unfold Ed A5;rw[if_neg (by omega)]]
     exact Bg rfl rfl
    ·rename_i h4
     simp only[hE,List.length_map,Aq,At,Au,Av,Ao,Aj,Al,An,Af,Ah,Ac,Ak,Ai,Ad,Am,Aa,Ag,Ae,Ap,IntKind.wrap_i64,decide_eq_true_eq,decide_eq_false_iff_not,Bool.not_eq_true',Bool.not_eq_false',Option.getD_none,Option.getD_some]at h4
     obtain⟨g,g'⟩:=Ic (t:=B5 (⟨v_name,v_id⟩:A3)) (left:=l) (by omega)
     cbv
     try simp only[nc]at*
     refine⟨k+1,⟨by omega,by omega⟩,by omega,?_,by trivial⟩
     refine .cons rfl (.cons ?_ (.cons ?_ (.nil _)))
     ·rw[show left - (a.length+G8 (fun x=>B5 x) (a.take (k+1)))=l' by omega]
      rfl
     ·show AV.d (D.sc (Value.int IntKind.i64 (qbin .add .i64 i 1)))=_
      rw[show qbin .add .i64 i 1=((k+1:Nat):Int)by simp only[hE,List.length_map,Aq,At,Au,Av,Ao,Aj,Al,An,Af,Ah,Ac,Ak,Ai,Ad,Am,Aa,Ag,Ae,Ap,IntKind.wrap_i64,decide_eq_true_eq,decide_eq_false_iff_not,Bool.not_eq_true',Bool.not_eq_false',Option.getD_none,Option.getD_some,];omega]
   ·rename_i h3
    simp only[hE,List.length_map,Aq,At,Au,Av,Ao,Aj,Al,An,Af,Ah,Ac,Ak,Ai,Ad,Am,Aa,Ag,Ae,Ap,IntKind.wrap_i64,decide_eq_true_eq,decide_eq_false_iff_not,Bool.not_eq_true',Bool.not_eq_false',Option.getD_none,Option.getD_some,hn]at h3
    cbv
    try simp only[nc]at*
    have hk':k=a.length:=by omega
    subst hk'
    rw[List.take_length]at hleft
    rw[←hQ,show Ed (A5 a) left=l by unfold Ed A5;rw[if_pos (by omega)];omega]
    exact Bg rfl rfl
noncomputable def c23:Code:=(Tryz.f23.body).getD .skip
theorem Xhz:Bd Tryz.prog 23:=⟨_,Tryz.func23,rfl,rfl⟩
theorem T23{a:List ByteArray}{xs:List (List D)}(hx:a.map cS=xs){left:Int}(h0:0≤left)(h1:left<2^40)(hok:Jk a):
  CallOk Tryz.prog 23 [.d (.row 1 xs),.d (.sc (.int .i64 left))] [] ⟨.d (.sc (.int .i64 (Ed (Ay a) left))),[],[]⟩:=by
 obtain⟨ha,hs⟩:=hok
 refine CallOk.of_bodyD (body:=c23) Tryz.func23 rfl (Nat.le_of_ble_eq_true (by kernel_rfl)) rfl ?_
 refine Cz A6 mixed ?_
 have hT:=A6
 have hm:=mixed
 generalize hP:Tryz.prog=P at*
 generalize hA:std=A
 obtain⟨qbin,qsh,qcmp,qscmp,qbcmp,qbnot,qneg,qwrap,qcat,qssize,qssub,qsget,qlen,qrsub,qapp,qelt,qset,qnth,qdrp,qstr,qint,qbool,qrow,qnat,qnadd,qnsub,qband,qofNat,qstrRow,qmkRow,qmx,qmn,qbytes,qemp⟩:=A
 have hE:=Ar.eqs hA
 dsimp only at hE
 generalize hQ:EndD P Tryz.f23.results _=Q
 have hn:=Xb5 hx
 cbv
 try simp only[nc]at*
 split
 ·rename_i h2
  simp only[hE,List.length_map,Aq,At,Au,Av,Ao,Aj,Al,An,Af,Ah,Ac,Ak,Ai,Ad,Am,Aa,Ag,Ae,Ap,IntKind.wrap_i64,decide_eq_true_eq,decide_eq_false_iff_not,Bool.not_eq_true',Bool.not_eq_false',Option.getD_none,Option.getD_some,hn]at h2
  cbv
  try simp only[nc]at*
  have:=Bx (fun x=>(x.size:Int)) a (fun x _=>D8 x)
  rw[←hQ,show Ed (Ay a) left= -1 by unfold Ed Ay;rw[if_neg (by omega)]]
  exact Bg rfl rfl
 ·rename_i h2
  simp only[hE,List.length_map,Aq,At,Au,Av,Ao,Aj,Al,An,Af,Ah,Ac,Ak,Ai,Ad,Am,Aa,Ag,Ae,Ap,IntKind.wrap_i64,decide_eq_true_eq,decide_eq_false_iff_not,Bool.not_eq_true',Bool.not_eq_false',Option.getD_none,Option.getD_some,hn]at h2
  cbv
  try simp only[nc]at*
  refine LpW.of (κ:=Nat) (fun k=>k≤a.length∧0≤left - (a.length+G8 (fun x=>(x.size:Int)) (a.take k))) (fun k=>a.length - k) (fun k=>[(0,.d (.row 1 xs)),(1,.d (.sc (.int .i64 (left - (a.length+G8 (fun x=>(x.size:Int)) (a.take k)))))),(5,.d (.sc (.int .i64 k)))]) (fun _=>[]) 0 ⟨by omega,by simp[G8];omega⟩ ?_ (by first|rfl|trivial) ?_
  ·refine .cons rfl (.cons ?_ (.cons rfl (.nil _)))
   show AV.d (D.sc (Value.int IntKind.i64 (qbin .sub .i64 left (qlen xs))))=_
   rw[show qbin .sub .i64 left (qlen xs)=left - a.length by simp only[hE,List.length_map,Aq,At,Au,Av,Ao,Aj,Al,An,Af,Ah,Ac,Ak,Ai,Ad,Am,Aa,Ag,Ae,Ap,IntKind.wrap_i64,decide_eq_true_eq,decide_eq_false_iff_not,Bool.not_eq_true',Bool.not_eq_false',Option.getD_none,Option.getD_some,hn];omega]
   simp[G8]
  ·rintro k ⟨hk,hl⟩
   generalize hleft:left - (a.length+G8 (fun x=>(x.size:Int)) (a.take k))=l at*
   generalize hi:(k:Int)=i
   refine Cz hT hm ?_
   rw[hA]
   cbv
   try simp only[nc]at*
   split
   ·rename_i h3
    simp only[hE,List.length_map,Aq,At,Au,Av,Ao,Aj,Al,An,Af,Ah,Ac,Ak,Ai,Ad,Am,Aa,Ag,Ae,Ap,IntKind.wrap_i64,decide_eq_true_eq,decide_eq_false_iff_not,Bool.not_eq_true',Bool.not_eq_false',Option.getD_none,Option.getD_some,hn]at h3
    have hk':k<a.length:=by omega
    have hsz:=hs a[k] (List.getElem_mem hk')
    have hp:=Bx (fun x=>(x.size:Int)) (a.take k) (fun x _=>D8 x)
    have hsum:=Ri (fun x=>(x.size:Int)) a hk'
    have hle:=Lf (fun x=>(x.size:Int)) a (fun x _=>D8 x) (k+1)
    have hel:=D8 a[k]
    cbv
    try simp only[nc]at*
    repeat (refine And.intro (by first|(simp only[hE];exact Kl hx hi hk')|(simp only[hE,Dd hx hi hk'];exact⟨rfl⟩)|(simp only[hE,Dd hx hi hk'];exact⟨Nat.le_of_ble_eq_true rfl⟩)) ?_)
    obtain⟨s,hsk⟩:∃s,s=a[k]:=⟨_,rfl⟩
    rw[show qstr (qnth (qelt xs i) 0)=s by rw[hsk];simp only[hE,Dd hx hi hk'];rfl]
    rw[←hsk]at hsz hsum hel
    obtain⟨l',hl'⟩:∃l',l'=l - (s.size:Int):=⟨_,rfl⟩
    rw[show qbin .sub .i64 l (qssize s)=l' by simp only[hE,List.length_map,Aq,At,Au,Av,Ao,Aj,Al,An,Af,Ah,Ac,Ak,Ai,Ad,Am,Aa,Ag,Ae,Ap,IntKind.wrap_i64,decide_eq_true_eq,decide_eq_false_iff_not,Bool.not_eq_true',Bool.not_eq_false',Option.getD_none,Option.getD_some,];omega]
    split
    ·rename_i h4
     simp only[hE,List.length_map,Aq,At,Au,Av,Ao,Aj,Al,An,Af,Ah,Ac,Ak,Ai,Ad,Am,Aa,Ag,Ae,Ap,IntKind.wrap_i64,decide_eq_true_eq,decide_eq_false_iff_not,Bool.not_eq_true',Bool.not_eq_false',Option.getD_none,Option.getD_some]at h4
     cbv
     try simp only[nc]at*
     rw[←hQ,show Ed (Ay a) left= -1 by unfold Ed Ay;rw[if_neg (by omega)]]
     exact Bg rfl rfl
    ·rename_i h4
     simp only[hE,List.length_map,Aq,At,Au,Av,Ao,Aj,Al,An,Af,Ah,Ac,Ak,Ai,Ad,Am,Aa,Ag,Ae,Ap,IntKind.wrap_i64,decide_eq_true_eq,decide_eq_false_iff_not,Bool.not_eq_true',Bool.not_eq_false',Option.getD_none,Option.getD_some]at h4
     cbv
     try simp only[nc]at*
     refine⟨k+1,⟨by omega,by omega⟩,by omega,?_,by trivial⟩
     refine .cons rfl (.cons ?_ (.cons ?_ (.nil _)))
     ·rw[show left - (a.length+G8 (fun x=>(x.size:Int)) (a.take (k+1)))=l' by omega]
      rfl
     ·show AV.d (D.sc (Value.int IntKind.i64 (qbin .add .i64 i 1)))=_
      rw[show qbin .add .i64 i 1=((k+1:Nat):Int)by simp only[hE,List.length_map,Aq,At,Au,Av,Ao,Aj,Al,An,Af,Ah,Ac,Ak,Ai,Ad,Am,Aa,Ag,Ae,Ap,IntKind.wrap_i64,decide_eq_true_eq,decide_eq_false_iff_not,Bool.not_eq_true',Bool.not_eq_false',Option.getD_none,Option.getD_some,];omega]
   ·rename_i h3
    simp only[hE,List.length_map,Aq,At,Au,Av,Ao,Aj,Al,An,Af,Ah,Ac,Ak,Ai,Ad,Am,Aa,Ag,Ae,Ap,IntKind.wrap_i64,decide_eq_true_eq,decide_eq_false_iff_not,Bool.not_eq_true',Bool.not_eq_false',Option.getD_none,Option.getD_some,hn]at h3
    cbv
    try simp only[nc]at*
    have hk':k=a.length:=by omega
    subst hk'
    rw[List.take_length]at hleft
    rw[←hQ,show Ed (Ay a) left=l by unfold Ed Ay;rw[if_pos (by omega)];omega]
    exact Bg rfl rfl
noncomputable def c37:Code:=(Tryz.f37.body).getD .skip
theorem ent37:Bd Tryz.prog 37:=⟨_,Tryz.func37,rfl,rfl⟩
theorem T37{a_nodes:List Cm}{xa_nodes:List (List D)}(ha_nodes:a_nodes.map Cs=xa_nodes){a_entries:List A3}{xa_entries:List (List D)}(ha_entries:a_entries.map A2=xa_entries){a_old:List A3}{xa_old:List (List D)}(ha_old:a_old.map A2=xa_old){a_steps:List ByteArray}{xa_steps:List (List D)}(ha_steps:a_steps.map cS=xa_steps){a_room:Int}{a_next:Int}{left:Int}(h0:0≤left)(h1:left<2^40)(hok:Xbb ⟨a_nodes,a_entries,a_old,a_steps,a_room,a_next⟩):
  CallOk Tryz.prog 37 [.agg [.d (.row 3 xa_nodes),.d (.row 2 xa_entries),.d (.row 2 xa_old),.d (.row 1 xa_steps),.d (.sc (.int .i64 a_room)),.d (.sc (.int .i64 a_next))],.d (.sc (.int .i64 left))] [] ⟨.d (.sc (.int .i64 (Ed (Dw ⟨a_nodes,a_entries,a_old,a_steps,a_room,a_next⟩) left))),[],[]⟩:=by
 have ent23_:=Xhz
 have T23_:=@T23
 have ent95_:=ent95
 have T95_:=@T95
 have ent96_:=ent96
 have T96_:=@T96
 refine CallOk.of_bodyD (body:=c37) Tryz.func37 rfl (Nat.le_of_ble_eq_true (by kernel_rfl)) rfl ?_
 refine Cz A6 mixed ?_
 have hT:=A6
 have hm:=mixed
 generalize hP:Tryz.prog=P at*
 generalize hA:std=A
 obtain⟨qbin,qsh,qcmp,qscmp,qbcmp,qbnot,qneg,qwrap,qcat,qssize,qssub,qsget,qlen,qrsub,qapp,qelt,qset,qnth,qdrp,qstr,qint,qbool,qrow,qnat,qnadd,qnsub,qband,qofNat,qstrRow,qmkRow,qmx,qmn,qbytes,qemp⟩:=A
 have hE:=Ar.eqs hA
 dsimp only at hE
 generalize hQ:EndD P Tryz.f37.results _=Q
 have nna_nodes:=Es a_nodes
 have nna_entries:=B7 a_entries
 have nna_old:=B7 a_old
 have nna_steps:=B9 a_steps
 have hok':U7 a_nodes∧Lr a_entries∧Lr a_old∧Jk a_steps:=hok
 generalize hto:Dw ⟨a_nodes,a_entries,a_old,a_steps,a_room,a_next⟩=to at*
 have hto':Ct a_nodes+A5 a_entries+A5 a_old+Ay a_steps=to:=hto
 clear hok hto
 obtain⟨k0,k1,k2,k3⟩:=hok'
 cbv
 try simp only[nc]at*
 refine ClW.dd (f:=95) rfl rfl rfl rfl (.cons rfl (.cons rfl .nil)) rfl ent95_ (T95_ ha_nodes (by omega) (by omega) k0) rfl ?_
 generalize aa:Ed (Ct a_nodes) left=l0
 cbv
 try simp only[nc]at*
 split
 ·rename_i h2
  simp only[hE,List.length_map,Aq,At,Au,Av,Ao,Aj,Al,An,Af,Ah,Ac,Ak,Ai,Ad,Am,Aa,Ag,Ae,Ap,IntKind.wrap_i64,decide_eq_true_eq,decide_eq_false_iff_not,Bool.not_eq_true',Bool.not_eq_false',Option.getD_none,Option.getD_some]at h2
  cbv
  try simp only[nc]at*
  have ae:¬Ct a_nodes≤left:=by intro hle;unfold Ed at aa;rw[if_pos hle]at aa;omega
  rw[←hQ,show Ed to left= -1 by unfold Ed;rw[if_neg (by omega)]]
  exact Bg rfl rfl
 rename_i h20
 simp only[hE,List.length_map,Aq,At,Au,Av,Ao,Aj,Al,An,Af,Ah,Ac,Ak,Ai,Ad,Am,Aa,Ag,Ae,Ap,IntKind.wrap_i64,decide_eq_true_eq,decide_eq_false_iff_not,Bool.not_eq_true',Bool.not_eq_false',Option.getD_none,Option.getD_some]at h20
 obtain⟨g0,g0'⟩:=Ic (t:=Ct a_nodes) (left:=left) (by omega)
 cbv
 try simp only[nc]at*
 refine ClW.dd (f:=96) rfl rfl rfl rfl (.cons rfl (.cons rfl .nil)) rfl ent96_ (T96_ ha_entries (by omega) (by omega) k1) rfl ?_
 generalize ab:Ed (A5 a_entries) l0=l1
 cbv
 try simp only[nc]at*
 split
 ·rename_i h2
  simp only[hE,List.length_map,Aq,At,Au,Av,Ao,Aj,Al,An,Af,Ah,Ac,Ak,Ai,Ad,Am,Aa,Ag,Ae,Ap,IntKind.wrap_i64,decide_eq_true_eq,decide_eq_false_iff_not,Bool.not_eq_true',Bool.not_eq_false',Option.getD_none,Option.getD_some]at h2
  cbv
  try simp only[nc]at*
  have af:¬A5 a_entries≤l0:=by intro hle;unfold Ed at ab;rw[if_pos hle]at ab;omega
  rw[←hQ,show Ed to left= -1 by unfold Ed;rw[if_neg (by omega)]]
  exact Bg rfl rfl
 rename_i h21
 simp only[hE,List.length_map,Aq,At,Au,Av,Ao,Aj,Al,An,Af,Ah,Ac,Ak,Ai,Ad,Am,Aa,Ag,Ae,Ap,IntKind.wrap_i64,decide_eq_true_eq,decide_eq_false_iff_not,Bool.not_eq_true',Bool.not_eq_false',Option.getD_none,Option.getD_some]at h21
 obtain⟨g1,g1'⟩:=Ic (t:=A5 a_entries) (left:=l0) (by omega)
 cbv
 try simp only[nc]at*
 refine ClW.dd (f:=96) rfl rfl rfl rfl (.cons rfl (.cons rfl .nil)) rfl ent96_ (T96_ ha_old (by omega) (by omega) k2) rfl ?_
 generalize ac:Ed (A5 a_old) l1=l2
 cbv
 try simp only[nc]at*
 split
 ·rename_i h2
  simp only[hE,List.length_map,Aq,At,Au,Av,Ao,Aj,Al,An,Af,Ah,Ac,Ak,Ai,Ad,Am,Aa,Ag,Ae,Ap,IntKind.wrap_i64,decide_eq_true_eq,decide_eq_false_iff_not,Bool.not_eq_true',Bool.not_eq_false',Option.getD_none,Option.getD_some]at h2
  cbv
  try simp only[nc]at*
  have hb2:¬A5 a_old≤l1:=by intro hle;unfold Ed at ac;rw[if_pos hle]at ac;omega
  rw[←hQ,show Ed to left= -1 by unfold Ed;rw[if_neg (by omega)]]
  exact Bg rfl rfl
 rename_i h22
 simp only[hE,List.length_map,Aq,At,Au,Av,Ao,Aj,Al,An,Af,Ah,Ac,Ak,Ai,Ad,Am,Aa,Ag,Ae,Ap,IntKind.wrap_i64,decide_eq_true_eq,decide_eq_false_iff_not,Bool.not_eq_true',Bool.not_eq_false',Option.getD_none,Option.getD_some]at h22
 obtain⟨g2,g2'⟩:=Ic (t:=A5 a_old) (left:=l1) (by omega)
 cbv
 try simp only[nc]at*
 refine ClW.dd (f:=23) rfl rfl rfl rfl (.cons rfl (.cons rfl .nil)) rfl ent23_ (T23_ ha_steps (by omega) (by omega) k3) rfl ?_
 generalize ad:Ed (Ay a_steps) l2=l3
 cbv
 try simp only[nc]at*
 split
 ·rename_i h2
  simp only[hE,List.length_map,Aq,At,Au,Av,Ao,Aj,Al,An,Af,Ah,Ac,Ak,Ai,Ad,Am,Aa,Ag,Ae,Ap,IntKind.wrap_i64,decide_eq_true_eq,decide_eq_false_iff_not,Bool.not_eq_true',Bool.not_eq_false',Option.getD_none,Option.getD_some]at h2
  cbv
  try simp only[nc]at*
  have ag:¬Ay a_steps≤l2:=by intro hle;unfold Ed at ad;rw[if_pos hle]at ad;omega
  rw[←hQ,show Ed to left= -1 by unfold Ed;rw[if_neg (by omega)]]
  exact Bg rfl rfl
 rename_i h23
 simp only[hE,List.length_map,Aq,At,Au,Av,Ao,Aj,Al,An,Af,Ah,Ac,Ak,Ai,Ad,Am,Aa,Ag,Ae,Ap,IntKind.wrap_i64,decide_eq_true_eq,decide_eq_false_iff_not,Bool.not_eq_true',Bool.not_eq_false',Option.getD_none,Option.getD_some]at h23
 obtain⟨g3,g3'⟩:=Ic (t:=Ay a_steps) (left:=l2) (by omega)
 cbv
 try simp only[nc]at*
 rw[←hQ,show Ed to left=l3 by unfold Ed;rw[if_pos (by omega)];omega]
 exact Bg rfl rfl
noncomputable def c134:Code:=(Tryz.f134.body).getD .skip
theorem Xg9:Bd Tryz.prog 134:=⟨_,Tryz.func134,rfl,rfl⟩
theorem T134{a:List Int}{xs:List (List D)}(hx:a.map cI=xs){left:Int}(h0:0≤left)(h1:left<2^40)(hok:Xbg a):
  CallOk Tryz.prog 134 [.d (.row 1 xs),.d (.sc (.int .i64 left))] [] ⟨.d (.sc (.int .i64 (Ed (D2 a) left))),[],[]⟩:=by
 refine CallOk.of_bodyD (body:=c134) Tryz.func134 rfl (Nat.le_of_ble_eq_true (by kernel_rfl)) rfl ?_
 refine Cz A6 mixed ?_
 have hT:=A6
 have hm:=mixed
 generalize hP:Tryz.prog=P at*
 generalize hA:std=A
 obtain⟨qbin,qsh,qcmp,qscmp,qbcmp,qbnot,qneg,qwrap,qcat,qssize,qssub,qsget,qlen,qrsub,qapp,qelt,qset,qnth,qdrp,qstr,qint,qbool,qrow,qnat,qnadd,qnsub,qband,qofNat,qstrRow,qmkRow,qmx,qmn,qbytes,qemp⟩:=A
 have hE:=Ar.eqs hA
 dsimp only at hE
 generalize hQ:EndD P Tryz.f134.results _=Q
 have hn:=Xb5 hx
 have ha:a.length<2^44:=hok
 cbv
 try simp only[nc]at*
 split
 ·rename_i h2
  simp only[hE,List.length_map,Aq,At,Au,Av,Ao,Aj,Al,An,Af,Ah,Ac,Ak,Ai,Ad,Am,Aa,Ag,Ae,Ap,IntKind.wrap_i64,decide_eq_true_eq,decide_eq_false_iff_not,Bool.not_eq_true',Bool.not_eq_false',Option.getD_none,Option.getD_some,hn]at h2
  cbv
  try simp only[nc]at*
  rw[←hQ,show Ed (D2 a) left= -1 by unfold Ed D2;rw[if_neg (by omega)]]
  exact Bg rfl rfl
 ·rename_i h2
  simp only[hE,List.length_map,Aq,At,Au,Av,Ao,Aj,Al,An,Af,Ah,Ac,Ak,Ai,Ad,Am,Aa,Ag,Ae,Ap,IntKind.wrap_i64,decide_eq_true_eq,decide_eq_false_iff_not,Bool.not_eq_true',Bool.not_eq_false',Option.getD_none,Option.getD_some,hn]at h2
  cbv
  try simp only[nc]at*
  rw[←hQ,show Ed (D2 a) left=qbin .sub .i64 left (qlen xs)by unfold Ed D2;rw[if_pos (by omega)];simp only[hE,List.length_map,Aq,At,Au,Av,Ao,Aj,Al,An,Af,Ah,Ac,Ak,Ai,Ad,Am,Aa,Ag,Ae,Ap,IntKind.wrap_i64,decide_eq_true_eq,decide_eq_false_iff_not,Bool.not_eq_true',Bool.not_eq_false',Option.getD_none,Option.getD_some,hn];omega]
  exact Bg rfl rfl
noncomputable def c54:Code:=(Tryz.f54.body).getD .skip
theorem ent54:Bd Tryz.prog 54:=⟨_,Tryz.func54,rfl,rfl⟩
theorem T54{a_version:Int}{a_stride:Int}{a_roll:Int}{a_base:Int}{a_link:Int}{a_offsets:List Int}{xa_offsets:List (List D)}(ha_offsets:a_offsets.map cI=xa_offsets){a_end:Int}{a_open:Bool}{a_code:Int}{left:Int}(h0:0≤left)(h1:left<2^40)(hok:Px ⟨a_version,a_stride,a_roll,a_base,a_link,a_offsets,a_end,a_open,a_code⟩):
  CallOk Tryz.prog 54 [.agg [.d (.sc (.int .i64 a_version)),.d (.sc (.int .i64 a_stride)),.d (.sc (.int .i64 a_roll)),.d (.sc (.int .i64 a_base)),.d (.sc (.int .i64 a_link)),.d (.row 1 xa_offsets),.d (.sc (.int .i64 a_end)),.d (.sc (.bool a_open)),.d (.sc (.int .i64 a_code))],.d (.sc (.int .i64 left))] [] ⟨.d (.sc (.int .i64 (Ed (C7 ⟨a_version,a_stride,a_roll,a_base,a_link,a_offsets,a_end,a_open,a_code⟩) left))),[],[]⟩:=by
 have ent134_:=Xg9
 have T134_:=@T134
 refine CallOk.of_bodyD (body:=c54) Tryz.func54 rfl (Nat.le_of_ble_eq_true (by kernel_rfl)) rfl ?_
 refine Cz A6 mixed ?_
 have hT:=A6
 have hm:=mixed
 generalize hP:Tryz.prog=P at*
 generalize hA:std=A
 obtain⟨qbin,qsh,qcmp,qscmp,qbcmp,qbnot,qneg,qwrap,qcat,qssize,qssub,qsget,qlen,qrsub,qapp,qelt,qset,qnth,qdrp,qstr,qint,qbool,qrow,qnat,qnadd,qnsub,qband,qofNat,qstrRow,qmkRow,qmx,qmn,qbytes,qemp⟩:=A
 have hE:=Ar.eqs hA
 dsimp only at hE
 generalize hQ:EndD P Tryz.f54.results _=Q
 have nna_offsets:=Gv a_offsets
 have hok':Xbg a_offsets:=hok
 generalize hto:C7 ⟨a_version,a_stride,a_roll,a_base,a_link,a_offsets,a_end,a_open,a_code⟩=to at*
 have hto':D2 a_offsets=to:=hto
 clear hok hto
 have k0:=hok'
 cbv
 try simp only[nc]at*
 refine ClW.dd (f:=134) rfl rfl rfl rfl (.cons rfl (.cons rfl .nil)) rfl ent134_ (T134_ ha_offsets (by omega) (by omega) k0) rfl ?_
 generalize aa:Ed (D2 a_offsets) left=l0
 cbv
 try simp only[nc]at*
 split
 ·rename_i h2
  simp only[hE,List.length_map,Aq,At,Au,Av,Ao,Aj,Al,An,Af,Ah,Ac,Ak,Ai,Ad,Am,Aa,Ag,Ae,Ap,IntKind.wrap_i64,decide_eq_true_eq,decide_eq_false_iff_not,Bool.not_eq_true',Bool.not_eq_false',Option.getD_none,Option.getD_some]at h2
  cbv
  try simp only[nc]at*
  have ab:¬D2 a_offsets≤left:=by intro hle;unfold Ed at aa;rw[if_pos hle]at aa;omega
  rw[←hQ,show Ed to left= -1 by unfold Ed;rw[if_neg (by omega)]]
  exact Bg rfl rfl
 rename_i h20
 simp only[hE,List.length_map,Aq,At,Au,Av,Ao,Aj,Al,An,Af,Ah,Ac,Ak,Ai,Ad,Am,Aa,Ag,Ae,Ap,IntKind.wrap_i64,decide_eq_true_eq,decide_eq_false_iff_not,Bool.not_eq_true',Bool.not_eq_false',Option.getD_none,Option.getD_some]at h20
 obtain⟨g0,g0'⟩:=Ic (t:=D2 a_offsets) (left:=left) (by omega)
 cbv
 try simp only[nc]at*
 rw[←hQ,show Ed to left=l0 by unfold Ed;rw[if_pos (by omega)];omega]
 exact Bg rfl rfl
noncomputable def c14:Code:=(Tryz.f14.body).getD .skip
theorem ent14:Bd Tryz.prog 14:=⟨_,Tryz.func14,rfl,rfl⟩
theorem T14{a_set_room:Int}{a_set_version:Int}{a_set_stride:Int}{a_set_roll:Int}{a_disk_nodes:List Cm}{xa_disk_nodes:List (List D)}(ha_disk_nodes:a_disk_nodes.map Cs=xa_disk_nodes){a_disk_entries:List A3}{xa_disk_entries:List (List D)}(ha_disk_entries:a_disk_entries.map A2=xa_disk_entries){a_disk_old:List A3}{xa_disk_old:List (List D)}(ha_disk_old:a_disk_old.map A2=xa_disk_old){a_disk_steps:List ByteArray}{xa_disk_steps:List (List D)}(ha_disk_steps:a_disk_steps.map cS=xa_disk_steps){a_disk_room:Int}{a_disk_next:Int}{a_writer_version:Int}{a_writer_stride:Int}{a_writer_roll:Int}{a_writer_base:Int}{a_writer_link:Int}{a_writer_offsets:List Int}{xa_writer_offsets:List (List D)}(ha_writer_offsets:a_writer_offsets.map cI=xa_writer_offsets){a_writer_end:Int}{a_writer_open:Bool}{a_writer_code:Int}{a_told:List ByteArray}{xa_told:List (List D)}(ha_told:a_told.map cS=xa_told){a_sure:Int}{a_falls:Int}{left:Int}(h0:0≤left)(h1:left<2^40)(hok:Zo ⟨⟨a_set_room,a_set_version,a_set_stride,a_set_roll⟩,⟨a_disk_nodes,a_disk_entries,a_disk_old,a_disk_steps,a_disk_room,a_disk_next⟩,⟨a_writer_version,a_writer_stride,a_writer_roll,a_writer_base,a_writer_link,a_writer_offsets,a_writer_end,a_writer_open,a_writer_code⟩,a_told,a_sure,a_falls⟩):
  CallOk Tryz.prog 14 [.agg [.d (.sc (.int .i64 a_set_room)),.d (.sc (.int .i64 a_set_version)),.d (.sc (.int .i64 a_set_stride)),.d (.sc (.int .i64 a_set_roll)),.d (.row 3 xa_disk_nodes),.d (.row 2 xa_disk_entries),.d (.row 2 xa_disk_old),.d (.row 1 xa_disk_steps),.d (.sc (.int .i64 a_disk_room)),.d (.sc (.int .i64 a_disk_next)),.d (.sc (.int .i64 a_writer_version)),.d (.sc (.int .i64 a_writer_stride)),.d (.sc (.int .i64 a_writer_roll)),.d (.sc (.int .i64 a_writer_base)),.d (.sc (.int .i64 a_writer_link)),.d (.row 1 xa_writer_offsets),.d (.sc (.int .i64 a_writer_end)),.d (.sc (.bool a_writer_open)),.d (.sc (.int .i64 a_writer_code)),.d (.row 1 xa_told),.d (.sc (.int .i64 a_sure)),.d (.sc (.int .i64 a_falls))],.d (.sc (.int .i64 left))] [] ⟨.d (.sc (.int .i64 (Ed (D4 ⟨⟨a_set_room,a_set_version,a_set_stride,a_set_roll⟩,⟨a_disk_nodes,a_disk_entries,a_disk_old,a_disk_steps,a_disk_room,a_disk_next⟩,⟨a_writer_version,a_writer_stride,a_writer_roll,a_writer_base,a_writer_link,a_writer_offsets,a_writer_end,a_writer_open,a_writer_code⟩,a_told,a_sure,a_falls⟩) left))),[],[]⟩:=by
 have ent23_:=Xhz
 have T23_:=@T23
 have ent37_:=ent37
 have T37_:=@T37
 have ent54_:=ent54
 have T54_:=@T54
 refine CallOk.of_bodyD (body:=c14) Tryz.func14 rfl (Nat.le_of_ble_eq_true (by kernel_rfl)) rfl ?_
 refine Cz A6 mixed ?_
 have hT:=A6
 have hm:=mixed
 generalize hP:Tryz.prog=P at*
 generalize hA:std=A
 obtain⟨qbin,qsh,qcmp,qscmp,qbcmp,qbnot,qneg,qwrap,qcat,qssize,qssub,qsget,qlen,qrsub,qapp,qelt,qset,qnth,qdrp,qstr,qint,qbool,qrow,qnat,qnadd,qnsub,qband,qofNat,qstrRow,qmkRow,qmx,qmn,qbytes,qemp⟩:=A
 have hE:=Ar.eqs hA
 dsimp only at hE
 generalize hQ:EndD P Tryz.f14.results _=Q
 have nna_disk:=G6 (⟨a_disk_nodes,a_disk_entries,a_disk_old,a_disk_steps,a_disk_room,a_disk_next⟩:As)
 have nna_writer:=Fi (⟨a_writer_version,a_writer_stride,a_writer_roll,a_writer_base,a_writer_link,a_writer_offsets,a_writer_end,a_writer_open,a_writer_code⟩:C0)
 have nna_told:=B9 a_told
 have hok':Xbb (⟨a_disk_nodes,a_disk_entries,a_disk_old,a_disk_steps,a_disk_room,a_disk_next⟩:As)∧Px (⟨a_writer_version,a_writer_stride,a_writer_roll,a_writer_base,a_writer_link,a_writer_offsets,a_writer_end,a_writer_open,a_writer_code⟩:C0)∧Jk a_told:=hok
 generalize hto:D4 ⟨⟨a_set_room,a_set_version,a_set_stride,a_set_roll⟩,⟨a_disk_nodes,a_disk_entries,a_disk_old,a_disk_steps,a_disk_room,a_disk_next⟩,⟨a_writer_version,a_writer_stride,a_writer_roll,a_writer_base,a_writer_link,a_writer_offsets,a_writer_end,a_writer_open,a_writer_code⟩,a_told,a_sure,a_falls⟩=to at*
 have hto':Dw (⟨a_disk_nodes,a_disk_entries,a_disk_old,a_disk_steps,a_disk_room,a_disk_next⟩:As)+C7 (⟨a_writer_version,a_writer_stride,a_writer_roll,a_writer_base,a_writer_link,a_writer_offsets,a_writer_end,a_writer_open,a_writer_code⟩:C0)+Ay a_told=to:=hto
 clear hok hto
 obtain⟨k0,k1,k2⟩:=hok'
 cbv
 try simp only[nc]at*
 refine ClW.dd (f:=37) rfl rfl rfl rfl (.cons rfl (.cons rfl .nil)) rfl ent37_ (T37_ ha_disk_nodes ha_disk_entries ha_disk_old ha_disk_steps (by omega) (by omega) k0) rfl ?_
 generalize aa:Ed (Dw (⟨a_disk_nodes,a_disk_entries,a_disk_old,a_disk_steps,a_disk_room,a_disk_next⟩:As)) left=l0
 cbv
 try simp only[nc]at*
 split
 ·rename_i h2
  simp only[hE,List.length_map,Aq,At,Au,Av,Ao,Aj,Al,An,Af,Ah,Ac,Ak,Ai,Ad,Am,Aa,Ag,Ae,Ap,IntKind.wrap_i64,decide_eq_true_eq,decide_eq_false_iff_not,Bool.not_eq_true',Bool.not_eq_false',Option.getD_none,Option.getD_some]at h2
  cbv
  try simp only[nc]at*
  have ad:¬Dw (⟨a_disk_nodes,a_disk_entries,a_disk_old,a_disk_steps,a_disk_room,a_disk_next⟩:As)≤left:=by intro hle;unfold Ed at aa;rw[if_pos hle]at aa;omega
  rw[←hQ,show Ed to left= -1 by unfold Ed;rw[if_neg (by omega)]]
  exact Bg rfl rfl
 rename_i h20
 simp only[hE,List.length_map,Aq,At,Au,Av,Ao,Aj,Al,An,Af,Ah,Ac,Ak,Ai,Ad,Am,Aa,Ag,Ae,Ap,IntKind.wrap_i64,decide_eq_true_eq,decide_eq_false_iff_not,Bool.not_eq_true',Bool.not_eq_false',Option.getD_none,Option.getD_some]at h20
 obtain⟨g0,g0'⟩:=Ic (t:=Dw (⟨a_disk_nodes,a_disk_entries,a_disk_old,a_disk_steps,a_disk_room,a_disk_next⟩:As)) (left:=left) (by omega)
 cbv
 try simp only[nc]at*
 refine ClW.dd (f:=54) rfl rfl rfl rfl (.cons rfl (.cons rfl .nil)) rfl ent54_ (T54_ ha_writer_offsets (by omega) (by omega) k1) rfl ?_
 generalize ab:Ed (C7 (⟨a_writer_version,a_writer_stride,a_writer_roll,a_writer_base,a_writer_link,a_writer_offsets,a_writer_end,a_writer_open,a_writer_code⟩:C0)) l0=l1
 cbv
 try simp only[nc]at*
 split
 ·rename_i h2
  simp only[hE,List.length_map,Aq,At,Au,Av,Ao,Aj,Al,An,Af,Ah,Ac,Ak,Ai,Ad,Am,Aa,Ag,Ae,Ap,IntKind.wrap_i64,decide_eq_true_eq,decide_eq_false_iff_not,Bool.not_eq_true',Bool.not_eq_false',Option.getD_none,Option.getD_some]at h2
  cbv
  try simp only[nc]at*
  have ae:¬C7 (⟨a_writer_version,a_writer_stride,a_writer_roll,a_writer_base,a_writer_link,a_writer_offsets,a_writer_end,a_writer_open,a_writer_code⟩:C0)≤l0:=by intro hle;unfold Ed at ab;rw[if_pos hle]at ab;omega
  rw[←hQ,show Ed to left= -1 by unfold Ed;rw[if_neg (by omega)]]
  exact Bg rfl rfl
 rename_i h21
 simp only[hE,List.length_map,Aq,At,Au,Av,Ao,Aj,Al,An,Af,Ah,Ac,Ak,Ai,Ad,Am,Aa,Ag,Ae,Ap,IntKind.wrap_i64,decide_eq_true_eq,decide_eq_false_iff_not,Bool.not_eq_true',Bool.not_eq_false',Option.getD_none,Option.getD_some]at h21
 obtain⟨g1,g1'⟩:=Ic (t:=C7 (⟨a_writer_version,a_writer_stride,a_writer_roll,a_writer_base,a_writer_link,a_writer_offsets,a_writer_end,a_writer_open,a_writer_code⟩:C0)) (left:=l0) (by omega)
 cbv
 try simp only[nc]at*
 refine ClW.dd (f:=23) rfl rfl rfl rfl (.cons rfl (.cons rfl .nil)) rfl ent23_ (T23_ ha_told (by omega) (by omega) k2) rfl ?_
 generalize ac:Ed (Ay a_told) l1=l2
 cbv
 try simp only[nc]at*
 split
 ·rename_i h2
  simp only[hE,List.length_map,Aq,At,Au,Av,Ao,Aj,Al,An,Af,Ah,Ac,Ak,Ai,Ad,Am,Aa,Ag,Ae,Ap,IntKind.wrap_i64,decide_eq_true_eq,decide_eq_false_iff_not,Bool.not_eq_true',Bool.not_eq_false',Option.getD_none,Option.getD_some]at h2
  cbv
  try simp only[nc]at*
  have hb2:¬Ay a_told≤l1:=by intro hle;unfold Ed at ac;rw[if_pos hle]at ac;omega
  rw[←hQ,show Ed to left= -1 by unfold Ed;rw[if_neg (by omega)]]
  exact Bg rfl rfl
 rename_i h22
 simp only[hE,List.length_map,Aq,At,Au,Av,Ao,Aj,Al,An,Af,Ah,Ac,Ak,Ai,Ad,Am,Aa,Ag,Ae,Ap,IntKind.wrap_i64,decide_eq_true_eq,decide_eq_false_iff_not,Bool.not_eq_true',Bool.not_eq_false',Option.getD_none,Option.getD_some]at h22
 obtain⟨g2,g2'⟩:=Ic (t:=Ay a_told) (left:=l1) (by omega)
 cbv
 try simp only[nc]at*
 rw[←hQ,show Ed to left=l2 by unfold Ed;rw[if_pos (by omega)];omega]
 exact Bg rfl rfl
end
section
open Go Go.Proofs
set_option maxRecDepth 20000
noncomputable def c61:Code:=(Tryz.f61.body).getD .skip
theorem XhB:Bd Tryz.prog 61:=⟨_,Tryz.func61,rfl,rfl⟩
theorem T61{a_room:Int}{a_version:Int}{a_stride:Int}{a_roll:Int}:CallOk Tryz.prog 61 [.agg [.d (.sc (.int .i64 a_room)),.d (.sc (.int .i64 a_version)),.d (.sc (.int .i64 a_stride)),.d (.sc (.int .i64 a_roll))]] [] ⟨.agg [.d (.sc (.int .i64 a_room)),.d (.sc (.int .i64 a_version)),.d (.sc (.int .i64 a_stride)),.d (.sc (.int .i64 a_roll))],[],[]⟩:=by
 refine CallOk.of_bodyD (body:=c61) Tryz.func61 rfl (Nat.le_of_ble_eq_true (by kernel_rfl)) rfl ?_
 refine Cz A6 mixed ?_
 have hT:=A6
 have hm:=mixed
 generalize hP:Tryz.prog=P at*
 generalize hA:std=A
 obtain⟨qbin,qsh,qcmp,qscmp,qbcmp,qbnot,qneg,qwrap,qcat,qssize,qssub,qsget,qlen,qrsub,qapp,qelt,qset,qnth,qdrp,qstr,qint,qbool,qrow,qnat,qnadd,qnsub,qband,qofNat,qstrRow,qmkRow,qmx,qmn,qbytes,qemp⟩:=A
 have hE:=Ar.eqs hA
 dsimp only at hE
 generalize hQ:EndD P Tryz.f61.results _=Q
 cbv
 try simp only[nc]at*
 rw[←hQ]
 exact Jo hT (by rfl) (by rfl) (by rfl) (by rfl) rfl
noncomputable def c193:Code:=(Tryz.f193.body).getD .skip
theorem XhN:Bd Tryz.prog 193:=⟨_,Tryz.func193,rfl,rfl⟩
theorem T193{a_id:Int}{a_text:ByteArray}{a_sure:Int}(hb:Cx ⟨a_id,a_text,a_sure⟩≤1048576):CallOk Tryz.prog 193 [.agg [.d (.sc (.int .i64 a_id)),.d (.sc (.string a_text)),.d (.sc (.int .i64 a_sure))]] [] ⟨.agg [.d (.sc (.int .i64 a_id)),.d (.sc (.string a_text)),.d (.sc (.int .i64 a_sure))],[],[]⟩:=by
 have hb':(a_text.size:Int)≤1048576:=hb
 refine CallOk.of_bodyD (body:=c193) Tryz.func193 rfl (Nat.le_of_ble_eq_true (by kernel_rfl)) rfl ?_
 refine Cz A6 mixed ?_
 have hT:=A6
 have hm:=mixed
 generalize hP:Tryz.prog=P at*
 generalize hA:std=A
 obtain⟨qbin,qsh,qcmp,qscmp,qbcmp,qbnot,qneg,qwrap,qcat,qssize,qssub,qsget,qlen,qrsub,qapp,qelt,qset,qnth,qdrp,qstr,qint,qbool,qrow,qnat,qnadd,qnsub,qband,qofNat,qstrRow,qmkRow,qmx,qmn,qbytes,qemp⟩:=A
 have hE:=Ar.eqs hA
 dsimp only at hE
 generalize hQ:EndD P Tryz.f193.results _=Q
 cbv
 try simp only[nc]at*
 rw[←hQ]
 exact Jo hT (by rfl) (by rfl) (by rfl) (by rfl) rfl
noncomputable def c104:Code:=(Tryz.f104.body).getD .skip
theorem Xfn:Bd Tryz.prog 104:=⟨_,Tryz.func104,rfl,rfl⟩
theorem Xg6{a:List Cm}{xs:List (List D)}(hx:a.map Cs=xs)(hb:Ct a≤1048576):CallOk Tryz.prog 104 [.d (.row 3 xs)] [] ⟨.ref 0 0 a.length,[.row 3 false xs],[]⟩:=by
 have ent193_:=XhN
 have T193_:=@T193
 have aa:(a.length:Int)+G8 (fun x=>Cx x) a≤1048576:=hb
 have hsn:=Bx (fun x=>Cx x) a (fun x _=>D9 x)
 refine CallOk.of_body (body:=c104) Tryz.func104 rfl (Nat.le_of_ble_eq_true (by kernel_rfl)) rfl rfl ?_
 refine Cz A6 mixed ?_
 have hT:=A6
 have hm:=mixed
 generalize hP:Tryz.prog=P at*
 generalize hA:std=A
 obtain⟨qbin,qsh,qcmp,qscmp,qbcmp,qbnot,qneg,qwrap,qcat,qssize,qssub,qsget,qlen,qrsub,qapp,qelt,qset,qnth,qdrp,qstr,qint,qbool,qrow,qnat,qnadd,qnsub,qband,qofNat,qstrRow,qmkRow,qmx,qmn,qbytes,qemp⟩:=A
 have hE:=Ar.eqs hA
 dsimp only at hE
 generalize hQ:EndQ P Tryz.f104.results [] _=Q
 have hn:=Xb5 hx
 cbv
 try simp only[nc]at*
 refine⟨?_,?_⟩
 ·simp only[hE,List.length_map,Aq,At,Au,Av,Ao,Aj,Al,An,Af,Ah,Ac,Ak,Ai,Ad,Am,Aa,Ag,Ae,Ap,IntKind.wrap_i64,decide_eq_true_eq,decide_eq_false_iff_not,Bool.not_eq_true',Bool.not_eq_false',Option.getD_none,Option.getD_some,hn];exact⟨by omega,by omega,by omega,by omega⟩
 refine LpW.of (κ:=Nat) (fun k=>k≤a.length) (fun k=>a.length - k) (fun k=>[(0,.d (.row 3 xs)),(3,.ref 1 0 a.length),(4,.d (.sc (.int .i64 k)))]) (fun k=>[.row 3 false [],.row 3 false (H2 Cs a [.sc (.int .i64 0),.sc (.string default),.sc (.int .i64 0)] k)]) 0 (by simp) ?_ ?_ ?_
 ·refine .cons rfl (.cons ?_ (.cons rfl (.nil _)))
  show AV.ref 1 0 (qnat (qlen xs))=_
  simp only[hE,Al,Am,hn,Int.toNat_natCast]
 ·show[Root.row 3 false [],Root.row 3 false (qmkRow (qlen xs) [.sc (.int .i64 0),.sc (.string default),.sc (.int .i64 0)])]=_
  simp only[hE,Al,hn,T9]
  rfl
 ·intro k hk
  generalize hz:H2 Cs a [.sc (.int .i64 0),.sc (.string default),.sc (.int .i64 0)] k=zs
  generalize hi:(k:Int)=i
  generalize hm':a.length=m
  refine Cz hT hm ?_
  rw[hA]
  cbv
  try simp only[nc]at*
  split
  ·rename_i h2
   simp only[hE,List.length_map,Aq,At,Au,Av,Ao,Aj,Al,An,Af,Ah,Ac,Ak,Ai,Ad,Am,Aa,Ag,Ae,Ap,IntKind.wrap_i64,decide_eq_true_eq,decide_eq_false_iff_not,Bool.not_eq_true',Bool.not_eq_false',Option.getD_none,Option.getD_some,hn]at h2
   have hk':k<a.length:=by omega
   cbv
   try simp only[nc]at*
   repeat (refine And.intro (by first|(simp only[hE];exact Kl hx hi hk')|(simp only[hE,Dd hx hi hk'];exact⟨rfl⟩)|(simp only[hE,Dd hx hi hk'];exact⟨Nat.le_of_ble_eq_true rfl⟩)) ?_)
   have hset:=Xaf hk' hz hi (by rfl)
   have hmem:=F1 (fun x=>Cx x) (fun x=>D9 x) (List.getElem_mem hk')
   obtain⟨wv,hwv⟩:∃w,w=a[k]:=⟨_,rfl⟩
   have hev:qelt xs i=Cs wv:=by simp only[hE];rw[Dd hx hi hk',hwv]
   rw[←hwv]at hset hmem
   obtain⟨v_id,v_text,v_sure⟩:=wv
   rw[show qint (qnth (qelt xs i) 0)=v_id by rw[hev];simp only[hE];rfl,show qstr (qnth (qelt xs i) 1)=v_text by rw[hev];simp only[hE];rfl,show qint (qnth (qelt xs i) 2)=v_sure by rw[hev];simp only[hE];rfl]
   refine ClW.dd (f:=193) rfl rfl rfl rfl (.cons rfl .nil) rfl ent193_ (T193_ (by omega)) rfl ?_
   cbv
   try simp only[nc]at*
   refine⟨?_,?_,?_,k+1,by omega,by omega,?_,?_⟩
   ·simp only[hE,List.length_map,Aq,At,Au,Av,Ao,Aj,Al,An,Af,Ah,Ac,Ak,Ai,Ad,Am,Aa,Ag,Ae,Ap,IntKind.wrap_i64,decide_eq_true_eq,decide_eq_false_iff_not,Bool.not_eq_true',Bool.not_eq_false',Option.getD_none,Option.getD_some,];exact⟨by omega,by omega⟩
   ·simp only[hE];exact Xaq hk' hz hi
   ·simp only[hE];exact Pq hk' hz hi (Nat.le_refl _)
   ·refine .cons rfl (.cons rfl (.cons ?_ (.nil _)))
    show AV.d (D.sc (Value.int IntKind.i64 (qbin .add .i64 i 1)))=_
    simp only[hE,Jg hi (by omega)]
   ·have e:Cs (⟨v_id,v_text,v_sure⟩:Cm)=[.sc (.int .i64 v_id),.sc (.string v_text),.sc (.int .i64 v_sure)]:=rfl
    simp only[hE]
    rw[e]at hset
    rw[←hset]
    try rfl
  ·rename_i h2
   simp only[hE,List.length_map,Aq,At,Au,Av,Ao,Aj,Al,An,Af,Ah,Ac,Ak,Ai,Ad,Am,Aa,Ag,Ae,Ap,IntKind.wrap_i64,decide_eq_true_eq,decide_eq_false_iff_not,Bool.not_eq_true',Bool.not_eq_false',Option.getD_none,Option.getD_some,hn]at h2
   cbv
   try simp only[nc]at*
   have hk':k=a.length:=by omega
   subst hk'
   rw[←hQ,hm']
   rw[XaY]at hz
   have hxz:zs=xs:=by rw[←hz,hx]
   subst hxz
   exact Ps rfl rfl
theorem T104{a:List Cm}{xs:List (List D)}(hx:a.map Cs=xs)(hb:Ct a≤1048576):CallOk Tryz.prog 104 [.d (.row 3 xs)] [] ⟨.d (.row 3 xs),[],[]⟩:=(Xg6 hx hb).rowD rfl (by rw[←hx,List.length_map])
noncomputable def c194:Code:=(Tryz.f194.body).getD .skip
theorem XgQ:Bd Tryz.prog 194:=⟨_,Tryz.func194,rfl,rfl⟩
theorem T194{a_name:ByteArray}{a_id:Int}(hb:B5 ⟨a_name,a_id⟩≤1048576):CallOk Tryz.prog 194 [.agg [.d (.sc (.string a_name)),.d (.sc (.int .i64 a_id))]] [] ⟨.agg [.d (.sc (.string a_name)),.d (.sc (.int .i64 a_id))],[],[]⟩:=by
 have hb':(a_name.size:Int)≤1048576:=hb
 refine CallOk.of_bodyD (body:=c194) Tryz.func194 rfl (Nat.le_of_ble_eq_true (by kernel_rfl)) rfl ?_
 refine Cz A6 mixed ?_
 have hT:=A6
 have hm:=mixed
 generalize hP:Tryz.prog=P at*
 generalize hA:std=A
 obtain⟨qbin,qsh,qcmp,qscmp,qbcmp,qbnot,qneg,qwrap,qcat,qssize,qssub,qsget,qlen,qrsub,qapp,qelt,qset,qnth,qdrp,qstr,qint,qbool,qrow,qnat,qnadd,qnsub,qband,qofNat,qstrRow,qmkRow,qmx,qmn,qbytes,qemp⟩:=A
 have hE:=Ar.eqs hA
 dsimp only at hE
 generalize hQ:EndD P Tryz.f194.results _=Q
 cbv
 try simp only[nc]at*
 rw[←hQ]
 exact Jo hT (by rfl) (by rfl) (by rfl) (by rfl) rfl
noncomputable def c105:Code:=(Tryz.f105.body).getD .skip
theorem Xfk:Bd Tryz.prog 105:=⟨_,Tryz.func105,rfl,rfl⟩
theorem XfV{a:List A3}{xs:List (List D)}(hx:a.map A2=xs)(hb:A5 a≤1048576):CallOk Tryz.prog 105 [.d (.row 2 xs)] [] ⟨.ref 0 0 a.length,[.row 2 false xs],[]⟩:=by
 have ent194_:=XgQ
 have T194_:=@T194
 have aa:(a.length:Int)+G8 (fun x=>B5 x) a≤1048576:=hb
 have hsn:=Bx (fun x=>B5 x) a (fun x _=>Dk x)
 refine CallOk.of_body (body:=c105) Tryz.func105 rfl (Nat.le_of_ble_eq_true (by kernel_rfl)) rfl rfl ?_
 refine Cz A6 mixed ?_
 have hT:=A6
 have hm:=mixed
 generalize hP:Tryz.prog=P at*
 generalize hA:std=A
 obtain⟨qbin,qsh,qcmp,qscmp,qbcmp,qbnot,qneg,qwrap,qcat,qssize,qssub,qsget,qlen,qrsub,qapp,qelt,qset,qnth,qdrp,qstr,qint,qbool,qrow,qnat,qnadd,qnsub,qband,qofNat,qstrRow,qmkRow,qmx,qmn,qbytes,qemp⟩:=A
 have hE:=Ar.eqs hA
 dsimp only at hE
 generalize hQ:EndQ P Tryz.f105.results [] _=Q
 have hn:=Xb5 hx
 cbv
 try simp only[nc]at*
 refine⟨?_,?_⟩
 ·simp only[hE,List.length_map,Aq,At,Au,Av,Ao,Aj,Al,An,Af,Ah,Ac,Ak,Ai,Ad,Am,Aa,Ag,Ae,Ap,IntKind.wrap_i64,decide_eq_true_eq,decide_eq_false_iff_not,Bool.not_eq_true',Bool.not_eq_false',Option.getD_none,Option.getD_some,hn];exact⟨by omega,by omega,by omega,by omega⟩
 refine LpW.of (κ:=Nat) (fun k=>k≤a.length) (fun k=>a.length - k) (fun k=>[(0,.d (.row 2 xs)),(3,.ref 1 0 a.length),(4,.d (.sc (.int .i64 k)))]) (fun k=>[.row 2 false [],.row 2 false (H2 A2 a [.sc (.string default),.sc (.int .i64 0)] k)]) 0 (by simp) ?_ ?_ ?_
 ·refine .cons rfl (.cons ?_ (.cons rfl (.nil _)))
  show AV.ref 1 0 (qnat (qlen xs))=_
  simp only[hE,Al,Am,hn,Int.toNat_natCast]
 ·show[Root.row 2 false [],Root.row 2 false (qmkRow (qlen xs) [.sc (.string default),.sc (.int .i64 0)])]=_
  simp only[hE,Al,hn,T9]
  rfl
 ·intro k hk
  generalize hz:H2 A2 a [.sc (.string default),.sc (.int .i64 0)] k=zs
  generalize hi:(k:Int)=i
  generalize hm':a.length=m
  refine Cz hT hm ?_
  rw[hA]
  cbv
  try simp only[nc]at*
  split
  ·rename_i h2
   simp only[hE,List.length_map,Aq,At,Au,Av,Ao,Aj,Al,An,Af,Ah,Ac,Ak,Ai,Ad,Am,Aa,Ag,Ae,Ap,IntKind.wrap_i64,decide_eq_true_eq,decide_eq_false_iff_not,Bool.not_eq_true',Bool.not_eq_false',Option.getD_none,Option.getD_some,hn]at h2
   have hk':k<a.length:=by omega
   cbv
   try simp only[nc]at*
   repeat (refine And.intro (by first|(simp only[hE];exact Kl hx hi hk')|(simp only[hE,Dd hx hi hk'];exact⟨rfl⟩)|(simp only[hE,Dd hx hi hk'];exact⟨Nat.le_of_ble_eq_true rfl⟩)) ?_)
   have hset:=Xaf hk' hz hi (by rfl)
   have hmem:=F1 (fun x=>B5 x) (fun x=>Dk x) (List.getElem_mem hk')
   obtain⟨wv,hwv⟩:∃w,w=a[k]:=⟨_,rfl⟩
   have hev:qelt xs i=A2 wv:=by simp only[hE];rw[Dd hx hi hk',hwv]
   rw[←hwv]at hset hmem
   obtain⟨v_name,v_id⟩:=wv
   rw[show qstr (qnth (qelt xs i) 0)=v_name by rw[hev];simp only[hE];rfl,show qint (qnth (qelt xs i) 1)=v_id by rw[hev];simp only[hE];rfl]
   refine ClW.dd (f:=194) rfl rfl rfl rfl (.cons rfl .nil) rfl ent194_ (T194_ (by omega)) rfl ?_
   cbv
   try simp only[nc]at*
   refine⟨?_,?_,?_,k+1,by omega,by omega,?_,?_⟩
   ·simp only[hE,List.length_map,Aq,At,Au,Av,Ao,Aj,Al,An,Af,Ah,Ac,Ak,Ai,Ad,Am,Aa,Ag,Ae,Ap,IntKind.wrap_i64,decide_eq_true_eq,decide_eq_false_iff_not,Bool.not_eq_true',Bool.not_eq_false',Option.getD_none,Option.getD_some,];exact⟨by omega,by omega⟩
   ·simp only[hE];exact Xaq hk' hz hi
   ·simp only[hE];exact Pq hk' hz hi (Nat.le_refl _)
   ·refine .cons rfl (.cons rfl (.cons ?_ (.nil _)))
    show AV.d (D.sc (Value.int IntKind.i64 (qbin .add .i64 i 1)))=_
    simp only[hE,Jg hi (by omega)]
   ·have e:A2 (⟨v_name,v_id⟩:A3)=[.sc (.string v_name),.sc (.int .i64 v_id)]:=rfl
    simp only[hE]
    rw[e]at hset
    rw[←hset]
    try rfl
  ·rename_i h2
   simp only[hE,List.length_map,Aq,At,Au,Av,Ao,Aj,Al,An,Af,Ah,Ac,Ak,Ai,Ad,Am,Aa,Ag,Ae,Ap,IntKind.wrap_i64,decide_eq_true_eq,decide_eq_false_iff_not,Bool.not_eq_true',Bool.not_eq_false',Option.getD_none,Option.getD_some,hn]at h2
   cbv
   try simp only[nc]at*
   have hk':k=a.length:=by omega
   subst hk'
   rw[←hQ,hm']
   rw[XaY]at hz
   have hxz:zs=xs:=by rw[←hz,hx]
   subst hxz
   exact Ps rfl rfl
theorem T105{a:List A3}{xs:List (List D)}(hx:a.map A2=xs)(hb:A5 a≤1048576):CallOk Tryz.prog 105 [.d (.row 2 xs)] [] ⟨.d (.row 2 xs),[],[]⟩:=(XfV hx hb).rowD rfl (by rw[←hx,List.length_map])
noncomputable def c25:Code:=(Tryz.f25.body).getD .skip
theorem Xel:Bd Tryz.prog 25:=⟨_,Tryz.func25,rfl,rfl⟩
theorem T25R{a:List ByteArray}{xs:List (List D)}(hx:a.map cS=xs)(hb:Ay a≤1048576):CallOk Tryz.prog 25 [.d (.row 1 xs)] [] ⟨.ref 0 0 a.length,[.row 1 false xs],[]⟩:=by
 have aa:(a.length:Int)+G8 (fun x=>(x.size:Int)) a≤1048576:=hb
 have hsn:=Bx (fun x=>(x.size:Int)) a (fun x _=>D8 x)
 refine CallOk.of_body (body:=c25) Tryz.func25 rfl (Nat.le_of_ble_eq_true (by kernel_rfl)) rfl rfl ?_
 refine Cz A6 mixed ?_
 have hT:=A6
 have hm:=mixed
 generalize hP:Tryz.prog=P at*
 generalize hA:std=A
 obtain⟨qbin,qsh,qcmp,qscmp,qbcmp,qbnot,qneg,qwrap,qcat,qssize,qssub,qsget,qlen,qrsub,qapp,qelt,qset,qnth,qdrp,qstr,qint,qbool,qrow,qnat,qnadd,qnsub,qband,qofNat,qstrRow,qmkRow,qmx,qmn,qbytes,qemp⟩:=A
 have hE:=Ar.eqs hA
 dsimp only at hE
 generalize hQ:EndQ P Tryz.f25.results [] _=Q
 have hn:=Xb5 hx
 cbv
 try simp only[nc]at*
 refine⟨?_,?_⟩
 ·simp only[hE,List.length_map,Aq,At,Au,Av,Ao,Aj,Al,An,Af,Ah,Ac,Ak,Ai,Ad,Am,Aa,Ag,Ae,Ap,IntKind.wrap_i64,decide_eq_true_eq,decide_eq_false_iff_not,Bool.not_eq_true',Bool.not_eq_false',Option.getD_none,Option.getD_some,hn];exact⟨by omega,by omega,by omega,by omega⟩
 refine LpW.of (κ:=Nat) (fun k=>k≤a.length) (fun k=>a.length - k) (fun k=>[(0,.d (.row 1 xs)),(3,.ref 1 0 a.length),(4,.d (.sc (.int .i64 k)))]) (fun k=>[.row 1 false [],.row 1 false (H2 cS a [.sc (.string default)] k)]) 0 (by simp) ?_ ?_ ?_
 ·refine .cons rfl (.cons ?_ (.cons rfl (.nil _)))
  show AV.ref 1 0 (qnat (qlen xs))=_
  simp only[hE,Al,Am,hn,Int.toNat_natCast]
 ·show[Root.row 1 false [],Root.row 1 false (qmkRow (qlen xs) [.sc (.string default)])]=_
  simp only[hE,Al,hn,T9]
  rfl
 ·intro k hk
  generalize hz:H2 cS a [.sc (.string default)] k=zs
  generalize hi:(k:Int)=i
  generalize hm':a.length=m
  refine Cz hT hm ?_
  rw[hA]
  cbv
  try simp only[nc]at*
  split
  ·rename_i h2
   simp only[hE,List.length_map,Aq,At,Au,Av,Ao,Aj,Al,An,Af,Ah,Ac,Ak,Ai,Ad,Am,Aa,Ag,Ae,Ap,IntKind.wrap_i64,decide_eq_true_eq,decide_eq_false_iff_not,Bool.not_eq_true',Bool.not_eq_false',Option.getD_none,Option.getD_some,hn]at h2
   have hk':k<a.length:=by omega
   cbv
   try simp only[nc]at*
   repeat (refine And.intro (by first|(simp only[hE];exact Kl hx hi hk')|(simp only[hE,Dd hx hi hk'];exact⟨rfl⟩)|(simp only[hE,Dd hx hi hk'];exact⟨Nat.le_of_ble_eq_true rfl⟩)) ?_)
   refine⟨?_,?_,?_,k+1,by omega,by omega,?_,?_⟩
   ·simp only[hE,List.length_map,Aq,At,Au,Av,Ao,Aj,Al,An,Af,Ah,Ac,Ak,Ai,Ad,Am,Aa,Ag,Ae,Ap,IntKind.wrap_i64,decide_eq_true_eq,decide_eq_false_iff_not,Bool.not_eq_true',Bool.not_eq_false',Option.getD_none,Option.getD_some,];exact⟨by omega,by omega⟩
   ·simp only[hE];exact Xaq hk' hz hi
   ·simp only[hE];exact Pq hk' hz hi (Nat.le_refl _)
   ·refine .cons rfl (.cons rfl (.cons ?_ (.nil _)))
    show AV.d (D.sc (Value.int IntKind.i64 (qbin .add .i64 i 1)))=_
    simp only[hE,Jg hi (by omega)]
   ·have e:[D.sc (Value.string (qstr (qnth (qelt xs i) 0)))]=cS a[k]:=by simp only[hE,Dd hx hi hk'];rfl
    rw[e]
    simp only[hE]
    rw[Xaf hk' hz hi rfl]
  ·rename_i h2
   simp only[hE,List.length_map,Aq,At,Au,Av,Ao,Aj,Al,An,Af,Ah,Ac,Ak,Ai,Ad,Am,Aa,Ag,Ae,Ap,IntKind.wrap_i64,decide_eq_true_eq,decide_eq_false_iff_not,Bool.not_eq_true',Bool.not_eq_false',Option.getD_none,Option.getD_some,hn]at h2
   cbv
   try simp only[nc]at*
   have hk':k=a.length:=by omega
   subst hk'
   rw[←hQ,hm']
   rw[XaY]at hz
   have hxz:zs=xs:=by rw[←hz,hx]
   subst hxz
   exact Ps rfl rfl
theorem T25{a:List ByteArray}{xs:List (List D)}(hx:a.map cS=xs)(hb:Ay a≤1048576):CallOk Tryz.prog 25 [.d (.row 1 xs)] [] ⟨.d (.row 1 xs),[],[]⟩:=(T25R hx hb).rowD rfl (by rw[←hx,List.length_map])
noncomputable def c39:Code:=(Tryz.f39.body).getD .skip
theorem Xg0:Bd Tryz.prog 39:=⟨_,Tryz.func39,rfl,rfl⟩
theorem T39{a_nodes:List Cm}{xa_nodes:List (List D)}(ha_nodes:a_nodes.map Cs=xa_nodes){a_entries:List A3}{xa_entries:List (List D)}(ha_entries:a_entries.map A2=xa_entries){a_old:List A3}{xa_old:List (List D)}(ha_old:a_old.map A2=xa_old){a_steps:List ByteArray}{xa_steps:List (List D)}(ha_steps:a_steps.map cS=xa_steps){a_room:Int}{a_next:Int}(hb:Dw ⟨a_nodes,a_entries,a_old,a_steps,a_room,a_next⟩≤1048576):CallOk Tryz.prog 39 [.agg [.d (.row 3 xa_nodes),.d (.row 2 xa_entries),.d (.row 2 xa_old),.d (.row 1 xa_steps),.d (.sc (.int .i64 a_room)),.d (.sc (.int .i64 a_next))]] [] ⟨.agg [.d (.row 3 xa_nodes),.d (.row 2 xa_entries),.d (.row 2 xa_old),.d (.row 1 xa_steps),.d (.sc (.int .i64 a_room)),.d (.sc (.int .i64 a_next))],[],[]⟩:=by
 have ent25_:=Xel
 have T25_:=@T25
 have ent104_:=Xfn
 have T104_:=@T104
 have ent105_:=Xfk
 have T105_:=@T105
 have nna_nodes:=Es a_nodes
 have nna_entries:=B7 a_entries
 have nna_old:=B7 a_old
 have nna_steps:=B9 a_steps
 have hb':Ct a_nodes+A5 a_entries+A5 a_old+Ay a_steps≤1048576:=hb
 refine CallOk.of_bodyD (body:=c39) Tryz.func39 rfl (Nat.le_of_ble_eq_true (by kernel_rfl)) rfl ?_
 refine Cz A6 mixed ?_
 have hT:=A6
 have hm:=mixed
 generalize hP:Tryz.prog=P at*
 generalize hA:std=A
 obtain⟨qbin,qsh,qcmp,qscmp,qbcmp,qbnot,qneg,qwrap,qcat,qssize,qssub,qsget,qlen,qrsub,qapp,qelt,qset,qnth,qdrp,qstr,qint,qbool,qrow,qnat,qnadd,qnsub,qband,qofNat,qstrRow,qmkRow,qmx,qmn,qbytes,qemp⟩:=A
 have hE:=Ar.eqs hA
 dsimp only at hE
 generalize hQ:EndD P Tryz.f39.results _=Q
 cbv
 try simp only[nc]at*
 refine ClW.dd (f:=104) rfl rfl rfl rfl (.cons rfl .nil) rfl ent104_ (T104_ ha_nodes (by omega)) rfl ?_
 cbv
 try simp only[nc]at*
 refine ClW.dd (f:=105) rfl rfl rfl rfl (.cons rfl .nil) rfl ent105_ (T105_ ha_entries (by omega)) rfl ?_
 cbv
 try simp only[nc]at*
 refine ClW.dd (f:=105) rfl rfl rfl rfl (.cons rfl .nil) rfl ent105_ (T105_ ha_old (by omega)) rfl ?_
 cbv
 try simp only[nc]at*
 refine ClW.dd (f:=25) rfl rfl rfl rfl (.cons rfl .nil) rfl ent25_ (T25_ ha_steps (by omega)) rfl ?_
 cbv
 try simp only[nc]at*
 rw[←hQ]
 exact Jo hT (by rfl) (by rfl) (by rfl) (by rfl) rfl
noncomputable def c28:Code:=(Tryz.f28.body).getD .skip
theorem Xhc:Bd Tryz.prog 28:=⟨_,Tryz.func28,rfl,rfl⟩
theorem T28R{a:List Int}{xs:List (List D)}(hx:a.map cI=xs)(hb:D2 a≤1048576):CallOk Tryz.prog 28 [.d (.row 1 xs)] [] ⟨.ref 0 0 a.length,[.row 1 false xs],[]⟩:=by
 have aa:(a.length:Int)≤1048576:=hb
 refine CallOk.of_body (body:=c28) Tryz.func28 rfl (Nat.le_of_ble_eq_true (by kernel_rfl)) rfl rfl ?_
 refine Cz A6 mixed ?_
 have hT:=A6
 have hm:=mixed
 generalize hP:Tryz.prog=P at*
 generalize hA:std=A
 obtain⟨qbin,qsh,qcmp,qscmp,qbcmp,qbnot,qneg,qwrap,qcat,qssize,qssub,qsget,qlen,qrsub,qapp,qelt,qset,qnth,qdrp,qstr,qint,qbool,qrow,qnat,qnadd,qnsub,qband,qofNat,qstrRow,qmkRow,qmx,qmn,qbytes,qemp⟩:=A
 have hE:=Ar.eqs hA
 dsimp only at hE
 generalize hQ:EndQ P Tryz.f28.results [] _=Q
 have hn:=Xb5 hx
 cbv
 try simp only[nc]at*
 refine⟨?_,?_⟩
 ·simp only[hE,List.length_map,Aq,At,Au,Av,Ao,Aj,Al,An,Af,Ah,Ac,Ak,Ai,Ad,Am,Aa,Ag,Ae,Ap,IntKind.wrap_i64,decide_eq_true_eq,decide_eq_false_iff_not,Bool.not_eq_true',Bool.not_eq_false',Option.getD_none,Option.getD_some,hn];exact⟨by omega,by omega,by omega,by omega⟩
 refine LpW.of (κ:=Nat) (fun k=>k≤a.length) (fun k=>a.length - k) (fun k=>[(0,.d (.row 1 xs)),(3,.ref 1 0 a.length),(4,.d (.sc (.int .i64 k)))]) (fun k=>[.row 1 false [],.row 1 false (H2 cI a [.sc (.int .i64 0)] k)]) 0 (by simp) ?_ ?_ ?_
 ·refine .cons rfl (.cons ?_ (.cons rfl (.nil _)))
  show AV.ref 1 0 (qnat (qlen xs))=_
  simp only[hE,Al,Am,hn,Int.toNat_natCast]
 ·show[Root.row 1 false [],Root.row 1 false (qmkRow (qlen xs) [.sc (.int .i64 0)])]=_
  simp only[hE,Al,hn,T9]
  rfl
 ·intro k hk
  generalize hz:H2 cI a [.sc (.int .i64 0)] k=zs
  generalize hi:(k:Int)=i
  generalize hm':a.length=m
  refine Cz hT hm ?_
  rw[hA]
  cbv
  try simp only[nc]at*
  split
  ·rename_i h2
   simp only[hE,List.length_map,Aq,At,Au,Av,Ao,Aj,Al,An,Af,Ah,Ac,Ak,Ai,Ad,Am,Aa,Ag,Ae,Ap,IntKind.wrap_i64,decide_eq_true_eq,decide_eq_false_iff_not,Bool.not_eq_true',Bool.not_eq_false',Option.getD_none,Option.getD_some,hn]at h2
   have hk':k<a.length:=by omega
   cbv
   try simp only[nc]at*
   repeat (refine And.intro (by first|(simp only[hE];exact Kl hx hi hk')|(simp only[hE,Dd hx hi hk'];exact⟨rfl⟩)|(simp only[hE,Dd hx hi hk'];exact⟨Nat.le_of_ble_eq_true rfl⟩)) ?_)
   refine⟨?_,?_,?_,k+1,by omega,by omega,?_,?_⟩
   ·simp only[hE,List.length_map,Aq,At,Au,Av,Ao,Aj,Al,An,Af,Ah,Ac,Ak,Ai,Ad,Am,Aa,Ag,Ae,Ap,IntKind.wrap_i64,decide_eq_true_eq,decide_eq_false_iff_not,Bool.not_eq_true',Bool.not_eq_false',Option.getD_none,Option.getD_some,];exact⟨by omega,by omega⟩
   ·simp only[hE];exact Xaq hk' hz hi
   ·simp only[hE];exact Pq hk' hz hi (Nat.le_refl _)
   ·refine .cons rfl (.cons rfl (.cons ?_ (.nil _)))
    show AV.d (D.sc (Value.int IntKind.i64 (qbin .add .i64 i 1)))=_
    simp only[hE,Jg hi (by omega)]
   ·have e:[D.sc (Value.int IntKind.i64 (qint (qnth (qelt xs i) 0)))]=cI a[k]:=by simp only[hE,Dd hx hi hk'];rfl
    rw[e]
    simp only[hE]
    rw[Xaf hk' hz hi rfl]
  ·rename_i h2
   simp only[hE,List.length_map,Aq,At,Au,Av,Ao,Aj,Al,An,Af,Ah,Ac,Ak,Ai,Ad,Am,Aa,Ag,Ae,Ap,IntKind.wrap_i64,decide_eq_true_eq,decide_eq_false_iff_not,Bool.not_eq_true',Bool.not_eq_false',Option.getD_none,Option.getD_some,hn]at h2
   cbv
   try simp only[nc]at*
   have hk':k=a.length:=by omega
   subst hk'
   rw[←hQ,hm']
   rw[XaY]at hz
   have hxz:zs=xs:=by rw[←hz,hx]
   subst hxz
   exact Ps rfl rfl
theorem T28{a:List Int}{xs:List (List D)}(hx:a.map cI=xs)(hb:D2 a≤1048576):CallOk Tryz.prog 28 [.d (.row 1 xs)] [] ⟨.d (.row 1 xs),[],[]⟩:=(T28R hx hb).rowD rfl (by rw[←hx,List.length_map])
noncomputable def c62:Code:=(Tryz.f62.body).getD .skip
theorem XgN:Bd Tryz.prog 62:=⟨_,Tryz.func62,rfl,rfl⟩
theorem T62{a_version:Int}{a_stride:Int}{a_roll:Int}{a_base:Int}{a_link:Int}{a_offsets:List Int}{xa_offsets:List (List D)}(ha_offsets:a_offsets.map cI=xa_offsets){a_end:Int}{a_open:Bool}{a_code:Int}(hb:C7 ⟨a_version,a_stride,a_roll,a_base,a_link,a_offsets,a_end,a_open,a_code⟩≤1048576):CallOk Tryz.prog 62 [.agg [.d (.sc (.int .i64 a_version)),.d (.sc (.int .i64 a_stride)),.d (.sc (.int .i64 a_roll)),.d (.sc (.int .i64 a_base)),.d (.sc (.int .i64 a_link)),.d (.row 1 xa_offsets),.d (.sc (.int .i64 a_end)),.d (.sc (.bool a_open)),.d (.sc (.int .i64 a_code))]] [] ⟨.agg [.d (.sc (.int .i64 a_version)),.d (.sc (.int .i64 a_stride)),.d (.sc (.int .i64 a_roll)),.d (.sc (.int .i64 a_base)),.d (.sc (.int .i64 a_link)),.d (.row 1 xa_offsets),.d (.sc (.int .i64 a_end)),.d (.sc (.bool a_open)),.d (.sc (.int .i64 a_code))],[],[]⟩:=by
 have ent28_:=Xhc
 have T28_:=@T28
 have nna_offsets:=Gv a_offsets
 have hb':D2 a_offsets≤1048576:=hb
 refine CallOk.of_bodyD (body:=c62) Tryz.func62 rfl (Nat.le_of_ble_eq_true (by kernel_rfl)) rfl ?_
 refine Cz A6 mixed ?_
 have hT:=A6
 have hm:=mixed
 generalize hP:Tryz.prog=P at*
 generalize hA:std=A
 obtain⟨qbin,qsh,qcmp,qscmp,qbcmp,qbnot,qneg,qwrap,qcat,qssize,qssub,qsget,qlen,qrsub,qapp,qelt,qset,qnth,qdrp,qstr,qint,qbool,qrow,qnat,qnadd,qnsub,qband,qofNat,qstrRow,qmkRow,qmx,qmn,qbytes,qemp⟩:=A
 have hE:=Ar.eqs hA
 dsimp only at hE
 generalize hQ:EndD P Tryz.f62.results _=Q
 cbv
 try simp only[nc]at*
 refine ClW.dd (f:=28) rfl rfl rfl rfl (.cons rfl .nil) rfl ent28_ (T28_ ha_offsets (by omega)) rfl ?_
 cbv
 try simp only[nc]at*
 rw[←hQ]
 exact Jo hT (by rfl) (by rfl) (by rfl) (by rfl) rfl
noncomputable def c16:Code:=(Tryz.f16.body).getD .skip
theorem ent16:Bd Tryz.prog 16:=⟨_,Tryz.func16,rfl,rfl⟩
theorem T16{a_set_room:Int}{a_set_version:Int}{a_set_stride:Int}{a_set_roll:Int}{a_disk_nodes:List Cm}{xa_disk_nodes:List (List D)}(ha_disk_nodes:a_disk_nodes.map Cs=xa_disk_nodes){a_disk_entries:List A3}{xa_disk_entries:List (List D)}(ha_disk_entries:a_disk_entries.map A2=xa_disk_entries){a_disk_old:List A3}{xa_disk_old:List (List D)}(ha_disk_old:a_disk_old.map A2=xa_disk_old){a_disk_steps:List ByteArray}{xa_disk_steps:List (List D)}(ha_disk_steps:a_disk_steps.map cS=xa_disk_steps){a_disk_room:Int}{a_disk_next:Int}{a_writer_version:Int}{a_writer_stride:Int}{a_writer_roll:Int}{a_writer_base:Int}{a_writer_link:Int}{a_writer_offsets:List Int}{xa_writer_offsets:List (List D)}(ha_writer_offsets:a_writer_offsets.map cI=xa_writer_offsets){a_writer_end:Int}{a_writer_open:Bool}{a_writer_code:Int}{a_told:List ByteArray}{xa_told:List (List D)}(ha_told:a_told.map cS=xa_told){a_sure:Int}{a_falls:Int}(hb:D4 ⟨⟨a_set_room,a_set_version,a_set_stride,a_set_roll⟩,⟨a_disk_nodes,a_disk_entries,a_disk_old,a_disk_steps,a_disk_room,a_disk_next⟩,⟨a_writer_version,a_writer_stride,a_writer_roll,a_writer_base,a_writer_link,a_writer_offsets,a_writer_end,a_writer_open,a_writer_code⟩,a_told,a_sure,a_falls⟩≤1048576):CallOk Tryz.prog 16 [.agg [.d (.sc (.int .i64 a_set_room)),.d (.sc (.int .i64 a_set_version)),.d (.sc (.int .i64 a_set_stride)),.d (.sc (.int .i64 a_set_roll)),.d (.row 3 xa_disk_nodes),.d (.row 2 xa_disk_entries),.d (.row 2 xa_disk_old),.d (.row 1 xa_disk_steps),.d (.sc (.int .i64 a_disk_room)),.d (.sc (.int .i64 a_disk_next)),.d (.sc (.int .i64 a_writer_version)),.d (.sc (.int .i64 a_writer_stride)),.d (.sc (.int .i64 a_writer_roll)),.d (.sc (.int .i64 a_writer_base)),.d (.sc (.int .i64 a_writer_link)),.d (.row 1 xa_writer_offsets),.d (.sc (.int .i64 a_writer_end)),.d (.sc (.bool a_writer_open)),.d (.sc (.int .i64 a_writer_code)),.d (.row 1 xa_told),.d (.sc (.int .i64 a_sure)),.d (.sc (.int .i64 a_falls))]] [] ⟨.agg [.d (.sc (.int .i64 a_set_room)),.d (.sc (.int .i64 a_set_version)),.d (.sc (.int .i64 a_set_stride)),.d (.sc (.int .i64 a_set_roll)),.d (.row 3 xa_disk_nodes),.d (.row 2 xa_disk_entries),.d (.row 2 xa_disk_old),.d (.row 1 xa_disk_steps),.d (.sc (.int .i64 a_disk_room)),.d (.sc (.int .i64 a_disk_next)),.d (.sc (.int .i64 a_writer_version)),.d (.sc (.int .i64 a_writer_stride)),.d (.sc (.int .i64 a_writer_roll)),.d (.sc (.int .i64 a_writer_base)),.d (.sc (.int .i64 a_writer_link)),.d (.row 1 xa_writer_offsets),.d (.sc (.int .i64 a_writer_end)),.d (.sc (.bool a_writer_open)),.d (.sc (.int .i64 a_writer_code)),.d (.row 1 xa_told),.d (.sc (.int .i64 a_sure)),.d (.sc (.int .i64 a_falls))],[],[]⟩:=by
 have ent25_:=Xel
 have T25_:=@T25
 have ent39_:=Xg0
 have T39_:=@T39
 have ent61_:=XhB
 have T61_:=@T61
 have ent62_:=XgN
 have T62_:=@T62
 have nna_disk:=G6 (⟨a_disk_nodes,a_disk_entries,a_disk_old,a_disk_steps,a_disk_room,a_disk_next⟩:As)
 have nna_writer:=Fi (⟨a_writer_version,a_writer_stride,a_writer_roll,a_writer_base,a_writer_link,a_writer_offsets,a_writer_end,a_writer_open,a_writer_code⟩:C0)
 have nna_told:=B9 a_told
 have hb':Dw (⟨a_disk_nodes,a_disk_entries,a_disk_old,a_disk_steps,a_disk_room,a_disk_next⟩:As)+C7 (⟨a_writer_version,a_writer_stride,a_writer_roll,a_writer_base,a_writer_link,a_writer_offsets,a_writer_end,a_writer_open,a_writer_code⟩:C0)+Ay a_told≤1048576:=hb
 refine CallOk.of_bodyD (body:=c16) Tryz.func16 rfl (Nat.le_of_ble_eq_true (by kernel_rfl)) rfl ?_
 refine Cz A6 mixed ?_
 have hT:=A6
 have hm:=mixed
 generalize hP:Tryz.prog=P at*
 generalize hA:std=A
 obtain⟨qbin,qsh,qcmp,qscmp,qbcmp,qbnot,qneg,qwrap,qcat,qssize,qssub,qsget,qlen,qrsub,qapp,qelt,qset,qnth,qdrp,qstr,qint,qbool,qrow,qnat,qnadd,qnsub,qband,qofNat,qstrRow,qmkRow,qmx,qmn,qbytes,qemp⟩:=A
 have hE:=Ar.eqs hA
 dsimp only at hE
 generalize hQ:EndD P Tryz.f16.results _=Q
 cbv
 try simp only[nc]at*
 refine ClW.dd (f:=61) rfl rfl rfl rfl (.cons rfl .nil) rfl ent61_ (T61_) rfl ?_
 cbv
 try simp only[nc]at*
 refine ClW.dd (f:=39) rfl rfl rfl rfl (.cons rfl .nil) rfl ent39_ (T39_ ha_disk_nodes ha_disk_entries ha_disk_old ha_disk_steps (by omega)) rfl ?_
 cbv
 try simp only[nc]at*
 refine ClW.dd (f:=62) rfl rfl rfl rfl (.cons rfl .nil) rfl ent62_ (T62_ ha_writer_offsets (by omega)) rfl ?_
 cbv
 try simp only[nc]at*
 refine ClW.dd (f:=25) rfl rfl rfl rfl (.cons rfl .nil) rfl ent25_ (T25_ ha_told (by omega)) rfl ?_
 cbv
 try simp only[nc]at*
 rw[←hQ]
 exact Jo hT (by rfl) (by rfl) (by rfl) (by rfl) rfl
end
section
open Go Go.Proofs
set_option maxRecDepth 20000
noncomputable def c70:Code:=(Tryz.f70.body).getD .skip
theorem ent70:Bd Tryz.prog 70:=⟨_,Tryz.func70,rfl,rfl⟩
theorem T70{a_room:Int}{a_version:Int}{a_stride:Int}{a_roll:Int}:CallOk Tryz.prog 70 [.agg [.d (.sc (.int .i64 a_room)),.d (.sc (.int .i64 a_version)),.d (.sc (.int .i64 a_stride)),.d (.sc (.int .i64 a_roll))],.agg [.d (.sc (.int .i64 a_room)),.d (.sc (.int .i64 a_version)),.d (.sc (.int .i64 a_stride)),.d (.sc (.int .i64 a_roll))]] [] ⟨.d (.sc (.bool true)),[],[]⟩:=by
 refine CallOk.of_bodyD (body:=c70) Tryz.func70 rfl (Nat.le_of_ble_eq_true (by kernel_rfl)) rfl ?_
 refine Cz A6 mixed ?_
 have hT:=A6
 have hm:=mixed
 generalize hP:Tryz.prog=P at*
 generalize hA:std=A
 obtain⟨qbin,qsh,qcmp,qscmp,qbcmp,qbnot,qneg,qwrap,qcat,qssize,qssub,qsget,qlen,qrsub,qapp,qelt,qset,qnth,qdrp,qstr,qint,qbool,qrow,qnat,qnadd,qnsub,qband,qofNat,qstrRow,qmkRow,qmx,qmn,qbytes,qemp⟩:=A
 have hE:=Ar.eqs hA
 dsimp only at hE
 generalize hQ:EndD P Tryz.f70.results _=Q
 have hself:(∀v:Int,qcmp .neq v v=false)∧(∀v:ByteArray,qscmp .neq v v=false)∧(∀v:Bool,qbnot (qbcmp v v)=false)∧qbnot true=false:=by
  refine⟨fun v=>?_,fun v=>?_,fun v=>?_,?_⟩<;>simp only[hE,Aj,Fx,Ad,Ak]<;>simp
 obtain⟨hself1,hself2,hself3,hself4⟩:=hself
 cbv
 try simp only[nc]at*
 rw[hself1]
 cbv
 try simp only[nc]at*
 rw[hself1]
 cbv
 try simp only[nc]at*
 rw[hself1]
 cbv
 try simp only[nc]at*
 rw[hself1]
 cbv
 try simp only[nc]at*
 rw[←hQ]
 exact Bg rfl rfl
noncomputable def c206:Code:=(Tryz.f206.body).getD .skip
theorem XgW:Bd Tryz.prog 206:=⟨_,Tryz.func206,rfl,rfl⟩
theorem T206{a_id:Int}{a_text:ByteArray}{a_sure:Int}(hb:Cx ⟨a_id,a_text,a_sure⟩≤1099511627776):CallOk Tryz.prog 206 [.agg [.d (.sc (.int .i64 a_id)),.d (.sc (.string a_text)),.d (.sc (.int .i64 a_sure))],.agg [.d (.sc (.int .i64 a_id)),.d (.sc (.string a_text)),.d (.sc (.int .i64 a_sure))]] [] ⟨.d (.sc (.bool true)),[],[]⟩:=by
 have hb':(a_text.size:Int)≤1099511627776:=hb
 refine CallOk.of_bodyD (body:=c206) Tryz.func206 rfl (Nat.le_of_ble_eq_true (by kernel_rfl)) rfl ?_
 refine Cz A6 mixed ?_
 have hT:=A6
 have hm:=mixed
 generalize hP:Tryz.prog=P at*
 generalize hA:std=A
 obtain⟨qbin,qsh,qcmp,qscmp,qbcmp,qbnot,qneg,qwrap,qcat,qssize,qssub,qsget,qlen,qrsub,qapp,qelt,qset,qnth,qdrp,qstr,qint,qbool,qrow,qnat,qnadd,qnsub,qband,qofNat,qstrRow,qmkRow,qmx,qmn,qbytes,qemp⟩:=A
 have hE:=Ar.eqs hA
 dsimp only at hE
 generalize hQ:EndD P Tryz.f206.results _=Q
 have hself:(∀v:Int,qcmp .neq v v=false)∧(∀v:ByteArray,qscmp .neq v v=false)∧(∀v:Bool,qbnot (qbcmp v v)=false)∧qbnot true=false:=by
  refine⟨fun v=>?_,fun v=>?_,fun v=>?_,?_⟩<;>simp only[hE,Aj,Fx,Ad,Ak]<;>simp
 obtain⟨hself1,hself2,hself3,hself4⟩:=hself
 cbv
 try simp only[nc]at*
 rw[hself1]
 cbv
 try simp only[nc]at*
 rw[hself2]
 cbv
 try simp only[nc]at*
 rw[hself1]
 cbv
 try simp only[nc]at*
 rw[←hQ]
 exact Bg rfl rfl
noncomputable def c114:Code:=(Tryz.f114.body).getD .skip
theorem Xhp:Bd Tryz.prog 114:=⟨_,Tryz.func114,rfl,rfl⟩
theorem T114{a:List Cm}{xs:List (List D)}(hx:a.map Cs=xs)(hb:Ct a≤1099511627776):CallOk Tryz.prog 114 [.d (.row 3 xs),.d (.row 3 xs)] [] ⟨.d (.sc (.bool true)),[],[]⟩:=by
 have ent206_:=XgW
 have T206_:=@T206
 have aa:(a.length:Int)+G8 (fun x=>Cx x) a≤1099511627776:=hb
 have hsn:=Bx (fun x=>Cx x) a (fun x _=>D9 x)
 refine CallOk.of_bodyD (body:=c114) Tryz.func114 rfl (Nat.le_of_ble_eq_true (by kernel_rfl)) rfl ?_
 refine Cz A6 mixed ?_
 have hT:=A6
 have hm:=mixed
 generalize hP:Tryz.prog=P at*
 generalize hA:std=A
 obtain⟨qbin,qsh,qcmp,qscmp,qbcmp,qbnot,qneg,qwrap,qcat,qssize,qssub,qsget,qlen,qrsub,qapp,qelt,qset,qnth,qdrp,qstr,qint,qbool,qrow,qnat,qnadd,qnsub,qband,qofNat,qstrRow,qmkRow,qmx,qmn,qbytes,qemp⟩:=A
 have hE:=Ar.eqs hA
 dsimp only at hE
 generalize hQ:EndD P Tryz.f114.results _=Q
 have hn:=Xb5 hx
 have hself:(∀v:Int,qcmp .neq v v=false)∧(∀v:ByteArray,qscmp .neq v v=false)∧(∀v:Bool,qbnot (qbcmp v v)=false)∧qbnot true=false:=by
  refine⟨fun v=>?_,fun v=>?_,fun v=>?_,?_⟩<;>simp only[hE,Aj,Fx,Ad,Ak]<;>simp
 obtain⟨hself1,hself2,hself3,hself4⟩:=hself
 cbv
 try simp only[nc]at*
 rw[hself1]
 cbv
 try simp only[nc]at*
 refine LpW.of (κ:=Nat) (fun k=>k≤a.length) (fun k=>a.length - k) (fun k=>[(0,.d (.row 3 xs)),(1,.d (.row 3 xs)),(5,.d (.sc (.int .i64 k)))]) (fun _=>[]) 0 (by omega) ?_ (by first|rfl|trivial) ?_
 ·exact .cons rfl (.cons rfl (.cons rfl (.nil _)))
 ·intro k hk
  generalize hi:(k:Int)=i
  refine Cz hT hm ?_
  rw[hA]
  cbv
  try simp only[nc]at*
  split
  ·rename_i h3
   simp only[hE,List.length_map,Aq,At,Au,Av,Ao,Aj,Al,An,Af,Ah,Ac,Ak,Ai,Ad,Am,Aa,Ag,Ae,Ap,IntKind.wrap_i64,decide_eq_true_eq,decide_eq_false_iff_not,Bool.not_eq_true',Bool.not_eq_false',Option.getD_none,Option.getD_some,hn]at h3
   have hk':k<a.length:=by omega
   cbv
   try simp only[nc]at*
   repeat (refine And.intro (by first|(simp only[hE];exact Kl hx hi hk')|(simp only[hE,Dd hx hi hk'];exact⟨rfl⟩)|(simp only[hE,Dd hx hi hk'];exact⟨Nat.le_of_ble_eq_true rfl⟩)) ?_)
   have hmem:=F1 (fun x=>Cx x) (fun x=>D9 x) (List.getElem_mem hk')
   obtain⟨wv,hwv⟩:∃w,w=a[k]:=⟨_,rfl⟩
   have hev:qelt xs i=Cs wv:=by simp only[hE];rw[Dd hx hi hk',hwv]
   rw[←hwv]at hmem
   obtain⟨v_id,v_text,v_sure⟩:=wv
   rw[show qint (qnth (qelt xs i) 0)=v_id by rw[hev];simp only[hE];rfl,show qstr (qnth (qelt xs i) 1)=v_text by rw[hev];simp only[hE];rfl,show qint (qnth (qelt xs i) 2)=v_sure by rw[hev];simp only[hE];rfl]
   refine ClW.dd (f:=206) rfl rfl rfl rfl (.cons rfl (.cons rfl .nil)) rfl ent206_ (T206_ (by omega)) rfl ?_
   cbv
   try simp only[nc]at*
   rw[hself4]
   cbv
   try simp only[nc]at*
   refine⟨k+1,by omega,by omega,?_,by trivial⟩
   refine .cons rfl (.cons rfl (.cons ?_ (.nil _)))
   show AV.d (D.sc (Value.int IntKind.i64 (qbin .add .i64 i 1)))=_
   simp only[hE,Jg hi (by omega)]
  ·rename_i h3
   simp only[hE,List.length_map,Aq,At,Au,Av,Ao,Aj,Al,An,Af,Ah,Ac,Ak,Ai,Ad,Am,Aa,Ag,Ae,Ap,IntKind.wrap_i64,decide_eq_true_eq,decide_eq_false_iff_not,Bool.not_eq_true',Bool.not_eq_false',Option.getD_none,Option.getD_some,hn]at h3
   cbv
   try simp only[nc]at*
   rw[←hQ]
   exact Bg rfl rfl
noncomputable def c207:Code:=(Tryz.f207.body).getD .skip
theorem Xhf:Bd Tryz.prog 207:=⟨_,Tryz.func207,rfl,rfl⟩
theorem T207{a_name:ByteArray}{a_id:Int}(hb:B5 ⟨a_name,a_id⟩≤1099511627776):CallOk Tryz.prog 207 [.agg [.d (.sc (.string a_name)),.d (.sc (.int .i64 a_id))],.agg [.d (.sc (.string a_name)),.d (.sc (.int .i64 a_id))]] [] ⟨.d (.sc (.bool true)),[],[]⟩:=by
 have hb':(a_name.size:Int)≤1099511627776:=hb
 refine CallOk.of_bodyD (body:=c207) Tryz.func207 rfl (Nat.le_of_ble_eq_true (by kernel_rfl)) rfl ?_
 refine Cz A6 mixed ?_
 have hT:=A6
 have hm:=mixed
 generalize hP:Tryz.prog=P at*
 generalize hA:std=A
 obtain⟨qbin,qsh,qcmp,qscmp,qbcmp,qbnot,qneg,qwrap,qcat,qssize,qssub,qsget,qlen,qrsub,qapp,qelt,qset,qnth,qdrp,qstr,qint,qbool,qrow,qnat,qnadd,qnsub,qband,qofNat,qstrRow,qmkRow,qmx,qmn,qbytes,qemp⟩:=A
 have hE:=Ar.eqs hA
 dsimp only at hE
 generalize hQ:EndD P Tryz.f207.results _=Q
 have hself:(∀v:Int,qcmp .neq v v=false)∧(∀v:ByteArray,qscmp .neq v v=false)∧(∀v:Bool,qbnot (qbcmp v v)=false)∧qbnot true=false:=by
  refine⟨fun v=>?_,fun v=>?_,fun v=>?_,?_⟩<;>simp only[hE,Aj,Fx,Ad,Ak]<;>simp
 obtain⟨hself1,hself2,hself3,hself4⟩:=hself
 cbv
 try simp only[nc]at*
 rw[hself2]
 cbv
 try simp only[nc]at*
 rw[hself1]
 cbv
 try simp only[nc]at*
 rw[←hQ]
 exact Bg rfl rfl
noncomputable def c115:Code:=(Tryz.f115.body).getD .skip
theorem XgL:Bd Tryz.prog 115:=⟨_,Tryz.func115,rfl,rfl⟩
theorem T115{a:List A3}{xs:List (List D)}(hx:a.map A2=xs)(hb:A5 a≤1099511627776):CallOk Tryz.prog 115 [.d (.row 2 xs),.d (.row 2 xs)] [] ⟨.d (.sc (.bool true)),[],[]⟩:=by
 have ent207_:=Xhf
 have T207_:=@T207
 have aa:(a.length:Int)+G8 (fun x=>B5 x) a≤1099511627776:=hb
 have hsn:=Bx (fun x=>B5 x) a (fun x _=>Dk x)
 refine CallOk.of_bodyD (body:=c115) Tryz.func115 rfl (Nat.le_of_ble_eq_true (by kernel_rfl)) rfl ?_
 refine Cz A6 mixed ?_
 have hT:=A6
 have hm:=mixed
 generalize hP:Tryz.prog=P at*
 generalize hA:std=A
 obtain⟨qbin,qsh,qcmp,qscmp,qbcmp,qbnot,qneg,qwrap,qcat,qssize,qssub,qsget,qlen,qrsub,qapp,qelt,qset,qnth,qdrp,qstr,qint,qbool,qrow,qnat,qnadd,qnsub,qband,qofNat,qstrRow,qmkRow,qmx,qmn,qbytes,qemp⟩:=A
 have hE:=Ar.eqs hA
 dsimp only at hE
 generalize hQ:EndD P Tryz.f115.results _=Q
 have hn:=Xb5 hx
 have hself:(∀v:Int,qcmp .neq v v=false)∧(∀v:ByteArray,qscmp .neq v v=false)∧(∀v:Bool,qbnot (qbcmp v v)=false)∧qbnot true=false:=by
  refine⟨fun v=>?_,fun v=>?_,fun v=>?_,?_⟩<;>simp only[hE,Aj,Fx,Ad,Ak]<;>simp
 obtain⟨hself1,hself2,hself3,hself4⟩:=hself
 cbv
 try simp only[nc]at*
 rw[hself1]
 cbv
 try simp only[nc]at*
 refine LpW.of (κ:=Nat) (fun k=>k≤a.length) (fun k=>a.length - k) (fun k=>[(0,.d (.row 2 xs)),(1,.d (.row 2 xs)),(5,.d (.sc (.int .i64 k)))]) (fun _=>[]) 0 (by omega) ?_ (by first|rfl|trivial) ?_
 ·exact .cons rfl (.cons rfl (.cons rfl (.nil _)))
 ·intro k hk
  generalize hi:(k:Int)=i
  refine Cz hT hm ?_
  rw[hA]
  cbv
  try simp only[nc]at*
  split
  ·rename_i h3
   simp only[hE,List.length_map,Aq,At,Au,Av,Ao,Aj,Al,An,Af,Ah,Ac,Ak,Ai,Ad,Am,Aa,Ag,Ae,Ap,IntKind.wrap_i64,decide_eq_true_eq,decide_eq_false_iff_not,Bool.not_eq_true',Bool.not_eq_false',Option.getD_none,Option.getD_some,hn]at h3
   have hk':k<a.length:=by omega
   cbv
   try simp only[nc]at*
   repeat (refine And.intro (by first|(simp only[hE];exact Kl hx hi hk')|(simp only[hE,Dd hx hi hk'];exact⟨rfl⟩)|(simp only[hE,Dd hx hi hk'];exact⟨Nat.le_of_ble_eq_true rfl⟩)) ?_)
   have hmem:=F1 (fun x=>B5 x) (fun x=>Dk x) (List.getElem_mem hk')
   obtain⟨wv,hwv⟩:∃w,w=a[k]:=⟨_,rfl⟩
   have hev:qelt xs i=A2 wv:=by simp only[hE];rw[Dd hx hi hk',hwv]
   rw[←hwv]at hmem
   obtain⟨v_name,v_id⟩:=wv
   rw[show qstr (qnth (qelt xs i) 0)=v_name by rw[hev];simp only[hE];rfl,show qint (qnth (qelt xs i) 1)=v_id by rw[hev];simp only[hE];rfl]
   refine ClW.dd (f:=207) rfl rfl rfl rfl (.cons rfl (.cons rfl .nil)) rfl ent207_ (T207_ (by omega)) rfl ?_
   cbv
   try simp only[nc]at*
   rw[hself4]
   cbv
   try simp only[nc]at*
   refine⟨k+1,by omega,by omega,?_,by trivial⟩
   refine .cons rfl (.cons rfl (.cons ?_ (.nil _)))
   show AV.d (D.sc (Value.int IntKind.i64 (qbin .add .i64 i 1)))=_
   simp only[hE,Jg hi (by omega)]
  ·rename_i h3
   simp only[hE,List.length_map,Aq,At,Au,Av,Ao,Aj,Al,An,Af,Ah,Ac,Ak,Ai,Ad,Am,Aa,Ag,Ae,Ap,IntKind.wrap_i64,decide_eq_true_eq,decide_eq_false_iff_not,Bool.not_eq_true',Bool.not_eq_false',Option.getD_none,Option.getD_some,hn]at h3
   cbv
   try simp only[nc]at*
   rw[←hQ]
   exact Bg rfl rfl
noncomputable def c18:Code:=(Tryz.f18.body).getD .skip
theorem Xgw:Bd Tryz.prog 18:=⟨_,Tryz.func18,rfl,rfl⟩
theorem T18{a:List ByteArray}{xs:List (List D)}(hx:a.map cS=xs)(hb:Ay a≤1099511627776):CallOk Tryz.prog 18 [.d (.row 1 xs),.d (.row 1 xs)] [] ⟨.d (.sc (.bool true)),[],[]⟩:=by
 have aa:(a.length:Int)+G8 (fun x=>(x.size:Int)) a≤1099511627776:=hb
 have hsn:=Bx (fun x=>(x.size:Int)) a (fun x _=>D8 x)
 refine CallOk.of_bodyD (body:=c18) Tryz.func18 rfl (Nat.le_of_ble_eq_true (by kernel_rfl)) rfl ?_
 refine Cz A6 mixed ?_
 have hT:=A6
 have hm:=mixed
 generalize hP:Tryz.prog=P at*
 generalize hA:std=A
 obtain⟨qbin,qsh,qcmp,qscmp,qbcmp,qbnot,qneg,qwrap,qcat,qssize,qssub,qsget,qlen,qrsub,qapp,qelt,qset,qnth,qdrp,qstr,qint,qbool,qrow,qnat,qnadd,qnsub,qband,qofNat,qstrRow,qmkRow,qmx,qmn,qbytes,qemp⟩:=A
 have hE:=Ar.eqs hA
 dsimp only at hE
 generalize hQ:EndD P Tryz.f18.results _=Q
 have hn:=Xb5 hx
 have hself:(∀v:Int,qcmp .neq v v=false)∧(∀v:ByteArray,qscmp .neq v v=false)∧(∀v:Bool,qbnot (qbcmp v v)=false)∧qbnot true=false:=by
  refine⟨fun v=>?_,fun v=>?_,fun v=>?_,?_⟩<;>simp only[hE,Aj,Fx,Ad,Ak]<;>simp
 obtain⟨hself1,hself2,hself3,hself4⟩:=hself
 cbv
 try simp only[nc]at*
 rw[hself1]
 cbv
 try simp only[nc]at*
 refine LpW.of (κ:=Nat) (fun k=>k≤a.length) (fun k=>a.length - k) (fun k=>[(0,.d (.row 1 xs)),(1,.d (.row 1 xs)),(5,.d (.sc (.int .i64 k)))]) (fun _=>[]) 0 (by omega) ?_ (by first|rfl|trivial) ?_
 ·exact .cons rfl (.cons rfl (.cons rfl (.nil _)))
 ·intro k hk
  generalize hi:(k:Int)=i
  refine Cz hT hm ?_
  rw[hA]
  cbv
  try simp only[nc]at*
  split
  ·rename_i h3
   simp only[hE,List.length_map,Aq,At,Au,Av,Ao,Aj,Al,An,Af,Ah,Ac,Ak,Ai,Ad,Am,Aa,Ag,Ae,Ap,IntKind.wrap_i64,decide_eq_true_eq,decide_eq_false_iff_not,Bool.not_eq_true',Bool.not_eq_false',Option.getD_none,Option.getD_some,hn]at h3
   have hk':k<a.length:=by omega
   cbv
   try simp only[nc]at*
   repeat (refine And.intro (by first|(simp only[hE];exact Kl hx hi hk')|(simp only[hE,Dd hx hi hk'];exact⟨rfl⟩)|(simp only[hE,Dd hx hi hk'];exact⟨Nat.le_of_ble_eq_true rfl⟩)) ?_)
   rw[hself2]
   cbv
   try simp only[nc]at*
   refine⟨k+1,by omega,by omega,?_,by trivial⟩
   refine .cons rfl (.cons rfl (.cons ?_ (.nil _)))
   show AV.d (D.sc (Value.int IntKind.i64 (qbin .add .i64 i 1)))=_
   simp only[hE,Jg hi (by omega)]
  ·rename_i h3
   simp only[hE,List.length_map,Aq,At,Au,Av,Ao,Aj,Al,An,Af,Ah,Ac,Ak,Ai,Ad,Am,Aa,Ag,Ae,Ap,IntKind.wrap_i64,decide_eq_true_eq,decide_eq_false_iff_not,Bool.not_eq_true',Bool.not_eq_false',Option.getD_none,Option.getD_some,hn]at h3
   cbv
   try simp only[nc]at*
   rw[←hQ]
   exact Bg rfl rfl
noncomputable def c41:Code:=(Tryz.f41.body).getD .skip
theorem ent41:Bd Tryz.prog 41:=⟨_,Tryz.func41,rfl,rfl⟩
theorem T41{a_nodes:List Cm}{xa_nodes:List (List D)}(ha_nodes:a_nodes.map Cs=xa_nodes){a_entries:List A3}{xa_entries:List (List D)}(ha_entries:a_entries.map A2=xa_entries){a_old:List A3}{xa_old:List (List D)}(ha_old:a_old.map A2=xa_old){a_steps:List ByteArray}{xa_steps:List (List D)}(ha_steps:a_steps.map cS=xa_steps){a_room:Int}{a_next:Int}(hb:Dw ⟨a_nodes,a_entries,a_old,a_steps,a_room,a_next⟩≤1099511627776):CallOk Tryz.prog 41 [.agg [.d (.row 3 xa_nodes),.d (.row 2 xa_entries),.d (.row 2 xa_old),.d (.row 1 xa_steps),.d (.sc (.int .i64 a_room)),.d (.sc (.int .i64 a_next))],.agg [.d (.row 3 xa_nodes),.d (.row 2 xa_entries),.d (.row 2 xa_old),.d (.row 1 xa_steps),.d (.sc (.int .i64 a_room)),.d (.sc (.int .i64 a_next))]] [] ⟨.d (.sc (.bool true)),[],[]⟩:=by
 have ent18_:=Xgw
 have T18_:=@T18
 have ent114_:=Xhp
 have T114_:=@T114
 have ent115_:=XgL
 have T115_:=@T115
 have nna_nodes:=Es a_nodes
 have nna_entries:=B7 a_entries
 have nna_old:=B7 a_old
 have nna_steps:=B9 a_steps
 have hb':Ct a_nodes+A5 a_entries+A5 a_old+Ay a_steps≤1099511627776:=hb
 refine CallOk.of_bodyD (body:=c41) Tryz.func41 rfl (Nat.le_of_ble_eq_true (by kernel_rfl)) rfl ?_
 refine Cz A6 mixed ?_
 have hT:=A6
 have hm:=mixed
 generalize hP:Tryz.prog=P at*
 generalize hA:std=A
 obtain⟨qbin,qsh,qcmp,qscmp,qbcmp,qbnot,qneg,qwrap,qcat,qssize,qssub,qsget,qlen,qrsub,qapp,qelt,qset,qnth,qdrp,qstr,qint,qbool,qrow,qnat,qnadd,qnsub,qband,qofNat,qstrRow,qmkRow,qmx,qmn,qbytes,qemp⟩:=A
 have hE:=Ar.eqs hA
 dsimp only at hE
 generalize hQ:EndD P Tryz.f41.results _=Q
 have hself:(∀v:Int,qcmp .neq v v=false)∧(∀v:ByteArray,qscmp .neq v v=false)∧(∀v:Bool,qbnot (qbcmp v v)=false)∧qbnot true=false:=by
  refine⟨fun v=>?_,fun v=>?_,fun v=>?_,?_⟩<;>simp only[hE,Aj,Fx,Ad,Ak]<;>simp
 obtain⟨hself1,hself2,hself3,hself4⟩:=hself
 cbv
 try simp only[nc]at*
 refine ClW.dd (f:=114) rfl rfl rfl rfl (.cons rfl (.cons rfl .nil)) rfl ent114_ (T114_ ha_nodes (by omega)) rfl ?_
 cbv
 try simp only[nc]at*
 rw[hself4]
 cbv
 try simp only[nc]at*
 refine ClW.dd (f:=115) rfl rfl rfl rfl (.cons rfl (.cons rfl .nil)) rfl ent115_ (T115_ ha_entries (by omega)) rfl ?_
 cbv
 try simp only[nc]at*
 rw[hself4]
 cbv
 try simp only[nc]at*
 refine ClW.dd (f:=115) rfl rfl rfl rfl (.cons rfl (.cons rfl .nil)) rfl ent115_ (T115_ ha_old (by omega)) rfl ?_
 cbv
 try simp only[nc]at*
 rw[hself4]
 cbv
 try simp only[nc]at*
 refine ClW.dd (f:=18) rfl rfl rfl rfl (.cons rfl (.cons rfl .nil)) rfl ent18_ (T18_ ha_steps (by omega)) rfl ?_
 cbv
 try simp only[nc]at*
 rw[hself4]
 cbv
 try simp only[nc]at*
 rw[hself1]
 cbv
 try simp only[nc]at*
 rw[hself1]
 cbv
 try simp only[nc]at*
 rw[←hQ]
 exact Bg rfl rfl
noncomputable def c30:Code:=(Tryz.f30.body).getD .skip
theorem ent30:Bd Tryz.prog 30:=⟨_,Tryz.func30,rfl,rfl⟩
theorem T30{a:List Int}{xs:List (List D)}(hx:a.map cI=xs)(hb:D2 a≤1099511627776):CallOk Tryz.prog 30 [.d (.row 1 xs),.d (.row 1 xs)] [] ⟨.d (.sc (.bool true)),[],[]⟩:=by
 have aa:(a.length:Int)≤1099511627776:=hb
 refine CallOk.of_bodyD (body:=c30) Tryz.func30 rfl (Nat.le_of_ble_eq_true (by kernel_rfl)) rfl ?_
 refine Cz A6 mixed ?_
 have hT:=A6
 have hm:=mixed
 generalize hP:Tryz.prog=P at*
 generalize hA:std=A
 obtain⟨qbin,qsh,qcmp,qscmp,qbcmp,qbnot,qneg,qwrap,qcat,qssize,qssub,qsget,qlen,qrsub,qapp,qelt,qset,qnth,qdrp,qstr,qint,qbool,qrow,qnat,qnadd,qnsub,qband,qofNat,qstrRow,qmkRow,qmx,qmn,qbytes,qemp⟩:=A
 have hE:=Ar.eqs hA
 dsimp only at hE
 generalize hQ:EndD P Tryz.f30.results _=Q
 have hn:=Xb5 hx
 have hself:(∀v:Int,qcmp .neq v v=false)∧(∀v:ByteArray,qscmp .neq v v=false)∧(∀v:Bool,qbnot (qbcmp v v)=false)∧qbnot true=false:=by
  refine⟨fun v=>?_,fun v=>?_,fun v=>?_,?_⟩<;>simp only[hE,Aj,Fx,Ad,Ak]<;>simp
 obtain⟨hself1,hself2,hself3,hself4⟩:=hself
 cbv
 try simp only[nc]at*
 rw[hself1]
 cbv
 try simp only[nc]at*
 refine LpW.of (κ:=Nat) (fun k=>k≤a.length) (fun k=>a.length - k) (fun k=>[(0,.d (.row 1 xs)),(1,.d (.row 1 xs)),(5,.d (.sc (.int .i64 k)))]) (fun _=>[]) 0 (by omega) ?_ (by first|rfl|trivial) ?_
 ·exact .cons rfl (.cons rfl (.cons rfl (.nil _)))
 ·intro k hk
  generalize hi:(k:Int)=i
  refine Cz hT hm ?_
  rw[hA]
  cbv
  try simp only[nc]at*
  split
  ·rename_i h3
   simp only[hE,List.length_map,Aq,At,Au,Av,Ao,Aj,Al,An,Af,Ah,Ac,Ak,Ai,Ad,Am,Aa,Ag,Ae,Ap,IntKind.wrap_i64,decide_eq_true_eq,decide_eq_false_iff_not,Bool.not_eq_true',Bool.not_eq_false',Option.getD_none,Option.getD_some,hn]at h3
   have hk':k<a.length:=by omega
   cbv
   try simp only[nc]at*
   repeat (refine And.intro (by first|(simp only[hE];exact Kl hx hi hk')|(simp only[hE,Dd hx hi hk'];exact⟨rfl⟩)|(simp only[hE,Dd hx hi hk'];exact⟨Nat.le_of_ble_eq_true rfl⟩)) ?_)
   rw[hself1]
   cbv
   try simp only[nc]at*
   refine⟨k+1,by omega,by omega,?_,by trivial⟩
   refine .cons rfl (.cons rfl (.cons ?_ (.nil _)))
   show AV.d (D.sc (Value.int IntKind.i64 (qbin .add .i64 i 1)))=_
   simp only[hE,Jg hi (by omega)]
  ·rename_i h3
   simp only[hE,List.length_map,Aq,At,Au,Av,Ao,Aj,Al,An,Af,Ah,Ac,Ak,Ai,Ad,Am,Aa,Ag,Ae,Ap,IntKind.wrap_i64,decide_eq_true_eq,decide_eq_false_iff_not,Bool.not_eq_true',Bool.not_eq_false',Option.getD_none,Option.getD_some,hn]at h3
   cbv
   try simp only[nc]at*
   rw[←hQ]
   exact Bg rfl rfl
noncomputable def c71:Code:=(Tryz.f71.body).getD .skip
theorem ent71:Bd Tryz.prog 71:=⟨_,Tryz.func71,rfl,rfl⟩
theorem T71{a_version:Int}{a_stride:Int}{a_roll:Int}{a_base:Int}{a_link:Int}{a_offsets:List Int}{xa_offsets:List (List D)}(ha_offsets:a_offsets.map cI=xa_offsets){a_end:Int}{a_open:Bool}{a_code:Int}(hb:C7 ⟨a_version,a_stride,a_roll,a_base,a_link,a_offsets,a_end,a_open,a_code⟩≤1099511627776):CallOk Tryz.prog 71 [.agg [.d (.sc (.int .i64 a_version)),.d (.sc (.int .i64 a_stride)),.d (.sc (.int .i64 a_roll)),.d (.sc (.int .i64 a_base)),.d (.sc (.int .i64 a_link)),.d (.row 1 xa_offsets),.d (.sc (.int .i64 a_end)),.d (.sc (.bool a_open)),.d (.sc (.int .i64 a_code))],.agg [.d (.sc (.int .i64 a_version)),.d (.sc (.int .i64 a_stride)),.d (.sc (.int .i64 a_roll)),.d (.sc (.int .i64 a_base)),.d (.sc (.int .i64 a_link)),.d (.row 1 xa_offsets),.d (.sc (.int .i64 a_end)),.d (.sc (.bool a_open)),.d (.sc (.int .i64 a_code))]] [] ⟨.d (.sc (.bool true)),[],[]⟩:=by
 have ent30_:=ent30
 have T30_:=@T30
 have nna_offsets:=Gv a_offsets
 have hb':D2 a_offsets≤1099511627776:=hb
 refine CallOk.of_bodyD (body:=c71) Tryz.func71 rfl (Nat.le_of_ble_eq_true (by kernel_rfl)) rfl ?_
 refine Cz A6 mixed ?_
 have hT:=A6
 have hm:=mixed
 generalize hP:Tryz.prog=P at*
 generalize hA:std=A
 obtain⟨qbin,qsh,qcmp,qscmp,qbcmp,qbnot,qneg,qwrap,qcat,qssize,qssub,qsget,qlen,qrsub,qapp,qelt,qset,qnth,qdrp,qstr,qint,qbool,qrow,qnat,qnadd,qnsub,qband,qofNat,qstrRow,qmkRow,qmx,qmn,qbytes,qemp⟩:=A
 have hE:=Ar.eqs hA
 dsimp only at hE
 generalize hQ:EndD P Tryz.f71.results _=Q
 have hself:(∀v:Int,qcmp .neq v v=false)∧(∀v:ByteArray,qscmp .neq v v=false)∧(∀v:Bool,qbnot (qbcmp v v)=false)∧qbnot true=false:=by
  refine⟨fun v=>?_,fun v=>?_,fun v=>?_,?_⟩<;>simp only[hE,Aj,Fx,Ad,Ak]<;>simp
 obtain⟨hself1,hself2,hself3,hself4⟩:=hself
 cbv
 try simp only[nc]at*
 rw[hself1]
 cbv
 try simp only[nc]at*
 rw[hself1]
 cbv
 try simp only[nc]at*
 rw[hself1]
 cbv
 try simp only[nc]at*
 rw[hself1]
 cbv
 try simp only[nc]at*
 rw[hself1]
 cbv
 try simp only[nc]at*
 refine ClW.dd (f:=30) rfl rfl rfl rfl (.cons rfl (.cons rfl .nil)) rfl ent30_ (T30_ ha_offsets (by omega)) rfl ?_
 cbv
 try simp only[nc]at*
 rw[hself4]
 cbv
 try simp only[nc]at*
 rw[hself1]
 cbv
 try simp only[nc]at*
 rw[hself3]
 cbv
 try simp only[nc]at*
 rw[hself1]
 cbv
 try simp only[nc]at*
 rw[←hQ]
 exact Bg rfl rfl
noncomputable def c19:Code:=(Tryz.f19.body).getD .skip
theorem ent19:Bd Tryz.prog 19:=⟨_,Tryz.func19,rfl,rfl⟩
theorem T19{a_set_room:Int}{a_set_version:Int}{a_set_stride:Int}{a_set_roll:Int}{a_disk_nodes:List Cm}{xa_disk_nodes:List (List D)}(ha_disk_nodes:a_disk_nodes.map Cs=xa_disk_nodes){a_disk_entries:List A3}{xa_disk_entries:List (List D)}(ha_disk_entries:a_disk_entries.map A2=xa_disk_entries){a_disk_old:List A3}{xa_disk_old:List (List D)}(ha_disk_old:a_disk_old.map A2=xa_disk_old){a_disk_steps:List ByteArray}{xa_disk_steps:List (List D)}(ha_disk_steps:a_disk_steps.map cS=xa_disk_steps){a_disk_room:Int}{a_disk_next:Int}{a_writer_version:Int}{a_writer_stride:Int}{a_writer_roll:Int}{a_writer_base:Int}{a_writer_link:Int}{a_writer_offsets:List Int}{xa_writer_offsets:List (List D)}(ha_writer_offsets:a_writer_offsets.map cI=xa_writer_offsets){a_writer_end:Int}{a_writer_open:Bool}{a_writer_code:Int}{a_told:List ByteArray}{xa_told:List (List D)}(ha_told:a_told.map cS=xa_told){a_sure:Int}{a_falls:Int}(hb:D4 ⟨⟨a_set_room,a_set_version,a_set_stride,a_set_roll⟩,⟨a_disk_nodes,a_disk_entries,a_disk_old,a_disk_steps,a_disk_room,a_disk_next⟩,⟨a_writer_version,a_writer_stride,a_writer_roll,a_writer_base,a_writer_link,a_writer_offsets,a_writer_end,a_writer_open,a_writer_code⟩,a_told,a_sure,a_falls⟩≤1099511627776):CallOk Tryz.prog 19 [.agg [.d (.sc (.int .i64 a_set_room)),.d (.sc (.int .i64 a_set_version)),.d (.sc (.int .i64 a_set_stride)),.d (.sc (.int .i64 a_set_roll)),.d (.row 3 xa_disk_nodes),.d (.row 2 xa_disk_entries),.d (.row 2 xa_disk_old),.d (.row 1 xa_disk_steps),.d (.sc (.int .i64 a_disk_room)),.d (.sc (.int .i64 a_disk_next)),.d (.sc (.int .i64 a_writer_version)),.d (.sc (.int .i64 a_writer_stride)),.d (.sc (.int .i64 a_writer_roll)),.d (.sc (.int .i64 a_writer_base)),.d (.sc (.int .i64 a_writer_link)),.d (.row 1 xa_writer_offsets),.d (.sc (.int .i64 a_writer_end)),.d (.sc (.bool a_writer_open)),.d (.sc (.int .i64 a_writer_code)),.d (.row 1 xa_told),.d (.sc (.int .i64 a_sure)),.d (.sc (.int .i64 a_falls))],.agg [.d (.sc (.int .i64 a_set_room)),.d (.sc (.int .i64 a_set_version)),.d (.sc (.int .i64 a_set_stride)),.d (.sc (.int .i64 a_set_roll)),.d (.row 3 xa_disk_nodes),.d (.row 2 xa_disk_entries),.d (.row 2 xa_disk_old),.d (.row 1 xa_disk_steps),.d (.sc (.int .i64 a_disk_room)),.d (.sc (.int .i64 a_disk_next)),.d (.sc (.int .i64 a_writer_version)),.d (.sc (.int .i64 a_writer_stride)),.d (.sc (.int .i64 a_writer_roll)),.d (.sc (.int .i64 a_writer_base)),.d (.sc (.int .i64 a_writer_link)),.d (.row 1 xa_writer_offsets),.d (.sc (.int .i64 a_writer_end)),.d (.sc (.bool a_writer_open)),.d (.sc (.int .i64 a_writer_code)),.d (.row 1 xa_told),.d (.sc (.int .i64 a_sure)),.d (.sc (.int .i64 a_falls))]] [] ⟨.d (.sc (.bool true)),[],[]⟩:=by
 have ent18_:=Xgw
 have T18_:=@T18
 have ent41_:=ent41
 have T41_:=@T41
 have ent70_:=ent70
 have T70_:=@T70
 have ent71_:=ent71
 have T71_:=@T71
 have nna_disk:=G6 (⟨a_disk_nodes,a_disk_entries,a_disk_old,a_disk_steps,a_disk_room,a_disk_next⟩:As)
 have nna_writer:=Fi (⟨a_writer_version,a_writer_stride,a_writer_roll,a_writer_base,a_writer_link,a_writer_offsets,a_writer_end,a_writer_open,a_writer_code⟩:C0)
 have nna_told:=B9 a_told
 have hb':Dw (⟨a_disk_nodes,a_disk_entries,a_disk_old,a_disk_steps,a_disk_room,a_disk_next⟩:As)+C7 (⟨a_writer_version,a_writer_stride,a_writer_roll,a_writer_base,a_writer_link,a_writer_offsets,a_writer_end,a_writer_open,a_writer_code⟩:C0)+Ay a_told≤1099511627776:=hb
 refine CallOk.of_bodyD (body:=c19) Tryz.func19 rfl (Nat.le_of_ble_eq_true (by kernel_rfl)) rfl ?_
 refine Cz A6 mixed ?_
 have hT:=A6
 have hm:=mixed
 generalize hP:Tryz.prog=P at*
 generalize hA:std=A
 obtain⟨qbin,qsh,qcmp,qscmp,qbcmp,qbnot,qneg,qwrap,qcat,qssize,qssub,qsget,qlen,qrsub,qapp,qelt,qset,qnth,qdrp,qstr,qint,qbool,qrow,qnat,qnadd,qnsub,qband,qofNat,qstrRow,qmkRow,qmx,qmn,qbytes,qemp⟩:=A
 have hE:=Ar.eqs hA
 dsimp only at hE
 generalize hQ:EndD P Tryz.f19.results _=Q
 have hself:(∀v:Int,qcmp .neq v v=false)∧(∀v:ByteArray,qscmp .neq v v=false)∧(∀v:Bool,qbnot (qbcmp v v)=false)∧qbnot true=false:=by
  refine⟨fun v=>?_,fun v=>?_,fun v=>?_,?_⟩<;>simp only[hE,Aj,Fx,Ad,Ak]<;>simp
 obtain⟨hself1,hself2,hself3,hself4⟩:=hself
 cbv
 try simp only[nc]at*
 refine ClW.dd (f:=70) rfl rfl rfl rfl (.cons rfl (.cons rfl .nil)) rfl ent70_ (T70_) rfl ?_
 cbv
 try simp only[nc]at*
 rw[hself4]
 cbv
 try simp only[nc]at*
 refine ClW.dd (f:=41) rfl rfl rfl rfl (.cons rfl (.cons rfl .nil)) rfl ent41_ (T41_ ha_disk_nodes ha_disk_entries ha_disk_old ha_disk_steps (by omega)) rfl ?_
 cbv
 try simp only[nc]at*
 rw[hself4]
 cbv
 try simp only[nc]at*
 refine ClW.dd (f:=71) rfl rfl rfl rfl (.cons rfl (.cons rfl .nil)) rfl ent71_ (T71_ ha_writer_offsets (by omega)) rfl ?_
 cbv
 try simp only[nc]at*
 rw[hself4]
 cbv
 try simp only[nc]at*
 refine ClW.dd (f:=18) rfl rfl rfl rfl (.cons rfl (.cons rfl .nil)) rfl ent18_ (T18_ ha_told (by omega)) rfl ?_
 cbv
 try simp only[nc]at*
 rw[hself4]
 cbv
 try simp only[nc]at*
 rw[hself1]
 cbv
 try simp only[nc]at*
 rw[hself1]
 cbv
 try simp only[nc]at*
 rw[←hQ]
 exact Bg rfl rfl
end
end Go.Proofs.YtgdmjbcllgmepaaGreatDoor.Ab
