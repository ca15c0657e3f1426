/- What functions of the program come to, for all arguments in the given bounds. -/
import Derived.Test.YtgdmjbcllgmepaaGreatDoorFrH
set_option linter.unusedVariables false
set_option linter.unusedSimpArgs false
namespace Go.Proofs.YtgdmjbcllgmepaaGreatDoor.Ab
section
open Go Go.Proofs
set_option maxRecDepth 20000
noncomputable def c23:Code:=(Tryz.f23.body).getD .skip
theorem ent23:Dw Tryz.prog 23:=⟨_,Tryz.func23,rfl,rfl⟩
theorem T23{a:List ByteArray}{xs:List (List D)}(hx:a.map cS=xs){left:Int}(h0:0≤left)(h1:left<2^40)(hok:Tx a):
  CallOk Tryz.prog 23 [.d (.row 1 xs),.d (.sc (.int .i64 left))] [] ⟨.d (.sc (.int .i64 (XeN (Bb a) left))),[],[]⟩:=by
 obtain⟨ha,hs⟩:=hok
 refine CallOk.of_bodyD (body:=c23) Tryz.func23 rfl (Nat.le_of_ble_eq_true (by kernel_rfl)) rfl ?_
 refine P9 J6 mixed ?_
 have hT:=J6
 have hm:=mixed
 generalize hP:Tryz.prog=P at*
 generalize hA:std=A
 obtain⟨qbin,qsh,qcmp,qscmp,qbcmp,qbnot,qneg,qwrap,qcat,qssize,qssub,qsget,qlen,qrsub,qapp,qelt,qset,qnth,qdrp,qstr,qint,qbool,qrow,qnat,qnadd,qnsub,qband,qofNat,qstrRow,qmkRow,qmx,qmn,qbytes,qemp⟩:=A
 have hE:=Ar.eqs hA
 dsimp only at hE
 generalize hQ:EndD P Tryz.f23.results _=Q
 have hn:=XjH hx
 cbv
 try simp only[nc]at*
 split
 ·rename_i h2
  simp only[hE,List.length_map,De,Di,Dh,Df,Da,C4,C3,C7,Cn,Co,B6,C6,Cr,Cf,C9,B4,Cs,Cq,Dg,IntKind.wrap_i64,decide_eq_true_eq,decide_eq_false_iff_not,Bool.not_eq_true',Bool.not_eq_false',Option.getD_none,Option.getD_some,hn]at h2
  cbv
  try simp only[nc]at*
  have:=Fp (fun x=>(x.size:Int)) a (fun x _=>Es x)
  rw[←hQ,show XeN (Bb a) left= -1 by unfold XeN Bb;rw[if_neg (by omega)]]
  exact Iv rfl rfl
 ·rename_i h2
  simp only[hE,List.length_map,De,Di,Dh,Df,Da,C4,C3,C7,Cn,Co,B6,C6,Cr,Cf,C9,B4,Cs,Cq,Dg,IntKind.wrap_i64,decide_eq_true_eq,decide_eq_false_iff_not,Bool.not_eq_true',Bool.not_eq_false',Option.getD_none,Option.getD_some,hn]at h2
  cbv
  try simp only[nc]at*
  refine LpW.of (κ:=Nat) (fun k=>k≤a.length∧0≤left - (a.length+Qs (fun x=>(x.size:Int)) (a.take k))) (fun k=>a.length - k) (fun k=>[(0,.d (.row 1 xs)),(1,.d (.sc (.int .i64 (left - (a.length+Qs (fun x=>(x.size:Int)) (a.take k)))))),(5,.d (.sc (.int .i64 k)))]) (fun _=>[]) 0 ⟨by omega,by simp[Qs];omega⟩ ?_ (by first|rfl|trivial) ?_
  ·refine .cons rfl (.cons ?_ (.cons rfl (.nil _)))
   show AV.d (D.sc (Value.int IntKind.i64 (qbin .sub .i64 left (qlen xs))))=_
   rw[show qbin .sub .i64 left (qlen xs)=left - a.length by simp only[hE,List.length_map,De,Di,Dh,Df,Da,C4,C3,C7,Cn,Co,B6,C6,Cr,Cf,C9,B4,Cs,Cq,Dg,IntKind.wrap_i64,decide_eq_true_eq,decide_eq_false_iff_not,Bool.not_eq_true',Bool.not_eq_false',Option.getD_none,Option.getD_some,hn];omega]
   simp[Qs]
  ·rintro k ⟨hk,hl⟩
   generalize hleft:left - (a.length+Qs (fun x=>(x.size:Int)) (a.take k))=l at*
   generalize hi:(k:Int)=i
   refine P9 hT hm ?_
   rw[hA]
   cbv
   try simp only[nc]at*
   split
   ·rename_i h3
    simp only[hE,List.length_map,De,Di,Dh,Df,Da,C4,C3,C7,Cn,Co,B6,C6,Cr,Cf,C9,B4,Cs,Cq,Dg,IntKind.wrap_i64,decide_eq_true_eq,decide_eq_false_iff_not,Bool.not_eq_true',Bool.not_eq_false',Option.getD_none,Option.getD_some,hn]at h3
    have hk':k<a.length:=by omega
    have hsz:=hs a[k] (List.getElem_mem hk')
    have hp:=Fp (fun x=>(x.size:Int)) (a.take k) (fun x _=>Es x)
    have hsum:=Xfc (fun x=>(x.size:Int)) a hk'
    have hle:=XaY (fun x=>(x.size:Int)) a (fun x _=>Es x) (k+1)
    have hel:=Es a[k]
    cbv
    try simp only[nc]at*
    repeat (refine And.intro (by first|(simp only[hE];exact Xc2 hx hi hk')|(simp only[hE,L9 hx hi hk'];exact⟨rfl⟩)|(simp only[hE,L9 hx hi hk'];exact⟨Nat.le_of_ble_eq_true rfl⟩)) ?_)
    obtain⟨s,hsk⟩:∃s,s=a[k]:=⟨_,rfl⟩
    rw[show qstr (qnth (qelt xs i) 0)=s by rw[hsk];simp only[hE,L9 hx hi hk'];rfl]
    rw[←hsk]at hsz hsum hel
    obtain⟨l',hl'⟩:∃l',l'=l - (s.size:Int):=⟨_,rfl⟩
    rw[show qbin .sub .i64 l (qssize s)=l' by simp only[hE,List.length_map,De,Di,Dh,Df,Da,C4,C3,C7,Cn,Co,B6,C6,Cr,Cf,C9,B4,Cs,Cq,Dg,IntKind.wrap_i64,decide_eq_true_eq,decide_eq_false_iff_not,Bool.not_eq_true',Bool.not_eq_false',Option.getD_none,Option.getD_some,];omega]
    split
    ·rename_i h4
     simp only[hE,List.length_map,De,Di,Dh,Df,Da,C4,C3,C7,Cn,Co,B6,C6,Cr,Cf,C9,B4,Cs,Cq,Dg,IntKind.wrap_i64,decide_eq_true_eq,decide_eq_false_iff_not,Bool.not_eq_true',Bool.not_eq_false',Option.getD_none,Option.getD_some]at h4
     cbv
     try simp only[nc]at*
     rw[←hQ,show XeN (Bb a) left= -1 by unfold XeN Bb;rw[if_neg (by omega)]]
     exact Iv rfl rfl
    ·rename_i h4
     simp only[hE,List.length_map,De,Di,Dh,Df,Da,C4,C3,C7,Cn,Co,B6,C6,Cr,Cf,C9,B4,Cs,Cq,Dg,IntKind.wrap_i64,decide_eq_true_eq,decide_eq_false_iff_not,Bool.not_eq_true',Bool.not_eq_false',Option.getD_none,Option.getD_some]at h4
     cbv
     try simp only[nc]at*
     refine⟨k+1,⟨by omega,by omega⟩,by omega,?_,by trivial⟩
     refine .cons rfl (.cons ?_ (.cons ?_ (.nil _)))
     ·rw[show left - (a.length+Qs (fun x=>(x.size:Int)) (a.take (k+1)))=l' by omega]
      rfl
     ·show AV.d (D.sc (Value.int IntKind.i64 (qbin .add .i64 i 1)))=_
      rw[show qbin .add .i64 i 1=((k+1:Nat):Int)by simp only[hE,List.length_map,De,Di,Dh,Df,Da,C4,C3,C7,Cn,Co,B6,C6,Cr,Cf,C9,B4,Cs,Cq,Dg,IntKind.wrap_i64,decide_eq_true_eq,decide_eq_false_iff_not,Bool.not_eq_true',Bool.not_eq_false',Option.getD_none,Option.getD_some,];omega]
   ·rename_i h3
    simp only[hE,List.length_map,De,Di,Dh,Df,Da,C4,C3,C7,Cn,Co,B6,C6,Cr,Cf,C9,B4,Cs,Cq,Dg,IntKind.wrap_i64,decide_eq_true_eq,decide_eq_false_iff_not,Bool.not_eq_true',Bool.not_eq_false',Option.getD_none,Option.getD_some,hn]at h3
    cbv
    try simp only[nc]at*
    have hk':k=a.length:=by omega
    subst hk'
    rw[List.take_length]at hleft
    rw[←hQ,show XeN (Bb a) left=l by unfold XeN Bb;rw[if_pos (by omega)];omega]
    exact Iv rfl rfl
noncomputable def c37:Code:=(Tryz.f37.body).getD .skip
end
section
open Go Go.Proofs
set_option maxRecDepth 20000
noncomputable def c25:Code:=(Tryz.f25.body).getD .skip
theorem ent25:Dw Tryz.prog 25:=⟨_,Tryz.func25,rfl,rfl⟩
theorem T25R{a:List ByteArray}{xs:List (List D)}(hx:a.map cS=xs)(hb:Bb a≤1048576):CallOk Tryz.prog 25 [.d (.row 1 xs)] [] ⟨.ref 0 0 a.length,[.row 1 false xs],[]⟩:=by
 have aa:(a.length:Int)+Qs (fun x=>(x.size:Int)) a≤1048576:=hb
 have hsn:=Fp (fun x=>(x.size:Int)) a (fun x _=>Es x)
 refine CallOk.of_body (body:=c25) Tryz.func25 rfl (Nat.le_of_ble_eq_true (by kernel_rfl)) rfl rfl ?_
 refine P9 J6 mixed ?_
 have hT:=J6
 have hm:=mixed
 generalize hP:Tryz.prog=P at*
 generalize hA:std=A
 obtain⟨qbin,qsh,qcmp,qscmp,qbcmp,qbnot,qneg,qwrap,qcat,qssize,qssub,qsget,qlen,qrsub,qapp,qelt,qset,qnth,qdrp,qstr,qint,qbool,qrow,qnat,qnadd,qnsub,qband,qofNat,qstrRow,qmkRow,qmx,qmn,qbytes,qemp⟩:=A
 have hE:=Ar.eqs hA
 dsimp only at hE
 generalize hQ:EndQ P Tryz.f25.results [] _=Q
 have hn:=XjH hx
 cbv
 try simp only[nc]at*
 refine⟨?_,?_⟩
 ·simp only[hE,List.length_map,De,Di,Dh,Df,Da,C4,C3,C7,Cn,Co,B6,C6,Cr,Cf,C9,B4,Cs,Cq,Dg,IntKind.wrap_i64,decide_eq_true_eq,decide_eq_false_iff_not,Bool.not_eq_true',Bool.not_eq_false',Option.getD_none,Option.getD_some,hn];exact⟨by omega,by omega,by omega,by omega⟩
 refine LpW.of (κ:=Nat) (fun k=>k≤a.length) (fun k=>a.length - k) (fun k=>[(0,.d (.row 1 xs)),(3,.ref 1 0 a.length),(4,.d (.sc (.int .i64 k)))]) (fun k=>[.row 1 false [],.row 1 false (L4 cS a [.sc (.string default)] k)]) 0 (by simp) ?_ ?_ ?_
 ·refine .cons rfl (.cons ?_ (.cons rfl (.nil _)))
  show AV.ref 1 0 (qnat (qlen xs))=_
  simp only[hE,C3,C9,hn,Int.toNat_natCast]
 ·show[Root.row 1 false [],Root.row 1 false (qmkRow (qlen xs) [.sc (.string default)])]=_
  simp only[hE,C3,hn,Xi3]
  rfl
 ·intro k hk
  generalize hz:L4 cS a [.sc (.string default)] k=zs
  generalize hi:(k:Int)=i
  generalize hm':a.length=m
  refine P9 hT hm ?_
  rw[hA]
  cbv
  try simp only[nc]at*
  split
  ·rename_i h2
   simp only[hE,List.length_map,De,Di,Dh,Df,Da,C4,C3,C7,Cn,Co,B6,C6,Cr,Cf,C9,B4,Cs,Cq,Dg,IntKind.wrap_i64,decide_eq_true_eq,decide_eq_false_iff_not,Bool.not_eq_true',Bool.not_eq_false',Option.getD_none,Option.getD_some,hn]at h2
   have hk':k<a.length:=by omega
   cbv
   try simp only[nc]at*
   repeat (refine And.intro (by first|(simp only[hE];exact Xc2 hx hi hk')|(simp only[hE,L9 hx hi hk'];exact⟨rfl⟩)|(simp only[hE,L9 hx hi hk'];exact⟨Nat.le_of_ble_eq_true rfl⟩)) ?_)
   refine⟨?_,?_,?_,k+1,by omega,by omega,?_,?_⟩
   ·simp only[hE,List.length_map,De,Di,Dh,Df,Da,C4,C3,C7,Cn,Co,B6,C6,Cr,Cf,C9,B4,Cs,Cq,Dg,IntKind.wrap_i64,decide_eq_true_eq,decide_eq_false_iff_not,Bool.not_eq_true',Bool.not_eq_false',Option.getD_none,Option.getD_some,];exact⟨by omega,by omega⟩
   ·simp only[hE];exact Xjk hk' hz hi
   ·simp only[hE];exact Xhl hk' hz hi (Nat.le_refl _)
   ·refine .cons rfl (.cons rfl (.cons ?_ (.nil _)))
    show AV.d (D.sc (Value.int IntKind.i64 (qbin .add .i64 i 1)))=_
    simp only[hE,Xc5 hi (by omega)]
   ·have e:[D.sc (Value.string (qstr (qnth (qelt xs i) 0)))]=cS a[k]:=by simp only[hE,L9 hx hi hk'];rfl
    rw[e]
    simp only[hE]
    rw[Xji hk' hz hi rfl]
  ·rename_i h2
   simp only[hE,List.length_map,De,Di,Dh,Df,Da,C4,C3,C7,Cn,Co,B6,C6,Cr,Cf,C9,B4,Cs,Cq,Dg,IntKind.wrap_i64,decide_eq_true_eq,decide_eq_false_iff_not,Bool.not_eq_true',Bool.not_eq_false',Option.getD_none,Option.getD_some,hn]at h2
   cbv
   try simp only[nc]at*
   have hk':k=a.length:=by omega
   subst hk'
   rw[←hQ,hm']
   rw[Xjl]at hz
   have hxz:zs=xs:=by rw[←hz,hx]
   subst hxz
   exact XgP rfl rfl
theorem T25{a:List ByteArray}{xs:List (List D)}(hx:a.map cS=xs)(hb:Bb a≤1048576):CallOk Tryz.prog 25 [.d (.row 1 xs)] [] ⟨.d (.row 1 xs),[],[]⟩:=(T25R hx hb).rowD rfl (by rw[←hx,List.length_map])
end
section
open Go Go.Proofs
set_option maxRecDepth 20000
noncomputable def c18:Code:=(Tryz.f18.body).getD .skip
theorem ent18:Dw Tryz.prog 18:=⟨_,Tryz.func18,rfl,rfl⟩
theorem T18{a:List ByteArray}{xs:List (List D)}(hx:a.map cS=xs)(hb:Bb a≤1099511627776):CallOk Tryz.prog 18 [.d (.row 1 xs),.d (.row 1 xs)] [] ⟨.d (.sc (.bool true)),[],[]⟩:=by
 have aa:(a.length:Int)+Qs (fun x=>(x.size:Int)) a≤1099511627776:=hb
 have hsn:=Fp (fun x=>(x.size:Int)) a (fun x _=>Es x)
 refine CallOk.of_bodyD (body:=c18) Tryz.func18 rfl (Nat.le_of_ble_eq_true (by kernel_rfl)) rfl ?_
 refine P9 J6 mixed ?_
 have hT:=J6
 have hm:=mixed
 generalize hP:Tryz.prog=P at*
 generalize hA:std=A
 obtain⟨qbin,qsh,qcmp,qscmp,qbcmp,qbnot,qneg,qwrap,qcat,qssize,qssub,qsget,qlen,qrsub,qapp,qelt,qset,qnth,qdrp,qstr,qint,qbool,qrow,qnat,qnadd,qnsub,qband,qofNat,qstrRow,qmkRow,qmx,qmn,qbytes,qemp⟩:=A
 have hE:=Ar.eqs hA
 dsimp only at hE
 generalize hQ:EndD P Tryz.f18.results _=Q
 have hn:=XjH hx
 have hself:(∀v:Int,qcmp .neq v v=false)∧(∀v:ByteArray,qscmp .neq v v=false)∧(∀v:Bool,qbnot (qbcmp v v)=false)∧qbnot true=false:=by
  refine⟨fun v=>?_,fun v=>?_,fun v=>?_,?_⟩<;>simp only[hE,C4,W0,Cf,C6]<;>simp
 obtain⟨hself1,hself2,hself3,hself4⟩:=hself
 cbv
 try simp only[nc]at*
 rw[hself1]
 cbv
 try simp only[nc]at*
 refine LpW.of (κ:=Nat) (fun k=>k≤a.length) (fun k=>a.length - k) (fun k=>[(0,.d (.row 1 xs)),(1,.d (.row 1 xs)),(5,.d (.sc (.int .i64 k)))]) (fun _=>[]) 0 (by omega) ?_ (by first|rfl|trivial) ?_
 ·exact .cons rfl (.cons rfl (.cons rfl (.nil _)))
 ·intro k hk
  generalize hi:(k:Int)=i
  refine P9 hT hm ?_
  rw[hA]
  cbv
  try simp only[nc]at*
  split
  ·rename_i h3
   simp only[hE,List.length_map,De,Di,Dh,Df,Da,C4,C3,C7,Cn,Co,B6,C6,Cr,Cf,C9,B4,Cs,Cq,Dg,IntKind.wrap_i64,decide_eq_true_eq,decide_eq_false_iff_not,Bool.not_eq_true',Bool.not_eq_false',Option.getD_none,Option.getD_some,hn]at h3
   have hk':k<a.length:=by omega
   cbv
   try simp only[nc]at*
   repeat (refine And.intro (by first|(simp only[hE];exact Xc2 hx hi hk')|(simp only[hE,L9 hx hi hk'];exact⟨rfl⟩)|(simp only[hE,L9 hx hi hk'];exact⟨Nat.le_of_ble_eq_true rfl⟩)) ?_)
   rw[hself2]
   cbv
   try simp only[nc]at*
   refine⟨k+1,by omega,by omega,?_,by trivial⟩
   refine .cons rfl (.cons rfl (.cons ?_ (.nil _)))
   show AV.d (D.sc (Value.int IntKind.i64 (qbin .add .i64 i 1)))=_
   simp only[hE,Xc5 hi (by omega)]
  ·rename_i h3
   simp only[hE,List.length_map,De,Di,Dh,Df,Da,C4,C3,C7,Cn,Co,B6,C6,Cr,Cf,C9,B4,Cs,Cq,Dg,IntKind.wrap_i64,decide_eq_true_eq,decide_eq_false_iff_not,Bool.not_eq_true',Bool.not_eq_false',Option.getD_none,Option.getD_some,hn]at h3
   cbv
   try simp only[nc]at*
   rw[←hQ]
   exact Iv rfl rfl
end
end Go.Proofs.YtgdmjbcllgmepaaGreatDoor.Ab
