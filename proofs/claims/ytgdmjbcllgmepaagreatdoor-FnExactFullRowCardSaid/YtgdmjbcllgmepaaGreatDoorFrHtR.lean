/- What functions of the program come to, for all arguments in the given bounds. -/
import Derived.Test.YtgdmjbcllgmepaaGreatDoorFrHsz
set_option linter.unusedVariables false
set_option linter.unusedSimpArgs false
namespace Go.Proofs.YtgdmjbcllgmepaaGreatDoor.Ab
section
open Go Go.Proofs
set_option maxRecDepth 20000
end
section
open Go Go.Proofs
set_option maxRecDepth 20000
theorem Xg2{n:Int}(h0:0≤n)(h1:n<256):IntKind.u8.wrap n=n:=by
 show(let m:=n%(2^8:Int);if false&&decide (m≥(2^7:Int))then m - (2^8:Int)else m)=n
 simp
 omega
theorem Xi0{k:IntKind}{a b:Int}(h0:0≤a)(h1:0<b):std.bin .rem k a b=a% b:=by
 show XcG (if b=0 then none else some (.int k (a.tmod b)))=_
 rw[if_neg (by omega)]
 exact Int.tmod_eq_emod_of_nonneg h0
theorem Xio{k:IntKind}{a b:Int}(h0:0≤a)(h1:0<b):std.bin .quo k a b=k.wrap (a/b):=by
 show XcG (if b=0 then none else some (.int k (k.wrap (a.tdiv b))))=_
 rw[if_neg (by omega),Int.tdiv_eq_ediv_of_nonneg h0]
 rfl
def mkL(k:Nat)(out:List UInt8):List UInt8:=if h:k=0 then out else mkL (k/10) (UInt8.ofNat (48+k% 10)::out)
termination_by k
decreasing_by omega
def Sv(k:Int):ByteArray:=if k≤0 then tx [109,48]else tx (109::mkL k.toNat [])
theorem Xg6(out:List UInt8):mkL 0 out=out:=by rw[mkL];rfl
theorem XgC{k:Nat}(h:k≠0)(out:List UInt8):mkL (k/10) (UInt8.ofNat (48+k% 10)::out)=mkL k out:=by
 conv=>rhs;rw[mkL,dif_neg h]
noncomputable def c73:Code:=(Tryz.f73.body).getD .skip
theorem XjA:Dw Tryz.prog 73:=⟨_,Tryz.func73,rfl,rfl⟩
theorem T73(k:Int)(hk:k<2^60):CallOk Tryz.prog 73 [.d (.sc (.int .i64 k))] [] ⟨.d (.sc (.string (Sv k))),[],[]⟩:=by
 refine CallOk.of_bodyD (body:=c73) Tryz.func73 rfl (Nat.le_of_ble_eq_true (by kernel_rfl)) rfl ?_
 refine P9 J6 mixed ?_
 have hT:=J6
 have hm:=mixed
 generalize hP:Tryz.prog=P at*
 generalize hA:std=A
 obtain⟨qbin,qsh,qcmp,qscmp,qbcmp,qbnot,qneg,qwrap,qcat,qssize,qssub,qsget,qlen,qrsub,qapp,qelt,qset,qnth,qdrp,qstr,qint,qbool,qrow,qnat,qnadd,qnsub,qband,qofNat,qstrRow,qmkRow,qmx,qmn,qbytes,qemp⟩:=A
 have hE:=Ar.eqs hA
 dsimp only at hE
 generalize hQ:EndD P Tryz.f73.results _=Q
 cbv
 try simp only[nc]at*
 split
 ·rename_i h
  simp only[hE,List.length_map,De,Di,Dh,Df,Da,C4,C3,C7,Cn,Co,B6,C6,Cr,Cf,C9,B4,Cs,Cq,Dg,IntKind.wrap_i64,decide_eq_true_eq,decide_eq_false_iff_not,Bool.not_eq_true',Bool.not_eq_false',Option.getD_none,Option.getD_some]at h
  cbv
  try simp only[nc]at*
  rw[←hQ,show Sv k=tx [109,48]from if_pos h]
  exact Iv rfl rfl
 rename_i h
 simp only[hE,List.length_map,De,Di,Dh,Df,Da,C4,C3,C7,Cn,Co,B6,C6,Cr,Cf,C9,B4,Cs,Cq,Dg,IntKind.wrap_i64,decide_eq_true_eq,decide_eq_false_iff_not,Bool.not_eq_true',Bool.not_eq_false',Option.getD_none,Option.getD_some]at h
 cbv
 try simp only[nc]at*
 refine LpW.ofN (κ:=Nat×List UInt8) (fun p=>mkL p.1 p.2=mkL k.toNat []∧p.1+p.2.length≤k.toNat) (fun p=>p.1) (fun p=>[(0,.d (.sc (.int .i64 (p.1:Nat)))),(3,.d (.sc (.string (tx p.2))))]) (fun _=>[]) (k.toNat,[]) 0 ⟨rfl,by simp⟩ ?_ (by first|rfl|trivial) (fun _ _=>⟨rfl,rfl,rfl⟩) ?_
 ·refine .cons ?_ (.cons rfl (.nil _))
  show AV.d (D.sc (Value.int IntKind.i64 k))= .d (.sc (.int .i64 ((k.toNat:Nat):Int)))
  rw[Int.toNat_of_nonneg (by omega)]
 ·rintro⟨n,out⟩ ⟨hn,hl⟩
  dsimp only at hn hl
  dsimp only
  generalize hs:tx out=s
  generalize hi:(n:Int)=i
  refine P9 hT hm ?_
  rw[hA]
  cbv
  try simp only[nc]at*
  split
  ·rename_i h2
   simp only[hE,List.length_map,De,Di,Dh,Df,Da,C4,C3,C7,Cn,Co,B6,C6,Cr,Cf,C9,B4,Cs,Cq,Dg,IntKind.wrap_i64,decide_eq_true_eq,decide_eq_false_iff_not,Bool.not_eq_true',Bool.not_eq_false',Option.getD_none,Option.getD_some]at h2
   cbv
   try simp only[nc]at*
   have hv:qwrap .u8 (qbin .add .i64 48 (qbin .rem .i64 i 10))=((UInt8.ofNat (48+n% 10)).toNat:Int):=by
    simp only[hE,Xi0 (show 0≤i by omega) (show(0:Int)<10 by omega),C7,Xfy]
    rw[M2 (by omega),Xg2 (by omega) (by omega),UInt8.toNat_ofNat']
    omega
   rw[hv]
   have hr:qrsub [[D.sc (Value.int IntKind.u8 ((UInt8.ofNat (48+n% 10)).toNat:Int))]] (qofNat 0) (qofNat (qnadd 0 1))=[UInt8.ofNat (48+n% 10)].map cB:=by simp only[hE];rfl
   rw[hr]
   have hb:qbytes ([UInt8.ofNat (48+n% 10)].map cB)=tx [UInt8.ofNat (48+n% 10)]:=by simp only[hE];exact S1 _
   have hss:s.size=out.length:=by rw[←hs,Bw]
   refine⟨⟨by omega⟩,⟨by simp⟩,XgY _,?_,⟨by omega⟩,(n/10,UInt8.ofNat (48+n% 10)::out),⟨?_,?_⟩,?_,?_,by first|rfl|trivial⟩
   ·rw[hb]
    refine⟨?_⟩
    rw[Bw]
    show(((1+s.size:Nat)):Int)≤2^63 - 1
    omega
   ·rw[←hn]
    exact XgC (by omega) out
   ·simp only[List.length_cons]
    omega
   ·show n/10<n
    omega
   ·refine .cons ?_ (.cons ?_ (.nil _))
    ·show AV.d (D.sc (Value.int IntKind.i64 (qbin .quo .i64 i 10)))=_
     simp only[hE,Xio (show 0≤i by omega) (show(0:Int)<10 by omega)]
     rw[M2 (by omega),show i/10=((n/10:Nat):Int)by omega]
    ·show AV.d (D.sc (Value.string (qcat (qbytes ([UInt8.ofNat (48+n% 10)].map cB)) s)))=_
     rw[hb,←hs]
     simp only[hE,Xcu]
     rfl
  ·rename_i h2
   simp only[hE,List.length_map,De,Di,Dh,Df,Da,C4,C3,C7,Cn,Co,B6,C6,Cr,Cf,C9,B4,Cs,Cq,Dg,IntKind.wrap_i64,decide_eq_true_eq,decide_eq_false_iff_not,Bool.not_eq_true',Bool.not_eq_false',Option.getD_none,Option.getD_some]at h2
   cbv
   try simp only[nc]at*
   have aa:n=0:=by omega
   subst aa
   rw[Xg6]at hn
   have hss:s.size=out.length:=by rw[←hs,Bw]
   refine⟨⟨?_⟩,?_⟩
   ·show(((1+s.size:Nat)):Int)≤2^63 - 1
    omega
   rw[←hQ]
   refine M6 rfl (Xjy ?_)
   rw[←hs,show Sv k=tx (109::mkL k.toNat [])from if_neg h,←hn]
   simp only[hE]
   exact Xcu (a:=[109]) (b:=out)
def Gz(k:Int)(j:Nat):ByteArray:=Sv (k+1*(j:Int)+0)
def Eu(k:Int)(n:Nat):List ByteArray:=(List.range n).map (Gz k)
theorem Gt{k:Int}{n:Nat}:(Eu k n).length=n:=by simp[Eu]
noncomputable def c21:Code:=(Tryz.f21.body).getD .skip
theorem ent21:Dw Tryz.prog 21:=⟨_,Tryz.func21,rfl,rfl⟩
theorem T21{a:List ByteArray}{xs:List (List D)}(hx:a.map cS=xs){na:Nat}(hna:na=a.length)(ha:na<2^40)(k:Int)(h0:0≤k)(h1:k<2^50):
  CallOk Tryz.prog 21 [.ref 0 0 na,.d (.sc (.int .i64 k))] [.row 1 false xs] ⟨.d (.sc (.int .i64 (k+1*(na:Int)))),[],[(0,.row 1 false ((Eu k na).map cS))]⟩:=by
 subst hna
 have e1:=XjA
 have t1:=@T73
 refine CallOk.of_body (body:=c21) Tryz.func21 rfl (Nat.le_of_ble_eq_true (by kernel_rfl)) rfl rfl ?_
 refine P9 J6 mixed ?_
 have hT:=J6
 have hm:=mixed
 generalize hP:Tryz.prog=P at*
 generalize hA:std=A
 obtain⟨qbin,qsh,qcmp,qscmp,qbcmp,qbnot,qneg,qwrap,qcat,qssize,qssub,qsget,qlen,qrsub,qapp,qelt,qset,qnth,qdrp,qstr,qint,qbool,qrow,qnat,qnadd,qnsub,qband,qofNat,qstrRow,qmkRow,qmx,qmn,qbytes,qemp⟩:=A
 have hE:=Ar.eqs hA
 dsimp only at hE
 generalize hQ:EndQ P Tryz.f21.results _ _=Q
 generalize hm':a.length=m
 cbv
 try simp only[nc]at*
 refine LpW.of (κ:=Nat) (fun j=>j≤a.length) (fun j=>a.length - j) (fun j=>[(0,.ref 0 0 m),(1,.d (.sc (.int .i64 (k+1*(j:Int))))),(5,.d (.sc (.int .i64 j)))]) (fun j=>[.row 1 false ((mkd (Gz k) a j).map cS)]) 0 (by omega) ?_ ?_ ?_
 ·refine .cons rfl (.cons ?_ (.cons rfl (.nil _)))
  show AV.d (.sc (.int .i64 k))= .d (.sc (.int .i64 (k+1*((0:Nat):Int))))
  rw[show k+1*((0:Nat):Int)=k by omega]
 ·show[Root.row 1 false xs]=[Root.row 1 false ((mkd (Gz k) a 0).map cS)]
  rw[←hx,Xhm]
 ·intro j hj
  obtain⟨l0,aa⟩:∃l,l=mkd (Gz k) a j:=⟨_,rfl⟩
  rw[←aa]
  have hll:l0.length=a.length:=by rw[aa];exact XdM hj
  generalize ab:l0.map cS=ad
  generalize hi:(j:Int)=i
  generalize ah:k+1*i=kc0
  refine P9 hT hm ?_
  rw[hA]
  cbv
  try simp only[nc]at*
  split
  ·rename_i h2
   simp only[hE,List.length_map,De,Di,Dh,Df,Da,C4,C3,C7,Cn,Co,B6,C6,Cr,Cf,C9,B4,Cs,Cq,Dg,IntKind.wrap_i64,decide_eq_true_eq,decide_eq_false_iff_not,Bool.not_eq_true',Bool.not_eq_false',Option.getD_none,Option.getD_some]at h2
   have hj':j<a.length:=by omega
   have hjl0:j<l0.length:=by omega
   obtain⟨w0,ai⟩:∃w,w=l0[j]:=⟨_,rfl⟩
   cbv
   try simp only[nc]at*
   refine ClW.dd (f:=73) rfl rfl rfl rfl (.cons rfl .nil) rfl e1 (t1 kc0 (by omega)) rfl ?_
   generalize ht0:Sv kc0=t0
   cbv
   try simp only[nc]at*
   obtain⟨w1,ae⟩:∃w,w=t0:=⟨_,rfl⟩
   have af:qset ad (qnadd 0 (qnat i)) 0 [D.sc (Value.string t0)]=(l0.set j w1).map cS:=by
    simp only[hE]
    exact XjS ab hi hjl0 (by rw[←ai,ae];rfl)
   obtain⟨l1,ac⟩:∃l,l=l0.set j w1:=⟨_,rfl⟩
   rw[←ac]at af
   have hjl1:j<l1.length:=by rw[ac,List.length_set];exact hjl0
   have al:w1=l1[j]:=by simp[ac]
   have ag:qbin .add .i64 kc0 1=kc0+1:=by simp only[hE,List.length_map,De,Di,Dh,Df,Da,C4,C3,C7,Cn,Co,B6,C6,Cr,Cf,C9,B4,Cs,Cq,Dg,IntKind.wrap_i64,decide_eq_true_eq,decide_eq_false_iff_not,Bool.not_eq_true',Bool.not_eq_false',Option.getD_none,Option.getD_some,];omega
   generalize hkc1:kc0+1=kc1 at ag
   rw[af,ag]
   generalize aj:l1.map cS=ak
   refine⟨by simp only[hE,List.length_map,De,Di,Dh,Df,Da,C4,C3,C7,Cn,Co,B6,C6,Cr,Cf,C9,B4,Cs,Cq,Dg,IntKind.wrap_i64,decide_eq_true_eq,decide_eq_false_iff_not,Bool.not_eq_true',Bool.not_eq_false',Option.getD_none,Option.getD_some,];exact⟨by omega,by omega⟩,by simp only[hE];exact XjT ab hi hjl0,by simp only[hE];exact XhJ ab hi hjl0 (Nat.le_of_ble_eq_true rfl),?_⟩
   have hfin:l1=mkd (Gz k) a (j+1):=by
    rw[←Xii hj',←aa,ac]
    try simp only[List.set_set]
    congr 1
    rw[ae]
    simp only[Gz,hi]
    rw[←ht0]
    rw[show kc0=k+1*i+0 by omega]
   refine⟨j+1,by omega,by omega,?_,?_⟩
   ·refine .cons rfl (.cons ?_ (.cons ?_ (.nil _)))
    ·show AV.d (D.sc (Value.int IntKind.i64 kc1))= .d (.sc (.int .i64 (k+1*((j+1:Nat):Int))))
     rw[show k+1*((j+1:Nat):Int)=kc1 by omega]
    ·show AV.d (D.sc (Value.int IntKind.i64 (qbin .add .i64 i 1)))=_
     simp only[hE,Xc5 hi (by omega)]
   ·show[Root.row 1 false ak]=_
    rw[←hfin,aj]
  ·rename_i h2
   simp only[hE,List.length_map,De,Di,Dh,Df,Da,C4,C3,C7,Cn,Co,B6,C6,Cr,Cf,C9,B4,Cs,Cq,Dg,IntKind.wrap_i64,decide_eq_true_eq,decide_eq_false_iff_not,Bool.not_eq_true',Bool.not_eq_false',Option.getD_none,Option.getD_some]at h2
   cbv
   try simp only[nc]at*
   have hj':j=a.length:=by omega
   subst hj'
   rw[XiV]at aa
   rw[←hQ,←hm']
   refine Xho rfl ?_ ?_
   ·rw[←ah,hi]
   ·show some (Root.row 1 false ad)=_
    rw[←ab,aa]
    rfl
noncomputable def c46:Code:=(Tryz.f46.body).getD .skip
end
section
open Go Go.Proofs
set_option maxRecDepth 20000
noncomputable def c22:Code:=(Tryz.f22.body).getD .skip
theorem ent22:Dw Tryz.prog 22:=⟨_,Tryz.func22,rfl,rfl⟩
theorem T22{n:Nat}{k:Int}{xs:List (List D)}(hx:(Eu k n).map cS=xs)(ha:n<2^40)(h0:0≤k)(h1:k<2^50):
  CallOk Tryz.prog 22 [.d (.row 1 xs),.d (.sc (.int .i64 k))] [] ⟨.d (.sc (.int .i64 (k+1*(n:Int)))),[],[]⟩:=by
 have e1:=XjA
 have t1:=@T73
 refine CallOk.of_bodyD (body:=c22) Tryz.func22 rfl (Nat.le_of_ble_eq_true (by kernel_rfl)) rfl ?_
 refine P9 J6 mixed ?_
 have hT:=J6
 have hm:=mixed
 generalize hP:Tryz.prog=P at*
 generalize hA:std=A
 obtain⟨qbin,qsh,qcmp,qscmp,qbcmp,qbnot,qneg,qwrap,qcat,qssize,qssub,qsget,qlen,qrsub,qapp,qelt,qset,qnth,qdrp,qstr,qint,qbool,qrow,qnat,qnadd,qnsub,qband,qofNat,qstrRow,qmkRow,qmx,qmn,qbytes,qemp⟩:=A
 have hE:=Ar.eqs hA
 dsimp only at hE
 generalize hQ:EndD P Tryz.f22.results _=Q
 have hn:=XjH hx
 rw[Gt]at hn
 have hself:(∀v:Int,qcmp .neq v v=false)∧(∀v:ByteArray,qscmp .neq v v=false):=by
  refine⟨fun v=>?_,fun v=>?_⟩<;>simp only[hE,C4,W0]<;>simp
 obtain⟨hself1,hself2⟩:=hself
 cbv
 try simp only[nc]at*
 refine LpW.of (κ:=Nat) (fun j=>j≤n) (fun j=>n - j) (fun j=>[(0,.d (.row 1 xs)),(1,.d (.sc (.int .i64 (k+1*(j:Int))))),(5,.d (.sc (.int .i64 j)))]) (fun j=>[]) 0 (by omega) ?_ (by first|rfl|trivial) ?_
 ·refine .cons rfl (.cons ?_ (.cons rfl (.nil _)))
  show AV.d (.sc (.int .i64 k))= .d (.sc (.int .i64 (k+1*((0:Nat):Int))))
  rw[show k+1*((0:Nat):Int)=k by omega]
 ·intro j hj
  generalize hi:(j:Int)=i
  generalize ab:k+1*i=kc0
  refine P9 hT hm ?_
  rw[hA]
  cbv
  try simp only[nc]at*
  split
  ·rename_i h2
   simp only[hE,List.length_map,De,Di,Dh,Df,Da,C4,C3,C7,Cn,Co,B6,C6,Cr,Cf,C9,B4,Cs,Cq,Dg,IntKind.wrap_i64,decide_eq_true_eq,decide_eq_false_iff_not,Bool.not_eq_true',Bool.not_eq_false',Option.getD_none,Option.getD_some,hn]at h2
   have hj':j<n:=by omega
   have hjl:j<(Eu k n).length:=by rw[Gt];exact hj'
   have hge:(Eu k n)[j]=Gz k j:=by simp[Eu]
   have he:std.elt xs i=cS (Gz k j):=by rw[L9 hx hi hjl,hge]
   cbv
   try simp only[nc]at*
   repeat (refine And.intro (by first|(simp only[hE];exact Xc2 hx hi hjl)|(simp only[hE,L9 hx hi hjl];exact⟨rfl⟩)|(simp only[hE,L9 hx hi hjl];exact⟨Nat.le_of_ble_eq_true rfl⟩)) ?_)
   obtain⟨t0,ht0⟩:∃t,t=Sv kc0:=⟨_,rfl⟩
   rw[show qstr (qnth (qelt xs i) 0)=t0 by simp only[hE,he];show Sv (k+1*(j:Int)+0)=t0;rw[ht0,show k+1*(j:Int)+0=kc0 by omega]]
   refine ClW.dd (f:=73) rfl rfl rfl rfl (.cons rfl .nil) rfl e1 (t1 kc0 (by omega)) rfl ?_
   rw[←ht0]
   cbv
   try simp only[nc]at*
   rw[hself2]
   cbv
   try simp only[nc]at*
   have aa:qbin .add .i64 kc0 1=kc0+1:=by simp only[hE,List.length_map,De,Di,Dh,Df,Da,C4,C3,C7,Cn,Co,B6,C6,Cr,Cf,C9,B4,Cs,Cq,Dg,IntKind.wrap_i64,decide_eq_true_eq,decide_eq_false_iff_not,Bool.not_eq_true',Bool.not_eq_false',Option.getD_none,Option.getD_some,];omega
   generalize hkc1:kc0+1=kc1 at aa
   rw[aa]
   refine⟨j+1,by omega,by omega,?_,by first|rfl|trivial⟩
   refine .cons rfl (.cons ?_ (.cons ?_ (.nil _)))
   ·show AV.d (D.sc (Value.int IntKind.i64 kc1))= .d (.sc (.int .i64 (k+1*((j+1:Nat):Int))))
    rw[show k+1*((j+1:Nat):Int)=kc1 by omega]
   ·show AV.d (D.sc (Value.int IntKind.i64 (qbin .add .i64 i 1)))=_
    simp only[hE,Xc5 hi (by omega)]
  ·rename_i h2
   simp only[hE,List.length_map,De,Di,Dh,Df,Da,C4,C3,C7,Cn,Co,B6,C6,Cr,Cf,C9,B4,Cs,Cq,Dg,IntKind.wrap_i64,decide_eq_true_eq,decide_eq_false_iff_not,Bool.not_eq_true',Bool.not_eq_false',Option.getD_none,Option.getD_some,hn]at h2
   cbv
   try simp only[nc]at*
   have hj':j=n:=by omega
   rw[←hQ]
   refine M6 rfl (XjP ?_)
   omega
end
section
open Go Go.Proofs
set_option maxRecDepth 20000
end
end Go.Proofs.YtgdmjbcllgmepaaGreatDoor.Ab
