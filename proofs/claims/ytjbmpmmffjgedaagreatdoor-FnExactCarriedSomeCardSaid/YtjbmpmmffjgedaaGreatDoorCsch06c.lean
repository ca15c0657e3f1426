/- What functions come to. -/
import Derived.Test.YtjbmpmmffjgedaaGreatDoorCsch04b
import Derived.Test.YtjbmpmmffjgedaaGreatDoorCsZ9
set_option linter.unusedVariables false
set_option linter.unusedSimpArgs false
set_option maxHeartbeats 4000000
set_option maxRecDepth 20000
namespace Go.Proofs.YtjbmpmmffjgedaaGreatDoor.Ab
section
open Go Go.Proofs
def Qy:List (Nat×TyRow):=[ty3,ty5,ty9,XdN,Zp]
theorem Xcs:B8 Tryz.prog Qy:=B8.of (by kernel_rfl)
theorem Mo:Setup Tryz.prog Qy:=⟨Xcs,mixed⟩
def H0{α:Type}(l:List α)(i:Int)(m:List α):List α:=l.take i.toNat++m++l.drop i.toNat
def Il{α:Type}(l:List α)(i j:Int):List α:=l.eraseIdx i.toNat
variable {l o oa:List Ad} {xl xo xoa:List (List D)} {nl no:Nat} {i:Int} {name:ByteArray} {ob:Bool}
theorem Gk{m:List Ad}{xm:List (List D)}{nm:Nat}(hl:l.map Ac=xl)(hnl:nl=l.length)(hm:m.map Ac=xm)(hnm:nm=m.length)
  (hp:(0≤i∧i≤l.length)∧l.length≤4000000000∧nm=1)(hr:H0 l i m=o)(ho:o.map Ac=xo)(hno:no=o.length):Fn Tryz.prog 332 [.ref 0 0 nl,I i,.ref 1 0 nm] [.row 2 false xl,.row 2 false xm] ⟨.ref 2 0 no,[.row 2 false xo],[(0,.dead)]⟩:=by
 obtain⟨⟨h0,h1⟩,h2,h3⟩:=hp
 subst h3
 refine⟨Fg Tryz.func332 rfl rfl,?_⟩
 obtain⟨i,rfl⟩:∃k:Nat,i=k:=⟨i.toNat,by omega⟩
 match m,hnm with
 |[x],_=>
  subst hm ho hno hr hl
  have h:=Xhw (xs:=l.map Ac) (v:=Ac x) (n:=nl) (i:=i) (by simpa using hnl) (by omega) (by omega)
  have e:(H0 l i [x]).map Ac=(l.map Ac).take i++Ac x::(l.map Ac).drop i:=by
   unfold H0
   simp
  have e2:(H0 l i [x]).length=((l.map Ac).take i++Ac x::(l.map Ac).drop i).length:=by rw[←e,List.length_map]
  rw[e,e2]
  exact h
theorem Ke{j:Int}(hl:l.map Ac=xl)(hnl:nl=l.length)
  (hp:(0≤i∧i<l.length)∧j=i+1∧l.length≤4000000000)(hr:Il l i j=o)(ho:o.map Ac=xo)(hno:no=o.length):Fn Tryz.prog 333 [.ref 0 0 nl,I i,I j] [.row 2 false xl] ⟨.ref 1 0 no,[.row 2 false xo],[(0,.dead)]⟩:=by
 obtain⟨⟨h0,h1⟩,h2,h3⟩:=hp
 refine⟨Fg Tryz.func333 rfl rfl,?_⟩
 subst ho hno hr hl
 have h:=XhY (xs:=l.map Ac) (n:=nl) (i:=i) (j:=j) (by simpa using hnl) h0 (by omega) h2 (by omega)
 have e:(Il l i j).map Ac=(l.map Ac).eraseIdx i.toNat:=by
  unfold Il
  apply List.ext_getElem?
  intro k
  simp only[List.getElem?_map,List.getElem?_eraseIdx]
  split<;>rfl
 have e2:(Il l i j).length=((l.map Ac).eraseIdx i.toNat).length:=by rw[←e,List.length_map]
 rw[e,e2]
 exact h
def J8(e:Ad)(name:ByteArray):Bool:=!(ltB e.name_ name||decide (e.name_=name))
def Ce(l:List Ad)(name:ByteArray):Int:=S1 (fun e=>J8 e name) l
def Qp(l:List Ad)(name:ByteArray)(id:Int):List Ad:=
 if 0≤Ao l name then l.set (Ao l name).toNat ⟨(l.getD (Ao l name).toNat ⟨tx [],0⟩).name_,id⟩
 else H0 l (if Ce l name<0 then l.length else Ce l name) [⟨name,id⟩]
def Gm(l:List Ad)(name:ByteArray):List Ad×Bool:=
 if Ao l name<0∨Bj name=false then([],false)else(Il l (Ao l name) (Ao l name+1),true)
theorem Xk7{enam:ByteArray}{eid:Int}{o:Bool}(hr:J8 (⟨enam,eid⟩:Ad) name=o):Fn Tryz.prog 331 [.agg [S enam,I eid],.ptr 0 0 0] [.box 9 [S name]] ⟨B o,[],[]⟩:=by
 refine Fn.goR Mo Tryz.func331 fun P hP Q hQ=>?_
 conv=>cbv
 refine .gtr fun b1 aa=>?_
 conv=>cbv
 have e:b1=J8 (⟨enam,eid⟩:Ad) name:=(by unfold J8;exact aa)
 rw[hr]at e
 subst e
 exact hQ _ _ (.o [] rfl)
theorem Rz{o:Int}(hl:l.map Ac=xl)(hnl:nl=l.length)(hn:l.length<2^40)(hr:Ce l name=o):Fn Tryz.prog 284 [.ref 0 0 nl,.clo 331 [.ptr 1 0 0]] [.row 2 false xl,.box 9 [S name]] ⟨I o,[],[]⟩:=by
 refine Fn.goR Mo Tryz.func284 fun P hP Q hQ=>?_
 conv=>cbv
 refine .go fun v1 ah=>?_
 conv=>cbv
 refine LoopW.lp (κ:=Int) Mo hP [] [0,1,7] (fun i8=>[(8,I i8)]) (fun i8=>[])
  (fun i8=>0≤i8∧i8≤l.length∧∀(j:Nat) (hj:j<l.length),j<i8.toNat→J8 l[j] name=false)
  (fun i8=>(l.length - i8).toNat) (0) ⟨by omega,by omega,fun j _ h=>by simp at h⟩ ⟨rfl,trivial⟩ rfl ?_
 rintro i8 J ⟨h0,h1,hb⟩ hJ
 conv=>cbv
 refine .lss (fun h2=>?_) fun h2=>?_
 conv=>cbv
 refine .go i8.toNat fun p3 ae af=>?_
 conv=>cbv
 refine .go hl fun ag ⟨aa,ac⟩ ad=>?_
 conv=>cbv
 subst ae
 generalize ab:J8 (⟨aa,ac⟩:Ad) name=r5
 refine .bx [1] [] hP (Xk7 ab) rfl rfl rfl rfl ?_
 cases r5
 conv=>cbv
 refine .add fun v6 ai=>?_
 conv=>cbv
 exact .go [] (v6) (hJ _ ⟨by omega,by omega,fun j hj h=>if e:j=i8.toNat then by subst e;rw[←ad];exact ab else hb j hj (by omega)⟩ mlt)
 conv=>cbv
 have e:i8=Ce l name:=(by exact Ni (p:=fun x=>J8 x name) h0 (by omega) (ad▸ab) hb)
 rw[hr]at e
 subst e
 exact hQ _ _ (.o [] rfl)
 conv=>cbv
 have e:(-1)=Ce l name:=(by exact I4 (p:=fun x=>J8 x name) fun j hj=>hb j hj (by omega))
 rw[hr]at e
 subst e
 exact hQ _ _ (.o [] rfl)
theorem Xbc:Setup Tryz.prog ((1000013,Fp Tryz.prog 1000013)::Qy):=(Setup.mark 1000013 Mo)
theorem XjD{id:Int}(hl:l.map Ac=xl)(hnl:nl=l.length)(hn:l.length≤4000000000)(hr:Qp l name id=o)(ho:o.map Ac=xo)(hno:no=o.length):Fn Tryz.prog 307 [.ref 0 0 nl,S name,I id] [.row 2 false xl] ⟨.ref 1 0 no,[.row 2 false xo],[(0,.dead)]⟩:=by
 refine Fn.goR Xbc Tryz.func307 fun P hP Q hQ=>?_
 conv=>cbv
 refine JoinW.jn (κ:=(List (List D))×Nat) Xbc hP [0] [0,2,4] (fun(ab,ac)=>[]) (fun(ab,ac)=>[(3,.row 2 false ab)])
  (fun(ab,ac)=>∃(w3:List Ad),w3.map Ac=ab∧ac=w3.length∧w3=l∧Ao w3 name<0) (fun Jj hJj=>?_) ?_
 conv=>cbv
 generalize aa:Ao l name=r1
 refine .lnt hP (Kk hl (by omega) aa) (.ref rfl (by rw[←hl,List.length_map];first|omega|(simp;omega)) (.d rfl .nil)) ?_
 conv=>cbv
 have hb:=Gq aa
 refine .geq (fun h2=>?_) fun h2=>?_
 conv=>cbv
 refine .go r1.toNat fun p3 ai am=>?_
 conv=>cbv
 refine .go (⟨(l.getD p3 ⟨tx [],0⟩).name_,id⟩:Ad) hl (by omega) (by rw[←gD (show p3<l.length by omega)];rfl) (Nat.le_refl 2) fun z4 aj=>?_
 conv=>cbv
 have e:(l.set p3 (⟨(l.getD p3 ⟨tx [],0⟩).name_,id⟩:Ad))=Qp l name id:=(by unfold Qp;rw[aa,if_pos (by omega),ai])
 rw[hr]at e
 subst e
 obtain rfl:z4=xo:=by rw[←aj,←ho]
 obtain rfl:nl=no:=by first|omega|(rw[hno];simp;done)|(rw[hno];simp;omega)
 exact hQ _ _ (.o [3] rfl)
 conv=>cbv
 exact .go [3] (xl,nl) (hJj _ ⟨_,hl,Lx,rfl,by rw[aa];omega⟩)
 rintro⟨ab,ac⟩ ⟨w3,ad,an,hwl,hneg⟩
 have hwn:w3.length=l.length:=by rw[hwl]
 conv=>cbv
 generalize aa:Ce w3 name=r1
 refine .bx [3,1] [] hP (Rz ad (by first|rfl|omega|(simp;omega)) (by omega) aa) rfl rfl rfl rfl ?_
 conv=>cbv
 have hb:=Xd5 (p:=fun e=>J8 e name) aa
 refine .lss (fun h2=>?_) fun h2=>?_
 conv=>cbv
 refine .go fun v3 ao=>?_
 conv=>cbv
 generalize ae:H0 w3 v3 [(⟨name,id⟩:Ad)]=l4
 generalize af:l4.map Ac=ak
 obtain⟨nl4,hnl4⟩:∃m,m=l4.length:=⟨_,rfl⟩
 refine .bx [3,4] [] hP (Gk ad (by first|rfl|omega|(simp;omega)) rfl (by first|rfl|omega|(simp;omega)) (by omega) ae af hnl4) rfl rfl rfl rfl ?_
 conv=>cbv
 have e:l4=Qp l name id:=(by rw[←hwl];unfold Qp;rw[if_neg (by omega),aa,if_pos (by omega),show((w3.length:Nat):Int)=v3 by omega];exact ae.symm)
 rw[hr]at e
 subst e
 obtain rfl:ak=xo:=by rw[←af,←ho]
 obtain rfl:nl4=no:=by first|omega|(rw[hno];simp;done)|(rw[hno];simp;omega)
 exact hQ _ _ (.o [5] rfl)
 conv=>cbv
 generalize ag:H0 w3 r1 [(⟨name,id⟩:Ad)]=l3
 generalize ah:l3.map Ac=al
 obtain⟨nl3,hnl3⟩:∃m,m=l3.length:=⟨_,rfl⟩
 refine .bx [3,4] [] hP (Gk ad (by first|rfl|omega|(simp;omega)) rfl (by first|rfl|omega|(simp;omega)) (by omega) ag ah hnl3) rfl rfl rfl rfl ?_
 conv=>cbv
 have e:l3=Qp l name id:=(by rw[←hwl];unfold Qp;rw[if_neg (by omega),aa,if_neg (by omega)];exact ag.symm)
 rw[hr]at e
 subst e
 obtain rfl:al=xo:=by rw[←ah,←ho]
 obtain rfl:nl3=no:=by first|omega|(rw[hno];simp;done)|(rw[hno];simp;omega)
 exact hQ _ _ (.o [5] rfl)
theorem Xo:Setup Tryz.prog ((1000016,Fp Tryz.prog 1000016)::Qy):=(Setup.mark 1000016 Mo)
theorem Xe0{noa:Nat}(hl:l.map Ac=xl)(hnl:nl=l.length)(hn:l.length≤4000000000)(hs:name.size≤1000000000)(hr:Gm l name=(oa,ob))(hoa:oa.map Ac=xoa)(hnoa:noa=oa.length):Fn Tryz.prog 308 [.ref 0 0 nl,S name] [.row 2 false xl] ⟨.tup [.ref 1 0 noa,B ob],[.row 2 false xoa],[(0,.dead)]⟩:=by
 refine Fn.goR Xo Tryz.func308 fun P hP Q hQ=>?_
 conv=>cbv
 generalize ab:Ao l name=r1
 refine .lnt hP (Kk hl (by omega) ab) (.ref rfl (by rw[←hl,List.length_map];first|omega|(simp;omega)) (.d rfl .nil)) ?_
 conv=>cbv
 have hb:=Gq ab
 refine JoinW.jn (κ:=(List (List D))×Nat) Xo hP [0] [0,6] (fun(ac,ad)=>[]) (fun(ac,ad)=>[(2,.row 2 false ac)])
  (fun(ac,ad)=>∃(w2:List Ad),w2.map Ac=ac∧ad=w2.length∧w2=l∧0≤r1∧Bj name=true) (fun Jj hJj=>?_) ?_
 conv=>cbv
 refine .lss (fun h2=>?_) fun h2=>?_
 conv=>cbv
 have e:([],false)=Gm l name:=(by unfold Gm;rw[ab,if_pos (.inl h2)])
 rw[hr]at e
 simp only[Prod.mk.injEq]at e
 obtain⟨rfl,rfl⟩:=e
 obtain rfl:[]=xoa:=by first|(rw[←hoa];done)|(rw[←hoa];rfl)
 obtain rfl:0=noa:=by first|omega|(rw[hnoa];simp;done)|(rw[hnoa];simp;omega)
 exact hQ _ _ (.o [3] rfl)
 conv=>cbv
 generalize aa:Bj name=r3
 refine .dd hP (Jr (by omega) aa) ?_
 cases r3
 conv=>cbv
 have e:([],false)=Gm l name:=(by unfold Gm;rw[ab,if_pos (.inr aa)])
 rw[hr]at e
 simp only[Prod.mk.injEq]at e
 obtain⟨rfl,rfl⟩:=e
 obtain rfl:[]=xoa:=by first|(rw[←hoa];done)|(rw[←hoa];rfl)
 obtain rfl:0=noa:=by first|omega|(rw[hnoa];simp;done)|(rw[hnoa];simp;omega)
 exact hQ _ _ (.o [3] rfl)
 conv=>cbv
 exact .go [2] (xl,nl) (hJj _ ⟨_,hl,Lx,rfl,by omega,aa⟩)
 rintro⟨ac,ad⟩ ⟨w2,af,ai,hwl,aj,hnm⟩
 have hwn:w2.length=l.length:=by rw[hwl]
 conv=>cbv
 refine .add fun v2 ag=>?_
 conv=>cbv
 generalize aa:Il w2 r1 v2=l3
 generalize ae:l3.map Ac=ah
 obtain⟨nl3,hnl3⟩:∃m,m=l3.length:=⟨_,rfl⟩
 refine .bx [2] [] hP (Ke af (by first|rfl|omega|(simp;omega)) (by omega) aa ae hnl3) rfl rfl rfl rfl ?_
 conv=>cbv
 have e:(l3,true)=Gm l name:=(by unfold Gm;rw[ab,if_neg (by rintro(h|h);omega;rw[hnm]at h;cases h),←aa,ag,hwl])
 rw[hr]at e
 simp only[Prod.mk.injEq]at e
 obtain⟨rfl,rfl⟩:=e
 obtain rfl:ah=xoa:=by rw[←ae,←hoa]
 obtain rfl:nl3=noa:=by first|omega|(rw[hnoa];simp;done)|(rw[hnoa];simp;omega)
 exact hQ _ _ (.o [3] rfl)
theorem Xa9{o:Int}(hl:l.map Ac=xl)(hn:l.length≤4000000000)(hr:Cs l name=o):Fn Tryz.prog 309 [.d (.row 2 xl),S name] [] ⟨I o,[],[]⟩:=by
 refine Fn.go Mo Tryz.func309 fun P hP Q hQ=>?_
 conv=>cbv
 generalize aa:Ao l name=r1
 refine .dd hP (Kk hl (by omega) aa) ?_
 conv=>cbv
 have hb:=Gq aa
 refine .lss (fun h2=>?_) fun h2=>?_
 conv=>cbv
 have e:0=Cs l name:=(by unfold Cs;rw[aa,if_pos (by omega)])
 rw[hr]at e
 subst e
 exact hQ _ _ (.i rfl rfl)
 conv=>cbv
 refine .go r1.toNat hl fun ae ⟨ac,ab⟩ ad=>?_
 conv=>cbv
 have e:ab=Cs l name:=(by unfold Cs;rw[aa,if_neg (by omega),←gD (show r1.toNat<l.length by omega),←ad])
 rw[hr]at e
 subst e
 exact hQ _ _ (.i rfl rfl)
def Ah(l:List Ad)(step:ByteArray):List Ad×Bool:=
 if step=tx []then([],false)else
 let nm:=(J9 (step.extract 1 step.size)).1
 let rest:=(J9 (step.extract 1 step.size)).2.1
 let has:=(J9 (step.extract 1 step.size)).2.2
 if step.data.toList.head?=some 43 then
  (if has=false∨(Bh rest).2=false∨Bj nm=false then([],false)else(Qp l nm (Bh rest).1,true))
 else if step.data.toList.head?=some 45 then Gm l (step.extract 1 step.size)
 else if step.data.toList.head?=some 62 then
  (if has=false∨(Gm l nm).2=false∨Bj rest=false∨nm=rest then([],false)else(Qp (Gm l nm).1 rest (Cs l nm),true))
 else([],false)
theorem Ha{t:ByteArray}(h:0<t.size):t.data.toList.head?=some t[0]:=by
 rw[List.head?_eq_getElem?]
 exact L9 h
theorem Z9{t:ByteArray}(h:t≠tx []):0<t.size:=by
 rcases Nat.eq_zero_or_pos t.size with h0|h0
 ·exfalso
  apply h
  have hl:t.data.toList.length=t.size:=Array.length_toList
  rw[h0]at hl
  have h1:=List.eq_nil_of_length_eq_zero hl
  apply ByteArray.ext
  exact Array.toList_inj.1 (by rw[h1];rfl)
 ·exact h0
theorem XcS{b:UInt8}{v:Int}{n:Nat}(hv:v=(b.toNat:Int))(h:v=(n:Int))(hn:n<256):b=UInt8.ofNat n:=by
 apply UInt8.toNat_inj.1
 rw[UInt8.toNat_ofNat',Nat.mod_eq_of_lt (by omega)]
 omega
theorem Xdw{b:UInt8}{v:Int}{n:Nat}(hv:v=(b.toNat:Int))(h:v≠(n:Int))(hn:n<256):b≠UInt8.ofNat n:=by
 rintro rfl
 apply h
 rw[hv,UInt8.toNat_ofNat',Nat.mod_eq_of_lt (by omega)]
section
variable {l:List Ad} {step a b:ByteArray} {c:Bool}
theorem Zx(h:step=tx []):Ah l step=([],false):=by
 unfold Ah
 rw[if_pos h]
theorem G9(h:step≠tx [])(hh:step.data.toList.head?=some 43)(hc:J9 (step.extract 1 step.size)=(a,b,c)):Ah l step=if c=false∨(Bh b).2=false∨Bj a=false then([],false)else(Qp l a (Bh b).1,true):=by
 unfold Ah
 rw[if_neg h,hc,if_pos hh]
theorem Og(h:step≠tx [])(hh:step.data.toList.head?=some 45):Ah l step=Gm l (step.extract 1 step.size):=by
 unfold Ah
 rw[if_neg h,if_neg (by rw[hh];decide),if_pos hh]
theorem F8(h:step≠tx [])(hh:step.data.toList.head?=some 62)(hc:J9 (step.extract 1 step.size)=(a,b,c)):Ah l step=if c=false∨(Gm l a).2=false∨Bj b=false∨a=b then([],false)else(Qp (Gm l a).1 b (Cs l a),true):=by
 unfold Ah
 rw[if_neg h,hc,if_neg (by rw[hh];decide),if_neg (by rw[hh];decide),if_pos hh]
theorem Vu{x:UInt8}(h:step≠tx [])(hh:step.data.toList.head?=some x)(h1:x≠43)(h2:x≠45)(h3:x≠62):Ah l step=([],false):=by
 unfold Ah
 have k:∀y,x≠y→¬step.data.toList.head?=some y:=fun y hy e=>hy (by rw[hh]at e;exact Option.some.inj e)
 rw[if_neg h,if_neg (k _ h1),if_neg (k _ h2),if_neg (k _ h3)]
end
theorem Xfa{s a b:ByteArray}{c:Bool}(e:J9 s=(a,b,c)):a.size≤s.size∧b.size≤s.size:=by
 unfold J9 at e
 split at e
 ·simp only[Prod.mk.injEq]at e
  obtain⟨rfl,rfl,rfl⟩:=e
  rw[ByteArray.size_extract,ByteArray.size_extract]
  omega
 ·simp only[Prod.mk.injEq]at e
  obtain⟨rfl,rfl,rfl⟩:=e
  exact⟨Nat.le_refl _,by rw[B3];exact Nat.zero_le _⟩
theorem Rk{l a:List Ad}{n:ByteArray}{b:Bool}(e:Gm l n=(a,b)):a.length≤l.length:=by
 unfold Gm at e
 split at e
 ·simp only[Prod.mk.injEq]at e
  rw[←e.1]
  exact Nat.zero_le _
 ·simp only[Prod.mk.injEq]at e
  rw[←e.1]
  unfold Il
  rw[List.length_eraseIdx]
  split<;>omega
theorem XdW{l a:List Ad}{n:ByteArray}{i:Int}(e:Qp l n i=a):a.length≤l.length+1:=by
 rw[←e]
 unfold Qp H0
 split
 ·rw[List.length_set];omega
 ·simp only[List.length_append,List.length_take,List.length_drop,List.length_cons,List.length_nil]
  omega
theorem Nm{l a:List Ad}{s:ByteArray}{b:Bool}(e:Ah l s=(a,b)):a.length≤l.length+1:=by
 unfold Ah at e
 have h0:∀{b:Bool},(([]:List Ad),false)=(a,b)→a.length≤l.length+1:=fun h=>by
  simp only[Prod.mk.injEq]at h
  rw[←h.1];exact Nat.zero_le _
 split at e
 ·exact h0 e
 ·dsimp only at e
  split at e
  ·split at e
   ·exact h0 e
   ·simp only[Prod.mk.injEq]at e
    exact XdW e.1
  ·split at e
   ·have:=Rk e;omega
   ·split at e
    ·split at e
     ·exact h0 e
     ·simp only[Prod.mk.injEq]at e
      have h1:=XdW e.1
      have h2:=Rk (l:=l) (n:=(J9 (s.extract 1 s.size)).1) (a:=(Gm l (J9 (s.extract 1 s.size)).1).1) (b:=(Gm l (J9 (s.extract 1 s.size)).1).2) rfl
      omega
    ·exact h0 e
theorem Xgj{step:ByteArray}(hl:l.map Ac=xl)(hn:l.length≤4000000000)(hs:step.size≤1000000000)(hr:Ah l step=(oa,ob))(hoa:oa.map Ac=xoa):Fn Tryz.prog 272 [.d (.row 2 xl),S step] [] ⟨.tup [.d (.row 2 xoa),B ob],[],[]⟩:=by
 refine Fn.go Mo Tryz.func272 fun P hP Q hQ=>?_
 conv=>cbv
 refine .eql (fun h1=>?_) fun h1=>?_
 conv=>cbv
 have e:([],false)=Ah l step:=(by exact(Zx h1).symm)
 rw[hr]at e
 simp only[Prod.mk.injEq]at e
 obtain⟨rfl,rfl⟩:=e
 refine hQ _ _ ?_
 exact .m rfl (.ref rfl rfl (by rw[←hoa];rfl) .d1)
 conv=>cbv
 have hps:=Z9 h1
 refine .lo fun s2 ax=>?_
 conv=>cbv
 have a9:s2.size≤step.size:=by rw[ax,ByteArray.size_extract];omega
 rcases al:J9 s2 with⟨ae,am,ao⟩
 have hcb:=Xfa al
 have hcu:J9 (step.extract 1 step.size)=(ae,am,ao):=by rw[ax]at al;exact al
 refine .dd hP (Q7 (by omega) al) ?_
 conv=>cbv
 generalize ay:Gh l=l4
 have aa:l4=l:=ay.symm
 have a6:l4.length=l.length:=by rw[aa]
 generalize af:l4.map Ac=ba
 obtain⟨nl4,hnl4⟩:∃m,m=l4.length:=⟨_,rfl⟩
 refine .ddA hP (Dq hl (by omega) ay af hnl4) rfl rfl rfl (af▸Hc (fun _=>rfl) l4) ?_
 conv=>cbv
 refine .go 0 fun hjv5 v5 ad bv5=>?_
 conv=>cbv
 refine .eql (fun h6=>?_) fun h6=>?_
 conv=>cbv
 have hh:step.data.toList.head?=some 43:=(Ha hps).trans (congrArg some (XcS (n:=43) ad (by omega) (by decide)))
 rcases ap:Bh am with⟨a1,a2⟩
 refine .dd hP (Q5 (by omega) ap) ?_
 conv=>cbv
 cases ao
 conv=>cbv
 have e:([],false)=Ah l step:=(by rw[G9 h1 hh hcu,if_pos (.inl rfl)])
 rw[hr]at e
 simp only[Prod.mk.injEq]at e
 obtain⟨rfl,rfl⟩:=e
 refine hQ _ _ ?_
 exact .m rfl (.ref rfl rfl (by rw[←hoa];rfl) .d1)
 conv=>cbv
 cases a2
 conv=>cbv
 have e:([],false)=Ah l step:=(by rw[G9 h1 hh hcu,ap,if_pos (.inr (.inl rfl))])
 rw[hr]at e
 simp only[Prod.mk.injEq]at e
 obtain⟨rfl,rfl⟩:=e
 refine hQ _ _ ?_
 exact .m rfl (.ref rfl rfl (by rw[←hoa];rfl) .d1)
 conv=>cbv
 generalize aq:Bj ae=r8
 refine .dd hP (Jr (by omega) aq) ?_
 cases r8
 conv=>cbv
 have e:([],false)=Ah l step:=(by rw[G9 h1 hh hcu,if_pos (.inr (.inr aq))])
 rw[hr]at e
 simp only[Prod.mk.injEq]at e
 obtain⟨rfl,rfl⟩:=e
 refine hQ _ _ ?_
 exact .m rfl (.ref rfl rfl (by rw[←hoa];rfl) .d1)
 conv=>cbv
 generalize ab:Qp l4 ae a1=l9
 generalize ar:l9.map Ac=bb
 obtain⟨nl9,hnl9⟩:∃m,m=l9.length:=⟨_,rfl⟩
 refine .bx [1] [] hP (XjD af (by first|rfl|omega|(simp;omega)) (by omega) ab ar hnl9) rfl rfl rfl rfl ?_
 conv=>cbv
 have e:(l9,true)=Ah l step:=(by rw[G9 h1 hh hcu,ap,if_neg (by rw[aq];simp),←ab,aa])
 rw[hr]at e
 simp only[Prod.mk.injEq]at e
 obtain⟨rfl,rfl⟩:=e
 refine hQ _ _ ?_
 exact .m rfl (.ref rfl (by rw[←ar,List.length_map];first|omega|(simp;omega)) (by rw[←ar,←hoa]) .d1)
 conv=>cbv
 refine .eql (fun h7=>?_) fun h7=>?_
 conv=>cbv
 have hh:step.data.toList.head?=some 45:=(Ha hps).trans (congrArg some (XcS (n:=45) ad (by omega) (by decide)))
 refine .lo fun s8 az=>?_
 conv=>cbv
 have bc:s8.size≤step.size:=by rw[az,ByteArray.size_extract];omega
 rcases ab:Gm l4 s8 with⟨au,a3⟩
 generalize ag:au.map Ac=a7
 obtain⟨nr9a,hnr9a⟩:∃m,m=au.length:=⟨_,rfl⟩
 refine .bx [1] [] hP (Xe0 af (by first|rfl|omega|(simp;omega)) (by omega) (by omega) ab ag hnr9a) rfl rfl rfl rfl ?_
 conv=>cbv
 have e:(au,a3)=Ah l step:=(by rw[Og h1 hh];rw[az,aa]at ab;exact ab.symm)
 rw[hr]at e
 simp only[Prod.mk.injEq]at e
 obtain⟨rfl,rfl⟩:=e
 refine hQ _ _ ?_
 exact .m rfl (.ref rfl (by rw[←ag,List.length_map];first|omega|(simp;omega)) (by rw[←ag,←hoa]) .d1)
 conv=>cbv
 refine .eql (fun h8=>?_) fun h8=>?_
 conv=>cbv
 have hh:step.data.toList.head?=some 62:=(Ha hps).trans (congrArg some (XcS (n:=62) ad (by omega) (by decide)))
 generalize ab:Cs l ae=r9
 refine .dd hP (Xa9 hl (by omega) ab) ?_
 conv=>cbv
 rcases ac:Gm l4 ae with⟨ah,a0⟩
 have hdl:=Rk ac
 generalize ai:ah.map Ac=a4
 obtain⟨nr10a,hnr10a⟩:∃m,m=ah.length:=⟨_,rfl⟩
 refine .bx [1] [] hP (Xe0 af (by first|rfl|omega|(simp;omega)) (by omega) (by omega) ac ai hnr10a) rfl rfl rfl rfl ?_
 conv=>cbv
 cases ao
 conv=>cbv
 have e:([],false)=Ah l step:=(by rw[F8 h1 hh hcu,if_pos (.inl rfl)])
 rw[hr]at e
 simp only[Prod.mk.injEq]at e
 obtain⟨rfl,rfl⟩:=e
 refine hQ _ _ ?_
 exact .m rfl (.ref rfl rfl (by rw[←hoa];rfl) .d1)
 conv=>cbv
 cases a0
 conv=>cbv
 have e:([],false)=Ah l step:=(by rw[F8 h1 hh hcu,←aa,ac,if_pos (.inr (.inl rfl))])
 rw[hr]at e
 simp only[Prod.mk.injEq]at e
 obtain⟨rfl,rfl⟩:=e
 refine hQ _ _ ?_
 exact .m rfl (.ref rfl rfl (by rw[←hoa];rfl) .d1)
 conv=>cbv
 generalize aj:Bj am=a5
 refine .dd hP (Jr (by omega) aj) ?_
 cases a5
 conv=>cbv
 have e:([],false)=Ah l step:=(by rw[F8 h1 hh hcu,if_pos (.inr (.inr (.inl aj)))])
 rw[hr]at e
 simp only[Prod.mk.injEq]at e
 obtain⟨rfl,rfl⟩:=e
 refine hQ _ _ ?_
 exact .m rfl (.ref rfl rfl (by rw[←hoa];rfl) .d1)
 conv=>cbv
 refine .eql (fun h12=>?_) fun h12=>?_
 conv=>cbv
 have e:([],false)=Ah l step:=(by rw[F8 h1 hh hcu,if_pos (.inr (.inr (.inr h12)))])
 rw[hr]at e
 simp only[Prod.mk.injEq]at e
 obtain⟨rfl,rfl⟩:=e
 refine hQ _ _ ?_
 exact .m rfl (.ref rfl rfl (by rw[←hoa];rfl) .d1)
 conv=>cbv
 generalize an:Qp ah am r9=aw
 generalize ak:aw.map Ac=a8
 obtain⟨nl13,hnl13⟩:∃m,m=aw.length:=⟨_,rfl⟩
 refine .bx [2] [] hP (XjD ai (by first|rfl|omega|(simp;omega)) (by omega) an ak hnl13) rfl rfl rfl rfl ?_
 conv=>cbv
 have e:(aw,true)=Ah l step:=(by rw[F8 h1 hh hcu,if_neg (by rw[←aa,ac,aj];simp;exact h12),ab,←an,←aa,ac])
 rw[hr]at e
 simp only[Prod.mk.injEq]at e
 obtain⟨rfl,rfl⟩:=e
 refine hQ _ _ ?_
 exact .m rfl (.ref rfl (by rw[←ak,List.length_map];first|omega|(simp;omega)) (by rw[←ak,←hoa]) .d1)
 conv=>cbv
 have e:([],false)=Ah l step:=(by rw[Vu h1 (Ha hps) (Xdw (n:=43) ad h6 (by decide)) (Xdw (n:=45) ad h7 (by decide)) (Xdw (n:=62) ad h8 (by decide))])
 rw[hr]at e
 simp only[Prod.mk.injEq]at e
 obtain⟨rfl,rfl⟩:=e
 refine hQ _ _ ?_
 exact .m rfl (.ref rfl rfl (by rw[←hoa];rfl) .d1)
end
section
open Go Go.Proofs
def Qh:List (Nat×TyRow):=[ty3,ty9,Xgt,XdN,Xal,W0,Zp]
theorem XaF:B8 Tryz.prog Qh:=B8.of (by kernel_rfl)
theorem Ot:Setup Tryz.prog Qh:=⟨XaF,mixed⟩
theorem XfX{a b:ByteArray}:a.toList=b.toList↔a=b:=⟨fun e=>N0 e,fun e=>by rw[e]⟩
theorem AggW.eSI{a c:ByteArray}{b d:Int}{K:Bool→Prop}(h1:a=c∧b=d→K true)(h2:¬(a=c∧b=d)→K false):AggW [.str,.int] [.d (.sc (.string a)),.d (.sc (.int .i64 b))] [.d (.sc (.string c)),.d (.sc (.int .i64 d))] K:=by
 by_cases h:a=c∧b=d
 ·refine⟨true,?_,h1 h⟩
  simp[O7,Xkz,h.1,h.2]
 ·refine⟨false,?_,h2 h⟩
  simp only[O7,Xkz,if_true,Option.bind_some,Option.map_some,Option.some.injEq,Bool.and_true]
  simpa[Bool.and_eq_false_iff,XfX]using h
instance decEntry:DecidableEq Ad:=fun a b=>match a,b with
 |⟨n,i⟩,⟨m,j⟩=>decidable_of_iff (n=m∧i=j) (by simp)
def okL(l:List Ad):Prop:=∀e∈l,e.name_.size≤1000000000
def okS(l:List ByteArray):Prop:=∀s∈l,s.size≤1000000000
def Jw(d:Aa):Prop:=okD d∧okL d.old_∧okS d.steps_
def Fy(d:Aa):Int:=Xk9 (fun n:Bg=>(n.text_.size:Int)) d.nodes_
def nd(d:Aa)(i:Nat):Bg:=d.nodes_.getD i ⟨0,tx [],0⟩
def Ew(d:Aa)(i:Nat):Bool:=decide ((0<i→(nd d (i - 1)).id_<(nd d i).id_)∧(1≤(nd d i).id_∧(nd d i).id_≤d.next_ - 1)∧0≤(nd d i).sure_∧(nd d i).sure_≤(nd d i).text_.size)
def Ej(d:Aa):Bool:=(List.range d.nodes_.length).all (Ew d)&&decide (d.nodes_.length≤64)
def en(l:List Ad)(i:Nat):Ad:=l.getD i ⟨tx [],0⟩
def Fj(d:Aa)(l:List Ad)(i:Nat):Bool:=(decide (i=0)|| !(ltB (en l i).name_ (en l (i - 1)).name_||decide ((en l i).name_=(en l (i - 1)).name_)))&&Bj (en l i).name_&&decide (0≤E5 d (en l i).id_)
def Bl(d:Aa)(l:List Ad):Bool:=(List.range l.length).all (Fj d l)&&decide (l.length≤16)
theorem Xbu{p:Nat→Bool}{n:Nat}(h:∀i,i<n→p i=true):(List.range n).all p=true:=List.all_eq_true.2 fun i hi=>h i (List.mem_range.1 hi)
theorem XbC{p:Nat→Bool}{n i:Nat}(hi:i<n)(h:p i=false):(List.range n).all p=false:=by
 rw[Bool.eq_false_iff]
 intro ha
 have:=List.all_eq_true.1 ha i (List.mem_range.2 hi)
 rw[h]at this
 cases this
theorem Jq{d:Aa}{i:Nat}(hi:i<d.nodes_.length)(h:Ew d i=false):false=Ej d:=by unfold Ej;rw[XbC hi h];rfl
theorem Ud{d:Aa}{b:Bool}(h:∀i,i<d.nodes_.length→Ew d i=true)(hb:b=decide (d.nodes_.length≤64)):b=Ej d:=by unfold Ej;rw[Xbu h,hb];rfl
theorem Nb{d:Aa}{l:List Ad}{i:Nat}(hi:i<l.length)(h:Fj d l i=false):false=Bl d l:=by unfold Bl;rw[XbC hi h];rfl
theorem Tw{d:Aa}{l:List Ad}{b:Bool}(h:∀i,i<l.length→Fj d l i=true)(hb:b=decide (l.length≤16)):b=Bl d l:=by unfold Bl;rw[Xbu h,hb];rfl
theorem Y6{d:Aa}{l:List Ad}(h:Bl d l=true):l.length≤16:=by
 unfold Bl at h
 rw[Bool.and_eq_true,decide_eq_true_eq]at h
 exact h.2
theorem Xij{d:Aa}{k:Nat}{x:Bg}(hk:k<d.nodes_.length)(h:x=d.nodes_[k]):nd d k=x:=by rw[h,gD hk];rfl
theorem Xca{l:List Ad}{k:Nat}{x:Ad}(hk:k<l.length)(h:x=l[k]):en l k=x:=by rw[h,gD hk];rfl
def Fs(d:Aa):List Ad→List ByteArray→Bool
 |now,[]=>Bl d now&&I5 now d.entries_
 |now,s::ss=>Bl d now&&(Ah now s).2&&Fs d (Ah now s).1 ss
def Bk(d:Aa):Bool:=Bp d.room_&&Cf d.next_ 1 1000000000&&Ej d&&decide (Fy d≤d.room_)&&Fs d d.old_ d.steps_
theorem Xgu{l:List Ad}{n:ByteArray}{i:Int}(h:okL l)(hn:n.size≤1000000000):okL (Qp l n i):=by
 intro e he
 unfold Qp H0 at he
 split at he
 ·rename_i h0
  have hlt:=(Gq (rfl:Ao l n=_)).2
  rcases List.mem_or_eq_of_mem_set he with he|rfl
  ·exact h e he
  ·have hk:(Ao l n).toNat<l.length:=by omega
   show(l.getD (Ao l n).toNat ⟨tx [],0⟩).name_.size≤_
   rw[←gD hk]
   exact h _ (List.getElem_mem hk)
 ·simp only[List.append_assoc,List.mem_append,List.mem_cons,List.not_mem_nil,or_false,List.cons_append,List.nil_append]at he
  rcases he with he|rfl|he
  ·exact h e (List.mem_of_mem_take he)
  ·exact hn
  ·exact h e (List.mem_of_mem_drop he)
theorem XeF{l a:List Ad}{n:ByteArray}{b:Bool}(h:okL l)(e:Gm l n=(a,b)):okL a:=by
 unfold Gm Il at e
 split at e
 ·simp only[Prod.mk.injEq]at e
  rw[←e.1];intro x hx;cases hx
 ·simp only[Prod.mk.injEq]at e
  rw[←e.1]
  intro x hx
  exact h x (List.mem_of_mem_eraseIdx hx)
theorem Zz{l a:List Ad}{s:ByteArray}{b:Bool}(h:okL l)(hs:s.size≤1000000000)(e:Ah l s=(a,b)):okL a:=by
 have h0:∀{b:Bool},(([]:List Ad),false)=(a,b)→okL a:=fun h=>by
  simp only[Prod.mk.injEq]at h
  rw[←h.1];intro x hx;cases hx
 have hz:(s.extract 1 s.size).size≤s.size:=by rw[ByteArray.size_extract];omega
 obtain⟨x,y,c,hc⟩:∃x y c,J9 (s.extract 1 s.size)=(x,y,c):=⟨_,_,_,rfl⟩
 have hcb:=Xfa hc
 unfold Ah at e
 rw[hc]at e
 split at e
 ·exact h0 e
 ·dsimp only at e
  split at e
  ·split at e
   ·exact h0 e
   ·simp only[Prod.mk.injEq]at e
    rw[←e.1]
    exact Xgu h (by omega)
  ·split at e
   ·exact XeF h e
   ·split at e
    ·split at e
     ·exact h0 e
     ·simp only[Prod.mk.injEq]at e
      rw[←e.1]
      exact Xgu (XeF h (b:=(Gm l x).2) rfl) (by omega)
    ·exact h0 e
variable {Ae:List Bg} {Bv Bq Bn Br:List (List D)} {Al Ak:List Ad} {Ag:List ByteArray} {At Ap:Int} {o:Bool}
theorem Xep{o:Int}(An:Ae.map Bi=Bv)(Am:Al.map Ac=Bq)(Aq:Ak.map Ac=Bn)(As:Ag.map cS=Br)(hd:okD ⟨Ae,Al,Ak,Ag,At,Ap⟩)(hr:Fy (⟨Ae,Al,Ak,Ag,At,Ap⟩:Aa)=o):Fn Tryz.prog 269 [.agg [.d (.row 3 Bv),.d (.row 2 Bq),.d (.row 2 Bn),.d (.row 1 Br),I At,I Ap]] [] ⟨I o,[],[]⟩:=by
 refine Fn.go Ot Tryz.func269 fun P hP Q hQ=>?_
 conv=>cbv
 refine .go An fun v1 ag=>?_
 conv=>cbv
 refine LoopW.lp (κ:=Int×Int) Ot hP [] [7,8] (fun(i3,i9)=>[(3,I i3),(9,I i9)]) (fun(i3,i9)=>[])
  (fun(i3,i9)=>0≤i9∧i9≤Ae.length∧i3=Xk9 (fun n:Bg=>(n.text_.size:Int)) (Ae.take i9.toNat)∧0≤i3∧i3≤1000000000*i9)
  (fun(i3,i9)=>(Ae.length - i9).toNat) (0,0) ⟨by omega,by omega,rfl,by omega,by omega⟩ ⟨rfl,rfl,trivial⟩ rfl ?_
 rintro⟨i3,i9⟩ J ⟨h0,h1,hx,hx0,hx1⟩ hJ
 have ah:Ae.length≤1000000000:=hd.1
 have ac:∀n∈Ae,n.text_.size≤1000000000:=hd.2.1
 conv=>cbv
 refine .lss (fun h2=>?_) fun h2=>?_
 conv=>cbv
 refine .go i9.toNat An fun aa ⟨af,ad,ae⟩ ab=>?_
 conv=>cbv
 have hz:=ac _ (List.getElem_mem aa)
 rw[←ab]at hz
 simp only[]at hz
 refine .go fun v4 ai=>?_
 conv=>cbv
 refine .add fun v5 aj=>?_
 conv=>cbv
 refine .add fun v6 ak=>?_
 conv=>cbv
 exact .go [] (v5,v6) (hJ _ ⟨by omega,by omega,by rw[show v6.toNat=i9.toNat+1 by omega,Xa8 aa,←hx,←ab];simp only[];omega,by omega,by omega⟩ mlt)
 conv=>cbv
 have e:i3=Fy (⟨Ae,Al,Ak,Ag,At,Ap⟩:Aa):=(by unfold Fy;rw[hx,List.take_of_length_le (by omega)])
 rw[hr]at e
 subst e
 exact hQ _ _ (.i rfl rfl)
theorem J4:Setup Tryz.prog ((3000004,Fp Tryz.prog 3000004)::Qh):=(Setup.mark 3000004 Ot)
theorem U8(An:Ae.map Bi=Bv)(Am:Al.map Ac=Bq)(Aq:Ak.map Ac=Bn)(As:Ag.map cS=Br)(hd:okD ⟨Ae,Al,Ak,Ag,At,Ap⟩)(hx: -9223372036854775807≤Ap∧Ap≤9223372036854775807)(hr:Ej (⟨Ae,Al,Ak,Ag,At,Ap⟩:Aa)=o):Fn Tryz.prog 268 [.agg [.d (.row 3 Bv),.d (.row 2 Bq),.d (.row 2 Bn),.d (.row 1 Br),I At,I Ap]] [] ⟨B o,[],[]⟩:=by
 refine Fn.go J4 Tryz.func268 fun P hP Q hQ=>?_
 conv=>cbv
 refine .go An fun v1 ax=>?_
 conv=>cbv
 refine LoopW.lp (κ:=Int) J4 hP [] [1,6,7] (fun i8=>[(8,I i8)]) (fun i8=>[])
  (fun i8=>0≤i8∧i8≤Ae.length∧∀j:Nat,j<i8.toNat→Ew (⟨Ae,Al,Ak,Ag,At,Ap⟩:Aa) j=true)
  (fun i8=>(Ae.length - i8).toNat) (0) ⟨by omega,by omega,fun j h=>by simp at h⟩ ⟨rfl,trivial⟩ rfl ?_
 rintro i8 J ⟨h0,h1,hb⟩ hJ
 have ay:Ae.length≤1000000000:=hd.1
 conv=>cbv
 refine .lss (fun h2=>?_) fun h2=>?_
 conv=>cbv
 refine .go i8.toNat An fun aa ⟨ad,ai,ab⟩ aj=>?_
 conv=>cbv
 have hnd:=Xij (d:=(⟨Ae,Al,Ak,Ag,At,Ap⟩:Aa)) aa aj
 refine .gtr (fun h4=>?_) fun h4=>?_
 conv=>cbv
 refine .sub fun v5 ak=>?_
 conv=>cbv
 refine .go v5.toNat An fun ah ⟨ar,al,am⟩ an=>?_
 conv=>cbv
 have hpd:=Xij (d:=(⟨Ae,Al,Ak,Ag,At,Ap⟩:Aa)) ah an
 rw[show v5.toNat=i8.toNat - 1 by omega]at hpd
 refine .leq (fun h7=>?_) fun h7=>?_
 conv=>cbv
 refine .go2 (by kernel_rfl) ?_
 conv=>cbv
 have e:false=Ej (⟨Ae,Al,Ak,Ag,At,Ap⟩:Aa):=(by exact Jq (d:=(⟨Ae,Al,Ak,Ag,At,Ap⟩:Aa)) aa (by unfold Ew;rw[decide_eq_false_iff_not,hnd];simp only[];rw[hpd];simp only[];omega))
 rw[hr]at e
 subst e
 exact hQ _ _ (.b rfl rfl)
 conv=>cbv
 refine .sub fun v8 az=>?_
 conv=>cbv
 generalize ae:Cf ad 1 v8=r9
 refine .dd hP (Gj ae) ?_
 cases r9
 simp only[Cf,decide_eq_true_eq,decide_eq_false_iff_not]at ae
 conv=>cbv
 refine .go2 (by kernel_rfl) ?_
 conv=>cbv
 have e:false=Ej (⟨Ae,Al,Ak,Ag,At,Ap⟩:Aa):=(by exact Jq (d:=(⟨Ae,Al,Ak,Ag,At,Ap⟩:Aa)) aa (by unfold Ew;rw[decide_eq_false_iff_not,hnd];simp only[];omega))
 rw[hr]at e
 subst e
 exact hQ _ _ (.b rfl rfl)
 simp only[Cf,decide_eq_true_eq,decide_eq_false_iff_not]at ae
 conv=>cbv
 refine .go fun ao au=>?_
 conv=>cbv
 generalize ac:Cf ab 0 ao=ap
 refine .dd hP (Gj ac) ?_
 cases ap
 simp only[Cf,decide_eq_true_eq,decide_eq_false_iff_not]at ac
 conv=>cbv
 refine .go2 (by kernel_rfl) ?_
 conv=>cbv
 have e:false=Ej (⟨Ae,Al,Ak,Ag,At,Ap⟩:Aa):=(by exact Jq (d:=(⟨Ae,Al,Ak,Ag,At,Ap⟩:Aa)) aa (by unfold Ew;rw[decide_eq_false_iff_not,hnd];simp only[];omega))
 rw[hr]at e
 subst e
 exact hQ _ _ (.b rfl rfl)
 simp only[Cf,decide_eq_true_eq,decide_eq_false_iff_not]at ac
 conv=>cbv
 refine .go2 (by kernel_rfl) ?_
 conv=>cbv
 refine .add fun aq aw=>?_
 conv=>cbv
 exact .go [] (aq) (hJ _ ⟨by omega,by omega,fun j h=>if e:j=i8.toNat then by subst e;unfold Ew;rw[decide_eq_true_eq,hnd,hpd];simp only[];omega else hb j (by omega)⟩ mlt)
 conv=>cbv
 refine .sub fun v5 ak=>?_
 conv=>cbv
 generalize af:Cf ad 1 v5=r6
 refine .dd hP (Gj af) ?_
 cases r6
 simp only[Cf,decide_eq_true_eq,decide_eq_false_iff_not]at af
 conv=>cbv
 refine .go2 (by kernel_rfl) ?_
 conv=>cbv
 have e:false=Ej (⟨Ae,Al,Ak,Ag,At,Ap⟩:Aa):=(by exact Jq (d:=(⟨Ae,Al,Ak,Ag,At,Ap⟩:Aa)) aa (by unfold Ew;rw[decide_eq_false_iff_not,hnd];simp only[];omega))
 rw[hr]at e
 subst e
 exact hQ _ _ (.b rfl rfl)
 simp only[Cf,decide_eq_true_eq,decide_eq_false_iff_not]at af
 conv=>cbv
 refine .go fun v7 a0=>?_
 conv=>cbv
 generalize ag:Cf ab 0 v7=r8
 refine .dd hP (Gj ag) ?_
 cases r8
 simp only[Cf,decide_eq_true_eq,decide_eq_false_iff_not]at ag
 conv=>cbv
 refine .go2 (by kernel_rfl) ?_
 conv=>cbv
 have e:false=Ej (⟨Ae,Al,Ak,Ag,At,Ap⟩:Aa):=(by exact Jq (d:=(⟨Ae,Al,Ak,Ag,At,Ap⟩:Aa)) aa (by unfold Ew;rw[decide_eq_false_iff_not,hnd];simp only[];omega))
 rw[hr]at e
 subst e
 exact hQ _ _ (.b rfl rfl)
 simp only[Cf,decide_eq_true_eq,decide_eq_false_iff_not]at ag
 conv=>cbv
 refine .go2 (by kernel_rfl) ?_
 conv=>cbv
 refine .add fun v9 a1=>?_
 conv=>cbv
 exact .go [] (v9) (hJ _ ⟨by omega,by omega,fun j h=>if e:j=i8.toNat then by subst e;unfold Ew;rw[decide_eq_true_eq,hnd];simp only[];omega else hb j (by omega)⟩ mlt)
 conv=>cbv
 refine .go An fun v3 a2=>?_
 conv=>cbv
 refine .leq (fun h4=>?_) fun h4=>?_
 conv=>cbv
 have e:true=Ej (⟨Ae,Al,Ak,Ag,At,Ap⟩:Aa):=(by exact Ud (d:=(⟨Ae,Al,Ak,Ag,At,Ap⟩:Aa)) (fun j hj=>hb j (by simp only[]at hj;omega)) (by symm;rw[decide_eq_true_eq];simp only[];omega))
 rw[hr]at e
 subst e
 exact hQ _ _ (.b rfl rfl)
 conv=>cbv
 have e:false=Ej (⟨Ae,Al,Ak,Ag,At,Ap⟩:Aa):=(by exact Ud (d:=(⟨Ae,Al,Ak,Ag,At,Ap⟩:Aa)) (fun j hj=>hb j (by simp only[]at hj;omega)) (by symm;rw[decide_eq_false_iff_not];simp only[];omega))
 rw[hr]at e
 subst e
 exact hQ _ _ (.b rfl rfl)
theorem I2:Setup Tryz.prog ((3000004,Fp Tryz.prog 3000004)::Qh):=(Setup.mark 3000004 Ot)
theorem So{list:List Ad}{xlist:List (List D)}(An:Ae.map Bi=Bv)(Am:Al.map Ac=Bq)(Aq:Ak.map Ac=Bn)(As:Ag.map cS=Br)(hlist:list.map Ac=xlist)(hd:okD ⟨Ae,Al,Ak,Ag,At,Ap⟩)(hl:okL list)(hln:list.length≤1000000000)(hr:Bl (⟨Ae,Al,Ak,Ag,At,Ap⟩:Aa) list=o):Fn Tryz.prog 270 [.agg [.d (.row 3 Bv),.d (.row 2 Bq),.d (.row 2 Bn),.d (.row 1 Br),I At,I Ap],.d (.row 2 xlist)] [] ⟨B o,[],[]⟩:=by
 refine Fn.go I2 Tryz.func270 fun P hP Q hQ=>?_
 conv=>cbv
 refine .go hlist fun v1 ap=>?_
 conv=>cbv
 refine LoopW.lp (κ:=Int) I2 hP [] [1,2,7,8] (fun i9=>[(9,I i9)]) (fun i9=>[])
  (fun i9=>0≤i9∧i9≤list.length∧∀j:Nat,j<i9.toNat→Fj (⟨Ae,Al,Ak,Ag,At,Ap⟩:Aa) list j=true)
  (fun i9=>(list.length - i9).toNat) (0) ⟨by omega,by omega,fun j h=>by simp at h⟩ ⟨rfl,trivial⟩ rfl ?_
 rintro i9 J ⟨h0,h1,hb⟩ hJ
 conv=>cbv
 refine .lss (fun h2=>?_) fun h2=>?_
 conv=>cbv
 refine .go i9.toNat hlist fun aa ⟨ab,ac⟩ ah=>?_
 conv=>cbv
 have hnd:=Xca aa ah
 have hzn:ab.size≤1000000000:=by have:=hl _ (List.getElem_mem aa);rw[←ah]at this;exact this
 refine .gtr (fun h4=>?_) fun h4=>?_
 conv=>cbv
 refine .sub fun v5 aq=>?_
 conv=>cbv
 refine .go v5.toNat hlist fun ai ⟨ak,an⟩ al=>?_
 conv=>cbv
 have hpd:=Xca ai al
 rw[show v5.toNat=i9.toNat - 1 by omega]at hpd
 refine .leq fun b7 aj=>?_
 conv=>cbv
 cases b7
 conv=>cbv
 generalize ad:Bj ab=r8
 refine .dd hP (Jr (by omega) ad) ?_
 cases r8
 conv=>cbv
 refine .go2 (by kernel_rfl) ?_
 conv=>cbv
 have e:false=Bl (⟨Ae,Al,Ak,Ag,At,Ap⟩:Aa) list:=(by exact Nb (d:=(⟨Ae,Al,Ak,Ag,At,Ap⟩:Aa)) aa (by unfold Fj;rw[hnd];simp only[];rw[ad,Bool.and_false];rfl))
 rw[hr]at e
 subst e
 exact hQ _ _ (.b rfl rfl)
 conv=>cbv
 generalize ae:E5 (⟨Ae,Al,Ak,Ag,At,Ap⟩:Aa) ac=r9
 refine .dd hP (Md An Am Aq As (by have:=hd.1;simp only[]at this;omega) ae) ?_
 conv=>cbv
 refine .lss (fun h10=>?_) fun h10=>?_
 conv=>cbv
 refine .go2 (by kernel_rfl) ?_
 conv=>cbv
 have e:false=Bl (⟨Ae,Al,Ak,Ag,At,Ap⟩:Aa) list:=(by exact Nb (d:=(⟨Ae,Al,Ak,Ag,At,Ap⟩:Aa)) aa (by unfold Fj;rw[hnd];simp only[];rw[ae,decide_eq_false (show¬0≤r9 by omega),Bool.and_false]))
 rw[hr]at e
 subst e
 exact hQ _ _ (.b rfl rfl)
 conv=>cbv
 refine .go2 (by kernel_rfl) ?_
 conv=>cbv
 refine .add fun am ao=>?_
 conv=>cbv
 exact .go [] (am) (hJ _ ⟨by omega,by omega,fun j h=>if e:j=i9.toNat then by subst e;unfold Fj;rw[hnd,hpd];simp only[];rw[←aj,ad,ae,decide_eq_true (show 0≤r9 by omega),decide_eq_false (show¬i9.toNat=0 by omega)];rfl else hb j (by omega)⟩ mlt)
 conv=>cbv
 refine .go2 (by kernel_rfl) ?_
 conv=>cbv
 have e:false=Bl (⟨Ae,Al,Ak,Ag,At,Ap⟩:Aa) list:=(by exact Nb (d:=(⟨Ae,Al,Ak,Ag,At,Ap⟩:Aa)) aa (by unfold Fj;rw[hnd];simp only[];rw[hpd];simp only[];rw[←aj,decide_eq_false (show¬i9.toNat=0 by omega)];rfl))
 rw[hr]at e
 subst e
 exact hQ _ _ (.b rfl rfl)
 conv=>cbv
 generalize af:Bj ab=r5
 refine .dd hP (Jr (by omega) af) ?_
 cases r5
 conv=>cbv
 refine .go2 (by kernel_rfl) ?_
 conv=>cbv
 have e:false=Bl (⟨Ae,Al,Ak,Ag,At,Ap⟩:Aa) list:=(by exact Nb (d:=(⟨Ae,Al,Ak,Ag,At,Ap⟩:Aa)) aa (by unfold Fj;rw[hnd];simp only[];rw[af,Bool.and_false];rfl))
 rw[hr]at e
 subst e
 exact hQ _ _ (.b rfl rfl)
 conv=>cbv
 generalize ag:E5 (⟨Ae,Al,Ak,Ag,At,Ap⟩:Aa) ac=r6
 refine .dd hP (Md An Am Aq As (by have:=hd.1;simp only[]at this;omega) ag) ?_
 conv=>cbv
 refine .lss (fun h7=>?_) fun h7=>?_
 conv=>cbv
 refine .go2 (by kernel_rfl) ?_
 conv=>cbv
 have e:false=Bl (⟨Ae,Al,Ak,Ag,At,Ap⟩:Aa) list:=(by exact Nb (d:=(⟨Ae,Al,Ak,Ag,At,Ap⟩:Aa)) aa (by unfold Fj;rw[hnd];simp only[];rw[ag,decide_eq_false (show¬0≤r6 by omega),Bool.and_false]))
 rw[hr]at e
 subst e
 exact hQ _ _ (.b rfl rfl)
 conv=>cbv
 refine .go2 (by kernel_rfl) ?_
 conv=>cbv
 refine .add fun v8 ar=>?_
 conv=>cbv
 exact .go [] (v8) (hJ _ ⟨by omega,by omega,fun j h=>if e:j=i9.toNat then by subst e;unfold Fj;rw[hnd];simp only[];rw[af,ag,decide_eq_true (show 0≤r6 by omega),decide_eq_true (show i9.toNat=0 by omega)];rfl else hb j (by omega)⟩ mlt)
 conv=>cbv
 refine .go hlist fun v3 au=>?_
 conv=>cbv
 refine .leq (fun h4=>?_) fun h4=>?_
 conv=>cbv
 have e:true=Bl (⟨Ae,Al,Ak,Ag,At,Ap⟩:Aa) list:=(by exact Tw (l:=list) (fun j hj=>hb j (by omega)) (by symm;rw[decide_eq_true_eq];omega))
 rw[hr]at e
 subst e
 exact hQ _ _ (.b rfl rfl)
 conv=>cbv
 have e:false=Bl (⟨Ae,Al,Ak,Ag,At,Ap⟩:Aa) list:=(by exact Tw (l:=list) (fun j hj=>hb j (by omega)) (by symm;rw[decide_eq_false_iff_not];omega))
 rw[hr]at e
 subst e
 exact hQ _ _ (.b rfl rfl)
theorem Ks{a:List Ad}{xa:List (List D)}{b:List Ad}{xb:List (List D)}(ha:a.map Ac=xa)(hb:b.map Ac=xb)(aj:a.length<2^40)(hr:I5 a b=o):Fn Tryz.prog 271 [.d (.row 2 xa),.d (.row 2 xb)] [] ⟨B o,[],[]⟩:=by
 refine Fn.go Ot Tryz.func271 fun P hP Q hQ=>?_
 conv=>cbv
 refine .go ha fun v1 ak=>?_
 conv=>cbv
 refine .go hb fun v2 al=>?_
 conv=>cbv
 refine .neq (fun h3=>?_) fun h3=>?_
 conv=>cbv
 have e:false=I5 a b:=(by unfold I5;symm;rw[decide_eq_false_iff_not];intro h;subst h;omega)
 rw[hr]at e
 subst e
 exact hQ _ _ (.b rfl rfl)
 conv=>cbv
 refine .go ha fun v4 am=>?_
 conv=>cbv
 refine LoopW.lp (κ:=Int) Ot hP [] [0,1,12] (fun aa=>[(13,I aa)]) (fun aa=>[])
  (fun aa=>0≤aa∧aa≤a.length∧∀(j:Nat) (p:j<a.length) (q:j<b.length),j<aa.toNat→a[j]=b[j])
  (fun aa=>(a.length - aa).toNat) (0) ⟨by omega,by omega,fun j p q h=>by simp at h⟩ ⟨rfl,trivial⟩ rfl ?_
 rintro aa J ⟨h0,h1,hs⟩ hJ
 conv=>cbv
 refine .lss (fun h5=>?_) fun h5=>?_
 conv=>cbv
 refine .go aa.toNat ha fun af ⟨ad,ag⟩ ab=>?_
 conv=>cbv
 refine .go aa.toNat hb fun ah ⟨ae,ai⟩ ac=>?_
 conv=>cbv
 refine .eSI (fun h8=>?_) fun h8=>?_
 conv=>cbv
 refine .add fun v9 an=>?_
 conv=>cbv
 exact .go [] (v9) (hJ _ ⟨by omega,by omega,fun j p q h=>if e:j=aa.toNat then by subst e;rw[←ab,←ac,Ad.mk.injEq];exact h8 else hs j p q (by omega)⟩ mlt)
 conv=>cbv
 have e:false=I5 a b:=(by unfold I5;symm;rw[decide_eq_false_iff_not];intro h;subst h;have:=ab.trans ac.symm;rw[Ad.mk.injEq]at this;exact h8 this)
 rw[hr]at e
 subst e
 exact hQ _ _ (.b rfl rfl)
 conv=>cbv
 have e:true=I5 a b:=(by unfold I5;symm;rw[decide_eq_true_eq];exact List.ext_getElem (show a.length=b.length by omega) fun j p q=>hs j p q (by omega))
 rw[hr]at e
 subst e
 exact hQ _ _ (.b rfl rfl)
end
section
open Go Go.Proofs
def We:List (Nat×TyRow):=[ty3,ty9,Xgt,XdN,Xal,W0,Zp]
theorem XaZ:B8 Tryz.prog We:=B8.of (by kernel_rfl)
theorem Jm:Setup Tryz.prog We:=⟨XaZ,mixed⟩
theorem Mh:∀a b:List UInt8,Op.bytesLess a b=true→Op.bytesLess b a=false
 |_,[],h=>by simp[Op.bytesLess]at h
 |[],_::_,_=>by simp[Op.bytesLess]
 |a::x,b::y,h=>by
  simp only[Op.bytesLess,Bool.or_eq_true,decide_eq_true_eq,Bool.and_eq_true,beq_iff_eq]at h
  simp only[Op.bytesLess,Bool.or_eq_false_iff,decide_eq_false_iff_not,Bool.and_eq_false_iff,beq_eq_false_iff_ne]
  rcases h with h|⟨h1,h2⟩
  ·exact⟨fun h3=>absurd (UInt8.lt_trans h h3) (UInt8.lt_irrefl _),.inl fun e=>by subst e;exact UInt8.lt_irrefl _ h⟩
  ·subst h1
   exact⟨UInt8.lt_irrefl _,.inr (Mh x y h2)⟩
theorem U5:∀a b:List UInt8,Op.bytesLess a b=false→a≠b→Op.bytesLess b a=true
 |[],[],_,h=>absurd rfl h
 |[],_::_,h,_=>by simp[Op.bytesLess]at h
 |_::_,[],_,_=>by simp[Op.bytesLess]
 |a::x,b::y,h,hn=>by
  simp only[Op.bytesLess,Bool.or_eq_false_iff,decide_eq_false_iff_not,Bool.and_eq_false_iff,beq_eq_false_iff_ne]at h
  simp only[Op.bytesLess,Bool.or_eq_true,decide_eq_true_eq,Bool.and_eq_true,beq_iff_eq]
  by_cases e:a=b
  ·subst e
   right
   refine⟨rfl,U5 x y (h.2.resolve_left fun h=>h rfl) fun e=>hn (by rw[e])⟩
  ·left
   exact(UInt8.lt_or_lt_of_ne e).resolve_left h.1
theorem XcY(a b:ByteArray):(!(ltB a b))=(ltB b a||decide (b=a)):=by
 unfold ltB
 cases h:Op.bytesLess a.toList b.toList with
 |true=>
  rw[Mh _ _ h]
  have:¬b=a:=by
   rintro rfl
   have:=Mh _ _ h
   rw[h]at this
   cases this
  rw[decide_eq_false this];rfl
 |false=>
  by_cases e:b=a
  ·rw[decide_eq_true e,Bool.or_true];rfl
  ·rw[U5 _ _ h fun e2=>e (N0 e2.symm),decide_eq_false e];rfl
def Hk(d:Aa)(l:List Ad):Bool:=Bl d l
def K0(a b:List Ad):Bool:=I5 a b
def D2(l:List Ad)(name:ByteArray):List Ad:=l.filter fun x=>!decide (x.name_=name)
def Tt(e:Ad):List Ad→Bool→List Ad
 |[],done=>if done=true then[]else[e]
 |x::l,done=>(if done=false∧ltB x.name_ e.name_=false then[e]else[])++((if x.name_=e.name_ then[]else[x])++Tt e l (done|| !(ltB x.name_ e.name_)))
def Eo(l:List Ad)(e:Ad):List Ad:=Tt e l false
theorem Oc{e x:Ad}{l:List Ad}{i:Nat}{b:Bool}{w:List Ad}{r:List Ad}(hi:i<l.length)(hx:x=l[i])(h:w++Tt e (l.drop i) b=r):
  w++((if b=false∧ltB x.name_ e.name_=false then[e]else[])++((if x.name_=e.name_ then[]else[x])++Tt e (l.drop (i+1)) (b|| !(ltB x.name_ e.name_))))=r:=by
 rw[List.drop_eq_getElem_cons hi,←hx]at h
 exact h
variable {Ae:List Bg} {Bv Bq Bn Br xl xo:List (List D)} {Al Ak o l:List Ad} {Ag:List ByteArray} {At Ap:Int}
theorem Xes{o:Int}(An:Ae.map Bi=Bv)(Am:Al.map Ac=Bq)(Aq:Ak.map Ac=Bn)(As:Ag.map cS=Br)(hd:okD ⟨Ae,Al,Ak,Ag,At,Ap⟩)(hr:Fy (⟨Ae,Al,Ak,Ag,At,Ap⟩:Aa)=o):Fn Tryz.prog 225 [.agg [.d (.row 3 Bv),.d (.row 2 Bq),.d (.row 2 Bn),.d (.row 1 Br),I At,I Ap]] [] ⟨I o,[],[]⟩:=by
 refine Fn.go Jm Tryz.func225 fun P hP Q hQ=>?_
 conv=>cbv
 refine LoopW.lp (κ:=Int×Int) Jm hP [] [1] (fun(i3,i4)=>[(3,I i3),(4,I i4)]) (fun(i3,i4)=>[])
  (fun(i3,i4)=>0≤i4∧i4≤Ae.length∧i3=Xk9 (fun n:Bg=>(n.text_.size:Int)) (Ae.take i4.toNat)∧0≤i3∧i3≤1000000000*i4)
  (fun(i3,i4)=>(Ae.length - i4).toNat) (0,0) ⟨by omega,by omega,rfl,by omega,by omega⟩ ⟨rfl,rfl,trivial⟩ rfl ?_
 rintro⟨i3,i4⟩ J ⟨h0,h1,hx,hx0,hx1⟩ hJ
 have ag:Ae.length≤1000000000:=hd.1
 have ac:∀n∈Ae,n.text_.size≤1000000000:=hd.2.1
 conv=>cbv
 refine .go An fun v1 ah=>?_
 conv=>cbv
 refine .lss (fun h2=>?_) fun h2=>?_
 conv=>cbv
 refine .go i4.toNat An fun aa ⟨af,ad,ae⟩ ab=>?_
 conv=>cbv
 have hz:=ac _ (List.getElem_mem aa)
 rw[←ab]at hz
 simp only[]at hz
 refine .go fun v4 ai=>?_
 conv=>cbv
 refine .add fun v5 aj=>?_
 conv=>cbv
 refine .add fun v6 ak=>?_
 conv=>cbv
 exact .go [] (v5,v6) (hJ _ ⟨by omega,by omega,by rw[show v6.toNat=i4.toNat+1 by omega,Xa8 aa,←hx,←ab];simp only[];omega,by omega,by omega⟩ mlt)
 conv=>cbv
 have e:i3=Fy (⟨Ae,Al,Ak,Ag,At,Ap⟩:Aa):=(by unfold Fy;rw[hx,List.take_of_length_le (by omega)])
 rw[hr]at e
 subst e
 exact hQ _ _ (.i rfl rfl)
theorem M3:Setup Tryz.prog ((3000004,Fp Tryz.prog 3000004)::We):=(Setup.mark 3000004 Jm)
theorem Xbq{list:List Ad}{xlist:List (List D)}{o:Bool}(An:Ae.map Bi=Bv)(Am:Al.map Ac=Bq)(Aq:Ak.map Ac=Bn)(As:Ag.map cS=Br)(hlist:list.map Ac=xlist)(hd:okD ⟨Ae,Al,Ak,Ag,At,Ap⟩)(hl:okL list)(hln:list.length≤1000000000)(hr:Hk (⟨Ae,Al,Ak,Ag,At,Ap⟩:Aa) list=o):Fn Tryz.prog 262 [.agg [.d (.row 3 Bv),.d (.row 2 Bq),.d (.row 2 Bn),.d (.row 1 Br),I At,I Ap],.d (.row 2 xlist)] [] ⟨B o,[],[]⟩:=by
 refine Fn.go M3 Tryz.func262 fun P hP Q hQ=>?_
 conv=>cbv
 refine LoopW.lp (κ:=Int) M3 hP [] [1,2] (fun i5=>[(5,I i5)]) (fun i5=>[])
  (fun i5=>0≤i5∧i5≤list.length∧∀j:Nat,j<i5.toNat→Fj (⟨Ae,Al,Ak,Ag,At,Ap⟩:Aa) list j=true)
  (fun i5=>(list.length - i5).toNat) (0) ⟨by omega,by omega,fun j h=>by simp at h⟩ ⟨rfl,trivial⟩ rfl ?_
 rintro i5 J ⟨h0,h1,hb⟩ hJ
 conv=>cbv
 refine .go hlist fun v1 a1=>?_
 conv=>cbv
 refine .lss (fun h2=>?_) fun h2=>?_
 conv=>cbv
 refine .go i5.toNat hlist fun aa ⟨ab,am⟩ aj=>?_
 conv=>cbv
 have hnd:=Xca aa aj
 have hzn:ab.size≤1000000000:=by have:=hl _ (List.getElem_mem aa);rw[←aj]at this;exact this
 generalize ag:Bj ab=r4
 refine .dd hP (L8 (by omega) ag) ?_
 cases r4
 conv=>cbv
 refine .go2 (by kernel_rfl) ?_
 conv=>cbv
 have e:false=Hk (⟨Ae,Al,Ak,Ag,At,Ap⟩:Aa) list:=(by exact Nb (d:=(⟨Ae,Al,Ak,Ag,At,Ap⟩:Aa)) aa (by unfold Fj;rw[hnd];simp only[];rw[ag,Bool.and_false];rfl))
 rw[hr]at e
 subst e
 exact hQ _ _ (.b rfl rfl)
 conv=>cbv
 refine .go i5.toNat hlist fun az ⟨ae,ac⟩ an=>?_
 conv=>cbv
 generalize ao:Hd (⟨Ae,Al,Ak,Ag,At,Ap⟩:Aa) ac=r6
 refine .dd hP (Q3 An Am Aq As (by have:=hd.1;simp only[]at this;omega) ao) ?_
 conv=>cbv
 obtain⟨rfl,rfl⟩:ae=ab∧ac=am:=by have:=an.trans aj.symm;rw[Ad.mk.injEq]at this;exact this
 have af:E5 (⟨Ae,Al,Ak,Ag,At,Ap⟩:Aa) ac=r6:=ao
 refine .lss (fun h7=>?_) fun h7=>?_
 conv=>cbv
 refine .go2 (by kernel_rfl) ?_
 conv=>cbv
 have e:false=Hk (⟨Ae,Al,Ak,Ag,At,Ap⟩:Aa) list:=(by exact Nb (d:=(⟨Ae,Al,Ak,Ag,At,Ap⟩:Aa)) aa (by unfold Fj;rw[hnd];simp only[];rw[af,decide_eq_false (show¬0≤r6 by omega),Bool.and_false]))
 rw[hr]at e
 subst e
 exact hQ _ _ (.b rfl rfl)
 conv=>cbv
 refine .gtr (fun h8=>?_) fun h8=>?_
 conv=>cbv
 refine .sub fun v9 ar=>?_
 conv=>cbv
 refine .go v9.toNat hlist fun ak ⟨ah,au⟩ ap=>?_
 conv=>cbv
 refine .go i5.toNat hlist fun aw ⟨ad,al⟩ aq=>?_
 conv=>cbv
 obtain⟨rfl,rfl⟩:ad=ae∧al=ac:=by have:=aq.trans an.symm;rw[Ad.mk.injEq]at this;exact this
 have hpd:=Xca ak ap
 rw[show v9.toNat=i5.toNat - 1 by omega]at hpd
 have hgq:=(XcY ah ad).symm
 refine .geq fun ax ai=>?_
 conv=>cbv
 refine .go2 (by kernel_rfl) ?_
 conv=>cbv
 cases ax
 conv=>cbv
 refine .add fun ay a0=>?_
 conv=>cbv
 exact .go [] (ay) (hJ _ ⟨by omega,by omega,fun j h=>if e:j=i5.toNat then by subst e;unfold Fj;rw[hnd,hpd];simp only[];rw[hgq,←ai,ag,af,decide_eq_true (show 0≤r6 by omega),decide_eq_false (show¬i5.toNat=0 by omega)];rfl else hb j (by omega)⟩ mlt)
 conv=>cbv
 have e:false=Hk (⟨Ae,Al,Ak,Ag,At,Ap⟩:Aa) list:=(by exact Nb (d:=(⟨Ae,Al,Ak,Ag,At,Ap⟩:Aa)) aa (by unfold Fj;rw[hnd];simp only[];rw[hpd];simp only[];rw[hgq,←ai,decide_eq_false (show¬i5.toNat=0 by omega)];rfl))
 rw[hr]at e
 subst e
 exact hQ _ _ (.b rfl rfl)
 conv=>cbv
 refine .go2 (by kernel_rfl) ?_
 conv=>cbv
 refine .add fun v9 ar=>?_
 conv=>cbv
 exact .go [] (v9) (hJ _ ⟨by omega,by omega,fun j h=>if e:j=i5.toNat then by subst e;unfold Fj;rw[hnd];simp only[];rw[ag,af,decide_eq_true (show 0≤r6 by omega),decide_eq_true (show i5.toNat=0 by omega)];rfl else hb j (by omega)⟩ mlt)
 conv=>cbv
 refine .go hlist fun v3 a2=>?_
 conv=>cbv
 refine .leq (fun h4=>?_) fun h4=>?_
 conv=>cbv
 have e:true=Hk (⟨Ae,Al,Ak,Ag,At,Ap⟩:Aa) list:=(by exact Tw (l:=list) (fun j hj=>hb j (by omega)) (by symm;rw[decide_eq_true_eq];omega))
 rw[hr]at e
 subst e
 exact hQ _ _ (.b rfl rfl)
 conv=>cbv
 have e:false=Hk (⟨Ae,Al,Ak,Ag,At,Ap⟩:Aa) list:=(by exact Tw (l:=list) (fun j hj=>hb j (by omega)) (by symm;rw[decide_eq_false_iff_not];omega))
 rw[hr]at e
 subst e
 exact hQ _ _ (.b rfl rfl)
theorem XhM{a:List Ad}{xa:List (List D)}{b:List Ad}{xb:List (List D)}{o:Bool}(ha:a.map Ac=xa)(hb:b.map Ac=xb)(ai:a.length<2^40)(hr:K0 a b=o):Fn Tryz.prog 263 [.d (.row 2 xa),.d (.row 2 xb)] [] ⟨B o,[],[]⟩:=by
 refine Fn.go Jm Tryz.func263 fun P hP Q hQ=>?_
 conv=>cbv
 refine .go ha fun v1 aj=>?_
 conv=>cbv
 refine .go hb fun v2 ak=>?_
 conv=>cbv
 refine .neq (fun h3=>?_) fun h3=>?_
 conv=>cbv
 have e:false=K0 a b:=(by unfold K0 I5;symm;rw[decide_eq_false_iff_not];intro h;subst h;omega)
 rw[hr]at e
 subst e
 exact hQ _ _ (.b rfl rfl)
 conv=>cbv
 refine LoopW.lp (κ:=Int) Jm hP [] [0,1] (fun i5=>[(5,I i5)]) (fun i5=>[])
  (fun i5=>0≤i5∧i5≤a.length∧∀(j:Nat) (p:j<a.length) (q:j<b.length),j<i5.toNat→a[j]=b[j])
  (fun i5=>(a.length - i5).toNat) (0) ⟨by omega,by omega,fun j p q h=>by simp at h⟩ ⟨rfl,trivial⟩ rfl ?_
 rintro i5 J ⟨h0,h1,hs⟩ hJ
 conv=>cbv
 refine .go ha fun v4 al=>?_
 conv=>cbv
 refine .lss (fun h5=>?_) fun h5=>?_
 conv=>cbv
 refine .go i5.toNat ha fun ae ⟨ac,af⟩ aa=>?_
 conv=>cbv
 refine .go i5.toNat hb fun ag ⟨ad,ah⟩ ab=>?_
 conv=>cbv
 refine .eSI (fun h8=>?_) fun h8=>?_
 conv=>cbv
 refine .add fun v9 am=>?_
 conv=>cbv
 exact .go [] (v9) (hJ _ ⟨by omega,by omega,fun j p q h=>if e:j=i5.toNat then by subst e;rw[←aa,←ab,Ad.mk.injEq];exact h8 else hs j p q (by omega)⟩ mlt)
 conv=>cbv
 have e:false=K0 a b:=(by unfold K0 I5;symm;rw[decide_eq_false_iff_not];intro h;subst h;have:=aa.trans ab.symm;rw[Ad.mk.injEq]at this;exact h8 this)
 rw[hr]at e
 subst e
 exact hQ _ _ (.b rfl rfl)
 conv=>cbv
 have e:true=K0 a b:=(by unfold K0 I5;symm;rw[decide_eq_true_eq];exact List.ext_getElem (show a.length=b.length by omega) fun j p q=>hs j p q (by omega))
 rw[hr]at e
 subst e
 exact hQ _ _ (.b rfl rfl)
theorem Lr{name:ByteArray}(hl:l.map Ac=xl)(hn:l.length≤4000000000)(hr:D2 l name=o)(ho:o.map Ac=xo):Fn Tryz.prog 266 [.d (.row 2 xl),S name] [] ⟨.d (.row 2 xo),[],[]⟩:=by
 refine Fn.go Jm Tryz.func266 fun P hP Q hQ=>?_
 conv=>cbv
 refine LoopW.lp (κ:=Int×(List (List D))×Nat) Jm hP [1] [0,1] (fun(i6,aa,ab)=>[(5,.ref 2 0 ab),(6,I i6)]) (fun(i6,aa,ab)=>[(2,.row 2 false aa)])
  (fun(i6,aa,ab)=>∃(w2:List Ad),w2.map Ac=aa∧ab=w2.length∧0≤i6∧i6≤l.length∧w2=(l.take i6.toNat).filter (fun x=>!decide (x.name_=name))∧w2.length≤i6)
  (fun(i6,aa,ab)=>(l.length - i6).toNat) (0,[],0) ⟨[],rfl,rfl,by omega,by omega,rfl,by simp⟩ ⟨rfl,rfl,trivial⟩ rfl ?_
 rintro⟨i6,aa,ab⟩ J ⟨w2,ac,al,h0,h1,hx,hxl⟩ hJ
 conv=>cbv
 refine .go hl fun v1 ap=>?_
 conv=>cbv
 refine .lss (fun h2=>?_) fun h2=>?_
 conv=>cbv
 refine .go i6.toNat hl fun ad ⟨ah,am⟩ ae=>?_
 conv=>cbv
 refine .neq (fun h4=>?_) fun h4=>?_
 conv=>cbv
 refine .go i6.toNat hl fun an ⟨af,ag⟩ ai=>?_
 conv=>cbv
 refine .one (⟨af,ag⟩:Ad) ac rfl fun aj z6 ao ak=>?_
 conv=>cbv
 refine .add fun v7 aq=>?_
 conv=>cbv
 exact .go [4] (v7,z6,aj) (hJ _ ⟨_,ak,Lx,by omega,by omega,by rw[show v7.toNat=i6.toNat+1 by omega,Km ad,←hx,←ae];simp only[];rw[decide_eq_false h4,ai,←ae];rfl,by rw[List.length_append,List.length_singleton];omega⟩ mlt)
 conv=>cbv
 refine .add fun v5 ar=>?_
 conv=>cbv
 exact .go [2] (v5,aa,ab) (hJ _ ⟨_,ac,Lx,by omega,by omega,by rw[show v5.toNat=i6.toNat+1 by omega,Km ad,←hx,←ae];simp only[];rw[decide_eq_true h4];simp,by omega⟩ mlt)
 conv=>cbv
 have e:w2=D2 l name:=(by unfold D2;rw[hx,List.take_of_length_le (by omega)])
 rw[hr]at e
 subst e
 exact hQ _ _ (.r rfl rfl (by rw[←ac,List.length_map];first|omega|(simp;omega)) (by rw[←ac,←ho]))
theorem Iu{enam:ByteArray}{eid:Int}(hl:l.map Ac=xl)(hn:l.length≤4000000000)(hr:Eo l (⟨enam,eid⟩:Ad)=o)(ho:o.map Ac=xo):Fn Tryz.prog 267 [.d (.row 2 xl),.agg [S enam,I eid]] [] ⟨.d (.row 2 xo),[],[]⟩:=by
 refine Fn.go Jm Tryz.func267 fun P hP Q hQ=>?_
 conv=>cbv
 refine LoopW.lp (κ:=Bool×Int×(List (List D))×Nat) Jm hP [2] [0,3] (fun(b6,i7,ad,ae)=>[(5,.ref 3 0 ae),(6,B b6),(7,I i7)]) (fun(b6,i7,ad,ae)=>[(3,.row 2 false ad)])
  (fun(b6,i7,ad,ae)=>∃(w3:List Ad),w3.map Ac=ad∧ae=w3.length∧0≤i7∧i7≤l.length∧w3++Tt (⟨enam,eid⟩:Ad) (l.drop i7.toNat) b6=Eo l (⟨enam,eid⟩:Ad)∧w3.length≤2*i7)
  (fun(b6,i7,ad,ae)=>(l.length - i7).toNat) (false,0,[],0) ⟨[],rfl,rfl,by omega,by omega,rfl,by simp⟩ ⟨rfl,rfl,rfl,trivial⟩ rfl ?_
 rintro⟨b6,i7,ad,ae⟩ J ⟨w3,af,a9,h0,h1,hx,hxl⟩ hJ
 conv=>cbv
 refine .go hl fun v1 bj=>?_
 conv=>cbv
 refine .lss (fun h2=>?_) fun h2=>?_
 conv=>cbv
 cases b6
 conv=>cbv
 refine .go i7.toNat hl fun aq ⟨ac,ak⟩ ab=>?_
 conv=>cbv
 refine .geq fun b4 al=>?_
 conv=>cbv
 cases b4
 conv=>cbv
 refine .go i7.toNat hl fun ar ⟨aa,ag⟩ am=>?_
 conv=>cbv
 obtain⟨rfl,rfl⟩:aa=ac∧ag=ak:=by have:=am.trans ab.symm;rw[Ad.mk.injEq]at this;exact this
 refine .neq (fun h6=>?_) fun h6=>?_
 conv=>cbv
 refine .go i7.toNat hl fun ba ⟨ah,an⟩ az=>?_
 conv=>cbv
 obtain⟨rfl,rfl⟩:ah=aa∧an=ag:=by have:=az.trans am.symm;rw[Ad.mk.injEq]at this;exact this
 refine .one (⟨ah,an⟩:Ad) af rfl fun a0 z8 bb a1=>?_
 conv=>cbv
 refine .add fun v9 bk=>?_
 conv=>cbv
 have hlt:ltB ah enam=true:=by simpa using al
 have hps:=Oc (show i7.toNat<l.length by omega) ab hx
 simp only[]at hps
 rw[hlt,if_neg (by simp),if_neg h6,List.nil_append,←List.append_assoc]at hps
 exact .go [5] (false,v9,z8,a0) (hJ _ ⟨_,a1,Lx,by omega,by omega,by rw[show v9.toNat=i7.toNat+1 by omega];exact hps,by first|omega|(simp;omega)⟩ mlt)
 conv=>cbv
 refine .add fun v7 a2=>?_
 conv=>cbv
 have hlt:ltB aa enam=true:=by simpa using al
 have hps:=Oc (show i7.toNat<l.length by omega) ab hx
 simp only[]at hps
 rw[hlt,if_neg (by simp),if_pos h6,List.nil_append,List.nil_append]at hps
 exact .go [3] (false,v7,ad,ae) (hJ _ ⟨_,af,Lx,by omega,by omega,by rw[show v7.toNat=i7.toNat+1 by omega];exact hps,by first|omega|(simp;omega)⟩ mlt)
 conv=>cbv
 refine .one (⟨enam,eid⟩:Ad) af rfl fun a3 z5 bc au=>?_
 conv=>cbv
 refine .go i7.toNat hl fun bd ⟨ai,ao⟩ aw=>?_
 conv=>cbv
 obtain⟨rfl,rfl⟩:ai=ac∧ao=ak:=by have:=aw.trans ab.symm;rw[Ad.mk.injEq]at this;exact this
 refine .neq (fun h7=>?_) fun h7=>?_
 conv=>cbv
 refine .go i7.toNat hl fun be ⟨aj,ap⟩ a4=>?_
 conv=>cbv
 obtain⟨rfl,rfl⟩:aj=ai∧ap=ao:=by have:=a4.trans aw.symm;rw[Ad.mk.injEq]at this;exact this
 refine .one (⟨aj,ap⟩:Ad) au rfl fun a5 z9 bf a6=>?_
 conv=>cbv
 refine .add fun ax bg=>?_
 conv=>cbv
 have hlt:ltB aj enam=false:=by simpa using al
 have hps:=Oc (show i7.toNat<l.length by omega) ab hx
 simp only[]at hps
 rw[hlt,if_pos (by simp),if_neg h7,←List.append_assoc,←List.append_assoc]at hps
 exact .go [7] (true,ax,z9,a5) (hJ _ ⟨_,a6,Lx,by omega,by omega,by rw[show ax.toNat=i7.toNat+1 by omega];exact hps,by first|omega|(simp;omega)⟩ mlt)
 conv=>cbv
 refine .add fun v8 bl=>?_
 conv=>cbv
 have hlt:ltB ai enam=false:=by simpa using al
 have hps:=Oc (show i7.toNat<l.length by omega) ab hx
 simp only[]at hps
 rw[hlt,if_pos (by simp),if_pos h7,List.nil_append,←List.append_assoc]at hps
 exact .go [5] (true,v8,z5,a3) (hJ _ ⟨_,au,Lx,by omega,by omega,by rw[show v8.toNat=i7.toNat+1 by omega];exact hps,by first|omega|(simp;omega)⟩ mlt)
 conv=>cbv
 refine .go i7.toNat hl fun aq ⟨ac,ak⟩ ab=>?_
 conv=>cbv
 refine .neq (fun h4=>?_) fun h4=>?_
 conv=>cbv
 refine .go i7.toNat hl fun ar ⟨aa,ag⟩ am=>?_
 conv=>cbv
 obtain⟨rfl,rfl⟩:aa=ac∧ag=ak:=by have:=am.trans ab.symm;rw[Ad.mk.injEq]at this;exact this
 refine .one (⟨aa,ag⟩:Ad) af rfl fun a7 z6 bh a8=>?_
 conv=>cbv
 refine .add fun v7 a2=>?_
 conv=>cbv
 have hps:=Oc (show i7.toNat<l.length by omega) ab hx
 simp only[]at hps
 rw[if_neg (by simp),if_neg h4,List.nil_append,←List.append_assoc]at hps
 exact .go [5] (true,v7,z6,a7) (hJ _ ⟨_,a8,Lx,by omega,by omega,by rw[show v7.toNat=i7.toNat+1 by omega];exact hps,by first|omega|(simp;omega)⟩ mlt)
 conv=>cbv
 refine .add fun v5 bm=>?_
 conv=>cbv
 have hps:=Oc (show i7.toNat<l.length by omega) ab hx
 simp only[]at hps
 rw[if_neg (by simp),if_pos h4,List.nil_append,List.nil_append]at hps
 exact .go [3] (true,v5,ad,ae) (hJ _ ⟨_,af,Lx,by omega,by omega,by rw[show v5.toNat=i7.toNat+1 by omega];exact hps,by first|omega|(simp;omega)⟩ mlt)
 conv=>cbv
 cases b6
 conv=>cbv
 refine .one (⟨enam,eid⟩:Ad) af rfl fun bn z3 bi ay=>?_
 conv=>cbv
 have e:(w3++[(⟨enam,eid⟩:Ad)])=Eo l (⟨enam,eid⟩:Ad):=(by rw[List.drop_of_length_le (by omega)]at hx;exact hx)
 rw[hr]at e
 subst e
 exact hQ _ _ (.r rfl rfl (by rw[←ay,List.length_map];first|omega|(simp;omega)) (by rw[←ay,←ho]))
 conv=>cbv
 have e:w3=Eo l (⟨enam,eid⟩:Ad):=(by rw[List.drop_of_length_le (by omega)]at hx;simpa[Tt]using hx)
 rw[hr]at e
 subst e
 exact hQ _ _ (.r rfl rfl (by rw[←af,List.length_map];first|omega|(simp;omega)) (by rw[←af,←ho]))
end
section
open Go Go.Proofs
def U7:List (Nat×TyRow):=[ty3,ty9,XdN,Xcu,Xal]
theorem Xa4:B8 Tryz.prog U7:=B8.of (by kernel_rfl)
theorem Xi2:Setup Tryz.prog U7:=⟨Xa4,mixed⟩
theorem diskOk_iff{d:Aa}:Bk d=true↔(0≤d.room_∧d.room_≤1000000000)∧(1≤d.next_∧d.next_≤1000000000)∧Ej d=true∧Fy d≤d.room_∧Fs d d.old_ d.steps_=true:=by
 unfold Bk Bp Cf
 simp only[Bool.and_eq_true,decide_eq_true_eq,and_assoc]
theorem D9{d:Aa}(h:¬Bk d=true):false=Bk d:=by
 symm
 rw[Bool.eq_false_iff]
 exact h
theorem W9{d:Aa}{now:List Ad}{l:List ByteArray}(h:Bl d now=false):Fs d now l=false:=by
 cases l with
 |nil=>unfold Fs;rw[h];rfl
 |cons=>unfold Fs;rw[h];rfl
def Kl:List Ad→List ByteArray→List Ad×Bool
 |now,[]=>(now,true)
 |now,s::ss=>if(Ah now s).2=false then([],false)else Kl (Ah now s).1 ss
theorem S6:Setup Tryz.prog ((3000001,Fp Tryz.prog 3000001)::U7):=(Setup.mark 3000001 Xi2)
theorem O3{Ae:List Bg}{Bv:List (List D)}{Al:List Ad}{Bq:List (List D)}{Ak:List Ad}{Bn:List (List D)}{Ag:List ByteArray}{Br:List (List D)}{At:Int}{Ap:Int}{o:Bool}(An:Ae.map Bi=Bv)(Am:Al.map Ac=Bq)(Aq:Ak.map Ac=Bn)(As:Ag.map cS=Br)(ab:Jw ⟨Ae,Al,Ak,Ag,At,Ap⟩)(hr:Bk (⟨Ae,Al,Ak,Ag,At,Ap⟩:Aa)=o):Fn Tryz.prog 214 [.agg [.d (.row 3 Bv),.d (.row 2 Bq),.d (.row 2 Bn),.d (.row 1 Br),I At,I Ap]] [] ⟨B o,[],[]⟩:=by
 refine Fn.go S6 Tryz.func214 fun P hP Q hQ=>?_
 conv=>cbv
 generalize ad:Bp At=r1
 refine .dd hP (Fm ad) ?_
 cases r1
 simp only[Bp,decide_eq_true_eq,decide_eq_false_iff_not]at ad
 conv=>cbv
 refine .go2 (by kernel_rfl) ?_
 conv=>cbv
 have e:false=Bk (⟨Ae,Al,Ak,Ag,At,Ap⟩:Aa):=(by exact D9 fun h=>by rw[diskOk_iff]at h;exact ad h.1)
 rw[hr]at e
 subst e
 exact hQ _ _ (.b rfl rfl)
 simp only[Bp,decide_eq_true_eq,decide_eq_false_iff_not]at ad
 conv=>cbv
 generalize ae:Cf Ap 1 1000000000=r2
 refine .dd hP (Gj ae) ?_
 cases r2
 simp only[Cf,decide_eq_true_eq,decide_eq_false_iff_not]at ae
 conv=>cbv
 refine .go2 (by kernel_rfl) ?_
 conv=>cbv
 have e:false=Bk (⟨Ae,Al,Ak,Ag,At,Ap⟩:Aa):=(by exact D9 fun h=>by rw[diskOk_iff]at h;exact ae h.2.1)
 rw[hr]at e
 subst e
 exact hQ _ _ (.b rfl rfl)
 simp only[Cf,decide_eq_true_eq,decide_eq_false_iff_not]at ae
 conv=>cbv
 generalize am:Ej (⟨Ae,Al,Ak,Ag,At,Ap⟩:Aa)=r3
 refine .dd hP (U8 An Am Aq As ab.1 (by omega) am) ?_
 cases r3
 conv=>cbv
 refine .go2 (by kernel_rfl) ?_
 conv=>cbv
 have e:false=Bk (⟨Ae,Al,Ak,Ag,At,Ap⟩:Aa):=(by exact D9 fun h=>by rw[diskOk_iff]at h;have:=h.2.2.1;rw[am]at this;cases this)
 rw[hr]at e
 subst e
 exact hQ _ _ (.b rfl rfl)
 conv=>cbv
 generalize an:Fy (⟨Ae,Al,Ak,Ag,At,Ap⟩:Aa)=r4
 refine .dd hP (Xep An Am Aq As ab.1 an) ?_
 conv=>cbv
 refine .gtr (fun h5=>?_) fun h5=>?_
 conv=>cbv
 refine .go2 (by kernel_rfl) ?_
 conv=>cbv
 have e:false=Bk (⟨Ae,Al,Ak,Ag,At,Ap⟩:Aa):=(by exact D9 fun h=>by rw[diskOk_iff]at h;have:=h.2.2.2.1;rw[an]at this;simp only[]at this;omega)
 rw[hr]at e
 subst e
 exact hQ _ _ (.b rfl rfl)
 conv=>cbv
 refine .go2 (by kernel_rfl) ?_
 conv=>cbv
 have hdo:Ak.length≤1000000000:=ab.1.2.2.2.2.1
 have hds:Ag.length≤1000000000:=ab.1.2.2.2.2.2
 generalize aq:Gh Ak=l6
 generalize ar:l6.map Ac=az
 refine .dd hP (Kr Aq (by omega) aq ar) ?_
 conv=>cbv
 have af:l6=Ak:=aq.symm
 refine LoopW.lp (κ:=(List (List D))×Int) S6 hP [] [1] (fun(ac,i4)=>[(3,.d (.row 2 ac)),(4,I i4)]) (fun(ac,i4)=>[])
  (fun(ac,i4)=>∃(u3:List Ad),u3.map Ac=ac∧0≤i4∧i4≤Ag.length∧Fs (⟨Ae,Al,Ak,Ag,At,Ap⟩:Aa) Ak Ag=Fs (⟨Ae,Al,Ak,Ag,At,Ap⟩:Aa) u3 (Ag.drop i4.toNat)∧okL u3∧u3.length≤1000000000)
  (fun(ac,i4)=>(Ag.length - i4).toNat) (az,0) ⟨l6,ar,by omega,by omega,by rw[af];rfl,by rw[af];exact ab.2.1,by rw[af];omega⟩ ⟨rfl,rfl,trivial⟩ rfl ?_
 rintro⟨ac,i4⟩ J ⟨u3,ao,h0,h1,hio,hul,hun⟩ hJ
 conv=>cbv
 generalize ag:Bl (⟨Ae,Al,Ak,Ag,At,Ap⟩:Aa) u3=r7
 refine .dd hP (So An Am Aq As ao ab.1 hul (by omega) ag) ?_
 cases r7
 conv=>cbv
 have e:false=Bk (⟨Ae,Al,Ak,Ag,At,Ap⟩:Aa):=(by exact D9 fun h=>by rw[diskOk_iff]at h;have hk:=h.2.2.2.2;simp only[]at hk;rw[hio]at hk;rw[W9 ag]at hk;cases hk)
 rw[hr]at e
 subst e
 exact hQ _ _ (.b rfl rfl)
 conv=>cbv
 have a1:=Y6 ag
 refine .go As fun v8 a3=>?_
 conv=>cbv
 refine .eql (fun h9=>?_) fun h9=>?_
 conv=>cbv
 generalize ah:I5 u3 Al=a0
 refine .dd hP (Ks ao Am (by omega) ah) ?_
 cases a0
 conv=>cbv
 have e:false=Bk (⟨Ae,Al,Ak,Ag,At,Ap⟩:Aa):=(by exact D9 fun h=>by rw[diskOk_iff]at h;have hk:=h.2.2.2.2;simp only[]at hk;rw[hio]at hk;rw[List.drop_of_length_le (by omega)]at hk;unfold Fs at hk;rw[ah,Bool.and_false]at hk;cases hk)
 rw[hr]at e
 subst e
 exact hQ _ _ (.b rfl rfl)
 conv=>cbv
 have e:true=Bk (⟨Ae,Al,Ak,Ag,At,Ap⟩:Aa):=(by symm;rw[diskOk_iff];refine⟨ad,ae,am,by rw[an];exact h5,?_⟩;simp only[];rw[hio,List.drop_of_length_le (by omega)];unfold Fs;rw[ag,ah];rfl)
 rw[hr]at e
 subst e
 exact hQ _ _ (.b rfl rfl)
 conv=>cbv
 refine .go i4.toNat As fun ai aj al=>?_
 conv=>cbv
 have au:aj.size≤1000000000:=al▸ab.2.2 _ (List.getElem_mem ai)
 have hdc:Ag.drop i4.toNat=aj::Ag.drop (i4.toNat+1):=by rw[List.drop_eq_getElem_cons ai,←al]
 rw[hdc]at hio
 rcases aa:Ah u3 aj with⟨aw,ax⟩
 generalize ak:aw.map Ac=ap
 refine .dd hP (Xgj ao (by omega) (by omega) aa ak) ?_
 conv=>cbv
 have hsl:=Nm aa
 have hso:=Zz hul au aa
 cases ax
 conv=>cbv
 have e:false=Bk (⟨Ae,Al,Ak,Ag,At,Ap⟩:Aa):=(by exact D9 fun h=>by rw[diskOk_iff]at h;have hk:=h.2.2.2.2;simp only[]at hk;rw[hio]at hk;unfold Fs at hk;rw[aa,Bool.and_false]at hk;cases hk)
 rw[hr]at e
 subst e
 exact hQ _ _ (.b rfl rfl)
 conv=>cbv
 refine .add fun ay a2=>?_
 conv=>cbv
 exact .go [] (ap,ay) (hJ _ ⟨_,ak,by omega,by omega,by rw[hio,show ay.toNat=i4.toNat+1 by omega];show(Bl _ _&&(Ah u3 aj).2&&Fs _ (Ah u3 aj).1 _)=_;rw[ag,aa];rfl,hso,by omega⟩ mlt)
end
section
open Go Go.Proofs
def V3:List (Nat×TyRow):=[ty3,ty5,ty9]
theorem Xbz:B8 Tryz.prog V3:=B8.of (by kernel_rfl)
theorem XjL:Setup Tryz.prog V3:=⟨Xbz,mixed⟩
theorem Mk{a b:ByteArray}(h:a.data.toList=b.data.toList):a=b:=ByteArray.ext (Array.toList_inj.1 h)
theorem Dy(s:ByteArray)(a b:Nat):(s.extract a b).data.toList=(s.data.toList.take b).drop a:=by
 rw[ByteArray.data_extract,Array.toList_extract,List.extract_eq_take_drop,List.drop_take]
theorem N1{c:UInt8}:∀(l:List UInt8) (k:Nat),l[k]? =some c→(∀j,j<k→∀x,l[j]? =some x→x≠c)→Lib.indexByte l c=k
 |[],k,h,_=>by simp at h
 |b::l,0,h,_=>by
  simp at h
  simp[Lib.indexByte,h]
 |b::l,k+1,h,hb=>by
  have h0:=hb 0 (by omega) b rfl
  have ih:=N1 l k (by simpa using h) (fun j hj x hx=>hb (j+1) (by omega) x (by simpa using hx))
  unfold Lib.indexByte
  rw[if_neg (by simpa using h0),ih,if_neg (by simp)]
  omega
theorem Tj{c:UInt8}:∀(l:List UInt8),(∀(j:Nat) x,l[j]? =some x→x≠c)→Lib.indexByte l c= -1
 |[],_=>rfl
 |b::l,hb=>by
  have h0:=hb 0 b rfl
  have ih:=Tj l (fun j x hx=>hb (j+1) x (by simpa using hx))
  unfold Lib.indexByte
  rw[if_neg (by simpa using h0),ih,if_pos (by rfl)]
theorem u8_58{x:UInt8}:x≠58↔x.toNat≠58:=⟨fun h e=>h (UInt8.toNat_inj.1 e),fun h e=>h (by rw[e];rfl)⟩
theorem Xd6{s:ByteArray}{j:Nat}{x:UInt8}(h:(s.extract 1 s.size).data.toList[j]? =some x):∃hj:j+1<s.size,s[j+1]=x:=by
 rw[Dy,List.getElem?_drop,List.take_of_length_le (by rw[Array.length_toList];exact Nat.le_refl _)]at h
 have hl:1+j<s.size:=by
  have:=(List.getElem?_eq_some_iff.1 h).1
  rwa[Array.length_toList]at this
 refine⟨by omega,?_⟩
 rw[show 1+j=j+1 by omega,L9 (show j+1<s.size by omega)]at h
 exact Option.some.inj h
theorem R7{s:ByteArray}{i:Nat}(h1:1≤i)(hi:i<s.size)(h:(s[i]).toNat=58)(hb:∀j,1≤j→j<i→∀hj:j<s.size,(s[j]).toNat≠58):J9 (s.extract 1 s.size)=(s.extract 1 i,s.extract (i+1) s.size,true):=by
 obtain⟨k,rfl⟩:∃k,i=k+1:=⟨i - 1,by omega⟩
 have hsz:(s.extract 1 s.size).size=s.size - 1:=by rw[ByteArray.size_extract];omega
 have e:I9 (s.extract 1 s.size)=(k:Int):=by
  refine N1 _ k ?_ ?_
  ·rw[Dy,List.getElem?_drop,List.take_of_length_le (by rw[Array.length_toList];exact Nat.le_refl _),show 1+k=k+1 by omega,L9 hi]
   exact congrArg some (UInt8.toNat_inj.1 h)
  ·intro j hj x hx
   obtain⟨aa,rfl⟩:=Xd6 hx
   exact u8_58.2 (hb (j+1) (by omega) (by omega) aa)
 unfold J9
 rw[e,if_pos (by omega),Int.toNat_natCast,hsz]
 have a1:(s.extract 1 s.size).extract 0 k=s.extract 1 (k+1):=by
  apply Mk
  rw[Dy,Dy,Dy,List.drop_zero,List.take_of_length_le (l:=s.data.toList) (by rw[Array.length_toList];exact Nat.le_refl _),List.drop_take,Nat.add_sub_cancel]
 have a2:(s.extract 1 s.size).extract (k+1) (s.size - 1)=s.extract (k+1+1) s.size:=by
  apply Mk
  rw[Dy,Dy,Dy,List.take_of_length_le (l:=s.data.toList) (by rw[Array.length_toList];exact Nat.le_refl _),List.take_of_length_le (by rw[List.length_drop,Array.length_toList];exact Nat.le_refl _),List.drop_drop]
  congr 1
  omega
 rw[a1,a2]
theorem XiV{s:ByteArray}(hb:∀j,1≤j→∀hj:j<s.size,(s[j]).toNat≠58):(J9 (s.extract 1 s.size)).2.2=false:=by
 have e:I9 (s.extract 1 s.size)= -1:=by
  refine Tj _ ?_
  intro j x hx
  obtain⟨aa,rfl⟩:=Xd6 hx
  exact u8_58.2 (hb (j+1) (by omega) aa)
 unfold J9
 rw[e,if_neg (by omega)]
def B4(s:ByteArray):ByteArray×ByteArray×Int×Bool:=
 if s.size<2∨(s.data.toList.head?≠some 43∧s.data.toList.head?≠some 45∧s.data.toList.head?≠some 62)then(tx [],tx [],0,false)
 else if s.data.toList.head?=some 45 then(s.extract 1 s.size,tx [],0,true)
 else if(J9 (s.extract 1 s.size)).2.2=false then(tx [],tx [],0,false)
 else if s.data.toList.head?=some 62 then((J9 (s.extract 1 s.size)).1,(J9 (s.extract 1 s.size)).2.1,0,Bj (J9 (s.extract 1 s.size)).2.1&& !decide ((J9 (s.extract 1 s.size)).1=(J9 (s.extract 1 s.size)).2.1))
 else((J9 (s.extract 1 s.size)).1,tx [],(Bh (J9 (s.extract 1 s.size)).2.1).1,(Bh (J9 (s.extract 1 s.size)).2.1).2&&Bj (J9 (s.extract 1 s.size)).1)
theorem J0{s:ByteArray}{v:Int}{n:Nat}(h0:0<s.size)(hv:v=((s[0]).toNat:Int))(h:v≠(n:Int))(hn:n<256):s.data.toList.head?≠some (UInt8.ofNat n):=by
 rw[Ha h0]
 intro e
 exact Xdw hv h hn (Option.some.inj e)
theorem Lj{s:ByteArray}{v:Int}{n:Nat}(h0:0<s.size)(hv:v=((s[0]).toNat:Int))(h:v=(n:Int))(hn:n<256):s.data.toList.head?=some (UInt8.ofNat n):=(Ha h0).trans (congrArg some (XcS hv h hn))
section
variable {s a b:ByteArray}
theorem X0(h:s.size<2∨(s.data.toList.head?≠some 43∧s.data.toList.head?≠some 45∧s.data.toList.head?≠some 62)):(tx [],tx [],0,false)=B4 s:=by unfold B4;rw[if_pos h]
theorem XbH(h2:2≤s.size)(h:s.data.toList.head?=some 45):(s.extract 1 s.size,tx [],0,true)=B4 s:=by
 unfold B4
 rw[if_neg (by rw[h];rintro(h|h);omega;exact h.2.1 rfl),if_pos h]
theorem Za(h2:2≤s.size)(hh:s.data.toList.head?=some 43∨s.data.toList.head?=some 45∨s.data.toList.head?=some 62)(h45:s.data.toList.head?≠some 45)(hc:(J9 (s.extract 1 s.size)).2.2=false):(tx [],tx [],0,false)=B4 s:=by
 unfold B4
 rw[if_neg (by rintro(h|⟨k1,k2,k3⟩);omega;rcases hh with h|h|h;exact k1 h;exact k2 h;exact k3 h),if_neg h45,if_pos hc]
theorem T8(h2:2≤s.size)(h:s.data.toList.head?=some 62)(hc:J9 (s.extract 1 s.size)=(a,b,true)):B4 s=(a,b,0,Bj b&& !decide (a=b)):=by
 unfold B4
 rw[if_neg (by rw[h];rintro(h|h);omega;exact h.2.2 rfl),if_neg (by rw[h];decide),hc,if_neg (by simp),if_pos h]
theorem T9(h2:2≤s.size)(h:s.data.toList.head?=some 43)(hc:J9 (s.extract 1 s.size)=(a,b,true)):B4 s=(a,tx [],(Bh b).1,(Bh b).2&&Bj a):=by
 unfold B4
 rw[if_neg (by rw[h];rintro(h|h);omega;exact h.1 rfl),if_neg (by rw[h];decide),hc,if_neg (by simp),if_neg (by rw[h];decide)]
end
theorem Mz:Setup Tryz.prog ((3000009,Fp Tryz.prog 3000009)::((3000012,Fp Tryz.prog 3000012)::((1000026,Fp Tryz.prog 1000026)::V3))):=(Setup.mark 3000009 (Setup.mark 3000012 (Setup.mark 1000026 XjL)))
theorem XhJ{step:ByteArray}{oa:ByteArray}{ob:ByteArray}{oc:Int}{od:Bool}(hs:step.size≤1000000000)(hr:B4 step=(oa,ob,oc,od)):Fn Tryz.prog 264 [S step] [] ⟨.tup [S oa,S ob,I oc,B od],[],[]⟩:=by
 refine Fn.go Mz Tryz.func264 fun P hP Q hQ=>?_
 conv=>cbv
 refine JoinW.jn (κ:=Unit) Mz hP [] [0] (fun()=>[]) (fun()=>[])
  (fun()=>2≤step.size∧(step.data.toList.head?=some 43∨step.data.toList.head?=some 45∨step.data.toList.head?=some 62)) (fun Jj hJj=>?_) ?_
 conv=>cbv
 refine .go fun v1 an=>?_
 conv=>cbv
 refine .lss (fun h2=>?_) fun h2=>?_
 conv=>cbv
 have e:((tx []),(tx []),0,false)=B4 step:=(by exact X0 (.inl (by omega)))
 rw[hr]at e
 simp only[Prod.mk.injEq]at e
 obtain⟨rfl,rfl,rfl,rfl⟩:=e
 refine hQ _ _ ?_
 exact .m rfl .d4
 conv=>cbv
 refine .go 0 fun hjv3 v3 aw bv3=>?_
 conv=>cbv
 refine .neq (fun h4=>?_) fun h4=>?_
 conv=>cbv
 refine .go 0 fun hjv5 v5 ax bv5=>?_
 conv=>cbv
 refine .neq (fun h6=>?_) fun h6=>?_
 conv=>cbv
 refine .go 0 fun hjv7 v7 ac bv7=>?_
 conv=>cbv
 refine .neq (fun h8=>?_) fun h8=>?_
 conv=>cbv
 have e:((tx []),(tx []),0,false)=B4 step:=(by exact X0 (.inr ⟨(J0 (n:=43) (show 0<step.size by omega) aw (by omega) (by decide)),(J0 (n:=45) (show 0<step.size by omega) ax (by omega) (by decide)),(J0 (n:=62) (show 0<step.size by omega) ac (by omega) (by decide))⟩))
 rw[hr]at e
 simp only[Prod.mk.injEq]at e
 obtain⟨rfl,rfl,rfl,rfl⟩:=e
 refine hQ _ _ ?_
 exact .m rfl .d4
 conv=>cbv
 exact .go [] (()) (hJj _ ⟨by omega,.inr (.inr (Lj (n:=62) (show 0<step.size by omega) ac (by omega) (by decide)))⟩)
 conv=>cbv
 exact .go [] (()) (hJj _ ⟨by omega,.inr (.inl (Lj (n:=45) (show 0<step.size by omega) ax (by omega) (by decide)))⟩)
 conv=>cbv
 exact .go [] (()) (hJj _ ⟨by omega,.inl (Lj (n:=43) (show 0<step.size by omega) aw (by omega) (by decide))⟩)
 rintro⟨⟩ ⟨ag,hh0⟩
 conv=>cbv
 refine .go 0 fun hjv1 v1 an bv1=>?_
 conv=>cbv
 refine .eql (fun h2=>?_) fun h2=>?_
 conv=>cbv
 refine .lo fun s3 be=>?_
 conv=>cbv
 have e:(s3,(tx []),0,true)=B4 step:=(by rw[be];exact XbH ag (Lj (n:=45) (show 0<step.size by omega) an (by omega) (by decide)))
 rw[hr]at e
 simp only[Prod.mk.injEq]at e
 obtain⟨rfl,rfl,rfl,rfl⟩:=e
 refine hQ _ _ ?_
 exact .m rfl .d4
 conv=>cbv
 refine LoopW.lp (κ:=Int) Mz hP [] [0] (fun i6=>[(6,I i6)]) (fun i6=>[])
  (fun i6=>1≤i6∧i6≤step.size∧∀j,1≤j→j<i6.toNat→∀hj:j<step.size,(step[j]).toNat≠58)
  (fun i6=>(step.size - i6).toNat) (1) ⟨by omega,by omega,fun j h1 h2=>by omega⟩ ⟨rfl,trivial⟩ rfl ?_
 rintro i6 J1 ⟨h0,h1,hb⟩ bf
 conv=>cbv
 refine .go fun v3 aw=>?_
 conv=>cbv
 refine .lss (fun h4=>?_) fun h4=>?_
 conv=>cbv
 refine .go i6.toNat fun hjv5 v5 ax bv5=>?_
 conv=>cbv
 refine .eql (fun h6=>?_) fun h6=>?_
 conv=>cbv
 refine .go 0 fun hjv7 v7 ac bv7=>?_
 conv=>cbv
 refine .eql (fun h8=>?_) fun h8=>?_
 conv=>cbv
 refine .lohi fun s9 ay=>?_
 conv=>cbv
 refine .add fun az bh=>?_
 conv=>cbv
 refine .lo fun a0 ao=>?_
 conv=>cbv
 refine .add fun a1 bi=>?_
 conv=>cbv
 refine .lo fun ah ad=>?_
 conv=>cbv
 have a6:ah.size≤step.size:=by rw[ad,ByteArray.size_extract];omega
 generalize aa:Bj ah=a2
 refine .dd hP (L8 (by omega) aa) ?_
 cases a2
 conv=>cbv
 refine .go2 (by kernel_rfl) ?_
 conv=>cbv
 have e:(s9,a0,0,false)=B4 step:=(by have hm:=T8 ag (Lj (n:=62) (show 0<step.size by omega) ac (by omega) (by decide)) (R7 (s:=step) (i:=i6.toNat) (by omega) (by omega) (by omega) hb);have ai:ah=step.extract (i6.toNat+1) step.size:=(by rw[ad,show a1.toNat=i6.toNat+1 by omega]);rw[ai]at aa;rw[hm,ay,ao,aa,show az.toNat=i6.toNat+1 by omega];rfl)
 rw[hr]at e
 simp only[Prod.mk.injEq]at e
 obtain⟨rfl,rfl,rfl,rfl⟩:=e
 refine hQ _ _ ?_
 exact .m rfl .d4
 conv=>cbv
 refine .lohi fun a3 ae=>?_
 conv=>cbv
 refine .add fun a7 bj=>?_
 conv=>cbv
 refine .lo fun bo au=>?_
 conv=>cbv
 refine .neq (fun h18=>?_) fun h18=>?_
 conv=>cbv
 refine .go2 (by kernel_rfl) ?_
 conv=>cbv
 have e:(s9,a0,0,true)=B4 step:=(by have hm:=T8 ag (Lj (n:=62) (show 0<step.size by omega) ac (by omega) (by decide)) (R7 (s:=step) (i:=i6.toNat) (by omega) (by omega) (by omega) hb);have ai:ah=step.extract (i6.toNat+1) step.size:=(by rw[ad,show a1.toNat=i6.toNat+1 by omega]);rw[ai]at aa;rw[hm,ay,ao,aa,show az.toNat=i6.toNat+1 by omega,decide_eq_false (show¬step.extract 1 i6.toNat=step.extract (i6.toNat+1) step.size from fun e=>h18 (by rw[ae,au,show a7.toNat=i6.toNat+1 by omega];exact e))];rfl)
 rw[hr]at e
 simp only[Prod.mk.injEq]at e
 obtain⟨rfl,rfl,rfl,rfl⟩:=e
 refine hQ _ _ ?_
 exact .m rfl .d4
 conv=>cbv
 refine .go2 (by kernel_rfl) ?_
 conv=>cbv
 have e:(s9,a0,0,false)=B4 step:=(by have hm:=T8 ag (Lj (n:=62) (show 0<step.size by omega) ac (by omega) (by decide)) (R7 (s:=step) (i:=i6.toNat) (by omega) (by omega) (by omega) hb);have ai:ah=step.extract (i6.toNat+1) step.size:=(by rw[ad,show a1.toNat=i6.toNat+1 by omega]);rw[ai]at aa;rw[hm,ay,ao,aa,show az.toNat=i6.toNat+1 by omega,decide_eq_true (show step.extract 1 i6.toNat=step.extract (i6.toNat+1) step.size from by rw[ae,au,show a7.toNat=i6.toNat+1 by omega]at h18;exact h18)];rfl)
 rw[hr]at e
 simp only[Prod.mk.injEq]at e
 obtain⟨rfl,rfl,rfl,rfl⟩:=e
 refine hQ _ _ ?_
 exact .m rfl .d4
 conv=>cbv
 refine .go i6.toNat fun hjv9 v9 a8 bv9=>?_
 conv=>cbv
 refine .eql (fun h10=>?_) fun h10=>?_
 conv=>cbv
 refine .add fun a4 bk=>?_
 conv=>cbv
 refine .lo fun af aj=>?_
 conv=>cbv
 have bl:af.size≤step.size:=by rw[aj,ByteArray.size_extract];omega
 rcases ab:Bh af with⟨ap,a9⟩
 refine .dd hP (Qk (by omega) ab) ?_
 conv=>cbv
 refine .lohi fun a5 aq=>?_
 conv=>cbv
 cases a9
 conv=>cbv
 refine .go2 (by kernel_rfl) ?_
 conv=>cbv
 have e:(a5,(tx []),ap,false)=B4 step:=(by have hm:=T9 ag (hh0.elim id fun h=>h.elim (fun h=>absurd h (J0 (n:=45) (show 0<step.size by omega) an (by omega) (by decide))) fun h=>absurd h (J0 (n:=62) (show 0<step.size by omega) ac (by omega) (by decide))) (R7 (s:=step) (i:=i6.toNat) (by omega) (by omega) (by omega) hb);have ak:af=step.extract (i6.toNat+1) step.size:=(by rw[aj,show a4.toNat=i6.toNat+1 by omega]);rw[ak]at ab;rw[hm,aq,ab];rfl)
 rw[hr]at e
 simp only[Prod.mk.injEq]at e
 obtain⟨rfl,rfl,rfl,rfl⟩:=e
 refine hQ _ _ ?_
 exact .m rfl .d4
 conv=>cbv
 refine .lohi fun a3 ae=>?_
 conv=>cbv
 have bm:a3.size≤step.size:=by rw[ae,ByteArray.size_extract];omega
 generalize al:Bj a3=bg
 refine .dd hP (L8 (by omega) al) ?_
 cases bg
 conv=>cbv
 refine .go2 (by kernel_rfl) ?_
 conv=>cbv
 have e:(a5,(tx []),ap,false)=B4 step:=(by have hm:=T9 ag (hh0.elim id fun h=>h.elim (fun h=>absurd h (J0 (n:=45) (show 0<step.size by omega) an (by omega) (by decide))) fun h=>absurd h (J0 (n:=62) (show 0<step.size by omega) ac (by omega) (by decide))) (R7 (s:=step) (i:=i6.toNat) (by omega) (by omega) (by omega) hb);have ak:af=step.extract (i6.toNat+1) step.size:=(by rw[aj,show a4.toNat=i6.toNat+1 by omega]);rw[ak]at ab;rw[ae]at al;have am:=(show Bj (step.extract 1 i6.toNat)=_ from al);rw[hm,aq,ab,am];rfl)
 rw[hr]at e
 simp only[Prod.mk.injEq]at e
 obtain⟨rfl,rfl,rfl,rfl⟩:=e
 refine hQ _ _ ?_
 exact .m rfl .d4
 conv=>cbv
 refine .go2 (by kernel_rfl) ?_
 conv=>cbv
 have e:(a5,(tx []),ap,true)=B4 step:=(by have hm:=T9 ag (hh0.elim id fun h=>h.elim (fun h=>absurd h (J0 (n:=45) (show 0<step.size by omega) an (by omega) (by decide))) fun h=>absurd h (J0 (n:=62) (show 0<step.size by omega) ac (by omega) (by decide))) (R7 (s:=step) (i:=i6.toNat) (by omega) (by omega) (by omega) hb);have ak:af=step.extract (i6.toNat+1) step.size:=(by rw[aj,show a4.toNat=i6.toNat+1 by omega]);rw[ak]at ab;rw[ae]at al;have am:=(show Bj (step.extract 1 i6.toNat)=_ from al);rw[hm,aq,ab,am];rfl)
 rw[hr]at e
 simp only[Prod.mk.injEq]at e
 obtain⟨rfl,rfl,rfl,rfl⟩:=e
 refine hQ _ _ ?_
 exact .m rfl .d4
 exfalso;omega
 conv=>cbv
 refine .go i6.toNat fun hjv7 v7 ac bv7=>?_
 conv=>cbv
 refine .eql (fun h8=>?_) fun h8=>?_
 conv=>cbv
 refine .add fun v9 a8=>?_
 conv=>cbv
 refine .lo fun ba bb=>?_
 conv=>cbv
 have bn:ba.size≤step.size:=by rw[bb,ByteArray.size_extract];omega
 rcases bc:Bh ba with⟨ar,bd⟩
 refine .dd hP (Qk (by omega) bc) ?_
 conv=>cbv
 refine .lohi fun af aj=>?_
 conv=>cbv
 cases bd
 conv=>cbv
 refine .go2 (by kernel_rfl) ?_
 conv=>cbv
 have e:(af,(tx []),ar,false)=B4 step:=(by exfalso;omega)
 rw[hr]at e
 simp only[Prod.mk.injEq]at e
 obtain⟨rfl,rfl,rfl,rfl⟩:=e
 refine hQ _ _ ?_
 exact .m rfl .d4
 conv=>cbv
 refine .lohi fun ah ad=>?_
 conv=>cbv
 have a6:ah.size≤step.size:=by rw[ad,ByteArray.size_extract];omega
 generalize aa:Bj ah=a2
 refine .dd hP (L8 (by omega) aa) ?_
 cases a2
 conv=>cbv
 refine .go2 (by kernel_rfl) ?_
 conv=>cbv
 have e:(af,(tx []),ar,false)=B4 step:=(by exfalso;omega)
 rw[hr]at e
 simp only[Prod.mk.injEq]at e
 obtain⟨rfl,rfl,rfl,rfl⟩:=e
 refine hQ _ _ ?_
 exact .m rfl .d4
 conv=>cbv
 refine .go2 (by kernel_rfl) ?_
 conv=>cbv
 have e:(af,(tx []),ar,true)=B4 step:=(by exfalso;omega)
 rw[hr]at e
 simp only[Prod.mk.injEq]at e
 obtain⟨rfl,rfl,rfl,rfl⟩:=e
 refine hQ _ _ ?_
 exact .m rfl .d4
 conv=>cbv
 refine .add fun v9 a8=>?_
 conv=>cbv
 exact .go [] (v9) (bf _ ⟨by omega,by omega,fun j k1 k2 hj=>if e:j=i6.toNat then by subst e;omega else hb j k1 (by omega) hj⟩ mlt)
 conv=>cbv
 have e:((tx []),(tx []),0,false)=B4 step:=(by exact Za ag hh0 (J0 (n:=45) (show 0<step.size by omega) an (by omega) (by decide)) (XiV fun j k1 hj=>hb j k1 (by omega) hj))
 rw[hr]at e
 simp only[Prod.mk.injEq]at e
 obtain⟨rfl,rfl,rfl,rfl⟩:=e
 refine hQ _ _ ?_
 exact .m rfl .d4
end
section
open Go Go.Proofs
def XbY:List (Nat×TyRow):=[ty3,ty5,ty9,XdN,Xcu,Zp]
theorem XbT:B8 Tryz.prog XbY:=B8.of (by kernel_rfl)
theorem XeC:Setup Tryz.prog XbY:=⟨XbT,mixed⟩
def E3(l:List Ad)(s:ByteArray):List Ad×Bool:=
 if(B4 s).2.2.2=false∨Bj (B4 s).1=false∨(s.data.toList.head?≠some 43∧Em l (B4 s).1=false)then([],false)
 else if s.data.toList.head?=some 43 then(Eo l ⟨(B4 s).1,(B4 s).2.2.1⟩,true)
 else if s.data.toList.head?=some 62 then(Eo (D2 l (B4 s).1) ⟨(B4 s).2.1,Cs l (B4 s).1⟩,true)
 else(D2 l (B4 s).1,true)
def C8:List Ad→List ByteArray→List Ad×Bool
 |now,[]=>(now,true)
 |now,s::ss=>if(E3 now s).2=false then([],false)else C8 (E3 now s).1 ss
def E6(old:List Ad)(steps:List ByteArray)(n:Int):List Ad×Bool:=C8 old (steps.take (Dh n 0 steps.length).toNat)
theorem XgN{s a b:ByteArray}{c:Int}{d:Bool}(e:B4 s=(a,b,c,d)):(a.size≤s.size∧b.size≤s.size)∧(d=true→2≤s.size∧(s.data.toList.head?=some 43∨s.data.toList.head?=some 45∨s.data.toList.head?=some 62)):=by
 have hz:(s.extract 1 s.size).size≤s.size:=by rw[ByteArray.size_extract];omega
 obtain⟨x,y,z,hc⟩:∃x y z,J9 (s.extract 1 s.size)=(x,y,z):=⟨_,_,_,rfl⟩
 have hcb:=Xfa hc
 have h0:(tx []).size≤s.size:=by rw[B3];exact Nat.zero_le _
 unfold B4 at e
 rw[hc]at e
 by_cases h1:s.size<2∨(s.data.toList.head?≠some 43∧s.data.toList.head?≠some 45∧s.data.toList.head?≠some 62)
 ·rw[if_pos h1]at e
  simp only[Prod.mk.injEq]at e
  obtain⟨rfl,rfl,rfl,rfl⟩:=e
  exact⟨⟨h0,h0⟩,fun h=>by cases h⟩
 ·rw[if_neg h1]at e
  have hd:2≤s.size∧(s.data.toList.head?=some 43∨s.data.toList.head?=some 45∨s.data.toList.head?=some 62):=by
   refine⟨by omega,?_⟩
   by_cases k1:s.data.toList.head?=some 43
   ·exact .inl k1
   ·by_cases k2:s.data.toList.head?=some 45
    ·exact .inr (.inl k2)
    ·by_cases k3:s.data.toList.head?=some 62
     ·exact .inr (.inr k3)
     ·exact absurd (.inr ⟨k1,k2,k3⟩) h1
  refine⟨?_,fun _=>hd⟩
  split at e
  ·simp only[Prod.mk.injEq]at e
   obtain⟨rfl,rfl,_⟩:=e
   exact⟨hz,h0⟩
  ·split at e
   ·simp only[Prod.mk.injEq]at e
    obtain⟨rfl,rfl,_⟩:=e
    exact⟨h0,h0⟩
   ·split at e
    ·simp only[Prod.mk.injEq]at e
     obtain⟨rfl,rfl,_⟩:=e
     exact⟨by omega,by omega⟩
    ·simp only[Prod.mk.injEq]at e
     obtain⟨rfl,rfl,_⟩:=e
     exact⟨by omega,h0⟩
theorem XaN(e:Ad):∀(l:List Ad) (b:Bool),(Tt e l b).length≤l.length+(if b=true then 0 else 1)
 |[],b=>by cases b<;>simp[Tt]
 |x::l,b=>by
  have ih:=XaN e l (b|| !(ltB x.name_ e.name_))
  unfold Tt
  rw[List.length_append,List.length_append,List.length_cons]
  cases b<;>cases h:ltB x.name_ e.name_<;>simp only[h,Bool.not_true,Bool.not_false,Bool.or_true,Bool.or_false,Bool.true_or,if_true,Bool.false_eq_true,if_false,true_and,false_and,reduceCtorEq]at ih⊢<;>split<;>simp<;>omega
theorem Gc{l o:List Ad}{e:Ad}(h:Eo l e=o):o.length≤l.length+1:=by
 rw[←h]
 exact XaN e l false
theorem Ih{l o:List Ad}{n:ByteArray}(h:D2 l n=o):o.length≤l.length:=by
 rw[←h]
 exact List.length_filter_le _ _
theorem u8_h{s:ByteArray}{n:Nat}(h:0<s.size)(e:s.data.toList.head?=some (UInt8.ofNat n))(hn:n<256):(s[0]).toNat=n:=by
 rw[Ha h]at e
 rw[Option.some.inj e,UInt8.toNat_ofNat',Nat.mod_eq_of_lt (by omega)]
section
variable {l:List Ad} {s a b:ByteArray} {c:Int} {d:Bool}
theorem E9(e:B4 s=(a,b,c,d))(h:d=false∨Bj a=false∨(s.data.toList.head?≠some 43∧Em l a=false)):E3 l s=([],false):=by
 unfold E3
 rw[e,if_pos h]
theorem W8(e:B4 s=(a,b,c,true))(hn:Bj a=true)(h:s.data.toList.head?=some 43):E3 l s=(Eo l ⟨a,c⟩,true):=by
 unfold E3
 rw[e,if_neg (by rw[hn,h];simp),if_pos h]
theorem X9(e:B4 s=(a,b,c,true))(hn:Bj a=true)(hh:Em l a=true)(h:s.data.toList.head?=some 62):E3 l s=(Eo (D2 l a) ⟨b,Cs l a⟩,true):=by
 unfold E3
 rw[e,if_neg (by rw[hn,hh];simp),if_neg (by rw[h];decide),if_pos h]
theorem Vr(e:B4 s=(a,b,c,true))(hn:Bj a=true)(hh:Em l a=true)(h:s.data.toList.head?=some 45):E3 l s=(D2 l a,true):=by
 unfold E3
 rw[e,if_neg (by rw[hn,hh];simp),if_neg (by rw[h];decide),if_neg (by rw[h];decide)]
end
theorem Uf{old:List Ad}{xold:List (List D)}{steps:List ByteArray}{xsteps:List (List D)}{n:Int}{oa:List Ad}{xoa:List (List D)}{ob:Bool}(hold:old.map Ac=xold)(hsteps:steps.map cS=xsteps)(hol:old.length≤1000000000)(hsl:steps.length≤1000000000)(hss:okS steps)(hr:E6 old steps n=(oa,ob))(hoa:oa.map Ac=xoa):Fn Tryz.prog 212 [.d (.row 2 xold),.d (.row 1 xsteps),I n] [] ⟨.tup [.d (.row 2 xoa),B ob],[],[]⟩:=by
 refine Fn.go XeC Tryz.func212 fun P hP Q hQ=>?_
 conv=>cbv
 refine .row0 hold fun c9 z1 c2 bq=>?_
 conv=>cbv
 refine .go hsteps fun v2 ch=>?_
 conv=>cbv
 generalize bn:Dh n 0 v2=r3
 refine .dd hP (Xax bn) ?_
 conv=>cbv
 have hbr:0≤r3∧r3≤steps.length:=by rw[←bn];unfold Dh;split<;>(try split)<;>omega
 refine .frz 2 [8] rfl rfl (by rw[←bq,List.length_map];first|omega|(simp;omega)) ?_
 refine LoopW.lp (κ:=(List (List D))×Int) XeC hP [] [1,2] (fun(aj,i9)=>[(8,.d (.row 2 aj)),(9,I i9)]) (fun(aj,i9)=>[])
  (fun(aj,i9)=>∃(u8:List Ad),u8.map Ac=aj∧0≤i9∧i9≤r3∧E6 old steps n=C8 u8 ((steps.take r3.toNat).drop i9.toNat)∧u8.length≤old.length+i9)
  (fun(aj,i9)=>(r3 - i9).toNat) (z1,0) ⟨old,bq,by omega,by omega,by unfold E6;rw[←ch,bn];rfl,by omega⟩ ⟨rfl,rfl,trivial⟩ rfl ?_
 rintro⟨aj,i9⟩ J ⟨u8,ab,h0,h1,hio,hun⟩ hJ
 conv=>cbv
 refine .lss (fun h4=>?_) fun h4=>?_
 conv=>cbv
 refine .go i9.toNat hsteps fun bt e5 aa=>?_
 conv=>cbv
 have da:e5.size≤1000000000:=aa▸hss _ (List.getElem_mem bt)
 have hdc:(steps.take r3.toNat).drop i9.toNat=e5::(steps.take r3.toNat).drop (i9.toNat+1):=by rw[List.drop_eq_getElem_cons (by rw[List.length_take];omega),List.getElem_take,←aa]
 rw[hdc]at hio
 rcases am:B4 e5 with⟨ag,bf,bg,ci⟩
 refine .dd hP (XhJ (by omega) am) ?_
 conv=>cbv
 have hlf:=XgN am
 cases ci
 conv=>cbv
 have e:([],false)=E6 old steps n:=(by rw[hio];show _=(if(E3 u8 e5).2=false then _ else _);rw[E9 am (.inl rfl)];rfl)
 rw[hr]at e
 simp only[Prod.mk.injEq]at e
 obtain⟨rfl,rfl⟩:=e
 refine hQ _ _ ?_
 exact .m rfl (.ref rfl rfl (by rw[←hoa];rfl) .d1)
 conv=>cbv
 obtain⟨h2z,hh0⟩:=hlf.2 rfl
 have h00:0<e5.size:=by omega
 have hh1:(e5[0]).toNat=43∨(e5[0]).toNat=45∨(e5[0]).toNat=62:=hh0.imp (fun h=>u8_h h00 h (by decide)) fun h=>h.imp (fun h=>u8_h h00 h (by decide)) fun h=>u8_h h00 h (by decide)
 generalize az:Bj ag=r7
 refine .dd hP (L8 (by omega) az) ?_
 cases r7
 conv=>cbv
 have e:([],false)=E6 old steps n:=(by rw[hio];show _=(if(E3 u8 e5).2=false then _ else _);rw[E9 am (.inr (.inl az))];rfl)
 rw[hr]at e
 simp only[Prod.mk.injEq]at e
 obtain⟨rfl,rfl⟩:=e
 refine hQ _ _ ?_
 exact .m rfl (.ref rfl rfl (by rw[←hoa];rfl) .d1)
 conv=>cbv
 refine .go i9.toNat hsteps fun c3 e8 cj=>?_
 conv=>cbv
 obtain rfl:e5=e8:=aa.trans cj.symm
 refine .go 0 fun hjv9 v9 bu bv9=>?_
 conv=>cbv
 refine .neq (fun h10=>?_) fun h10=>?_
 conv=>cbv
 generalize aw:Em u8 ag=ck
 refine .dd hP (Mr ab (by omega) aw) ?_
 cases ck
 conv=>cbv
 have e:([],false)=E6 old steps n:=(by rw[hio];show _=(if(E3 u8 e5).2=false then _ else _);rw[E9 am (.inr (.inr ⟨(J0 (n:=43) h00 bu (by omega) (by decide)),aw⟩))];rfl)
 rw[hr]at e
 simp only[Prod.mk.injEq]at e
 obtain⟨rfl,rfl⟩:=e
 refine hQ _ _ ?_
 exact .m rfl (.ref rfl rfl (by rw[←hoa];rfl) .d1)
 conv=>cbv
 refine .go i9.toNat hsteps fun cm cn bv=>?_
 conv=>cbv
 obtain rfl:e5=cn:=aa.trans bv.symm
 refine .go 0 fun hjv13 db bw bv13=>?_
 conv=>cbv
 refine .eql (fun h14=>?_) fun h14=>?_
 conv=>cbv
 generalize bi:Cs u8 ag=bz
 refine .dd hP (L3 ab (by omega) bi) ?_
 conv=>cbv
 refine .go i9.toNat hsteps fun co cp b0=>?_
 conv=>cbv
 obtain rfl:e5=cp:=aa.trans b0.symm
 refine .go 0 fun hjv17 dc c4 bv17=>?_
 conv=>cbv
 refine .neq (fun h18=>?_) fun h18=>?_
 conv=>cbv
 generalize a0:D2 u8 ag=b2
 have hln19:=Ih a0
 generalize a1:b2.map Ac=b3
 refine .dd hP (Lr ab (by omega) a0 a1) ?_
 conv=>cbv
 refine .go i9.toNat hsteps fun cq cr b4=>?_
 conv=>cbv
 obtain rfl:e5=cr:=aa.trans b4.symm
 refine .go 0 fun hjv21 al ax bv21=>?_
 conv=>cbv
 refine .neq (fun h22=>?_) fun h22=>?_
 conv=>cbv
 generalize a2:Eo b2 (⟨bf,bz⟩:Ad)=ct
 have hln23:=Gc a2
 generalize bj:ct.map Ac=b5
 refine .dd hP (Iu a1 (by omega) a2 bj) ?_
 conv=>cbv
 refine .add fun b6 c5=>?_
 conv=>cbv
 exact .go [] (b5,b6) (hJ _ ⟨_,bj,by omega,by omega,by rw[hio,show b6.toNat=i9.toNat+1 by omega];show(if(E3 u8 e5).2=false then _ else _)=_;rw[X9 am az aw (Lj (n:=62) h00 bw (by omega) (by decide)),a0,bi,a2];rfl,by omega⟩ mlt)
 conv=>cbv
 refine .add fun au a3=>?_
 conv=>cbv
 exact .go [] (b3,au) (hJ _ ⟨_,a1,by omega,by omega,by exfalso;omega,by exfalso;omega⟩ mlt)
 conv=>cbv
 refine .go i9.toNat hsteps fun a4 a5 an=>?_
 conv=>cbv
 obtain rfl:e5=a5:=aa.trans an.symm
 refine .go 0 fun hjv20 bh ay bv20=>?_
 conv=>cbv
 refine .neq (fun h21=>?_) fun h21=>?_
 conv=>cbv
 generalize ac:Eo u8 (⟨ag,bz⟩:Ad)=a6
 have hln22:=Gc ac
 generalize ad:a6.map Ac=ao
 refine .dd hP (Iu ab (by omega) ac ad) ?_
 conv=>cbv
 refine .add fun au a3=>?_
 conv=>cbv
 exact .go [] (ao,au) (hJ _ ⟨_,ad,by omega,by omega,by exfalso;omega,by exfalso;omega⟩ mlt)
 conv=>cbv
 refine .add fun ah ap=>?_
 conv=>cbv
 exact .go [] (aj,ah) (hJ _ ⟨_,ab,by omega,by omega,by exfalso;omega,by exfalso;omega⟩ mlt)
 conv=>cbv
 refine .go i9.toNat hsteps fun bo bp a7=>?_
 conv=>cbv
 obtain rfl:e5=bp:=aa.trans a7.symm
 refine .go 0 fun hjv16 cu b7 bv16=>?_
 conv=>cbv
 refine .neq (fun h17=>?_) fun h17=>?_
 conv=>cbv
 generalize ak:D2 u8 ag=a8
 have hln18:=Ih ak
 generalize ai:a8.map Ac=a9
 refine .dd hP (Lr ab (by omega) ak ai) ?_
 conv=>cbv
 refine .go i9.toNat hsteps fun a4 a5 an=>?_
 conv=>cbv
 obtain rfl:e5=a5:=aa.trans an.symm
 refine .go 0 fun hjv20 bh ay bv20=>?_
 conv=>cbv
 refine .neq (fun h21=>?_) fun h21=>?_
 conv=>cbv
 generalize ac:Eo a8 (⟨bf,bg⟩:Ad)=a6
 have hln22:=Gc ac
 generalize ad:a6.map Ac=ao
 refine .dd hP (Iu ai (by omega) ac ad) ?_
 conv=>cbv
 refine .add fun au a3=>?_
 conv=>cbv
 exact .go [] (ao,au) (hJ _ ⟨_,ad,by omega,by omega,by exfalso;omega,by exfalso;omega⟩ mlt)
 conv=>cbv
 refine .add fun ah ap=>?_
 conv=>cbv
 exact .go [] (a9,ah) (hJ _ ⟨_,ai,by omega,by omega,by rw[hio,show ah.toNat=i9.toNat+1 by omega];show(if(E3 u8 e5).2=false then _ else _)=_;rw[Vr am az aw (Lj (n:=45) h00 ay (by omega) (by decide)),ak];rfl,by omega⟩ mlt)
 conv=>cbv
 refine .go i9.toNat hsteps fun ba bb aq=>?_
 conv=>cbv
 obtain rfl:e5=bb:=aa.trans aq.symm
 refine .go 0 fun hjv19 b8 bk bv19=>?_
 conv=>cbv
 refine .neq (fun h20=>?_) fun h20=>?_
 conv=>cbv
 generalize ae:Eo u8 (⟨ag,bg⟩:Ad)=bc
 have hln21:=Gc ae
 generalize af:bc.map Ac=ar
 refine .dd hP (Iu ab (by omega) ae af) ?_
 conv=>cbv
 refine .add fun ah ap=>?_
 conv=>cbv
 exact .go [] (ar,ah) (hJ _ ⟨_,af,by omega,by omega,by exfalso;omega,by exfalso;omega⟩ mlt)
 conv=>cbv
 refine .add fun al ax=>?_
 conv=>cbv
 exact .go [] (aj,al) (hJ _ ⟨_,ab,by omega,by omega,by exfalso;omega,by exfalso;omega⟩ mlt)
 conv=>cbv
 refine .go i9.toNat hsteps fun cv cw b9=>?_
 conv=>cbv
 obtain rfl:e5=cw:=aa.trans b9.symm
 refine .go 0 fun hjv12 de c6 bv12=>?_
 conv=>cbv
 refine .eql (fun h13=>?_) fun h13=>?_
 conv=>cbv
 generalize ca:Cs u8 ag=cb
 refine .dd hP (L3 ab (by omega) ca) ?_
 conv=>cbv
 refine .go i9.toNat hsteps fun bo bp a7=>?_
 conv=>cbv
 obtain rfl:e5=bp:=aa.trans a7.symm
 refine .go 0 fun hjv16 cu b7 bv16=>?_
 conv=>cbv
 refine .neq (fun h17=>?_) fun h17=>?_
 conv=>cbv
 generalize ak:D2 u8 ag=a8
 have hln18:=Ih ak
 generalize ai:a8.map Ac=a9
 refine .dd hP (Lr ab (by omega) ak ai) ?_
 conv=>cbv
 refine .go i9.toNat hsteps fun a4 a5 an=>?_
 conv=>cbv
 obtain rfl:e5=a5:=aa.trans an.symm
 refine .go 0 fun hjv20 bh ay bv20=>?_
 conv=>cbv
 refine .neq (fun h21=>?_) fun h21=>?_
 conv=>cbv
 generalize ac:Eo a8 (⟨bf,cb⟩:Ad)=a6
 have hln22:=Gc ac
 generalize ad:a6.map Ac=ao
 refine .dd hP (Iu ai (by omega) ac ad) ?_
 conv=>cbv
 refine .add fun au a3=>?_
 conv=>cbv
 exact .go [] (ao,au) (hJ _ ⟨_,ad,by omega,by omega,by exfalso;omega,by exfalso;omega⟩ mlt)
 conv=>cbv
 refine .add fun ah ap=>?_
 conv=>cbv
 exact .go [] (a9,ah) (hJ _ ⟨_,ai,by omega,by omega,by exfalso;omega,by exfalso;omega⟩ mlt)
 conv=>cbv
 refine .go i9.toNat hsteps fun ba bb aq=>?_
 conv=>cbv
 obtain rfl:e5=bb:=aa.trans aq.symm
 refine .go 0 fun hjv19 b8 bk bv19=>?_
 conv=>cbv
 refine .neq (fun h20=>?_) fun h20=>?_
 conv=>cbv
 generalize ae:Eo u8 (⟨ag,cb⟩:Ad)=bc
 have hln21:=Gc ae
 generalize af:bc.map Ac=ar
 refine .dd hP (Iu ab (by omega) ae af) ?_
 conv=>cbv
 refine .add fun ah ap=>?_
 conv=>cbv
 exact .go [] (ar,ah) (hJ _ ⟨_,af,by omega,by omega,by exfalso;omega,by exfalso;omega⟩ mlt)
 conv=>cbv
 refine .add fun al ax=>?_
 conv=>cbv
 exact .go [] (aj,al) (hJ _ ⟨_,ab,by omega,by omega,by exfalso;omega,by exfalso;omega⟩ mlt)
 conv=>cbv
 refine .go i9.toNat hsteps fun cx cy cc=>?_
 conv=>cbv
 obtain rfl:e5=cy:=aa.trans cc.symm
 refine .go 0 fun hjv15 df c7 bv15=>?_
 conv=>cbv
 refine .neq (fun h16=>?_) fun h16=>?_
 conv=>cbv
 generalize bl:D2 u8 ag=cd
 have hln17:=Ih bl
 generalize bd:cd.map Ac=ce
 refine .dd hP (Lr ab (by omega) bl bd) ?_
 conv=>cbv
 refine .go i9.toNat hsteps fun ba bb aq=>?_
 conv=>cbv
 obtain rfl:e5=bb:=aa.trans aq.symm
 refine .go 0 fun hjv19 b8 bk bv19=>?_
 conv=>cbv
 refine .neq (fun h20=>?_) fun h20=>?_
 conv=>cbv
 generalize ae:Eo cd (⟨bf,bg⟩:Ad)=bc
 have hln21:=Gc ae
 generalize af:bc.map Ac=ar
 refine .dd hP (Iu bd (by omega) ae af) ?_
 conv=>cbv
 refine .add fun ah ap=>?_
 conv=>cbv
 exact .go [] (ar,ah) (hJ _ ⟨_,af,by omega,by omega,by exfalso;omega,by exfalso;omega⟩ mlt)
 conv=>cbv
 refine .add fun al ax=>?_
 conv=>cbv
 exact .go [] (ce,al) (hJ _ ⟨_,bd,by omega,by omega,by exfalso;omega,by exfalso;omega⟩ mlt)
 conv=>cbv
 refine .go i9.toNat hsteps fun cz c0 cf=>?_
 conv=>cbv
 obtain rfl:e5=c0:=aa.trans cf.symm
 refine .go 0 fun hjv18 dg c8 bv18=>?_
 conv=>cbv
 refine .neq (fun h19=>?_) fun h19=>?_
 conv=>cbv
 generalize be:Eo u8 (⟨ag,bg⟩:Ad)=c1
 have hln20:=Gc be
 generalize bm:c1.map Ac=cg
 refine .dd hP (Iu ab (by omega) be bm) ?_
 conv=>cbv
 refine .add fun al ax=>?_
 conv=>cbv
 exact .go [] (cg,al) (hJ _ ⟨_,bm,by omega,by omega,by rw[hio,show al.toNat=i9.toNat+1 by omega];show(if(E3 u8 e5).2=false then _ else _)=_;rw[W8 am az (Lj (n:=43) h00 bu (by omega) (by decide)),be];rfl,by omega⟩ mlt)
 conv=>cbv
 refine .add fun bh ay=>?_
 conv=>cbv
 exact .go [] (aj,bh) (hJ _ ⟨_,ab,by omega,by omega,by exfalso;omega,by exfalso;omega⟩ mlt)
 conv=>cbv
 have e:(u8,true)=E6 old steps n:=(by rw[hio,List.drop_of_length_le (by rw[List.length_take];omega)];rfl)
 rw[hr]at e
 simp only[Prod.mk.injEq]at e
 obtain⟨rfl,rfl⟩:=e
 refine hQ _ _ ?_
 exact .m rfl (.d rfl (Dx ab hoa) .d1)
end
section
open Go Go.Proofs
def V2:List (Nat×TyRow):=[ty3,ty9,Xgt,XdN,Xcu,Xal,W0]
theorem XbL:B8 Tryz.prog V2:=B8.of (by kernel_rfl)
theorem XiY:Setup Tryz.prog V2:=⟨XbL,mixed⟩
theorem Xbe(a:List UInt8):Op.bytesLess a a=false:=by
 cases h:Op.bytesLess a a with
 |false=>rfl
 |true=>have:=Mh a a h;rw[h]at this;cases this
theorem Vj:∀a b c:List UInt8,Op.bytesLess a b=true→Op.bytesLess b c=true→Op.bytesLess a c=true
 |_,[],_,h,_=>by simp[Op.bytesLess]at h
 |_,_::_,[],_,h=>by simp[Op.bytesLess]at h
 |[],_::_,_::_,_,_=>by simp[Op.bytesLess]
 |a::x,b::y,c::z,h1,h2=>by
  simp only[Op.bytesLess,Bool.or_eq_true,decide_eq_true_eq,Bool.and_eq_true,beq_iff_eq]at h1 h2⊢
  rcases h1 with h1|⟨rfl,h1⟩
  ·rcases h2 with h2|⟨rfl,h2⟩
   ·exact .inl (UInt8.lt_trans h1 h2)
   ·exact .inl h1
  ·rcases h2 with h2|⟨rfl,h2⟩
   ·exact .inl h2
   ·exact .inr ⟨rfl,Vj x y z h1 h2⟩
theorem Yh(a:ByteArray):ltB a a=false:=Xbe _
theorem Xck{a b c:ByteArray}(h:ltB a b=true)(k:ltB b c=true):ltB a c=true:=Vj _ _ _ h k
theorem Xhq{a b:ByteArray}(h:ltB a b=true):a≠b:=by
 rintro rfl
 rw[Yh]at h
 cases h
theorem Xki{a b:ByteArray}(h:ltB a b=false)(hn:a≠b):ltB b a=true:=by
 have:=XcY a b
 rw[h]at this
 simp only[Bool.not_false,Bool.true_eq,Bool.or_eq_true,decide_eq_true_eq]at this
 exact this.resolve_right fun e=>hn e.symm
def srt(l:List Ad):Prop:=l.Pairwise fun a b=>ltB a.name_ b.name_=true
theorem XbN{α:Type}{p:α→Bool}{x:α}{l:List α}:S1 p (x::l)=if p x=true then 0 else if S1 p l<0 then -1 else S1 p l+1:=by
 unfold S1
 rw[List.findIdx_cons]
 cases hp:p x with
 |true=>simp
 |false=>
  simp only[List.length_cons,cond_false,Bool.false_eq_true,if_false]
  by_cases h:l.findIdx p<l.length
  ·rw[if_pos (show l.findIdx p+1<l.length+1 by omega),if_pos h,if_neg (show¬(l.findIdx p:Int)<0 by omega)]
   omega
  ·rw[if_neg (show¬l.findIdx p+1<l.length+1 by omega),if_neg h,if_pos (by decide)]
theorem On{x:Ad}{l:List Ad}{n:ByteArray}:Ao (x::l) n=if x.name_=n then 0 else if Ao l n<0 then -1 else Ao l n+1:=by
 show S1 (fun e=>B7 e n) (x::l)=_
 rw[XbN]
 unfold B7
 simp only[decide_eq_true_eq]
 rfl
theorem Yw{l:List Ad}{n:ByteArray}: -1≤Ao l n:=(Gq rfl).1
theorem Xi3{l:List Ad}{n:ByteArray}(h:∀x∈l,x.name_≠n):Ao l n<0:=by
 have hb:=Yw (l:=l) (n:=n)
 rcases Int.lt_or_le (Ao l n) 0 with k|k
 ·exact k
 ·obtain⟨hi,hp⟩:=Mn (p:=fun e=>B7 e n) (rfl:Ao l n=_) k
  unfold B7 at hp
  rw[decide_eq_true_eq]at hp
  exact absurd hp (h _ (List.getElem_mem hi))
theorem Z2{l:List Ad}{n:ByteArray}{i k:Int}(h:Ao l n=k)(hk:0≤k):Qp l n i=l.set k.toNat ⟨(l.getD k.toNat ⟨tx [],0⟩).name_,i⟩:=by
 subst h
 exact if_pos hk
theorem Re{l:List Ad}{n:ByteArray}{i k:Int}(h:Ao l n<0)(hk:Ce l n=k):Qp l n i=H0 l (if k<0 then l.length else k) [⟨n,i⟩]:=by
 subst hk
 exact if_neg (by omega)
theorem XgO{x:Ad}{l:List Ad}{n:ByteArray}{i:Int}:Qp (x::l) n i=if x.name_=n then⟨n,i⟩::l else if Ao l n<0∧J8 x n=true then⟨n,i⟩::x::l else x::Qp l n i:=by
 have hb:=Yw (l:=l) (n:=n)
 by_cases hx:x.name_=n
 ·rw[if_pos hx,Z2 (k:=0) (by rw[On,if_pos hx]) (by decide)]
  simp[hx]
 ·rw[if_neg hx]
  by_cases hp:Ao l n<0
  ·have hpc:Ao (x::l) n<0:=by rw[On,if_neg hx,if_pos hp];decide
   have hc:Ce (x::l) n=if J8 x n=true then 0 else if Ce l n<0 then -1 else Ce l n+1:=XbN (p:=fun e=>J8 e n)
   by_cases h1:J8 x n=true
   ·rw[if_pos ⟨hp,h1⟩,Re hpc (k:=0) (by rw[hc,if_pos h1]),if_neg (by decide)]
    simp[H0]
   ·rw[if_neg (fun h=>h1 h.2)]
    by_cases h2:Ce l n<0
    ·rw[Re hpc (k:=-1) (by rw[hc,if_neg h1,if_pos h2]),if_pos (by decide),Re hp rfl,if_pos h2]
     simp[H0]
    ·rw[Re hpc (by rw[hc,if_neg h1,if_neg h2]),if_neg (by omega),Re hp rfl,if_neg h2]
     unfold H0
     rw[show(Ce l n+1).toNat=(Ce l n).toNat+1 by omega]
     simp
  ·rw[if_neg (fun h=>hp h.1),Z2 (k:=Ao l n+1) (by rw[On,if_neg hx,if_neg hp]) (by omega),Z2 (l:=l) rfl (by omega),show(Ao l n+1).toNat=(Ao l n).toNat+1 by omega]
   simp
theorem S3{e:Ad}:∀{l:List Ad},(∀x∈l,x.name_≠e.name_)→Tt e l true=l
 |[],_=>rfl
 |x::l,h=>by
  unfold Tt
  rw[if_neg (by simp),if_neg (h x List.mem_cons_self),Bool.true_or,S3 fun y hy=>h y (List.mem_cons_of_mem _ hy)]
  rfl
theorem Xcc{n:ByteArray}{i:Int}:∀{l:List Ad},srt l→Eo l ⟨n,i⟩=Qp l n i
 |[],_=>rfl
 |x::l,h=>by
  have hs:=List.pairwise_cons.1 h
  have ih:=Xcc (n:=n) (i:=i) hs.2
  unfold Eo at ih⊢
  rw[XgO]
  unfold Tt
  by_cases hx:x.name_=n
  ·rw[if_pos hx,hx,Yh,if_pos ⟨rfl,rfl⟩,if_pos rfl,Bool.not_false,Bool.or_true,S3 (fun y hy e=>by
    have:=hs.1 y hy
    rw[hx]at this
    exact Xhq this e.symm)]
   rfl
  ·rw[if_neg hx,if_neg hx]
   cases hl:ltB x.name_ n with
   |true=>
    rw[if_neg (by simp),if_neg (by unfold J8;rw[hl];simp),Bool.not_true,Bool.or_false,ih]
    rfl
   |false=>
    have hg:=Xki hl hx
    have hne:∀y∈l,y.name_≠n:=fun y hy e=>Xhq (Xck hg (hs.1 y hy)) e.symm
    rw[if_pos ⟨rfl,rfl⟩,if_pos ⟨Xi3 hne,by unfold J8;rw[hl,decide_eq_false hx];rfl⟩,Bool.not_false,Bool.or_true,S3 hne]
    rfl
theorem Up{n:ByteArray}:∀{l:List Ad},srt l→0≤Ao l n→D2 l n=l.eraseIdx (Ao l n).toNat
 |[],_,h=>by
  exfalso
  have:Ao [] n= -1:=rfl
  omega
 |x::l,h,hp=>by
  have hs:=List.pairwise_cons.1 h
  have hb:=Yw (l:=l) (n:=n)
  rw[On]at hp⊢
  unfold D2
  rw[List.filter_cons]
  by_cases hx:x.name_=n
  ·rw[if_pos hx,decide_eq_true hx]
   have:l.filter (fun x=>!decide (x.name_=n))=l:=by
    rw[List.filter_eq_self]
    intro y hy
    rw[decide_eq_false]
    ·rfl
    ·rintro rfl
     exact Xhq (hs.1 y hy) hx
   simp[this]
  ·rw[if_neg hx]at hp⊢
   rw[decide_eq_false hx]
   by_cases h2:Ao l n<0
   ·rw[if_pos h2]at hp;omega
   ·rw[if_neg h2,show(Ao l n+1).toNat=(Ao l n).toNat+1 by omega,List.eraseIdx_cons_succ,←Up hs.2 (by omega)]
    rfl
theorem Xdz{d:Aa}{l:List Ad}(h:Bl d l=true){i:Nat}(hi:i<l.length):Fj d l i=true:=by
 unfold Bl at h
 rw[Bool.and_eq_true]at h
 exact List.all_eq_true.1 h.1 i (List.mem_range.2 hi)
theorem Xh9{d:Aa}{l:List Ad}(h:Bl d l=true){i:Nat}(hi:i+1<l.length):ltB l[i].name_ l[i+1].name_=true:=by
 have h1:=Xdz h hi
 unfold Fj at h1
 rw[Xca hi rfl,show i+1 - 1=i by omega,Xca (show i<l.length by omega) rfl,decide_eq_false (show¬i+1=0 by omega),Bool.false_or,←XcY]at h1
 simp only[Bool.not_not,Bool.and_eq_true]at h1
 exact h1.1.1
theorem Xgm{d:Aa}{l:List Ad}(h:Bl d l=true):srt l:=by
 have key:∀(k i:Nat) (hk:i+1+k<l.length),ltB l[i].name_ l[i+1+k].name_=true:=by
  intro k
  induction k with
  |zero=>intro i hk;exact Xh9 h hk
  |succ k ih=>intro i hk;exact Xck (ih i (by omega)) (Xh9 h (i:=i+1+k) (by omega))
 refine List.pairwise_iff_getElem.2 fun i j hi hj hij=>?_
 have:=key (j - i - 1) i (by omega)
 simpa only[show i+1+(j - i - 1)=j by omega]using this
theorem Xeu{l:List Ad}{n:ByteArray}(h:srt l):srt (D2 l n):=List.Pairwise.filter _ h
theorem Vo{l:List Ad}{s:ByteArray}(h:srt l):E3 l s=Ah l s:=by
 by_cases hne:s=tx []
 ·subst hne
  rw[Zx rfl]
  exact E9 (a:=tx []) (b:=tx []) (c:=0) (d:=false) rfl (.inl rfl)
 have hp:=Z9 hne
 have hhd:=Ha hp
 obtain⟨a,b,c,hc⟩:∃a b c,J9 (s.extract 1 s.size)=(a,b,c):=⟨_,_,_,rfl⟩
 have hlt2:c=true→2≤s.size:=by
  rintro rfl
  unfold J9 at hc
  split at hc
  ·rename_i h0
   have:=(Xb (rfl:I9 (s.extract 1 s.size)=_)).2
   rw[ByteArray.size_extract]at this
   omega
  ·simp at hc
 by_cases h43:s.data.toList.head?=some 43
 ·rw[G9 hne h43 hc]
  cases c with
  |false=>
   rw[if_pos (.inl rfl)]
   by_cases aa:s.size<2
   ·exact E9 (X0 (.inl aa)).symm (.inl rfl)
   ·exact E9 (Za (by omega) (.inl h43) (by rw[h43];decide) (by rw[hc])).symm (.inl rfl)
  |true=>
   have hm:=T9 (hlt2 rfl) h43 hc
   cases hr:(Bh b).2 with
   |false=>rw[if_pos (.inr (.inl rfl))];exact E9 hm (.inl (by rw[hr];rfl))
   |true=>
    cases hn:Bj a with
    |false=>rw[if_pos (.inr (.inr rfl))];exact E9 hm (.inr (.inl hn))
    |true=>
     rw[if_neg (by simp)]
     rw[hr,hn]at hm
     rw[W8 hm hn h43,Xcc h]
 ·by_cases h45:s.data.toList.head?=some 45
  ·rw[Og hne h45]
   by_cases aa:s.size<2
   ·have e:s.extract 1 s.size=tx []:=by
     apply Mk
     rw[Dy,List.drop_of_length_le (by rw[List.length_take,Array.length_toList];show min _ s.size≤1;omega)]
     rfl
    rw[E9 (X0 (.inl aa)).symm (.inl rfl),e]
    unfold Gm
    rw[if_pos (.inr (by decide))]
   ·have hm:=(XbH (by omega) h45).symm
    unfold Gm
    by_cases hpl:Ao l (s.extract 1 s.size)<0
    ·rw[if_pos (.inl hpl)]
     exact E9 hm (.inr (.inr ⟨h43,by unfold Em;rw[decide_eq_false_iff_not];omega⟩))
    ·cases hn:Bj (s.extract 1 s.size)with
     |false=>rw[if_pos (.inr rfl)];exact E9 hm (.inr (.inl hn))
     |true=>
      rw[if_neg (by rintro(k|k);exact hpl k;cases k),Vr hm hn (by unfold Em;rw[decide_eq_true_eq];omega) h45,Up h (by omega)]
      rfl
  ·by_cases h62:s.data.toList.head?=some 62
   ·rw[F8 hne h62 hc]
    cases c with
    |false=>
     rw[if_pos (.inl rfl)]
     by_cases aa:s.size<2
     ·exact E9 (X0 (.inl aa)).symm (.inl rfl)
     ·exact E9 (Za (by omega) (.inr (.inr h62)) h45 (by rw[hc])).symm (.inl rfl)
    |true=>
     have hm:=T8 (hlt2 rfl) h62 hc
     cases hnb:Bj b with
     |false=>rw[if_pos (.inr (.inr (.inl rfl)))];exact E9 hm (.inl (by rw[hnb];rfl))
     |true=>
      by_cases hab:a=b
      ·rw[if_pos (.inr (.inr (.inr hab)))];exact E9 hm (.inl (by rw[hnb,decide_eq_true hab];rfl))
      ·rw[hnb,decide_eq_false hab]at hm
       by_cases hpl:Ao l a<0
       ·have hd:Gm l a=([],false):=by unfold Gm;rw[if_pos (.inl hpl)]
        rw[hd,if_pos (.inr (.inl rfl))]
        exact E9 hm (.inr (.inr ⟨h43,by unfold Em;rw[decide_eq_false_iff_not];omega⟩))
       ·cases hn:Bj a with
        |false=>
         have hd:Gm l a=([],false):=by unfold Gm;rw[if_pos (.inr hn)]
         rw[hd,if_pos (.inr (.inl rfl))]
         exact E9 hm (.inr (.inl hn))
        |true=>
         have hd:Gm l a=(D2 l a,true):=by unfold Gm;rw[if_neg (by rw[hn];rintro(k|k);exact hpl k;cases k),Up h (by omega)];rfl
         rw[hd,if_neg (by simp;exact hab),X9 hm hn (by unfold Em;rw[decide_eq_true_eq];omega) h62,Xcc (Xeu h)]
   ·rw[Vu hne hhd (fun e=>h43 (by rw[hhd,e])) (fun e=>h45 (by rw[hhd,e])) (fun e=>h62 (by rw[hhd,e]))]
    exact E9 (X0 (.inr ⟨h43,h45,h62⟩)).symm (.inl rfl)
def Xay(d:Aa)(k:Nat):Bool:=if(C8 d.old_ (d.steps_.take k)).2=true then Fs d (C8 d.old_ (d.steps_.take k)).1 (d.steps_.drop k)else false
theorem Xd4{s:ByteArray}:∀(l:List ByteArray) (now:List Ad),C8 now (l++[s])=if(C8 now l).2=true then(if(E3 (C8 now l).1 s).2=false then([],false)else E3 (C8 now l).1 s)else([],false)
 |[],now=>by
  show(if(E3 now s).2=false then _ else C8 (E3 now s).1 [])=if true=true then _ else _
  rw[if_pos rfl]
  cases h:E3 now s with
  |mk x b=>cases b<;>simp[C8,h]
 |y::l,now=>by
  show(if(E3 now y).2=false then _ else C8 (E3 now y).1 (l++[s]))=if(if(E3 now y).2=false then _ else C8 (E3 now y).1 l).2=true then _ else _
  by_cases h:(E3 now y).2=false
  ·rw[if_pos h,if_pos h,if_neg (by decide)]
  ·rw[if_neg h,if_neg h,Xd4 l]
   have e:C8 now (y::l)=C8 (E3 now y).1 l:=if_neg h
   rw[e]
theorem Xet{d:Aa}{k:Nat}{x:List Ad}(hk:k<d.steps_.length)(h:C8 d.old_ (d.steps_.take k)=(x,true))(hr:Bl d x=true):C8 d.old_ (d.steps_.take (k+1))=if(Ah x d.steps_[k]).2=false then([],false)else Ah x d.steps_[k]:=by
 rw[List.take_succ_eq_append_getElem hk,Xd4,h,if_pos rfl,Vo (Xgm hr)]
theorem Xfv{d:Aa}{k:Nat}{x:List Ad}(hk:k<d.steps_.length)(h:C8 d.old_ (d.steps_.take k)=(x,true))(hr:Bl d x=true):Xay d (k+1)=Xay d k:=by
 obtain⟨y,b,hy⟩:∃y b,Ah x d.steps_[k]=(y,b):=⟨_,_,rfl⟩
 unfold Xay
 rw[Xet hk h hr,h,if_pos (show(x,true).2=true from rfl),List.drop_eq_getElem_cons hk]
 show _=(Bl d x&&(Ah x d.steps_[k]).2&&Fs d (Ah x d.steps_[k]).1 _)
 rw[hr,hy]
 cases b<;>rfl
theorem XaA{old:List Ad}{steps:List ByteArray}{k:Int}(h0:0≤k)(h1:k≤steps.length):E6 old steps k=C8 old (steps.take k.toNat):=by
 unfold E6
 rw[show Dh k 0 steps.length=k from by unfold Dh;split<;>(try split)<;>(try split)<;>omega]
def Xi1(d:Aa)(k:Nat):Prop:=Fs d d.old_ d.steps_=Xay d k∧okL (C8 d.old_ (d.steps_.take k)).1∧(C8 d.old_ (d.steps_.take k)).1.length≤1000000000
theorem Xf1{d:Aa}(hd:Jw d):Xi1 d 0:=⟨rfl,hd.2.1,hd.1.2.2.2.2.1⟩
theorem XfH{d:Aa}(hd:Jw d){k:Nat}{x:List Ad}(hq:Xi1 d k)(hk:k<d.steps_.length)(h:C8 d.old_ (d.steps_.take k)=(x,true))(hr:Bl d x=true):Xi1 d (k+1):=by
 obtain⟨h1,h2,h3⟩:=hq
 have hx:=Y6 hr
 rw[h]at h2 h3
 refine⟨by rw[h1,Xfv hk h hr],?_⟩
 rw[Xet hk h hr]
 obtain⟨y,b,hy⟩:∃y b,Ah x d.steps_[k]=(y,b):=⟨_,_,rfl⟩
 have hl:=Nm hy
 have ho:=Zz h2 (hd.2.2 _ (List.getElem_mem hk)) hy
 rw[hy]
 cases b
 ·exact⟨fun e he=>(by cases he),Nat.zero_le _⟩
 ·exact⟨ho,by show y.length≤_;omega⟩
theorem N4:Setup Tryz.prog ((3000007,Fp Tryz.prog 3000007)::((3000001,Fp Tryz.prog 3000001)::V2)):=(Setup.mark 3000007 (Setup.mark 3000001 XiY))
theorem Ol{Ae:List Bg}{Bv:List (List D)}{Al:List Ad}{Bq:List (List D)}{Ak:List Ad}{Bn:List (List D)}{Ag:List ByteArray}{Br:List (List D)}{At:Int}{Ap:Int}{o:Bool}(An:Ae.map Bi=Bv)(Am:Al.map Ac=Bq)(Aq:Ak.map Ac=Bn)(As:Ag.map cS=Br)(ac:Jw ⟨Ae,Al,Ak,Ag,At,Ap⟩)(hr:Bk (⟨Ae,Al,Ak,Ag,At,Ap⟩:Aa)=o):Fn Tryz.prog 211 [.agg [.d (.row 3 Bv),.d (.row 2 Bq),.d (.row 2 Bn),.d (.row 1 Br),I At,I Ap]] [] ⟨B o,[],[]⟩:=by
 refine Fn.go N4 Tryz.func211 fun P hP Q hQ=>?_
 conv=>cbv
 refine .go An fun v1 bg=>?_
 conv=>cbv
 have hdo:Ak.length≤1000000000:=ac.1.2.2.2.2.1
 have hds:Ag.length≤1000000000:=ac.1.2.2.2.2.2
 refine .gtr (fun h2=>?_) fun h2=>?_
 conv=>cbv
 refine .go2 (by kernel_rfl) ?_
 conv=>cbv
 have e:false=Bk (⟨Ae,Al,Ak,Ag,At,Ap⟩:Aa):=(by exact D9 fun h=>by rw[diskOk_iff]at h;have:=h.2.2.1;unfold Ej at this;rw[decide_eq_false (by simp only[];omega),Bool.and_false]at this;cases this)
 rw[hr]at e
 subst e
 exact hQ _ _ (.b rfl rfl)
 conv=>cbv
 generalize af:Bm At 0 1000000000=r3
 refine .dd hP (Ec af) ?_
 cases r3
 simp only[Bm,decide_eq_true_eq,decide_eq_false_iff_not]at af
 conv=>cbv
 refine .go2 (by kernel_rfl) ?_
 conv=>cbv
 have e:false=Bk (⟨Ae,Al,Ak,Ag,At,Ap⟩:Aa):=(by exact D9 fun h=>by rw[diskOk_iff]at h;exact af h.1)
 rw[hr]at e
 subst e
 exact hQ _ _ (.b rfl rfl)
 simp only[Bm,decide_eq_true_eq,decide_eq_false_iff_not]at af
 conv=>cbv
 generalize ag:Bm Ap 1 1000000000=r4
 refine .dd hP (Ec ag) ?_
 cases r4
 simp only[Bm,decide_eq_true_eq,decide_eq_false_iff_not]at ag
 conv=>cbv
 refine .go2 (by kernel_rfl) ?_
 conv=>cbv
 have e:false=Bk (⟨Ae,Al,Ak,Ag,At,Ap⟩:Aa):=(by exact D9 fun h=>by rw[diskOk_iff]at h;exact ag h.2.1)
 rw[hr]at e
 subst e
 exact hQ _ _ (.b rfl rfl)
 simp only[Bm,decide_eq_true_eq,decide_eq_false_iff_not]at ag
 conv=>cbv
 generalize aq:Fy (⟨Ae,Al,Ak,Ag,At,Ap⟩:Aa)=r5
 refine .dd hP (Xes An Am Aq As ac.1 aq) ?_
 conv=>cbv
 refine .gtr (fun h6=>?_) fun h6=>?_
 conv=>cbv
 refine .go2 (by kernel_rfl) ?_
 conv=>cbv
 have e:false=Bk (⟨Ae,Al,Ak,Ag,At,Ap⟩:Aa):=(by exact D9 fun h=>by rw[diskOk_iff]at h;have:=h.2.2.2.1;rw[aq]at this;simp only[]at this;omega)
 rw[hr]at e
 subst e
 exact hQ _ _ (.b rfl rfl)
 conv=>cbv
 refine .go2 (by kernel_rfl) ?_
 conv=>cbv
 refine LoopW.lp (κ:=Int) N4 hP [] [1] (fun i3=>[(3,I i3)]) (fun i3=>[])
  (fun i3=>0≤i3∧i3≤Ae.length∧∀j:Nat,j<i3.toNat→Ew (⟨Ae,Al,Ak,Ag,At,Ap⟩:Aa) j=true)
  (fun i3=>(Ae.length - i3).toNat) (0) ⟨by omega,by omega,fun j h=>by simp at h⟩ ⟨rfl,trivial⟩ rfl ?_
 rintro i3 J ⟨h0,h1,hb⟩ hJ
 have bh:Ae.length≤1000000000:=ac.1.1
 conv=>cbv
 refine .go An fun v7 bi=>?_
 conv=>cbv
 refine .lss (fun h8=>?_) fun h8=>?_
 conv=>cbv
 refine .go i3.toNat An fun ad ⟨aw,a3,ah⟩ a4=>?_
 conv=>cbv
 refine .sub fun a5 be=>?_
 conv=>cbv
 have hnd:=Xij (d:=(⟨Ae,Al,Ak,Ag,At,Ap⟩:Aa)) ad a4
 generalize ab:Bm aw 1 a5=a6
 refine .dd hP (Ec ab) ?_
 cases a6
 simp only[Bm,decide_eq_true_eq,decide_eq_false_iff_not]at ab
 conv=>cbv
 refine .go2 (by kernel_rfl) ?_
 conv=>cbv
 have e:false=Bk (⟨Ae,Al,Ak,Ag,At,Ap⟩:Aa):=(by exact D9 fun h=>by rw[diskOk_iff]at h;have h3:=h.2.2.1;rw[←Jq (d:=(⟨Ae,Al,Ak,Ag,At,Ap⟩:Aa)) ad (by unfold Ew;rw[decide_eq_false_iff_not,hnd];simp only[];omega)]at h3;cases h3)
 rw[hr]at e
 subst e
 exact hQ _ _ (.b rfl rfl)
 simp only[Bm,decide_eq_true_eq,decide_eq_false_iff_not]at ab
 conv=>cbv
 refine .gtr (fun h12=>?_) fun h12=>?_
 conv=>cbv
 refine .sub fun ai ao=>?_
 conv=>cbv
 refine .go ai.toNat An fun ar ⟨a7,a1,a2⟩ ax=>?_
 conv=>cbv
 have hpd:=Xij (d:=(⟨Ae,Al,Ak,Ag,At,Ap⟩:Aa)) ar ax
 rw[show ai.toNat=i3.toNat - 1 by omega]at hpd
 refine .geq (fun h15=>?_) fun h15=>?_
 conv=>cbv
 refine .go2 (by kernel_rfl) ?_
 conv=>cbv
 have e:false=Bk (⟨Ae,Al,Ak,Ag,At,Ap⟩:Aa):=(by exact D9 fun h=>by rw[diskOk_iff]at h;have h3:=h.2.2.1;rw[←Jq (d:=(⟨Ae,Al,Ak,Ag,At,Ap⟩:Aa)) ad (by unfold Ew;rw[decide_eq_false_iff_not,hnd];simp only[];rw[hpd];simp only[];omega)]at h3;cases h3)
 rw[hr]at e
 subst e
 exact hQ _ _ (.b rfl rfl)
 conv=>cbv
 refine .go fun au ay=>?_
 conv=>cbv
 generalize aj:Bm ah 0 au=a8
 refine .dd hP (Ec aj) ?_
 cases a8
 simp only[Bm,decide_eq_true_eq,decide_eq_false_iff_not]at aj
 conv=>cbv
 refine .go2 (by kernel_rfl) ?_
 conv=>cbv
 have e:false=Bk (⟨Ae,Al,Ak,Ag,At,Ap⟩:Aa):=(by exact D9 fun h=>by rw[diskOk_iff]at h;have h3:=h.2.2.1;rw[←Jq (d:=(⟨Ae,Al,Ak,Ag,At,Ap⟩:Aa)) ad (by unfold Ew;rw[decide_eq_false_iff_not,hnd];simp only[];omega)]at h3;cases h3)
 rw[hr]at e
 subst e
 exact hQ _ _ (.b rfl rfl)
 simp only[Bm,decide_eq_true_eq,decide_eq_false_iff_not]at aj
 conv=>cbv
 refine .go2 (by kernel_rfl) ?_
 conv=>cbv
 refine .add fun a9 bf=>?_
 conv=>cbv
 exact .go [] (a9) (hJ _ ⟨by omega,by omega,fun j h=>if e:j=i3.toNat then by subst e;unfold Ew;rw[decide_eq_true_eq,hnd,hpd];simp only[];omega else hb j (by omega)⟩ mlt)
 conv=>cbv
 refine .go fun ai ao=>?_
 conv=>cbv
 generalize ak:Bm ah 0 ai=ba
 refine .dd hP (Ec ak) ?_
 cases ba
 simp only[Bm,decide_eq_true_eq,decide_eq_false_iff_not]at ak
 conv=>cbv
 refine .go2 (by kernel_rfl) ?_
 conv=>cbv
 have e:false=Bk (⟨Ae,Al,Ak,Ag,At,Ap⟩:Aa):=(by exact D9 fun h=>by rw[diskOk_iff]at h;have h3:=h.2.2.1;rw[←Jq (d:=(⟨Ae,Al,Ak,Ag,At,Ap⟩:Aa)) ad (by unfold Ew;rw[decide_eq_false_iff_not,hnd];simp only[];omega)]at h3;cases h3)
 rw[hr]at e
 subst e
 exact hQ _ _ (.b rfl rfl)
 simp only[Bm,decide_eq_true_eq,decide_eq_false_iff_not]at ak
 conv=>cbv
 refine .go2 (by kernel_rfl) ?_
 conv=>cbv
 refine .add fun an az=>?_
 conv=>cbv
 exact .go [] (an) (hJ _ ⟨by omega,by omega,fun j h=>if e:j=i3.toNat then by subst e;unfold Ew;rw[decide_eq_true_eq,hnd];simp only[];omega else hb j (by omega)⟩ mlt)
 conv=>cbv
 refine LoopW.lp (κ:=Int) N4 hP [] [1] (fun i5=>[(5,I i5)]) (fun i5=>[])
  (fun i5=>0≤i5∧i5≤Ag.length+1∧(i5≤Ag.length→Xi1 (⟨Ae,Al,Ak,Ag,At,Ap⟩:Aa) i5.toNat)∧(i5=Ag.length+1→Fs (⟨Ae,Al,Ak,Ag,At,Ap⟩:Aa) Ak Ag=true))
  (fun i5=>(Ag.length+1 - i5).toNat) (0) ⟨by omega,by omega,fun _=>Xf1 ac,fun h=>by omega⟩ ⟨rfl,trivial⟩ rfl ?_
 rintro i5 J1 ⟨k0,k1,hQk,hQe⟩ a0
 conv=>cbv
 refine .go As fun v9 bj=>?_
 conv=>cbv
 refine .leq (fun h10=>?_) fun h10=>?_
 conv=>cbv
 have hq:=hQk (by omega)
 have hS0:=XaA (old:=Ak) (steps:=Ag) (k:=i5) (by omega) (by omega)
 rcases ab:E6 Ak Ag i5 with⟨aa,ap⟩
 generalize ae:aa.map Ac=bb
 refine .dd hP (Uf Aq As (by omega) (by omega) ac.2.2 ab ae) ?_
 conv=>cbv
 have hS:C8 Ak (Ag.take i5.toNat)=(aa,ap):=hS0.symm.trans ab
 have hul:okL aa:=by have:=hq.2.1;simp only[]at this;rw[hS]at this;exact this
 have hun:aa.length≤1000000000:=by have:=hq.2.2;simp only[]at this;rw[hS]at this;exact this
 cases ap
 conv=>cbv
 have e:false=Bk (⟨Ae,Al,Ak,Ag,At,Ap⟩:Aa):=(by exact D9 fun h=>by rw[diskOk_iff]at h;have hk:=h.2.2.2.2;simp only[]at hk;rw[hq.1]at hk;unfold Xay at hk;simp only[]at hk;rw[hS]at hk;cases hk)
 rw[hr]at e
 subst e
 exact hQ _ _ (.b rfl rfl)
 conv=>cbv
 generalize al:Hk (⟨Ae,Al,Ak,Ag,At,Ap⟩:Aa) aa=bc
 refine .dd hP (Xbq An Am Aq As ae ac.1 hul (by omega) al) ?_
 cases bc
 conv=>cbv
 have e:false=Bk (⟨Ae,Al,Ak,Ag,At,Ap⟩:Aa):=(by exact D9 fun h=>by rw[diskOk_iff]at h;have hk:=h.2.2.2.2;simp only[]at hk;rw[hq.1]at hk;unfold Xay at hk;simp only[]at hk;rw[hS]at hk;rw[if_pos rfl,W9 (show Bl _ aa=false from al)]at hk;cases hk)
 rw[hr]at e
 subst e
 exact hQ _ _ (.b rfl rfl)
 conv=>cbv
 have hre:Bl (⟨Ae,Al,Ak,Ag,At,Ap⟩:Aa) aa=true:=al
 refine .go As fun ai ao=>?_
 conv=>cbv
 refine .eql (fun h14=>?_) fun h14=>?_
 conv=>cbv
 generalize am:K0 aa Al=bd
 refine .dd hP (XhM ae Am (by omega) am) ?_
 cases bd
 conv=>cbv
 have e:false=Bk (⟨Ae,Al,Ak,Ag,At,Ap⟩:Aa):=(by exact D9 fun h=>by rw[diskOk_iff]at h;have hk:=h.2.2.2.2;simp only[]at hk;rw[hq.1]at hk;unfold Xay at hk;simp only[]at hk;rw[hS]at hk;rw[if_pos rfl,List.drop_of_length_le (by omega)]at hk;unfold Fs at hk;rw[show I5 aa _=false from am,Bool.and_false]at hk;cases hk)
 rw[hr]at e
 subst e
 exact hQ _ _ (.b rfl rfl)
 conv=>cbv
 refine .add fun au ay=>?_
 conv=>cbv
 exact .go [] (au) (a0 _ ⟨by omega,by omega,fun h=>by omega,fun _=>by have:=hq.1;simp only[]at this;rw[this];unfold Xay;simp only[];rw[hS,List.drop_of_length_le (by omega),if_pos rfl];show(Bl _ aa&&I5 aa Al)=true;rw[hre,show I5 aa Al=true from am];rfl⟩ mlt)
 conv=>cbv
 refine .add fun an az=>?_
 conv=>cbv
 exact .go [] (an) (a0 _ ⟨by omega,by omega,fun h=>by rw[show an.toNat=i5.toNat+1 by omega];exact XfH ac hq (by simp only[];omega) hS hre,fun h=>by omega⟩ mlt)
 conv=>cbv
 have e:true=Bk (⟨Ae,Al,Ak,Ag,At,Ap⟩:Aa):=(by symm;rw[diskOk_iff];exact⟨af,ag,(Ud (d:=(⟨Ae,Al,Ak,Ag,At,Ap⟩:Aa)) (fun j hj=>hb j (by simp only[]at hj;omega)) (by symm;rw[decide_eq_true_eq];simp only[];omega)).symm,by rw[aq];exact h6,hQe (by omega)⟩)
 rw[hr]at e
 subst e
 exact hQ _ _ (.b rfl rfl)
end
end Go.Proofs.YtjbmpmmffjgedaaGreatDoor.Ab
