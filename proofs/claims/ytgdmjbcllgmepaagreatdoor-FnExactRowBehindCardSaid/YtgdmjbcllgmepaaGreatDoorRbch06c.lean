/- What functions of the program come to, for all arguments in the given bounds. -/
import Derived.Test.YtgdmjbcllgmepaaGreatDoorRbch12c
import Derived.Test.YtgdmjbcllgmepaaGreatDoorRbZ9
set_option linter.unusedVariables false
set_option linter.unusedSimpArgs false
namespace Go.Proofs.YtgdmjbcllgmepaaGreatDoor.Ab
section
open Go Go.Proofs
set_option maxRecDepth 20000
set_option maxHeartbeats 4000000
def R7:List (Nat×TyRow):=[ty3,ty5,ty9,XaP,Xai]
theorem Xcm:B9 Tryz.prog R7:=B9.of (by kernel_rfl)
theorem M4:Setup Tryz.prog R7:=⟨Xcm,mixed⟩
def It{α:Type}(l:List α)(i:Int)(m:List α):List α:=l.take i.toNat++m++l.drop i.toNat
def Kt{α:Type}(l:List α)(i j:Int):List α:=l.eraseIdx i.toNat
variable {l o oa:List Ad} {xl xo xoa:List (List D)} {nl no:Nat} {i:Int} {name:ByteArray} {ob:Bool}
theorem Gi{m:List Ad}{xm:List (List D)}{nm:Nat}(hl:l.map Ac=xl)(hnl:nl=l.length)(hm:m.map Ac=xm)(hnm:nm=m.length)
  (hp:(0≤i∧i≤l.length)∧l.length≤4000000000∧nm=1)(hr:It l i m=o)(ho:o.map Ac=xo)(hno:no=o.length):Fn Tryz.prog 307 [.ref 0 0 nl,I i,.ref 1 0 nm] [.row 2 false xl,.row 2 false xm] ⟨.ref 2 0 no,[.row 2 false xo],[(0,.dead)]⟩:=by
 obtain⟨⟨h0,h1⟩,h2,h3⟩:=hp
 subst h3
 refine⟨Et Tryz.func307 rfl rfl,?_⟩
 obtain⟨i,rfl⟩:∃k:Nat,i=k:=⟨i.toNat,by omega⟩
 match m,hnm with
 |[x],_=>
  subst hm ho hno hr hl
  have h:=Xip (xs:=l.map Ac) (v:=Ac x) (n:=nl) (i:=i) (by simpa using hnl) (by omega) (by omega)
  have e:(It l i [x]).map Ac=(l.map Ac).take i++Ac x::(l.map Ac).drop i:=by
   unfold It
   simp
  have e2:(It l i [x]).length=((l.map Ac).take i++Ac x::(l.map Ac).drop i).length:=by rw[←e,List.length_map]
  rw[e,e2]
  exact h
theorem Kl{j:Int}(hl:l.map Ac=xl)(hnl:nl=l.length)
  (hp:(0≤i∧i<l.length)∧j=i+1∧l.length≤4000000000)(hr:Kt l i j=o)(ho:o.map Ac=xo)(hno:no=o.length):Fn Tryz.prog 308 [.ref 0 0 nl,I i,I j] [.row 2 false xl] ⟨.ref 1 0 no,[.row 2 false xo],[(0,.dead)]⟩:=by
 obtain⟨⟨h0,h1⟩,h2,h3⟩:=hp
 refine⟨Et Tryz.func308 rfl rfl,?_⟩
 subst ho hno hr hl
 have h:=Xh0 (xs:=l.map Ac) (n:=nl) (i:=i) (j:=j) (by simpa using hnl) h0 (by omega) h2 (by omega)
 have e:(Kt l i j).map Ac=(l.map Ac).eraseIdx i.toNat:=by
  unfold Kt
  apply List.ext_getElem?
  intro k
  simp only[List.getElem?_map,List.getElem?_eraseIdx]
  split<;>rfl
 have e2:(Kt l i j).length=((l.map Ac).eraseIdx i.toNat).length:=by rw[←e,List.length_map]
 rw[e,e2]
 exact h
def Kp(e:Ad)(name:ByteArray):Bool:=!(ltB e.name_ name||decide (e.name_=name))
def Ct(l:List Ad)(name:ByteArray):Int:=Vd (fun e=>Kp e name) l
def Ul(l:List Ad)(name:ByteArray)(id:Int):List Ad:=
 if 0≤Bc l name then l.set (Bc l name).toNat ⟨(l.getD (Bc l name).toNat ⟨tx [],0⟩).name_,id⟩
 else It l (if Ct l name<0 then l.length else Ct l name) [⟨name,id⟩]
def Gx(l:List Ad)(name:ByteArray):List Ad×Bool:=
 if Bc l name<0∨Bt name=false then([],false)else(Kt l (Bc l name) (Bc l name+1),true)
theorem XlA{enam:ByteArray}{eid:Int}{o:Bool}(hr:Kp (⟨enam,eid⟩:Ad) name=o):Fn Tryz.prog 306 [.agg [S enam,I eid],.ptr 0 0 0] [.box 9 [S name]] ⟨B o,[],[]⟩:=by
 refine Fn.goR M4 Tryz.func306 fun P hP Q hQ=>?_
 conv=>cbv
 refine .gtr fun b1 aa=>?_
 conv=>cbv
 have e:b1=Kp (⟨enam,eid⟩:Ad) name:=(by unfold Kp;exact aa)
 rw[hr]at e
 subst e
 exact hQ _ _ (.of [] (.inl rfl) rfl rfl rfl rfl)
theorem Sm{o:Int}(hl:l.map Ac=xl)(hnl:nl=l.length)(hn:l.length<2^40)(hr:Ct l name=o):Fn Tryz.prog 301 [.ref 0 0 nl,.clo 306 [.ptr 1 0 0]] [.row 2 false xl,.box 9 [S name]] ⟨I o,[],[]⟩:=by
 refine Fn.goR M4 Tryz.func301 fun P hP Q hQ=>?_
 conv=>cbv
 refine .go fun v1 ah=>?_
 conv=>cbv
 refine LoopW.lp (κ:=Int) M4 hP [] [0,1,7] (fun i8=>[(8,I i8)]) (fun i8=>[])
  (fun i8=>0≤i8∧i8≤l.length∧∀(j:Nat) (hj:j<l.length),j<i8.toNat→Kp l[j] name=false)
  (fun i8=>(l.length - i8).toNat) (0) ⟨by omega,by omega,fun j _ h=>by simp at h⟩ ⟨rfl,trivial⟩ rfl ?_
 rintro i8 J ⟨h0,h1,hb⟩ hJ
 conv=>cbv
 refine .lss (fun h2=>?_) fun h2=>?_
 conv=>cbv
 refine .go i8.toNat fun p3 ae af=>?_
 conv=>cbv
 refine .go hl fun ag ⟨aa,ac⟩ ad=>?_
 conv=>cbv
 subst ae
 generalize ab:Kp (⟨aa,ac⟩:Ad) name=r5
 refine .bx [1] [] hP (XlA ab) rfl rfl rfl rfl ?_
 cases r5
 conv=>cbv
 refine .add fun v6 ai=>?_
 conv=>cbv
 exact .go [] (v6) (hJ _ ⟨by omega,by omega,fun j hj h=>if e:j=i8.toNat then by subst e;rw[←ad];exact ab else hb j hj (by omega)⟩ mlt)
 conv=>cbv
 have e:i8=Ct l name:=(by exact Mu (p:=fun x=>Kp x name) h0 (by omega) (ad▸ab) hb)
 rw[hr]at e
 subst e
 exact hQ _ _ (.of [] (.inl rfl) rfl rfl rfl rfl)
 conv=>cbv
 have e:(-1)=Ct l name:=(by exact Ib (p:=fun x=>Kp x name) fun j hj=>hb j hj (by omega))
 rw[hr]at e
 subst e
 exact hQ _ _ (.of [] (.inl rfl) rfl rfl rfl rfl)
theorem Xca:Setup Tryz.prog ((1000013,Eu Tryz.prog 1000013)::R7):=(Setup.mark 1000013 M4)
theorem XmD{id:Int}(hl:l.map Ac=xl)(hnl:nl=l.length)(hn:l.length≤4000000000)(hr:Ul l name id=o)(ho:o.map Ac=xo)(hno:no=o.length):Fn Tryz.prog 252 [.ref 0 0 nl,S name,I id] [.row 2 false xl] ⟨.ref 1 0 no,[.row 2 false xo],[(0,.dead)]⟩:=by
 refine Fn.goR Xca Tryz.func252 fun P hP Q hQ=>?_
 conv=>cbv
 refine JoinW.jn (κ:=(List (List D))×Nat) Xca hP [0] [0,2,4] (fun(ab,ac)=>[]) (fun(ab,ac)=>[(3,.row 2 false ab)])
  (fun(ab,ac)=>∃(w3:List Ad),w3.map Ac=ab∧ac=w3.length∧w3=l∧Bc w3 name<0) (fun Jj hJj=>?_) ?_
 conv=>cbv
 generalize aa:Bc l name=r1
 refine .lnt hP (Kr hl (by omega) aa) (.ref rfl (by rw[←hl,List.length_map];first|omega|(simp;omega)) (.d rfl .nil)) ?_
 conv=>cbv
 have hb:=Ik aa
 refine .geq (fun h2=>?_) fun h2=>?_
 conv=>cbv
 refine .go r1.toNat fun p3 ai am=>?_
 conv=>cbv
 refine .go (⟨(l.getD p3 ⟨tx [],0⟩).name_,id⟩:Ad) hl (by omega) (by rw[←gD (show p3<l.length by omega)];rfl) (Nat.le_refl 2) fun z4 aj=>?_
 conv=>cbv
 have e:(l.set p3 (⟨(l.getD p3 ⟨tx [],0⟩).name_,id⟩:Ad))=Ul l name id:=(by unfold Ul;rw[aa,if_pos (by omega),ai])
 rw[hr]at e
 subst e
 obtain rfl:z4=xo:=by rw[←aj,←ho]
 obtain rfl:nl=no:=by first|omega|(rw[hno];simp;done)|(rw[hno];simp;omega)
 exact hQ _ _ (.of [3] (.inl rfl) rfl rfl rfl rfl)
 conv=>cbv
 exact .go [3] (xl,nl) (hJj _ ⟨_,hl,Hg,rfl,by rw[aa];omega⟩)
 rintro⟨ab,ac⟩ ⟨w3,ad,an,hwl,hneg⟩
 have hwn:w3.length=l.length:=by rw[hwl]
 conv=>cbv
 generalize aa:Ct w3 name=r1
 refine .bx [3,1] [] hP (Sm ad (by first|rfl|omega|(simp;omega)) (by omega) aa) rfl rfl rfl rfl ?_
 conv=>cbv
 have hb:=XeX (p:=fun e=>Kp e name) aa
 refine .lss (fun h2=>?_) fun h2=>?_
 conv=>cbv
 refine .go fun v3 ao=>?_
 conv=>cbv
 generalize ae:It w3 v3 [(⟨name,id⟩:Ad)]=l4
 generalize af:l4.map Ac=ak
 obtain⟨nl4,hnl4⟩:∃m,m=l4.length:=⟨_,rfl⟩
 refine .bx [3,4] [] hP (Gi ad (by first|rfl|omega|(simp;omega)) rfl (by first|rfl|omega|(simp;omega)) (by omega) ae af hnl4) rfl rfl rfl rfl ?_
 conv=>cbv
 have e:l4=Ul l name id:=(by rw[←hwl];unfold Ul;rw[if_neg (by omega),aa,if_pos (by omega),show((w3.length:Nat):Int)=v3 by omega];exact ae.symm)
 rw[hr]at e
 subst e
 obtain rfl:ak=xo:=by rw[←af,←ho]
 obtain rfl:nl4=no:=by first|omega|(rw[hno];simp;done)|(rw[hno];simp;omega)
 exact hQ _ _ (.of [5] (.inl rfl) rfl rfl rfl rfl)
 conv=>cbv
 generalize ag:It w3 r1 [(⟨name,id⟩:Ad)]=l3
 generalize ah:l3.map Ac=al
 obtain⟨nl3,hnl3⟩:∃m,m=l3.length:=⟨_,rfl⟩
 refine .bx [3,4] [] hP (Gi ad (by first|rfl|omega|(simp;omega)) rfl (by first|rfl|omega|(simp;omega)) (by omega) ag ah hnl3) rfl rfl rfl rfl ?_
 conv=>cbv
 have e:l3=Ul l name id:=(by rw[←hwl];unfold Ul;rw[if_neg (by omega),aa,if_neg (by omega)];exact ag.symm)
 rw[hr]at e
 subst e
 obtain rfl:al=xo:=by rw[←ah,←ho]
 obtain rfl:nl3=no:=by first|omega|(rw[hno];simp;done)|(rw[hno];simp;omega)
 exact hQ _ _ (.of [5] (.inl rfl) rfl rfl rfl rfl)
theorem Xs:Setup Tryz.prog ((1000016,Eu Tryz.prog 1000016)::R7):=(Setup.mark 1000016 M4)
theorem Xkk{noa:Nat}(hl:l.map Ac=xl)(hnl:nl=l.length)(hn:l.length≤4000000000)(hs:name.size≤1000000000)(hr:Gx l name=(oa,ob))(hoa:oa.map Ac=xoa)(hnoa:noa=oa.length):Fn Tryz.prog 253 [.ref 0 0 nl,S name] [.row 2 false xl] ⟨.tup [.ref 1 0 noa,B ob],[.row 2 false xoa],[(0,.dead)]⟩:=by
 refine Fn.goR Xs Tryz.func253 fun P hP Q hQ=>?_
 conv=>cbv
 generalize ab:Bc l name=r1
 refine .lnt hP (Kr hl (by omega) ab) (.ref rfl (by rw[←hl,List.length_map];first|omega|(simp;omega)) (.d rfl .nil)) ?_
 conv=>cbv
 have hb:=Ik ab
 refine JoinW.jn (κ:=(List (List D))×Nat) Xs hP [0] [0,6] (fun(ac,ad)=>[]) (fun(ac,ad)=>[(2,.row 2 false ac)])
  (fun(ac,ad)=>∃(w2:List Ad),w2.map Ac=ac∧ad=w2.length∧w2=l∧0≤r1∧Bt name=true) (fun Jj hJj=>?_) ?_
 conv=>cbv
 refine .lss (fun h2=>?_) fun h2=>?_
 conv=>cbv
 have e:([],false)=Gx l name:=(by unfold Gx;rw[ab,if_pos (.inl h2)])
 rw[hr]at e
 simp only[Prod.mk.injEq]at e
 obtain⟨rfl,rfl⟩:=e
 obtain rfl:[]=xoa:=by first|(rw[←hoa];done)|(rw[←hoa];rfl)
 obtain rfl:0=noa:=by first|omega|(rw[hnoa];simp;done)|(rw[hnoa];simp;omega)
 exact hQ _ _ (.of [3] (.inl rfl) rfl rfl rfl rfl)
 conv=>cbv
 generalize aa:Bt name=r3
 refine .dd hP (Mo (by omega) aa) ?_
 cases r3
 conv=>cbv
 have e:([],false)=Gx l name:=(by unfold Gx;rw[ab,if_pos (.inr aa)])
 rw[hr]at e
 simp only[Prod.mk.injEq]at e
 obtain⟨rfl,rfl⟩:=e
 obtain rfl:[]=xoa:=by first|(rw[←hoa];done)|(rw[←hoa];rfl)
 obtain rfl:0=noa:=by first|omega|(rw[hnoa];simp;done)|(rw[hnoa];simp;omega)
 exact hQ _ _ (.of [3] (.inl rfl) rfl rfl rfl rfl)
 conv=>cbv
 exact .go [2] (xl,nl) (hJj _ ⟨_,hl,Hg,rfl,by omega,aa⟩)
 rintro⟨ac,ad⟩ ⟨w2,af,ai,hwl,aj,hnm⟩
 have hwn:w2.length=l.length:=by rw[hwl]
 conv=>cbv
 refine .add fun v2 ag=>?_
 conv=>cbv
 generalize aa:Kt w2 r1 v2=l3
 generalize ae:l3.map Ac=ah
 obtain⟨nl3,hnl3⟩:∃m,m=l3.length:=⟨_,rfl⟩
 refine .bx [2] [] hP (Kl af (by first|rfl|omega|(simp;omega)) (by omega) aa ae hnl3) rfl rfl rfl rfl ?_
 conv=>cbv
 have e:(l3,true)=Gx l name:=(by unfold Gx;rw[ab,if_neg (by rintro(h|h);omega;rw[hnm]at h;cases h),←aa,ag,hwl])
 rw[hr]at e
 simp only[Prod.mk.injEq]at e
 obtain⟨rfl,rfl⟩:=e
 obtain rfl:ah=xoa:=by rw[←ae,←hoa]
 obtain rfl:nl3=noa:=by first|omega|(rw[hnoa];simp;done)|(rw[hnoa];simp;omega)
 exact hQ _ _ (.of [3] (.inl rfl) rfl rfl rfl rfl)
theorem XgM{o:Int}(hl:l.map Ac=xl)(hn:l.length≤4000000000)(hr:Cz l name=o):Fn Tryz.prog 254 [.d (.row 2 xl),S name] [] ⟨I o,[],[]⟩:=by
 refine Fn.go M4 Tryz.func254 fun P hP Q hQ=>?_
 conv=>cbv
 generalize aa:Bc l name=r1
 refine .dd hP (Kr hl (by omega) aa) ?_
 conv=>cbv
 have hb:=Ik aa
 refine .lss (fun h2=>?_) fun h2=>?_
 conv=>cbv
 have e:0=Cz l name:=(by unfold Cz;rw[aa,if_pos (by omega)])
 rw[hr]at e
 subst e
 exact hQ _ _ (.i rfl rfl)
 conv=>cbv
 refine .go r1.toNat hl fun ae ⟨ac,ab⟩ ad=>?_
 conv=>cbv
 have e:ab=Cz l name:=(by unfold Cz;rw[aa,if_neg (by omega),←gD (show r1.toNat<l.length by omega),←ad])
 rw[hr]at e
 subst e
 exact hQ _ _ (.i rfl rfl)
def A3(l:List Ad)(step:ByteArray):List Ad×Bool:=
 if step=tx []then([],false)else
 let nm:=(Kw (step.extract 1 step.size)).1
 let rest:=(Kw (step.extract 1 step.size)).2.1
 let has:=(Kw (step.extract 1 step.size)).2.2
 if step.data.toList.head?=some 43 then
  (if has=false∨(Bi rest).2=false∨Bt nm=false then([],false)else(Ul l nm (Bi rest).1,true))
 else if step.data.toList.head?=some 45 then Gx l (step.extract 1 step.size)
 else if step.data.toList.head?=some 62 then
  (if has=false∨(Gx l nm).2=false∨Bt rest=false∨nm=rest then([],false)else(Ul (Gx l nm).1 rest (Cz l nm),true))
 else([],false)
theorem Lj{t:ByteArray}(h:0<t.size):t.data.toList.head?=some t[0]:=by
 rw[List.head?_eq_getElem?]
 exact M8 h
theorem XeH{t:ByteArray}(h:t≠tx []):0<t.size:=by
 rcases Nat.eq_zero_or_pos t.size with h0|h0
 ·exfalso
  apply h
  have hl:t.data.toList.length=t.size:=Array.length_toList
  rw[h0]at hl
  have h1:=List.eq_nil_of_length_eq_zero hl
  apply ByteArray.ext
  exact Array.toList_inj.1 (by rw[h1];rfl)
 ·exact h0
theorem Xjq{b:UInt8}{v:Int}{n:Nat}(hv:v=(b.toNat:Int))(h:v=(n:Int))(hn:n<256):b=UInt8.ofNat n:=by
 apply UInt8.toNat_inj.1
 rw[UInt8.toNat_ofNat',Nat.mod_eq_of_lt (by omega)]
 omega
theorem Xke{b:UInt8}{v:Int}{n:Nat}(hv:v=(b.toNat:Int))(h:v≠(n:Int))(hn:n<256):b≠UInt8.ofNat n:=by
 rintro rfl
 apply h
 rw[hv,UInt8.toNat_ofNat',Nat.mod_eq_of_lt (by omega)]
section
variable {l:List Ad} {step a b:ByteArray} {c:Bool}
theorem Xfg(h:step=tx []):A3 l step=([],false):=by
 unfold A3
 rw[if_pos h]
theorem Mb(h:step≠tx [])(hh:step.data.toList.head?=some 43)(hc:Kw (step.extract 1 step.size)=(a,b,c)):A3 l step=if c=false∨(Bi b).2=false∨Bt a=false then([],false)else(Ul l a (Bi b).1,true):=by
 unfold A3
 rw[if_neg h,hc,if_pos hh]
theorem S5(h:step≠tx [])(hh:step.data.toList.head?=some 45):A3 l step=Gx l (step.extract 1 step.size):=by
 unfold A3
 rw[if_neg h,if_neg (by rw[hh];decide),if_pos hh]
theorem Kq(h:step≠tx [])(hh:step.data.toList.head?=some 62)(hc:Kw (step.extract 1 step.size)=(a,b,c)):A3 l step=if c=false∨(Gx l a).2=false∨Bt b=false∨a=b then([],false)else(Ul (Gx l a).1 b (Cz l a),true):=by
 unfold A3
 rw[if_neg h,hc,if_neg (by rw[hh];decide),if_neg (by rw[hh];decide),if_pos hh]
theorem XcN{x:UInt8}(h:step≠tx [])(hh:step.data.toList.head?=some x)(h1:x≠43)(h2:x≠45)(h3:x≠62):A3 l step=([],false):=by
 unfold A3
 have k:∀y,x≠y→¬step.data.toList.head?=some y:=fun y hy e=>hy (by rw[hh]at e;exact Option.some.inj e)
 rw[if_neg h,if_neg (k _ h1),if_neg (k _ h2),if_neg (k _ h3)]
end
theorem Xht{s a b:ByteArray}{c:Bool}(e:Kw s=(a,b,c)):a.size≤s.size∧b.size≤s.size:=by
 unfold Kw at e
 split at e
 ·simp only[Prod.mk.injEq]at e
  obtain⟨rfl,rfl,rfl⟩:=e
  rw[ByteArray.size_extract,ByteArray.size_extract]
  omega
 ·simp only[Prod.mk.injEq]at e
  obtain⟨rfl,rfl,rfl⟩:=e
  exact⟨Nat.le_refl _,by rw[Bz];exact Nat.zero_le _⟩
theorem Vm{l a:List Ad}{n:ByteArray}{b:Bool}(e:Gx l n=(a,b)):a.length≤l.length:=by
 unfold Gx at e
 split at e
 ·simp only[Prod.mk.injEq]at e
  rw[←e.1]
  exact Nat.zero_le _
 ·simp only[Prod.mk.injEq]at e
  rw[←e.1]
  unfold Kt
  rw[List.length_eraseIdx]
  split<;>omega
theorem Xe2{l a:List Ad}{n:ByteArray}{i:Int}(e:Ul l n i=a):a.length≤l.length+1:=by
 rw[←e]
 unfold Ul It
 split
 ·rw[List.length_set];omega
 ·simp only[List.length_append,List.length_take,List.length_drop,List.length_cons,List.length_nil]
  omega
theorem Rm{l a:List Ad}{s:ByteArray}{b:Bool}(e:A3 l s=(a,b)):a.length≤l.length+1:=by
 unfold A3 at e
 have h0:∀{b:Bool},(([]:List Ad),false)=(a,b)→a.length≤l.length+1:=fun h=>by
  simp only[Prod.mk.injEq]at h
  rw[←h.1];exact Nat.zero_le _
 split at e
 ·exact h0 e
 ·dsimp only at e
  split at e
  ·split at e
   ·exact h0 e
   ·simp only[Prod.mk.injEq]at e
    exact Xe2 e.1
  ·split at e
   ·have:=Vm e;omega
   ·split at e
    ·split at e
     ·exact h0 e
     ·simp only[Prod.mk.injEq]at e
      have h1:=Xe2 e.1
      have h2:=Vm (l:=l) (n:=(Kw (s.extract 1 s.size)).1) (a:=(Gx l (Kw (s.extract 1 s.size)).1).1) (b:=(Gx l (Kw (s.extract 1 s.size)).1).2) rfl
      omega
    ·exact h0 e
theorem Ta{step:ByteArray}(hl:l.map Ac=xl)(hn:l.length≤4000000000)(hs:step.size≤1000000000)(hr:A3 l step=(oa,ob))(hoa:oa.map Ac=xoa):Fn Tryz.prog 179 [.d (.row 2 xl),S step] [] ⟨.tup [.d (.row 2 xoa),B ob],[],[]⟩:=by
 refine Fn.go M4 Tryz.func179 fun P hP Q hQ=>?_
 conv=>cbv
 refine .eql (fun h1=>?_) fun h1=>?_
 conv=>cbv
 have e:([],false)=A3 l step:=(by exact(Xfg h1).symm)
 rw[hr]at e
 simp only[Prod.mk.injEq]at e
 obtain⟨rfl,rfl⟩:=e
 refine hQ _ _ ?_
 exact .many (.inl rfl) rfl rfl (.ref rfl rfl (by rw[←hoa];rfl) (.d rfl rfl (.nil)))
 conv=>cbv
 have hps:=XeH h1
 refine .lo fun s2 ax=>?_
 conv=>cbv
 have be:s2.size≤step.size:=by rw[ax,ByteArray.size_extract];omega
 rcases al:Kw s2 with⟨ae,am,ao⟩
 have hcb:=Xht al
 have hcu:Kw (step.extract 1 step.size)=(ae,am,ao):=by rw[ax]at al;exact al
 refine .dd hP (Xah (by omega) al) ?_
 conv=>cbv
 generalize ay:D9 l=l4
 have aa:l4=l:=ay.symm
 have bb:l4.length=l.length:=by rw[aa]
 generalize af:l4.map Ac=bf
 obtain⟨nl4,hnl4⟩:∃m,m=l4.length:=⟨_,rfl⟩
 refine .ddA hP (Ke hl (by omega) ay af hnl4) rfl rfl rfl (af▸Hk (fun _=>rfl) l4) ?_
 conv=>cbv
 refine .go 0 fun hjv5 v5 ad bv5=>?_
 conv=>cbv
 refine .eql (fun h6=>?_) fun h6=>?_
 conv=>cbv
 have hh:step.data.toList.head?=some 43:=(Lj hps).trans (congrArg some (Xjq (n:=43) ad (by omega) (by decide)))
 rcases ap:Bi am with⟨a2,a6⟩
 refine .dd hP (XaA (by omega) ap) ?_
 conv=>cbv
 cases ao
 conv=>cbv
 have e:([],false)=A3 l step:=(by rw[Mb h1 hh hcu,if_pos (.inl rfl)])
 rw[hr]at e
 simp only[Prod.mk.injEq]at e
 obtain⟨rfl,rfl⟩:=e
 refine hQ _ _ ?_
 exact .many (.inl rfl) rfl rfl (.ref rfl rfl (by rw[←hoa];rfl) (.d rfl rfl (.nil)))
 conv=>cbv
 cases a6
 conv=>cbv
 have e:([],false)=A3 l step:=(by rw[Mb h1 hh hcu,ap,if_pos (.inr (.inl rfl))])
 rw[hr]at e
 simp only[Prod.mk.injEq]at e
 obtain⟨rfl,rfl⟩:=e
 refine hQ _ _ ?_
 exact .many (.inl rfl) rfl rfl (.ref rfl rfl (by rw[←hoa];rfl) (.d rfl rfl (.nil)))
 conv=>cbv
 generalize aq:Bt ae=r8
 refine .dd hP (Mo (by omega) aq) ?_
 cases r8
 conv=>cbv
 have e:([],false)=A3 l step:=(by rw[Mb h1 hh hcu,if_pos (.inr (.inr aq))])
 rw[hr]at e
 simp only[Prod.mk.injEq]at e
 obtain⟨rfl,rfl⟩:=e
 refine hQ _ _ ?_
 exact .many (.inl rfl) rfl rfl (.ref rfl rfl (by rw[←hoa];rfl) (.d rfl rfl (.nil)))
 conv=>cbv
 generalize ab:Ul l4 ae a2=l9
 generalize ar:l9.map Ac=bg
 obtain⟨nl9,hnl9⟩:∃m,m=l9.length:=⟨_,rfl⟩
 refine .bx [1] [] hP (XmD af (by first|rfl|omega|(simp;omega)) (by omega) ab ar hnl9) rfl rfl rfl rfl ?_
 conv=>cbv
 have e:(l9,true)=A3 l step:=(by rw[Mb h1 hh hcu,ap,if_neg (by rw[aq];simp),←ab,aa])
 rw[hr]at e
 simp only[Prod.mk.injEq]at e
 obtain⟨rfl,rfl⟩:=e
 refine hQ _ _ ?_
 exact .many (.inl rfl) rfl rfl (.ref rfl (by rw[←ar,List.length_map];first|omega|(simp;omega)) (by rw[←ar,←hoa]) (.d rfl rfl (.nil)))
 conv=>cbv
 refine .eql (fun h7=>?_) fun h7=>?_
 conv=>cbv
 have hh:step.data.toList.head?=some 45:=(Lj hps).trans (congrArg some (Xjq (n:=45) ad (by omega) (by decide)))
 refine .lo fun s8 az=>?_
 conv=>cbv
 have bh:s8.size≤step.size:=by rw[az,ByteArray.size_extract];omega
 rcases ab:Gx l4 s8 with⟨au,a7⟩
 generalize ag:au.map Ac=bc
 obtain⟨nr9a,hnr9a⟩:∃m,m=au.length:=⟨_,rfl⟩
 refine .bx [1] [] hP (Xkk af (by first|rfl|omega|(simp;omega)) (by omega) (by omega) ab ag hnr9a) rfl rfl rfl rfl ?_
 conv=>cbv
 have e:(au,a7)=A3 l step:=(by rw[S5 h1 hh];rw[az,aa]at ab;exact ab.symm)
 rw[hr]at e
 simp only[Prod.mk.injEq]at e
 obtain⟨rfl,rfl⟩:=e
 refine hQ _ _ ?_
 exact .many (.inl rfl) rfl rfl (.ref rfl (by rw[←ag,List.length_map];first|omega|(simp;omega)) (by rw[←ag,←hoa]) (.d rfl rfl (.nil)))
 conv=>cbv
 refine .eql (fun h8=>?_) fun h8=>?_
 conv=>cbv
 have hh:step.data.toList.head?=some 62:=(Lj hps).trans (congrArg some (Xjq (n:=62) ad (by omega) (by decide)))
 generalize ab:Cz l ae=r9
 refine .dd hP (XgM hl (by omega) ab) ?_
 conv=>cbv
 rcases ac:Gx l4 ae with⟨ah,a1⟩
 have hdl:=Vm ac
 generalize ai:ah.map Ac=a8
 obtain⟨nr10a,hnr10a⟩:∃m,m=ah.length:=⟨_,rfl⟩
 refine .bx [1] [] hP (Xkk af (by first|rfl|omega|(simp;omega)) (by omega) (by omega) ac ai hnr10a) rfl rfl rfl rfl ?_
 conv=>cbv
 cases ao
 conv=>cbv
 have e:([],false)=A3 l step:=(by rw[Kq h1 hh hcu,if_pos (.inl rfl)])
 rw[hr]at e
 simp only[Prod.mk.injEq]at e
 obtain⟨rfl,rfl⟩:=e
 refine hQ _ _ ?_
 exact .many (.inl rfl) rfl rfl (.ref rfl rfl (by rw[←hoa];rfl) (.d rfl rfl (.nil)))
 conv=>cbv
 cases a1
 conv=>cbv
 have e:([],false)=A3 l step:=(by rw[Kq h1 hh hcu,←aa,ac,if_pos (.inr (.inl rfl))])
 rw[hr]at e
 simp only[Prod.mk.injEq]at e
 obtain⟨rfl,rfl⟩:=e
 refine hQ _ _ ?_
 exact .many (.inl rfl) rfl rfl (.ref rfl rfl (by rw[←hoa];rfl) (.d rfl rfl (.nil)))
 conv=>cbv
 generalize aj:Bt am=ba
 refine .dd hP (Mo (by omega) aj) ?_
 cases ba
 conv=>cbv
 have e:([],false)=A3 l step:=(by rw[Kq h1 hh hcu,if_pos (.inr (.inr (.inl aj)))])
 rw[hr]at e
 simp only[Prod.mk.injEq]at e
 obtain⟨rfl,rfl⟩:=e
 refine hQ _ _ ?_
 exact .many (.inl rfl) rfl rfl (.ref rfl rfl (by rw[←hoa];rfl) (.d rfl rfl (.nil)))
 conv=>cbv
 refine .eql (fun h12=>?_) fun h12=>?_
 conv=>cbv
 have e:([],false)=A3 l step:=(by rw[Kq h1 hh hcu,if_pos (.inr (.inr (.inr h12)))])
 rw[hr]at e
 simp only[Prod.mk.injEq]at e
 obtain⟨rfl,rfl⟩:=e
 refine hQ _ _ ?_
 exact .many (.inl rfl) rfl rfl (.ref rfl rfl (by rw[←hoa];rfl) (.d rfl rfl (.nil)))
 conv=>cbv
 generalize an:Ul ah am r9=aw
 generalize ak:aw.map Ac=bd
 obtain⟨nl13,hnl13⟩:∃m,m=aw.length:=⟨_,rfl⟩
 refine .bx [2] [] hP (XmD ai (by first|rfl|omega|(simp;omega)) (by omega) an ak hnl13) rfl rfl rfl rfl ?_
 conv=>cbv
 have e:(aw,true)=A3 l step:=(by rw[Kq h1 hh hcu,if_neg (by rw[←aa,ac,aj];simp;exact h12),ab,←an,←aa,ac])
 rw[hr]at e
 simp only[Prod.mk.injEq]at e
 obtain⟨rfl,rfl⟩:=e
 refine hQ _ _ ?_
 exact .many (.inl rfl) rfl rfl (.ref rfl (by rw[←ak,List.length_map];first|omega|(simp;omega)) (by rw[←ak,←hoa]) (.d rfl rfl (.nil)))
 conv=>cbv
 have e:([],false)=A3 l step:=(by rw[XcN h1 (Lj hps) (Xke (n:=43) ad h6 (by decide)) (Xke (n:=45) ad h7 (by decide)) (Xke (n:=62) ad h8 (by decide))])
 rw[hr]at e
 simp only[Prod.mk.injEq]at e
 obtain⟨rfl,rfl⟩:=e
 refine hQ _ _ ?_
 exact .many (.inl rfl) rfl rfl (.ref rfl rfl (by rw[←hoa];rfl) (.d rfl rfl (.nil)))
end
section
open Go Go.Proofs
set_option maxRecDepth 20000
set_option maxHeartbeats 4000000
def Rc:List (Nat×TyRow):=[ty3,ty9,XhE,XaP,Zr,Zd,Xai]
theorem XbC:B9 Tryz.prog Rc:=B9.of (by kernel_rfl)
theorem Ot:Setup Tryz.prog Rc:=⟨XbC,mixed⟩
theorem Xgu{a b:ByteArray}:a.toList=b.toList↔a=b:=⟨fun e=>N2 e,fun e=>by rw[e]⟩
theorem AggW.eSI{a c:ByteArray}{b d:Int}{K:Bool→Prop}(h1:a=c∧b=d→K true)(h2:¬(a=c∧b=d)→K false):AggW [.str,.int] [.d (.sc (.string a)),.d (.sc (.int .i64 b))] [.d (.sc (.string c)),.d (.sc (.int .i64 d))] K:=by
 by_cases h:a=c∧b=d
 ·refine⟨true,?_,h1 h⟩
  simp[Pq,Xlr,h.1,h.2]
 ·refine⟨false,?_,h2 h⟩
  simp only[Pq,Xlr,if_true,Option.bind_some,Option.map_some,Option.some.injEq,Bool.and_true]
  simpa[Bool.and_eq_false_iff,Xgu]using h
instance decEntry:DecidableEq Ad:=fun a b=>match a,b with
 |⟨n,i⟩,⟨m,j⟩=>decidable_of_iff (n=m∧i=j) (by simp)
def okL(l:List Ad):Prop:=∀e∈l,e.name_.size≤1000000000
def okS(l:List ByteArray):Prop:=∀s∈l,s.size≤1000000000
def J8(d:Aa):Prop:=okD d∧okL d.old_∧okS d.steps_
def F2(d:Aa):Int:=XkK (fun n:Bk=>(n.text_.size:Int)) d.nodes_
def nd(d:Aa)(i:Nat):Bk:=d.nodes_.getD i ⟨0,tx [],0⟩
def E7(d:Aa)(i:Nat):Bool:=decide ((0<i→(nd d (i - 1)).id_<(nd d i).id_)∧(1≤(nd d i).id_∧(nd d i).id_≤d.next_ - 1)∧0≤(nd d i).sure_∧(nd d i).sure_≤(nd d i).text_.size)
def Ed(d:Aa):Bool:=(List.range d.nodes_.length).all (E7 d)&&decide (d.nodes_.length≤64)
def en(l:List Ad)(i:Nat):Ad:=l.getD i ⟨tx [],0⟩
def Ft(d:Aa)(l:List Ad)(i:Nat):Bool:=(decide (i=0)|| !(ltB (en l i).name_ (en l (i - 1)).name_||decide ((en l i).name_=(en l (i - 1)).name_)))&&Bt (en l i).name_&&decide (0≤Iu d (en l i).id_)
def Br(d:Aa)(l:List Ad):Bool:=(List.range l.length).all (Ft d l)&&decide (l.length≤16)
theorem XaM{p:Nat→Bool}{n:Nat}(h:∀i,i<n→p i=true):(List.range n).all p=true:=List.all_eq_true.2 fun i hi=>h i (List.mem_range.1 hi)
theorem Xcw{p:Nat→Bool}{n i:Nat}(hi:i<n)(h:p i=false):(List.range n).all p=false:=by
 rw[Bool.eq_false_iff]
 intro ha
 have:=List.all_eq_true.1 ha i (List.mem_range.2 hi)
 rw[h]at this
 cases this
theorem Jt{d:Aa}{i:Nat}(hi:i<d.nodes_.length)(h:E7 d i=false):false=Ed d:=by unfold Ed;rw[Xcw hi h];rfl
theorem Vr{d:Aa}{b:Bool}(h:∀i,i<d.nodes_.length→E7 d i=true)(hb:b=decide (d.nodes_.length≤64)):b=Ed d:=by unfold Ed;rw[XaM h,hb];rfl
theorem On{d:Aa}{l:List Ad}{i:Nat}(hi:i<l.length)(h:Ft d l i=false):false=Br d l:=by unfold Br;rw[Xcw hi h];rfl
theorem T9{d:Aa}{l:List Ad}{b:Bool}(h:∀i,i<l.length→Ft d l i=true)(hb:b=decide (l.length≤16)):b=Br d l:=by unfold Br;rw[XaM h,hb];rfl
theorem XaB{d:Aa}{l:List Ad}(h:Br d l=true):l.length≤16:=by
 unfold Br at h
 rw[Bool.and_eq_true,decide_eq_true_eq]at h
 exact h.2
theorem XjH{d:Aa}{k:Nat}{x:Bk}(hk:k<d.nodes_.length)(h:x=d.nodes_[k]):nd d k=x:=by rw[h,gD hk];rfl
theorem Xdt{l:List Ad}{k:Nat}{x:Ad}(hk:k<l.length)(h:x=l[k]):en l k=x:=by rw[h,gD hk];rfl
def Fp(d:Aa):List Ad→List ByteArray→Bool
 |now,[]=>Br d now&&I9 now d.entries_
 |now,s::ss=>Br d now&&(A3 now s).2&&Fp d (A3 now s).1 ss
def By(d:Aa):Bool:=Bq d.room_&&Cc d.next_ 1 1000000000&&Ed d&&decide (F2 d≤d.room_)&&Fp d d.old_ d.steps_
theorem Xhr{l:List Ad}{n:ByteArray}{i:Int}(h:okL l)(hn:n.size≤1000000000):okL (Ul l n i):=by
 intro e he
 unfold Ul It at he
 split at he
 ·rename_i h0
  have hlt:=(Ik (rfl:Bc l n=_)).2
  rcases List.mem_or_eq_of_mem_set he with he|rfl
  ·exact h e he
  ·have hk:(Bc l n).toNat<l.length:=by omega
   show(l.getD (Bc l n).toNat ⟨tx [],0⟩).name_.size≤_
   rw[←gD hk]
   exact h _ (List.getElem_mem hk)
 ·simp only[List.append_assoc,List.mem_append,List.mem_cons,List.not_mem_nil,or_false,List.cons_append,List.nil_append]at he
  rcases he with he|rfl|he
  ·exact h e (List.mem_of_mem_take he)
  ·exact hn
  ·exact h e (List.mem_of_mem_drop he)
theorem Xeo{l a:List Ad}{n:ByteArray}{b:Bool}(h:okL l)(e:Gx l n=(a,b)):okL a:=by
 unfold Gx Kt at e
 split at e
 ·simp only[Prod.mk.injEq]at e
  rw[←e.1];intro x hx;cases hx
 ·simp only[Prod.mk.injEq]at e
  rw[←e.1]
  intro x hx
  exact h x (List.mem_of_mem_eraseIdx hx)
theorem Xac{l a:List Ad}{s:ByteArray}{b:Bool}(h:okL l)(hs:s.size≤1000000000)(e:A3 l s=(a,b)):okL a:=by
 have h0:∀{b:Bool},(([]:List Ad),false)=(a,b)→okL a:=fun h=>by
  simp only[Prod.mk.injEq]at h
  rw[←h.1];intro x hx;cases hx
 have hz:(s.extract 1 s.size).size≤s.size:=by rw[ByteArray.size_extract];omega
 obtain⟨x,y,c,hc⟩:∃x y c,Kw (s.extract 1 s.size)=(x,y,c):=⟨_,_,_,rfl⟩
 have hcb:=Xht hc
 unfold A3 at e
 rw[hc]at e
 split at e
 ·exact h0 e
 ·dsimp only at e
  split at e
  ·split at e
   ·exact h0 e
   ·simp only[Prod.mk.injEq]at e
    rw[←e.1]
    exact Xhr h (by omega)
  ·split at e
   ·exact Xeo h e
   ·split at e
    ·split at e
     ·exact h0 e
     ·simp only[Prod.mk.injEq]at e
      rw[←e.1]
      exact Xhr (Xeo h (b:=(Gx l x).2) rfl) (by omega)
    ·exact h0 e
variable {Ae:List Bk} {Bo Bl Bj Bn:List (List D)} {Ag Ah:List Ad} {Af:List ByteArray} {Ao An:Int} {o:Bool}
theorem XeM{o:Int}(Aj:Ae.map Bg=Bo)(Am:Ag.map Ac=Bl)(At:Ah.map Ac=Bj)(Ap:Af.map cS=Bn)(hd:okD ⟨Ae,Ag,Ah,Af,Ao,An⟩)(hr:F2 (⟨Ae,Ag,Ah,Af,Ao,An⟩:Aa)=o):Fn Tryz.prog 175 [.agg [.d (.row 3 Bo),.d (.row 2 Bl),.d (.row 2 Bj),.d (.row 1 Bn),I Ao,I An]] [] ⟨I o,[],[]⟩:=by
 refine Fn.go Ot Tryz.func175 fun P hP Q hQ=>?_
 conv=>cbv
 refine .go Aj fun v1 ag=>?_
 conv=>cbv
 refine LoopW.lp (κ:=Int×Int) Ot hP [] [7,8] (fun(i3,i9)=>[(3,I i3),(9,I i9)]) (fun(i3,i9)=>[])
  (fun(i3,i9)=>0≤i9∧i9≤Ae.length∧i3=XkK (fun n:Bk=>(n.text_.size:Int)) (Ae.take i9.toNat)∧0≤i3∧i3≤1000000000*i9)
  (fun(i3,i9)=>(Ae.length - i9).toNat) (0,0) ⟨by omega,by omega,rfl,by omega,by omega⟩ ⟨rfl,rfl,trivial⟩ rfl ?_
 rintro⟨i3,i9⟩ J ⟨h0,h1,hx,hx0,hx1⟩ hJ
 have ah:Ae.length≤1000000000:=hd.1
 have ac:∀n∈Ae,n.text_.size≤1000000000:=hd.2.1
 conv=>cbv
 refine .lss (fun h2=>?_) fun h2=>?_
 conv=>cbv
 refine .go i9.toNat Aj fun aa ⟨af,ad,ae⟩ ab=>?_
 conv=>cbv
 have hz:=ac _ (List.getElem_mem aa)
 rw[←ab]at hz
 simp only[]at hz
 refine .go fun v4 ai=>?_
 conv=>cbv
 refine .add fun v5 aj=>?_
 conv=>cbv
 refine .add fun v6 ak=>?_
 conv=>cbv
 exact .go [] (v5,v6) (hJ _ ⟨by omega,by omega,by rw[show v6.toNat=i9.toNat+1 by omega,XaO aa,←hx,←ab];simp only[];omega,by omega,by omega⟩ mlt)
 conv=>cbv
 have e:i3=F2 (⟨Ae,Ag,Ah,Af,Ao,An⟩:Aa):=(by unfold F2;rw[hx,List.take_of_length_le (by omega)])
 rw[hr]at e
 subst e
 exact hQ _ _ (.i rfl rfl)
theorem Kk:Setup Tryz.prog ((3000004,Eu Tryz.prog 3000004)::Rc):=(Setup.mark 3000004 Ot)
theorem Wc(Aj:Ae.map Bg=Bo)(Am:Ag.map Ac=Bl)(At:Ah.map Ac=Bj)(Ap:Af.map cS=Bn)(hd:okD ⟨Ae,Ag,Ah,Af,Ao,An⟩)(hx: -9223372036854775807≤An∧An≤9223372036854775807)(hr:Ed (⟨Ae,Ag,Ah,Af,Ao,An⟩:Aa)=o):Fn Tryz.prog 174 [.agg [.d (.row 3 Bo),.d (.row 2 Bl),.d (.row 2 Bj),.d (.row 1 Bn),I Ao,I An]] [] ⟨B o,[],[]⟩:=by
 refine Fn.go Kk Tryz.func174 fun P hP Q hQ=>?_
 conv=>cbv
 refine .go Aj fun v1 ax=>?_
 conv=>cbv
 refine LoopW.lp (κ:=Int) Kk hP [] [1,6,7] (fun i8=>[(8,I i8)]) (fun i8=>[])
  (fun i8=>0≤i8∧i8≤Ae.length∧∀j:Nat,j<i8.toNat→E7 (⟨Ae,Ag,Ah,Af,Ao,An⟩:Aa) j=true)
  (fun i8=>(Ae.length - i8).toNat) (0) ⟨by omega,by omega,fun j h=>by simp at h⟩ ⟨rfl,trivial⟩ rfl ?_
 rintro i8 J ⟨h0,h1,hb⟩ hJ
 have ay:Ae.length≤1000000000:=hd.1
 conv=>cbv
 refine .lss (fun h2=>?_) fun h2=>?_
 conv=>cbv
 refine .go i8.toNat Aj fun aa ⟨ad,ai,ab⟩ aj=>?_
 conv=>cbv
 have hnd:=XjH (d:=(⟨Ae,Ag,Ah,Af,Ao,An⟩:Aa)) aa aj
 refine .gtr (fun h4=>?_) fun h4=>?_
 conv=>cbv
 refine .sub fun v5 ak=>?_
 conv=>cbv
 refine .go v5.toNat Aj fun ah ⟨ar,al,am⟩ an=>?_
 conv=>cbv
 have hpd:=XjH (d:=(⟨Ae,Ag,Ah,Af,Ao,An⟩:Aa)) ah an
 rw[show v5.toNat=i8.toNat - 1 by omega]at hpd
 refine .leq (fun h7=>?_) fun h7=>?_
 conv=>cbv
 refine .go2 (by kernel_rfl) ?_
 conv=>cbv
 have e:false=Ed (⟨Ae,Ag,Ah,Af,Ao,An⟩:Aa):=(by exact Jt (d:=(⟨Ae,Ag,Ah,Af,Ao,An⟩:Aa)) aa (by unfold E7;rw[decide_eq_false_iff_not,hnd];simp only[];rw[hpd];simp only[];omega))
 rw[hr]at e
 subst e
 exact hQ _ _ (.b rfl rfl)
 conv=>cbv
 refine .sub fun v8 az=>?_
 conv=>cbv
 generalize ae:Cc ad 1 v8=r9
 refine .dd hP (Gd ae) ?_
 cases r9
 simp only[Cc,decide_eq_true_eq,decide_eq_false_iff_not]at ae
 conv=>cbv
 refine .go2 (by kernel_rfl) ?_
 conv=>cbv
 have e:false=Ed (⟨Ae,Ag,Ah,Af,Ao,An⟩:Aa):=(by exact Jt (d:=(⟨Ae,Ag,Ah,Af,Ao,An⟩:Aa)) aa (by unfold E7;rw[decide_eq_false_iff_not,hnd];simp only[];omega))
 rw[hr]at e
 subst e
 exact hQ _ _ (.b rfl rfl)
 simp only[Cc,decide_eq_true_eq,decide_eq_false_iff_not]at ae
 conv=>cbv
 refine .go fun ao au=>?_
 conv=>cbv
 generalize ac:Cc ab 0 ao=ap
 refine .dd hP (Gd ac) ?_
 cases ap
 simp only[Cc,decide_eq_true_eq,decide_eq_false_iff_not]at ac
 conv=>cbv
 refine .go2 (by kernel_rfl) ?_
 conv=>cbv
 have e:false=Ed (⟨Ae,Ag,Ah,Af,Ao,An⟩:Aa):=(by exact Jt (d:=(⟨Ae,Ag,Ah,Af,Ao,An⟩:Aa)) aa (by unfold E7;rw[decide_eq_false_iff_not,hnd];simp only[];omega))
 rw[hr]at e
 subst e
 exact hQ _ _ (.b rfl rfl)
 simp only[Cc,decide_eq_true_eq,decide_eq_false_iff_not]at ac
 conv=>cbv
 refine .go2 (by kernel_rfl) ?_
 conv=>cbv
 refine .add fun aq aw=>?_
 conv=>cbv
 exact .go [] (aq) (hJ _ ⟨by omega,by omega,fun j h=>if e:j=i8.toNat then by subst e;unfold E7;rw[decide_eq_true_eq,hnd,hpd];simp only[];omega else hb j (by omega)⟩ mlt)
 conv=>cbv
 refine .sub fun v5 ak=>?_
 conv=>cbv
 generalize af:Cc ad 1 v5=r6
 refine .dd hP (Gd af) ?_
 cases r6
 simp only[Cc,decide_eq_true_eq,decide_eq_false_iff_not]at af
 conv=>cbv
 refine .go2 (by kernel_rfl) ?_
 conv=>cbv
 have e:false=Ed (⟨Ae,Ag,Ah,Af,Ao,An⟩:Aa):=(by exact Jt (d:=(⟨Ae,Ag,Ah,Af,Ao,An⟩:Aa)) aa (by unfold E7;rw[decide_eq_false_iff_not,hnd];simp only[];omega))
 rw[hr]at e
 subst e
 exact hQ _ _ (.b rfl rfl)
 simp only[Cc,decide_eq_true_eq,decide_eq_false_iff_not]at af
 conv=>cbv
 refine .go fun v7 a1=>?_
 conv=>cbv
 generalize ag:Cc ab 0 v7=r8
 refine .dd hP (Gd ag) ?_
 cases r8
 simp only[Cc,decide_eq_true_eq,decide_eq_false_iff_not]at ag
 conv=>cbv
 refine .go2 (by kernel_rfl) ?_
 conv=>cbv
 have e:false=Ed (⟨Ae,Ag,Ah,Af,Ao,An⟩:Aa):=(by exact Jt (d:=(⟨Ae,Ag,Ah,Af,Ao,An⟩:Aa)) aa (by unfold E7;rw[decide_eq_false_iff_not,hnd];simp only[];omega))
 rw[hr]at e
 subst e
 exact hQ _ _ (.b rfl rfl)
 simp only[Cc,decide_eq_true_eq,decide_eq_false_iff_not]at ag
 conv=>cbv
 refine .go2 (by kernel_rfl) ?_
 conv=>cbv
 refine .add fun v9 a2=>?_
 conv=>cbv
 exact .go [] (v9) (hJ _ ⟨by omega,by omega,fun j h=>if e:j=i8.toNat then by subst e;unfold E7;rw[decide_eq_true_eq,hnd];simp only[];omega else hb j (by omega)⟩ mlt)
 conv=>cbv
 refine .go Aj fun v3 a6=>?_
 conv=>cbv
 refine .leq (fun h4=>?_) fun h4=>?_
 conv=>cbv
 have e:true=Ed (⟨Ae,Ag,Ah,Af,Ao,An⟩:Aa):=(by exact Vr (d:=(⟨Ae,Ag,Ah,Af,Ao,An⟩:Aa)) (fun j hj=>hb j (by simp only[]at hj;omega)) (by symm;rw[decide_eq_true_eq];simp only[];omega))
 rw[hr]at e
 subst e
 exact hQ _ _ (.b rfl rfl)
 conv=>cbv
 have e:false=Ed (⟨Ae,Ag,Ah,Af,Ao,An⟩:Aa):=(by exact Vr (d:=(⟨Ae,Ag,Ah,Af,Ao,An⟩:Aa)) (fun j hj=>hb j (by simp only[]at hj;omega)) (by symm;rw[decide_eq_false_iff_not];simp only[];omega))
 rw[hr]at e
 subst e
 exact hQ _ _ (.b rfl rfl)
theorem Ja:Setup Tryz.prog ((3000004,Eu Tryz.prog 3000004)::Rc):=(Setup.mark 3000004 Ot)
theorem Ss{list:List Ad}{xlist:List (List D)}(Aj:Ae.map Bg=Bo)(Am:Ag.map Ac=Bl)(At:Ah.map Ac=Bj)(Ap:Af.map cS=Bn)(hlist:list.map Ac=xlist)(hd:okD ⟨Ae,Ag,Ah,Af,Ao,An⟩)(hl:okL list)(hln:list.length≤1000000000)(hr:Br (⟨Ae,Ag,Ah,Af,Ao,An⟩:Aa) list=o):Fn Tryz.prog 177 [.agg [.d (.row 3 Bo),.d (.row 2 Bl),.d (.row 2 Bj),.d (.row 1 Bn),I Ao,I An],.d (.row 2 xlist)] [] ⟨B o,[],[]⟩:=by
 refine Fn.go Ja Tryz.func177 fun P hP Q hQ=>?_
 conv=>cbv
 refine .go hlist fun v1 ap=>?_
 conv=>cbv
 refine LoopW.lp (κ:=Int) Ja hP [] [1,2,7,8] (fun i9=>[(9,I i9)]) (fun i9=>[])
  (fun i9=>0≤i9∧i9≤list.length∧∀j:Nat,j<i9.toNat→Ft (⟨Ae,Ag,Ah,Af,Ao,An⟩:Aa) list j=true)
  (fun i9=>(list.length - i9).toNat) (0) ⟨by omega,by omega,fun j h=>by simp at h⟩ ⟨rfl,trivial⟩ rfl ?_
 rintro i9 J ⟨h0,h1,hb⟩ hJ
 conv=>cbv
 refine .lss (fun h2=>?_) fun h2=>?_
 conv=>cbv
 refine .go i9.toNat hlist fun aa ⟨ab,ac⟩ ah=>?_
 conv=>cbv
 have hnd:=Xdt aa ah
 have hzn:ab.size≤1000000000:=by have:=hl _ (List.getElem_mem aa);rw[←ah]at this;exact this
 refine .gtr (fun h4=>?_) fun h4=>?_
 conv=>cbv
 refine .sub fun v5 aq=>?_
 conv=>cbv
 refine .go v5.toNat hlist fun ai ⟨ak,an⟩ al=>?_
 conv=>cbv
 have hpd:=Xdt ai al
 rw[show v5.toNat=i9.toNat - 1 by omega]at hpd
 refine .leq fun b7 aj=>?_
 conv=>cbv
 cases b7
 conv=>cbv
 generalize ad:Bt ab=r8
 refine .dd hP (Mo (by omega) ad) ?_
 cases r8
 conv=>cbv
 refine .go2 (by kernel_rfl) ?_
 conv=>cbv
 have e:false=Br (⟨Ae,Ag,Ah,Af,Ao,An⟩:Aa) list:=(by exact On (d:=(⟨Ae,Ag,Ah,Af,Ao,An⟩:Aa)) aa (by unfold Ft;rw[hnd];simp only[];rw[ad,Bool.and_false];rfl))
 rw[hr]at e
 subst e
 exact hQ _ _ (.b rfl rfl)
 conv=>cbv
 generalize ae:Iu (⟨Ae,Ag,Ah,Af,Ao,An⟩:Aa) ac=r9
 refine .dd hP (Mq Aj Am At Ap (by have:=hd.1;simp only[]at this;omega) ae) ?_
 conv=>cbv
 refine .lss (fun h10=>?_) fun h10=>?_
 conv=>cbv
 refine .go2 (by kernel_rfl) ?_
 conv=>cbv
 have e:false=Br (⟨Ae,Ag,Ah,Af,Ao,An⟩:Aa) list:=(by exact On (d:=(⟨Ae,Ag,Ah,Af,Ao,An⟩:Aa)) aa (by unfold Ft;rw[hnd];simp only[];rw[ae,decide_eq_false (show¬0≤r9 by omega),Bool.and_false]))
 rw[hr]at e
 subst e
 exact hQ _ _ (.b rfl rfl)
 conv=>cbv
 refine .go2 (by kernel_rfl) ?_
 conv=>cbv
 refine .add fun am ao=>?_
 conv=>cbv
 exact .go [] (am) (hJ _ ⟨by omega,by omega,fun j h=>if e:j=i9.toNat then by subst e;unfold Ft;rw[hnd,hpd];simp only[];rw[←aj,ad,ae,decide_eq_true (show 0≤r9 by omega),decide_eq_false (show¬i9.toNat=0 by omega)];rfl else hb j (by omega)⟩ mlt)
 conv=>cbv
 refine .go2 (by kernel_rfl) ?_
 conv=>cbv
 have e:false=Br (⟨Ae,Ag,Ah,Af,Ao,An⟩:Aa) list:=(by exact On (d:=(⟨Ae,Ag,Ah,Af,Ao,An⟩:Aa)) aa (by unfold Ft;rw[hnd];simp only[];rw[hpd];simp only[];rw[←aj,decide_eq_false (show¬i9.toNat=0 by omega)];rfl))
 rw[hr]at e
 subst e
 exact hQ _ _ (.b rfl rfl)
 conv=>cbv
 generalize af:Bt ab=r5
 refine .dd hP (Mo (by omega) af) ?_
 cases r5
 conv=>cbv
 refine .go2 (by kernel_rfl) ?_
 conv=>cbv
 have e:false=Br (⟨Ae,Ag,Ah,Af,Ao,An⟩:Aa) list:=(by exact On (d:=(⟨Ae,Ag,Ah,Af,Ao,An⟩:Aa)) aa (by unfold Ft;rw[hnd];simp only[];rw[af,Bool.and_false];rfl))
 rw[hr]at e
 subst e
 exact hQ _ _ (.b rfl rfl)
 conv=>cbv
 generalize ag:Iu (⟨Ae,Ag,Ah,Af,Ao,An⟩:Aa) ac=r6
 refine .dd hP (Mq Aj Am At Ap (by have:=hd.1;simp only[]at this;omega) ag) ?_
 conv=>cbv
 refine .lss (fun h7=>?_) fun h7=>?_
 conv=>cbv
 refine .go2 (by kernel_rfl) ?_
 conv=>cbv
 have e:false=Br (⟨Ae,Ag,Ah,Af,Ao,An⟩:Aa) list:=(by exact On (d:=(⟨Ae,Ag,Ah,Af,Ao,An⟩:Aa)) aa (by unfold Ft;rw[hnd];simp only[];rw[ag,decide_eq_false (show¬0≤r6 by omega),Bool.and_false]))
 rw[hr]at e
 subst e
 exact hQ _ _ (.b rfl rfl)
 conv=>cbv
 refine .go2 (by kernel_rfl) ?_
 conv=>cbv
 refine .add fun v8 ar=>?_
 conv=>cbv
 exact .go [] (v8) (hJ _ ⟨by omega,by omega,fun j h=>if e:j=i9.toNat then by subst e;unfold Ft;rw[hnd];simp only[];rw[af,ag,decide_eq_true (show 0≤r6 by omega),decide_eq_true (show i9.toNat=0 by omega)];rfl else hb j (by omega)⟩ mlt)
 conv=>cbv
 refine .go hlist fun v3 au=>?_
 conv=>cbv
 refine .leq (fun h4=>?_) fun h4=>?_
 conv=>cbv
 have e:true=Br (⟨Ae,Ag,Ah,Af,Ao,An⟩:Aa) list:=(by exact T9 (l:=list) (fun j hj=>hb j (by omega)) (by symm;rw[decide_eq_true_eq];omega))
 rw[hr]at e
 subst e
 exact hQ _ _ (.b rfl rfl)
 conv=>cbv
 have e:false=Br (⟨Ae,Ag,Ah,Af,Ao,An⟩:Aa) list:=(by exact T9 (l:=list) (fun j hj=>hb j (by omega)) (by symm;rw[decide_eq_false_iff_not];omega))
 rw[hr]at e
 subst e
 exact hQ _ _ (.b rfl rfl)
theorem Kx{a:List Ad}{xa:List (List D)}{b:List Ad}{xb:List (List D)}(ha:a.map Ac=xa)(hb:b.map Ac=xb)(aj:a.length<2^40)(hr:I9 a b=o):Fn Tryz.prog 178 [.d (.row 2 xa),.d (.row 2 xb)] [] ⟨B o,[],[]⟩:=by
 refine Fn.go Ot Tryz.func178 fun P hP Q hQ=>?_
 conv=>cbv
 refine .go ha fun v1 ak=>?_
 conv=>cbv
 refine .go hb fun v2 al=>?_
 conv=>cbv
 refine .neq (fun h3=>?_) fun h3=>?_
 conv=>cbv
 have e:false=I9 a b:=(by unfold I9;symm;rw[decide_eq_false_iff_not];intro h;subst h;omega)
 rw[hr]at e
 subst e
 exact hQ _ _ (.b rfl rfl)
 conv=>cbv
 refine .go ha fun v4 am=>?_
 conv=>cbv
 refine LoopW.lp (κ:=Int) Ot hP [] [0,1,12] (fun aa=>[(13,I aa)]) (fun aa=>[])
  (fun aa=>0≤aa∧aa≤a.length∧∀(j:Nat) (p:j<a.length) (q:j<b.length),j<aa.toNat→a[j]=b[j])
  (fun aa=>(a.length - aa).toNat) (0) ⟨by omega,by omega,fun j p q h=>by simp at h⟩ ⟨rfl,trivial⟩ rfl ?_
 rintro aa J ⟨h0,h1,hs⟩ hJ
 conv=>cbv
 refine .lss (fun h5=>?_) fun h5=>?_
 conv=>cbv
 refine .go aa.toNat ha fun af ⟨ad,ag⟩ ab=>?_
 conv=>cbv
 refine .go aa.toNat hb fun ah ⟨ae,ai⟩ ac=>?_
 conv=>cbv
 refine .eSI (fun h8=>?_) fun h8=>?_
 conv=>cbv
 refine .add fun v9 an=>?_
 conv=>cbv
 exact .go [] (v9) (hJ _ ⟨by omega,by omega,fun j p q h=>if e:j=aa.toNat then by subst e;rw[←ab,←ac,Ad.mk.injEq];exact h8 else hs j p q (by omega)⟩ mlt)
 conv=>cbv
 have e:false=I9 a b:=(by unfold I9;symm;rw[decide_eq_false_iff_not];intro h;subst h;have:=ab.trans ac.symm;rw[Ad.mk.injEq]at this;exact h8 this)
 rw[hr]at e
 subst e
 exact hQ _ _ (.b rfl rfl)
 conv=>cbv
 have e:true=I9 a b:=(by unfold I9;symm;rw[decide_eq_true_eq];exact List.ext_getElem (show a.length=b.length by omega) fun j p q=>hs j p q (by omega))
 rw[hr]at e
 subst e
 exact hQ _ _ (.b rfl rfl)
end
section
open Go Go.Proofs
set_option maxRecDepth 20000
set_option maxHeartbeats 4000000
def Vs:List (Nat×TyRow):=[ty3,ty9,XhE,XaP,Zr,Zd,Xai]
theorem XaQ:B9 Tryz.prog Vs:=B9.of (by kernel_rfl)
theorem Jq:Setup Tryz.prog Vs:=⟨XaQ,mixed⟩
theorem Mm:∀a b:List UInt8,Op.bytesLess a b=true→Op.bytesLess b a=false
 |_,[],h=>by simp[Op.bytesLess]at h
 |[],_::_,_=>by simp[Op.bytesLess]
 |a::x,b::y,h=>by
  simp only[Op.bytesLess,Bool.or_eq_true,decide_eq_true_eq,Bool.and_eq_true,beq_iff_eq]at h
  simp only[Op.bytesLess,Bool.or_eq_false_iff,decide_eq_false_iff_not,Bool.and_eq_false_iff,beq_eq_false_iff_ne]
  rcases h with h|⟨h1,h2⟩
  ·exact⟨fun h3=>absurd (UInt8.lt_trans h h3) (UInt8.lt_irrefl _),.inl fun e=>by subst e;exact UInt8.lt_irrefl _ h⟩
  ·subst h1
   exact⟨UInt8.lt_irrefl _,.inr (Mm x y h2)⟩
theorem Vp:∀a b:List UInt8,Op.bytesLess a b=false→a≠b→Op.bytesLess b a=true
 |[],[],_,h=>absurd rfl h
 |[],_::_,h,_=>by simp[Op.bytesLess]at h
 |_::_,[],_,_=>by simp[Op.bytesLess]
 |a::x,b::y,h,hn=>by
  simp only[Op.bytesLess,Bool.or_eq_false_iff,decide_eq_false_iff_not,Bool.and_eq_false_iff,beq_eq_false_iff_ne]at h
  simp only[Op.bytesLess,Bool.or_eq_true,decide_eq_true_eq,Bool.and_eq_true,beq_iff_eq]
  by_cases e:a=b
  ·subst e
   right
   refine⟨rfl,Vp x y (h.2.resolve_left fun h=>h rfl) fun e=>hn (by rw[e])⟩
  ·left
   exact(UInt8.lt_or_lt_of_ne e).resolve_left h.1
theorem Xds(a b:ByteArray):(!(ltB a b))=(ltB b a||decide (b=a)):=by
 unfold ltB
 cases h:Op.bytesLess a.toList b.toList with
 |true=>
  rw[Mm _ _ h]
  have:¬b=a:=by
   rintro rfl
   have:=Mm _ _ h
   rw[h]at this
   cases this
  rw[decide_eq_false this];rfl
 |false=>
  by_cases e:b=a
  ·rw[decide_eq_true e,Bool.or_true];rfl
  ·rw[Vp _ _ h fun e2=>e (N2 e2.symm),decide_eq_false e];rfl
def Hp(d:Aa)(l:List Ad):Bool:=Br d l
def K8(a b:List Ad):Bool:=I9 a b
def Dz(l:List Ad)(name:ByteArray):List Ad:=l.filter fun x=>!decide (x.name_=name)
def Tw(e:Ad):List Ad→Bool→List Ad
 |[],done=>if done=true then[]else[e]
 |x::l,done=>(if done=false∧ltB x.name_ e.name_=false then[e]else[])++((if x.name_=e.name_ then[]else[x])++Tw e l (done|| !(ltB x.name_ e.name_)))
def Ec(l:List Ad)(e:Ad):List Ad:=Tw e l false
theorem O3{e x:Ad}{l:List Ad}{i:Nat}{b:Bool}{w:List Ad}{r:List Ad}(hi:i<l.length)(hx:x=l[i])(h:w++Tw e (l.drop i) b=r):
  w++((if b=false∧ltB x.name_ e.name_=false then[e]else[])++((if x.name_=e.name_ then[]else[x])++Tw e (l.drop (i+1)) (b|| !(ltB x.name_ e.name_))))=r:=by
 rw[List.drop_eq_getElem_cons hi,←hx]at h
 exact h
variable {Ae:List Bk} {Bo Bl Bj Bn xl xo:List (List D)} {Ag Ah l:List Ad} {Af:List ByteArray} {Ao An:Int} {o:Bool}
theorem XfF{o:Int}(Aj:Ae.map Bg=Bo)(Am:Ag.map Ac=Bl)(At:Ah.map Ac=Bj)(Ap:Af.map cS=Bn)(hd:okD ⟨Ae,Ag,Ah,Af,Ao,An⟩)(hr:F2 (⟨Ae,Ag,Ah,Af,Ao,An⟩:Aa)=o):Fn Tryz.prog 170 [.agg [.d (.row 3 Bo),.d (.row 2 Bl),.d (.row 2 Bj),.d (.row 1 Bn),I Ao,I An]] [] ⟨I o,[],[]⟩:=by
 refine Fn.go Jq Tryz.func170 fun P hP Q hQ=>?_
 conv=>cbv
 refine LoopW.lp (κ:=Int×Int) Jq hP [] [1] (fun(i3,i4)=>[(3,I i3),(4,I i4)]) (fun(i3,i4)=>[])
  (fun(i3,i4)=>0≤i4∧i4≤Ae.length∧i3=XkK (fun n:Bk=>(n.text_.size:Int)) (Ae.take i4.toNat)∧0≤i3∧i3≤1000000000*i4)
  (fun(i3,i4)=>(Ae.length - i4).toNat) (0,0) ⟨by omega,by omega,rfl,by omega,by omega⟩ ⟨rfl,rfl,trivial⟩ rfl ?_
 rintro⟨i3,i4⟩ J ⟨h0,h1,hx,hx0,hx1⟩ hJ
 have ag:Ae.length≤1000000000:=hd.1
 have ac:∀n∈Ae,n.text_.size≤1000000000:=hd.2.1
 conv=>cbv
 refine .go Aj fun v1 ah=>?_
 conv=>cbv
 refine .lss (fun h2=>?_) fun h2=>?_
 conv=>cbv
 refine .go i4.toNat Aj fun aa ⟨af,ad,ae⟩ ab=>?_
 conv=>cbv
 have hz:=ac _ (List.getElem_mem aa)
 rw[←ab]at hz
 simp only[]at hz
 refine .go fun v4 ai=>?_
 conv=>cbv
 refine .add fun v5 aj=>?_
 conv=>cbv
 refine .add fun v6 ak=>?_
 conv=>cbv
 exact .go [] (v5,v6) (hJ _ ⟨by omega,by omega,by rw[show v6.toNat=i4.toNat+1 by omega,XaO aa,←hx,←ab];simp only[];omega,by omega,by omega⟩ mlt)
 conv=>cbv
 have e:i3=F2 (⟨Ae,Ag,Ah,Af,Ao,An⟩:Aa):=(by unfold F2;rw[hx,List.take_of_length_le (by omega)])
 rw[hr]at e
 subst e
 exact hQ _ _ (.i rfl rfl)
theorem Ni:Setup Tryz.prog ((3000004,Eu Tryz.prog 3000004)::Vs):=(Setup.mark 3000004 Jq)
theorem XaR{list:List Ad}{xlist:List (List D)}(Aj:Ae.map Bg=Bo)(Am:Ag.map Ac=Bl)(At:Ah.map Ac=Bj)(Ap:Af.map cS=Bn)(hlist:list.map Ac=xlist)(hd:okD ⟨Ae,Ag,Ah,Af,Ao,An⟩)(hl:okL list)(hln:list.length≤1000000000)(hr:Hp (⟨Ae,Ag,Ah,Af,Ao,An⟩:Aa) list=o):Fn Tryz.prog 171 [.agg [.d (.row 3 Bo),.d (.row 2 Bl),.d (.row 2 Bj),.d (.row 1 Bn),I Ao,I An],.d (.row 2 xlist)] [] ⟨B o,[],[]⟩:=by
 refine Fn.go Ni Tryz.func171 fun P hP Q hQ=>?_
 conv=>cbv
 refine LoopW.lp (κ:=Int) Ni hP [] [1,2] (fun i5=>[(5,I i5)]) (fun i5=>[])
  (fun i5=>0≤i5∧i5≤list.length∧∀j:Nat,j<i5.toNat→Ft (⟨Ae,Ag,Ah,Af,Ao,An⟩:Aa) list j=true)
  (fun i5=>(list.length - i5).toNat) (0) ⟨by omega,by omega,fun j h=>by simp at h⟩ ⟨rfl,trivial⟩ rfl ?_
 rintro i5 J ⟨h0,h1,hb⟩ hJ
 conv=>cbv
 refine .go hlist fun v1 a2=>?_
 conv=>cbv
 refine .lss (fun h2=>?_) fun h2=>?_
 conv=>cbv
 refine .go i5.toNat hlist fun aa ⟨ab,am⟩ aj=>?_
 conv=>cbv
 have hnd:=Xdt aa aj
 have hzn:ab.size≤1000000000:=by have:=hl _ (List.getElem_mem aa);rw[←aj]at this;exact this
 generalize ag:Bt ab=r4
 refine .dd hP (M1 (by omega) ag) ?_
 cases r4
 conv=>cbv
 refine .go2 (by kernel_rfl) ?_
 conv=>cbv
 have e:false=Hp (⟨Ae,Ag,Ah,Af,Ao,An⟩:Aa) list:=(by exact On (d:=(⟨Ae,Ag,Ah,Af,Ao,An⟩:Aa)) aa (by unfold Ft;rw[hnd];simp only[];rw[ag,Bool.and_false];rfl))
 rw[hr]at e
 subst e
 exact hQ _ _ (.b rfl rfl)
 conv=>cbv
 refine .go i5.toNat hlist fun az ⟨ae,ac⟩ an=>?_
 conv=>cbv
 generalize ao:Hj (⟨Ae,Ag,Ah,Af,Ao,An⟩:Aa) ac=r6
 refine .dd hP (Q2 Aj Am At Ap (by have:=hd.1;simp only[]at this;omega) ao) ?_
 conv=>cbv
 obtain⟨rfl,rfl⟩:ae=ab∧ac=am:=by have:=an.trans aj.symm;rw[Ad.mk.injEq]at this;exact this
 have af:Iu (⟨Ae,Ag,Ah,Af,Ao,An⟩:Aa) ac=r6:=ao
 refine .lss (fun h7=>?_) fun h7=>?_
 conv=>cbv
 refine .go2 (by kernel_rfl) ?_
 conv=>cbv
 have e:false=Hp (⟨Ae,Ag,Ah,Af,Ao,An⟩:Aa) list:=(by exact On (d:=(⟨Ae,Ag,Ah,Af,Ao,An⟩:Aa)) aa (by unfold Ft;rw[hnd];simp only[];rw[af,decide_eq_false (show¬0≤r6 by omega),Bool.and_false]))
 rw[hr]at e
 subst e
 exact hQ _ _ (.b rfl rfl)
 conv=>cbv
 refine .gtr (fun h8=>?_) fun h8=>?_
 conv=>cbv
 refine .sub fun v9 ar=>?_
 conv=>cbv
 refine .go v9.toNat hlist fun ak ⟨ah,au⟩ ap=>?_
 conv=>cbv
 refine .go i5.toNat hlist fun aw ⟨ad,al⟩ aq=>?_
 conv=>cbv
 obtain⟨rfl,rfl⟩:ad=ae∧al=ac:=by have:=aq.trans an.symm;rw[Ad.mk.injEq]at this;exact this
 have hpd:=Xdt ak ap
 rw[show v9.toNat=i5.toNat - 1 by omega]at hpd
 have hgq:=(Xds ah ad).symm
 refine .geq fun ax ai=>?_
 conv=>cbv
 refine .go2 (by kernel_rfl) ?_
 conv=>cbv
 cases ax
 conv=>cbv
 refine .add fun ay a1=>?_
 conv=>cbv
 exact .go [] (ay) (hJ _ ⟨by omega,by omega,fun j h=>if e:j=i5.toNat then by subst e;unfold Ft;rw[hnd,hpd];simp only[];rw[hgq,←ai,ag,af,decide_eq_true (show 0≤r6 by omega),decide_eq_false (show¬i5.toNat=0 by omega)];rfl else hb j (by omega)⟩ mlt)
 conv=>cbv
 have e:false=Hp (⟨Ae,Ag,Ah,Af,Ao,An⟩:Aa) list:=(by exact On (d:=(⟨Ae,Ag,Ah,Af,Ao,An⟩:Aa)) aa (by unfold Ft;rw[hnd];simp only[];rw[hpd];simp only[];rw[hgq,←ai,decide_eq_false (show¬i5.toNat=0 by omega)];rfl))
 rw[hr]at e
 subst e
 exact hQ _ _ (.b rfl rfl)
 conv=>cbv
 refine .go2 (by kernel_rfl) ?_
 conv=>cbv
 refine .add fun v9 ar=>?_
 conv=>cbv
 exact .go [] (v9) (hJ _ ⟨by omega,by omega,fun j h=>if e:j=i5.toNat then by subst e;unfold Ft;rw[hnd];simp only[];rw[ag,af,decide_eq_true (show 0≤r6 by omega),decide_eq_true (show i5.toNat=0 by omega)];rfl else hb j (by omega)⟩ mlt)
 conv=>cbv
 refine .go hlist fun v3 a6=>?_
 conv=>cbv
 refine .leq (fun h4=>?_) fun h4=>?_
 conv=>cbv
 have e:true=Hp (⟨Ae,Ag,Ah,Af,Ao,An⟩:Aa) list:=(by exact T9 (l:=list) (fun j hj=>hb j (by omega)) (by symm;rw[decide_eq_true_eq];omega))
 rw[hr]at e
 subst e
 exact hQ _ _ (.b rfl rfl)
 conv=>cbv
 have e:false=Hp (⟨Ae,Ag,Ah,Af,Ao,An⟩:Aa) list:=(by exact T9 (l:=list) (fun j hj=>hb j (by omega)) (by symm;rw[decide_eq_false_iff_not];omega))
 rw[hr]at e
 subst e
 exact hQ _ _ (.b rfl rfl)
theorem XhB{a:List Ad}{xa:List (List D)}{b:List Ad}{xb:List (List D)}(ha:a.map Ac=xa)(hb:b.map Ac=xb)(ai:a.length<2^40)(hr:K8 a b=o):Fn Tryz.prog 172 [.d (.row 2 xa),.d (.row 2 xb)] [] ⟨B o,[],[]⟩:=by
 refine Fn.go Jq Tryz.func172 fun P hP Q hQ=>?_
 conv=>cbv
 refine .go ha fun v1 aj=>?_
 conv=>cbv
 refine .go hb fun v2 ak=>?_
 conv=>cbv
 refine .neq (fun h3=>?_) fun h3=>?_
 conv=>cbv
 have e:false=K8 a b:=(by unfold K8 I9;symm;rw[decide_eq_false_iff_not];intro h;subst h;omega)
 rw[hr]at e
 subst e
 exact hQ _ _ (.b rfl rfl)
 conv=>cbv
 refine LoopW.lp (κ:=Int) Jq hP [] [0,1] (fun i5=>[(5,I i5)]) (fun i5=>[])
  (fun i5=>0≤i5∧i5≤a.length∧∀(j:Nat) (p:j<a.length) (q:j<b.length),j<i5.toNat→a[j]=b[j])
  (fun i5=>(a.length - i5).toNat) (0) ⟨by omega,by omega,fun j p q h=>by simp at h⟩ ⟨rfl,trivial⟩ rfl ?_
 rintro i5 J ⟨h0,h1,hs⟩ hJ
 conv=>cbv
 refine .go ha fun v4 al=>?_
 conv=>cbv
 refine .lss (fun h5=>?_) fun h5=>?_
 conv=>cbv
 refine .go i5.toNat ha fun ae ⟨ac,af⟩ aa=>?_
 conv=>cbv
 refine .go i5.toNat hb fun ag ⟨ad,ah⟩ ab=>?_
 conv=>cbv
 refine .eSI (fun h8=>?_) fun h8=>?_
 conv=>cbv
 refine .add fun v9 am=>?_
 conv=>cbv
 exact .go [] (v9) (hJ _ ⟨by omega,by omega,fun j p q h=>if e:j=i5.toNat then by subst e;rw[←aa,←ab,Ad.mk.injEq];exact h8 else hs j p q (by omega)⟩ mlt)
 conv=>cbv
 have e:false=K8 a b:=(by unfold K8 I9;symm;rw[decide_eq_false_iff_not];intro h;subst h;have:=aa.trans ab.symm;rw[Ad.mk.injEq]at this;exact h8 this)
 rw[hr]at e
 subst e
 exact hQ _ _ (.b rfl rfl)
 conv=>cbv
 have e:true=K8 a b:=(by unfold K8 I9;symm;rw[decide_eq_true_eq];exact List.ext_getElem (show a.length=b.length by omega) fun j p q=>hs j p q (by omega))
 rw[hr]at e
 subst e
 exact hQ _ _ (.b rfl rfl)
theorem Mg{name:ByteArray}{o:List Ad}(hl:l.map Ac=xl)(hn:l.length≤4000000000)(hr:Dz l name=o)(ho:o.map Ac=xo):Fn Tryz.prog 243 [.d (.row 2 xl),S name] [] ⟨.d (.row 2 xo),[],[]⟩:=by
 refine Fn.go Jq Tryz.func243 fun P hP Q hQ=>?_
 conv=>cbv
 refine LoopW.lp (κ:=Int×(List (List D))×Nat) Jq hP [1] [0,1] (fun(i6,aa,ab)=>[(5,.ref 2 0 ab),(6,I i6)]) (fun(i6,aa,ab)=>[(2,.row 2 false aa)])
  (fun(i6,aa,ab)=>∃(w2:List Ad),w2.map Ac=aa∧ab=w2.length∧0≤i6∧i6≤l.length∧w2=(l.take i6.toNat).filter (fun x=>!decide (x.name_=name))∧w2.length≤i6)
  (fun(i6,aa,ab)=>(l.length - i6).toNat) (0,[],0) ⟨[],rfl,rfl,by omega,by omega,rfl,by simp⟩ ⟨rfl,rfl,trivial⟩ rfl ?_
 rintro⟨i6,aa,ab⟩ J ⟨w2,ac,al,h0,h1,hx,hxl⟩ hJ
 conv=>cbv
 refine .go hl fun v1 ap=>?_
 conv=>cbv
 refine .lss (fun h2=>?_) fun h2=>?_
 conv=>cbv
 refine .go i6.toNat hl fun ad ⟨ah,am⟩ ae=>?_
 conv=>cbv
 refine .neq (fun h4=>?_) fun h4=>?_
 conv=>cbv
 refine .go i6.toNat hl fun an ⟨af,ag⟩ ai=>?_
 conv=>cbv
 refine .one (⟨af,ag⟩:Ad) ac rfl fun aj z6 ao ak=>?_
 conv=>cbv
 refine .add fun v7 aq=>?_
 conv=>cbv
 exact .go [4] (v7,z6,aj) (hJ _ ⟨_,ak,Hg,by omega,by omega,by rw[show v7.toNat=i6.toNat+1 by omega,D6 ad,←hx,←ae];simp only[];rw[decide_eq_false h4,ai,←ae];rfl,by rw[List.length_append,List.length_singleton];omega⟩ mlt)
 conv=>cbv
 refine .add fun v5 ar=>?_
 conv=>cbv
 exact .go [2] (v5,aa,ab) (hJ _ ⟨_,ac,Hg,by omega,by omega,by rw[show v5.toNat=i6.toNat+1 by omega,D6 ad,←hx,←ae];simp only[];rw[decide_eq_true h4];simp,by omega⟩ mlt)
 conv=>cbv
 have e:w2=Dz l name:=(by unfold Dz;rw[hx,List.take_of_length_le (by omega)])
 rw[hr]at e
 subst e
 exact hQ _ _ (.r rfl rfl (by rw[←ac,List.length_map];first|omega|(simp;omega)) (by rw[←ac,←ho]))
theorem I1{enam:ByteArray}{eid:Int}{o:List Ad}(hl:l.map Ac=xl)(hn:l.length≤4000000000)(hr:Ec l (⟨enam,eid⟩:Ad)=o)(ho:o.map Ac=xo):Fn Tryz.prog 244 [.d (.row 2 xl),.agg [S enam,I eid]] [] ⟨.d (.row 2 xo),[],[]⟩:=by
 refine Fn.go Jq Tryz.func244 fun P hP Q hQ=>?_
 conv=>cbv
 refine LoopW.lp (κ:=Bool×Int×(List (List D))×Nat) Jq hP [2] [0,3] (fun(b6,i7,ad,ae)=>[(5,.ref 3 0 ae),(6,B b6),(7,I i7)]) (fun(b6,i7,ad,ae)=>[(3,.row 2 false ad)])
  (fun(b6,i7,ad,ae)=>∃(w3:List Ad),w3.map Ac=ad∧ae=w3.length∧0≤i7∧i7≤l.length∧w3++Tw (⟨enam,eid⟩:Ad) (l.drop i7.toNat) b6=Ec l (⟨enam,eid⟩:Ad)∧w3.length≤2*i7)
  (fun(b6,i7,ad,ae)=>(l.length - i7).toNat) (false,0,[],0) ⟨[],rfl,rfl,by omega,by omega,rfl,by simp⟩ ⟨rfl,rfl,rfl,trivial⟩ rfl ?_
 rintro⟨b6,i7,ad,ae⟩ J ⟨w3,af,be,h0,h1,hx,hxl⟩ hJ
 conv=>cbv
 refine .go hl fun v1 bo=>?_
 conv=>cbv
 refine .lss (fun h2=>?_) fun h2=>?_
 conv=>cbv
 cases b6
 conv=>cbv
 refine .go i7.toNat hl fun aq ⟨ac,ak⟩ ab=>?_
 conv=>cbv
 refine .geq fun b4 al=>?_
 conv=>cbv
 cases b4
 conv=>cbv
 refine .go i7.toNat hl fun ar ⟨aa,ag⟩ am=>?_
 conv=>cbv
 obtain⟨rfl,rfl⟩:aa=ac∧ag=ak:=by have:=am.trans ab.symm;rw[Ad.mk.injEq]at this;exact this
 refine .neq (fun h6=>?_) fun h6=>?_
 conv=>cbv
 refine .go i7.toNat hl fun bf ⟨ah,an⟩ az=>?_
 conv=>cbv
 obtain⟨rfl,rfl⟩:ah=aa∧an=ag:=by have:=az.trans am.symm;rw[Ad.mk.injEq]at this;exact this
 refine .one (⟨ah,an⟩:Ad) af rfl fun a1 z8 bg a2=>?_
 conv=>cbv
 refine .add fun v9 bp=>?_
 conv=>cbv
 have hlt:ltB ah enam=true:=by simpa using al
 have hps:=O3 (show i7.toNat<l.length by omega) ab hx
 simp only[]at hps
 rw[hlt,if_neg (by simp),if_neg h6,List.nil_append,←List.append_assoc]at hps
 exact .go [5] (false,v9,z8,a1) (hJ _ ⟨_,a2,Hg,by omega,by omega,by rw[show v9.toNat=i7.toNat+1 by omega];exact hps,by first|omega|(simp;omega)⟩ mlt)
 conv=>cbv
 refine .add fun v7 a6=>?_
 conv=>cbv
 have hlt:ltB aa enam=true:=by simpa using al
 have hps:=O3 (show i7.toNat<l.length by omega) ab hx
 simp only[]at hps
 rw[hlt,if_neg (by simp),if_pos h6,List.nil_append,List.nil_append]at hps
 exact .go [3] (false,v7,ad,ae) (hJ _ ⟨_,af,Hg,by omega,by omega,by rw[show v7.toNat=i7.toNat+1 by omega];exact hps,by first|omega|(simp;omega)⟩ mlt)
 conv=>cbv
 refine .one (⟨enam,eid⟩:Ad) af rfl fun a7 z5 bh au=>?_
 conv=>cbv
 refine .go i7.toNat hl fun bi ⟨ai,ao⟩ aw=>?_
 conv=>cbv
 obtain⟨rfl,rfl⟩:ai=ac∧ao=ak:=by have:=aw.trans ab.symm;rw[Ad.mk.injEq]at this;exact this
 refine .neq (fun h7=>?_) fun h7=>?_
 conv=>cbv
 refine .go i7.toNat hl fun bj ⟨aj,ap⟩ a8=>?_
 conv=>cbv
 obtain⟨rfl,rfl⟩:aj=ai∧ap=ao:=by have:=a8.trans aw.symm;rw[Ad.mk.injEq]at this;exact this
 refine .one (⟨aj,ap⟩:Ad) au rfl fun ba z9 bk bb=>?_
 conv=>cbv
 refine .add fun ax bl=>?_
 conv=>cbv
 have hlt:ltB aj enam=false:=by simpa using al
 have hps:=O3 (show i7.toNat<l.length by omega) ab hx
 simp only[]at hps
 rw[hlt,if_pos (by simp),if_neg h7,←List.append_assoc,←List.append_assoc]at hps
 exact .go [7] (true,ax,z9,ba) (hJ _ ⟨_,bb,Hg,by omega,by omega,by rw[show ax.toNat=i7.toNat+1 by omega];exact hps,by first|omega|(simp;omega)⟩ mlt)
 conv=>cbv
 refine .add fun v8 bq=>?_
 conv=>cbv
 have hlt:ltB ai enam=false:=by simpa using al
 have hps:=O3 (show i7.toNat<l.length by omega) ab hx
 simp only[]at hps
 rw[hlt,if_pos (by simp),if_pos h7,List.nil_append,←List.append_assoc]at hps
 exact .go [5] (true,v8,z5,a7) (hJ _ ⟨_,au,Hg,by omega,by omega,by rw[show v8.toNat=i7.toNat+1 by omega];exact hps,by first|omega|(simp;omega)⟩ mlt)
 conv=>cbv
 refine .go i7.toNat hl fun aq ⟨ac,ak⟩ ab=>?_
 conv=>cbv
 refine .neq (fun h4=>?_) fun h4=>?_
 conv=>cbv
 refine .go i7.toNat hl fun ar ⟨aa,ag⟩ am=>?_
 conv=>cbv
 obtain⟨rfl,rfl⟩:aa=ac∧ag=ak:=by have:=am.trans ab.symm;rw[Ad.mk.injEq]at this;exact this
 refine .one (⟨aa,ag⟩:Ad) af rfl fun bc z6 bm bd=>?_
 conv=>cbv
 refine .add fun v7 a6=>?_
 conv=>cbv
 have hps:=O3 (show i7.toNat<l.length by omega) ab hx
 simp only[]at hps
 rw[if_neg (by simp),if_neg h4,List.nil_append,←List.append_assoc]at hps
 exact .go [5] (true,v7,z6,bc) (hJ _ ⟨_,bd,Hg,by omega,by omega,by rw[show v7.toNat=i7.toNat+1 by omega];exact hps,by first|omega|(simp;omega)⟩ mlt)
 conv=>cbv
 refine .add fun v5 bt=>?_
 conv=>cbv
 have hps:=O3 (show i7.toNat<l.length by omega) ab hx
 simp only[]at hps
 rw[if_neg (by simp),if_pos h4,List.nil_append,List.nil_append]at hps
 exact .go [3] (true,v5,ad,ae) (hJ _ ⟨_,af,Hg,by omega,by omega,by rw[show v5.toNat=i7.toNat+1 by omega];exact hps,by first|omega|(simp;omega)⟩ mlt)
 conv=>cbv
 cases b6
 conv=>cbv
 refine .one (⟨enam,eid⟩:Ad) af rfl fun bu z3 bn ay=>?_
 conv=>cbv
 have e:(w3++[(⟨enam,eid⟩:Ad)])=Ec l (⟨enam,eid⟩:Ad):=(by rw[List.drop_of_length_le (by omega)]at hx;exact hx)
 rw[hr]at e
 subst e
 exact hQ _ _ (.r rfl rfl (by rw[←ay,List.length_map];first|omega|(simp;omega)) (by rw[←ay,←ho]))
 conv=>cbv
 have e:w3=Ec l (⟨enam,eid⟩:Ad):=(by rw[List.drop_of_length_le (by omega)]at hx;simpa[Tw]using hx)
 rw[hr]at e
 subst e
 exact hQ _ _ (.r rfl rfl (by rw[←af,List.length_map];first|omega|(simp;omega)) (by rw[←af,←ho]))
end
section
open Go Go.Proofs
set_option maxRecDepth 20000
set_option maxHeartbeats 4000000
def Wn:List (Nat×TyRow):=[ty3,ty9,Xcn,XaP,Zr]
theorem Xc6:B9 Tryz.prog Wn:=B9.of (by kernel_rfl)
theorem XjG:Setup Tryz.prog Wn:=⟨Xc6,mixed⟩
theorem diskOk_iff{d:Aa}:By d=true↔(0≤d.room_∧d.room_≤1000000000)∧(1≤d.next_∧d.next_≤1000000000)∧Ed d=true∧F2 d≤d.room_∧Fp d d.old_ d.steps_=true:=by
 unfold By Bq Cc
 simp only[Bool.and_eq_true,decide_eq_true_eq,and_assoc]
theorem D2{d:Aa}(h:¬By d=true):false=By d:=by
 symm
 rw[Bool.eq_false_iff]
 exact h
theorem Yv{d:Aa}{now:List Ad}{l:List ByteArray}(h:Br d now=false):Fp d now l=false:=by
 cases l with
 |nil=>unfold Fp;rw[h];rfl
 |cons=>unfold Fp;rw[h];rfl
def Mw:List Ad→List ByteArray→List Ad×Bool
 |now,[]=>(now,true)
 |now,s::ss=>if(A3 now s).2=false then([],false)else Mw (A3 now s).1 ss
theorem Tt:Setup Tryz.prog ((3000001,Eu Tryz.prog 3000001)::Wn):=(Setup.mark 3000001 XjG)
theorem Pn{Ae:List Bk}{Bo:List (List D)}{Ag:List Ad}{Bl:List (List D)}{Ah:List Ad}{Bj:List (List D)}{Af:List ByteArray}{Bn:List (List D)}{Ao:Int}{An:Int}{o:Bool}(Aj:Ae.map Bg=Bo)(Am:Ag.map Ac=Bl)(At:Ah.map Ac=Bj)(Ap:Af.map cS=Bn)(ab:J8 ⟨Ae,Ag,Ah,Af,Ao,An⟩)(hr:By (⟨Ae,Ag,Ah,Af,Ao,An⟩:Aa)=o):Fn Tryz.prog 87 [.agg [.d (.row 3 Bo),.d (.row 2 Bl),.d (.row 2 Bj),.d (.row 1 Bn),I Ao,I An]] [] ⟨B o,[],[]⟩:=by
 refine Fn.go Tt Tryz.func87 fun P hP Q hQ=>?_
 conv=>cbv
 generalize ad:Bq Ao=r1
 refine .dd hP (Fq ad) ?_
 cases r1
 simp only[Bq,decide_eq_true_eq,decide_eq_false_iff_not]at ad
 conv=>cbv
 refine .go2 (by kernel_rfl) ?_
 conv=>cbv
 have e:false=By (⟨Ae,Ag,Ah,Af,Ao,An⟩:Aa):=(by exact D2 fun h=>by rw[diskOk_iff]at h;exact ad h.1)
 rw[hr]at e
 subst e
 exact hQ _ _ (.b rfl rfl)
 simp only[Bq,decide_eq_true_eq,decide_eq_false_iff_not]at ad
 conv=>cbv
 generalize ae:Cc An 1 1000000000=r2
 refine .dd hP (Gd ae) ?_
 cases r2
 simp only[Cc,decide_eq_true_eq,decide_eq_false_iff_not]at ae
 conv=>cbv
 refine .go2 (by kernel_rfl) ?_
 conv=>cbv
 have e:false=By (⟨Ae,Ag,Ah,Af,Ao,An⟩:Aa):=(by exact D2 fun h=>by rw[diskOk_iff]at h;exact ae h.2.1)
 rw[hr]at e
 subst e
 exact hQ _ _ (.b rfl rfl)
 simp only[Cc,decide_eq_true_eq,decide_eq_false_iff_not]at ae
 conv=>cbv
 generalize am:Ed (⟨Ae,Ag,Ah,Af,Ao,An⟩:Aa)=r3
 refine .dd hP (Wc Aj Am At Ap ab.1 (by omega) am) ?_
 cases r3
 conv=>cbv
 refine .go2 (by kernel_rfl) ?_
 conv=>cbv
 have e:false=By (⟨Ae,Ag,Ah,Af,Ao,An⟩:Aa):=(by exact D2 fun h=>by rw[diskOk_iff]at h;have:=h.2.2.1;rw[am]at this;cases this)
 rw[hr]at e
 subst e
 exact hQ _ _ (.b rfl rfl)
 conv=>cbv
 generalize an:F2 (⟨Ae,Ag,Ah,Af,Ao,An⟩:Aa)=r4
 refine .dd hP (XeM Aj Am At Ap ab.1 an) ?_
 conv=>cbv
 refine .gtr (fun h5=>?_) fun h5=>?_
 conv=>cbv
 refine .go2 (by kernel_rfl) ?_
 conv=>cbv
 have e:false=By (⟨Ae,Ag,Ah,Af,Ao,An⟩:Aa):=(by exact D2 fun h=>by rw[diskOk_iff]at h;have:=h.2.2.2.1;rw[an]at this;simp only[]at this;omega)
 rw[hr]at e
 subst e
 exact hQ _ _ (.b rfl rfl)
 conv=>cbv
 refine .go2 (by kernel_rfl) ?_
 conv=>cbv
 have hdo:Ah.length≤1000000000:=ab.1.2.2.2.2.1
 have hds:Af.length≤1000000000:=ab.1.2.2.2.2.2
 generalize aq:D9 Ah=l6
 generalize ar:l6.map Ac=az
 refine .dd hP (C4 At (by omega) aq ar) ?_
 conv=>cbv
 have af:l6=Ah:=aq.symm
 refine LoopW.lp (κ:=(List (List D))×Int) Tt hP [] [1] (fun(ac,i4)=>[(3,.d (.row 2 ac)),(4,I i4)]) (fun(ac,i4)=>[])
  (fun(ac,i4)=>∃(u3:List Ad),u3.map Ac=ac∧0≤i4∧i4≤Af.length∧Fp (⟨Ae,Ag,Ah,Af,Ao,An⟩:Aa) Ah Af=Fp (⟨Ae,Ag,Ah,Af,Ao,An⟩:Aa) u3 (Af.drop i4.toNat)∧okL u3∧u3.length≤1000000000)
  (fun(ac,i4)=>(Af.length - i4).toNat) (az,0) ⟨l6,ar,by omega,by omega,by rw[af];rfl,by rw[af];exact ab.2.1,by rw[af];omega⟩ ⟨rfl,rfl,trivial⟩ rfl ?_
 rintro⟨ac,i4⟩ J ⟨u3,ao,h0,h1,hio,hul,hun⟩ hJ
 conv=>cbv
 generalize ag:Br (⟨Ae,Ag,Ah,Af,Ao,An⟩:Aa) u3=r7
 refine .dd hP (Ss Aj Am At Ap ao ab.1 hul (by omega) ag) ?_
 cases r7
 conv=>cbv
 have e:false=By (⟨Ae,Ag,Ah,Af,Ao,An⟩:Aa):=(by exact D2 fun h=>by rw[diskOk_iff]at h;have hk:=h.2.2.2.2;simp only[]at hk;rw[hio]at hk;rw[Yv ag]at hk;cases hk)
 rw[hr]at e
 subst e
 exact hQ _ _ (.b rfl rfl)
 conv=>cbv
 have a2:=XaB ag
 refine .go Ap fun v8 a7=>?_
 conv=>cbv
 refine .eql (fun h9=>?_) fun h9=>?_
 conv=>cbv
 generalize ah:I9 u3 Ag=a1
 refine .dd hP (Kx ao Am (by omega) ah) ?_
 cases a1
 conv=>cbv
 have e:false=By (⟨Ae,Ag,Ah,Af,Ao,An⟩:Aa):=(by exact D2 fun h=>by rw[diskOk_iff]at h;have hk:=h.2.2.2.2;simp only[]at hk;rw[hio]at hk;rw[List.drop_of_length_le (by omega)]at hk;unfold Fp at hk;rw[ah,Bool.and_false]at hk;cases hk)
 rw[hr]at e
 subst e
 exact hQ _ _ (.b rfl rfl)
 conv=>cbv
 have e:true=By (⟨Ae,Ag,Ah,Af,Ao,An⟩:Aa):=(by symm;rw[diskOk_iff];refine⟨ad,ae,am,by rw[an];exact h5,?_⟩;simp only[];rw[hio,List.drop_of_length_le (by omega)];unfold Fp;rw[ag,ah];rfl)
 rw[hr]at e
 subst e
 exact hQ _ _ (.b rfl rfl)
 conv=>cbv
 refine .go i4.toNat Ap fun ai aj al=>?_
 conv=>cbv
 have au:aj.size≤1000000000:=al▸ab.2.2 _ (List.getElem_mem ai)
 have hdc:Af.drop i4.toNat=aj::Af.drop (i4.toNat+1):=by rw[List.drop_eq_getElem_cons ai,←al]
 rw[hdc]at hio
 rcases aa:A3 u3 aj with⟨aw,ax⟩
 generalize ak:aw.map Ac=ap
 refine .dd hP (Ta ao (by omega) (by omega) aa ak) ?_
 conv=>cbv
 have hsl:=Rm aa
 have hso:=Xac hul au aa
 cases ax
 conv=>cbv
 have e:false=By (⟨Ae,Ag,Ah,Af,Ao,An⟩:Aa):=(by exact D2 fun h=>by rw[diskOk_iff]at h;have hk:=h.2.2.2.2;simp only[]at hk;rw[hio]at hk;unfold Fp at hk;rw[aa,Bool.and_false]at hk;cases hk)
 rw[hr]at e
 subst e
 exact hQ _ _ (.b rfl rfl)
 conv=>cbv
 refine .add fun ay a6=>?_
 conv=>cbv
 exact .go [] (ap,ay) (hJ _ ⟨_,ak,by omega,by omega,by rw[hio,show ay.toNat=i4.toNat+1 by omega];show(Br _ _&&(A3 u3 aj).2&&Fp _ (A3 u3 aj).1 _)=_;rw[ag,aa];rfl,hso,by omega⟩ mlt)
end
section
open Go Go.Proofs
set_option maxRecDepth 20000
set_option maxHeartbeats 4000000
def Wz:List (Nat×TyRow):=[ty3,ty5,ty9]
theorem Xbg:B9 Tryz.prog Wz:=B9.of (by kernel_rfl)
theorem Xjm:Setup Tryz.prog Wz:=⟨Xbg,mixed⟩
theorem M3{a b:ByteArray}(h:a.data.toList=b.data.toList):a=b:=ByteArray.ext (Array.toList_inj.1 h)
theorem Dq(s:ByteArray)(a b:Nat):(s.extract a b).data.toList=(s.data.toList.take b).drop a:=by
 rw[ByteArray.data_extract,Array.toList_extract,List.extract_eq_take_drop,List.drop_take]
theorem Nz{c:UInt8}:∀(l:List UInt8) (k:Nat),l[k]? =some c→(∀j,j<k→∀x,l[j]? =some x→x≠c)→Lib.indexByte l c=k
 |[],k,h,_=>by simp at h
 |b::l,0,h,_=>by
  simp at h
  simp[Lib.indexByte,h]
 |b::l,k+1,h,hb=>by
  have h0:=hb 0 (by omega) b rfl
  have ih:=Nz l k (by simpa using h) (fun j hj x hx=>hb (j+1) (by omega) x (by simpa using hx))
  unfold Lib.indexByte
  rw[if_neg (by simpa using h0),ih,if_neg (by simp)]
  omega
theorem Tl{c:UInt8}:∀(l:List UInt8),(∀(j:Nat) x,l[j]? =some x→x≠c)→Lib.indexByte l c= -1
 |[],_=>rfl
 |b::l,hb=>by
  have h0:=hb 0 b rfl
  have ih:=Tl l (fun j x hx=>hb (j+1) x (by simpa using hx))
  unfold Lib.indexByte
  rw[if_neg (by simpa using h0),ih,if_pos (by rfl)]
theorem u8_58{x:UInt8}:x≠58↔x.toNat≠58:=⟨fun h e=>h (UInt8.toNat_inj.1 e),fun h e=>h (by rw[e];rfl)⟩
theorem Xfr{s:ByteArray}{j:Nat}{x:UInt8}(h:(s.extract 1 s.size).data.toList[j]? =some x):∃hj:j+1<s.size,s[j+1]=x:=by
 rw[Dq,List.getElem?_drop,List.take_of_length_le (by rw[Array.length_toList];exact Nat.le_refl _)]at h
 have hl:1+j<s.size:=by
  have:=(List.getElem?_eq_some_iff.1 h).1
  rwa[Array.length_toList]at this
 refine⟨by omega,?_⟩
 rw[show 1+j=j+1 by omega,M8 (show j+1<s.size by omega)]at h
 exact Option.some.inj h
theorem Sy{s:ByteArray}{i:Nat}(h1:1≤i)(hi:i<s.size)(h:(s[i]).toNat=58)(hb:∀j,1≤j→j<i→∀hj:j<s.size,(s[j]).toNat≠58):Kw (s.extract 1 s.size)=(s.extract 1 i,s.extract (i+1) s.size,true):=by
 obtain⟨k,rfl⟩:∃k,i=k+1:=⟨i - 1,by omega⟩
 have hsz:(s.extract 1 s.size).size=s.size - 1:=by rw[ByteArray.size_extract];omega
 have e:Jf (s.extract 1 s.size)=(k:Int):=by
  refine Nz _ k ?_ ?_
  ·rw[Dq,List.getElem?_drop,List.take_of_length_le (by rw[Array.length_toList];exact Nat.le_refl _),show 1+k=k+1 by omega,M8 hi]
   exact congrArg some (UInt8.toNat_inj.1 h)
  ·intro j hj x hx
   obtain⟨aa,rfl⟩:=Xfr hx
   exact u8_58.2 (hb (j+1) (by omega) (by omega) aa)
 unfold Kw
 rw[e,if_pos (by omega),Int.toNat_natCast,hsz]
 have a1:(s.extract 1 s.size).extract 0 k=s.extract 1 (k+1):=by
  apply M3
  rw[Dq,Dq,Dq,List.drop_zero,List.take_of_length_le (l:=s.data.toList) (by rw[Array.length_toList];exact Nat.le_refl _),List.drop_take,Nat.add_sub_cancel]
 have a2:(s.extract 1 s.size).extract (k+1) (s.size - 1)=s.extract (k+1+1) s.size:=by
  apply M3
  rw[Dq,Dq,Dq,List.take_of_length_le (l:=s.data.toList) (by rw[Array.length_toList];exact Nat.le_refl _),List.take_of_length_le (by rw[List.length_drop,Array.length_toList];exact Nat.le_refl _),List.drop_drop]
  congr 1
  omega
 rw[a1,a2]
theorem Xjw{s:ByteArray}(hb:∀j,1≤j→∀hj:j<s.size,(s[j]).toNat≠58):(Kw (s.extract 1 s.size)).2.2=false:=by
 have e:Jf (s.extract 1 s.size)= -1:=by
  refine Tl _ ?_
  intro j x hx
  obtain⟨aa,rfl⟩:=Xfr hx
  exact u8_58.2 (hb (j+1) (by omega) aa)
 unfold Kw
 rw[e,if_neg (by omega)]
def B6(s:ByteArray):ByteArray×ByteArray×Int×Bool:=
 if s.size<2∨(s.data.toList.head?≠some 43∧s.data.toList.head?≠some 45∧s.data.toList.head?≠some 62)then(tx [],tx [],0,false)
 else if s.data.toList.head?=some 45 then(s.extract 1 s.size,tx [],0,true)
 else if(Kw (s.extract 1 s.size)).2.2=false then(tx [],tx [],0,false)
 else if s.data.toList.head?=some 62 then((Kw (s.extract 1 s.size)).1,(Kw (s.extract 1 s.size)).2.1,0,Bt (Kw (s.extract 1 s.size)).2.1&& !decide ((Kw (s.extract 1 s.size)).1=(Kw (s.extract 1 s.size)).2.1))
 else((Kw (s.extract 1 s.size)).1,tx [],(Bi (Kw (s.extract 1 s.size)).2.1).1,(Bi (Kw (s.extract 1 s.size)).2.1).2&&Bt (Kw (s.extract 1 s.size)).1)
theorem Ki{s:ByteArray}{v:Int}{n:Nat}(h0:0<s.size)(hv:v=((s[0]).toNat:Int))(h:v≠(n:Int))(hn:n<256):s.data.toList.head?≠some (UInt8.ofNat n):=by
 rw[Lj h0]
 intro e
 exact Xke hv h hn (Option.some.inj e)
theorem Lw{s:ByteArray}{v:Int}{n:Nat}(h0:0<s.size)(hv:v=((s[0]).toNat:Int))(h:v=(n:Int))(hn:n<256):s.data.toList.head?=some (UInt8.ofNat n):=(Lj h0).trans (congrArg some (Xjq hv h hn))
section
variable {s a b:ByteArray}
theorem Xe(h:s.size<2∨(s.data.toList.head?≠some 43∧s.data.toList.head?≠some 45∧s.data.toList.head?≠some 62)):(tx [],tx [],0,false)=B6 s:=by unfold B6;rw[if_pos h]
theorem Xa9(h2:2≤s.size)(h:s.data.toList.head?=some 45):(s.extract 1 s.size,tx [],0,true)=B6 s:=by
 unfold B6
 rw[if_neg (by rw[h];rintro(h|h);omega;exact h.2.1 rfl),if_pos h]
theorem Zu(h2:2≤s.size)(hh:s.data.toList.head?=some 43∨s.data.toList.head?=some 45∨s.data.toList.head?=some 62)(h45:s.data.toList.head?≠some 45)(hc:(Kw (s.extract 1 s.size)).2.2=false):(tx [],tx [],0,false)=B6 s:=by
 unfold B6
 rw[if_neg (by rintro(h|⟨k1,k2,k3⟩);omega;rcases hh with h|h|h;exact k1 h;exact k2 h;exact k3 h),if_neg h45,if_pos hc]
theorem T8(h2:2≤s.size)(h:s.data.toList.head?=some 62)(hc:Kw (s.extract 1 s.size)=(a,b,true)):B6 s=(a,b,0,Bt b&& !decide (a=b)):=by
 unfold B6
 rw[if_neg (by rw[h];rintro(h|h);omega;exact h.2.2 rfl),if_neg (by rw[h];decide),hc,if_neg (by simp),if_pos h]
theorem T7(h2:2≤s.size)(h:s.data.toList.head?=some 43)(hc:Kw (s.extract 1 s.size)=(a,b,true)):B6 s=(a,tx [],(Bi b).1,(Bi b).2&&Bt a):=by
 unfold B6
 rw[if_neg (by rw[h];rintro(h|h);omega;exact h.1 rfl),if_neg (by rw[h];decide),hc,if_neg (by simp),if_neg (by rw[h];decide)]
end
theorem Mt:Setup Tryz.prog ((3000009,Eu Tryz.prog 3000009)::((3000012,Eu Tryz.prog 3000012)::((1000026,Eu Tryz.prog 1000026)::Wz))):=(Setup.mark 3000009 (Setup.mark 3000012 (Setup.mark 1000026 Xjm)))
theorem Xhk{step:ByteArray}{oa:ByteArray}{ob:ByteArray}{oc:Int}{od:Bool}(hs:step.size≤1000000000)(hr:B6 step=(oa,ob,oc,od)):Fn Tryz.prog 241 [S step] [] ⟨.tup [S oa,S ob,I oc,B od],[],[]⟩:=by
 refine Fn.go Mt Tryz.func241 fun P hP Q hQ=>?_
 conv=>cbv
 refine JoinW.jn (κ:=Unit) Mt hP [] [0] (fun()=>[]) (fun()=>[])
  (fun()=>2≤step.size∧(step.data.toList.head?=some 43∨step.data.toList.head?=some 45∨step.data.toList.head?=some 62)) (fun Jj hJj=>?_) ?_
 conv=>cbv
 refine .go fun v1 an=>?_
 conv=>cbv
 refine .lss (fun h2=>?_) fun h2=>?_
 conv=>cbv
 have e:((tx []),(tx []),0,false)=B6 step:=(by exact Xe (.inl (by omega)))
 rw[hr]at e
 simp only[Prod.mk.injEq]at e
 obtain⟨rfl,rfl,rfl,rfl⟩:=e
 refine hQ _ _ ?_
 exact .many (.inl rfl) rfl rfl (.d rfl rfl (.d rfl rfl (.d rfl rfl (.d rfl rfl (.nil)))))
 conv=>cbv
 refine .go 0 fun hjv3 v3 aw bv3=>?_
 conv=>cbv
 refine .neq (fun h4=>?_) fun h4=>?_
 conv=>cbv
 refine .go 0 fun hjv5 v5 ax bv5=>?_
 conv=>cbv
 refine .neq (fun h6=>?_) fun h6=>?_
 conv=>cbv
 refine .go 0 fun hjv7 v7 ac bv7=>?_
 conv=>cbv
 refine .neq (fun h8=>?_) fun h8=>?_
 conv=>cbv
 have e:((tx []),(tx []),0,false)=B6 step:=(by exact Xe (.inr ⟨(Ki (n:=43) (show 0<step.size by omega) aw (by omega) (by decide)),(Ki (n:=45) (show 0<step.size by omega) ax (by omega) (by decide)),(Ki (n:=62) (show 0<step.size by omega) ac (by omega) (by decide))⟩))
 rw[hr]at e
 simp only[Prod.mk.injEq]at e
 obtain⟨rfl,rfl,rfl,rfl⟩:=e
 refine hQ _ _ ?_
 exact .many (.inl rfl) rfl rfl (.d rfl rfl (.d rfl rfl (.d rfl rfl (.d rfl rfl (.nil)))))
 conv=>cbv
 exact .go [] (()) (hJj _ ⟨by omega,.inr (.inr (Lw (n:=62) (show 0<step.size by omega) ac (by omega) (by decide)))⟩)
 conv=>cbv
 exact .go [] (()) (hJj _ ⟨by omega,.inr (.inl (Lw (n:=45) (show 0<step.size by omega) ax (by omega) (by decide)))⟩)
 conv=>cbv
 exact .go [] (()) (hJj _ ⟨by omega,.inl (Lw (n:=43) (show 0<step.size by omega) aw (by omega) (by decide))⟩)
 rintro⟨⟩ ⟨ag,hh0⟩
 conv=>cbv
 refine .go 0 fun hjv1 v1 an bv1=>?_
 conv=>cbv
 refine .eql (fun h2=>?_) fun h2=>?_
 conv=>cbv
 refine .lo fun s3 bj=>?_
 conv=>cbv
 have e:(s3,(tx []),0,true)=B6 step:=(by rw[bj];exact Xa9 ag (Lw (n:=45) (show 0<step.size by omega) an (by omega) (by decide)))
 rw[hr]at e
 simp only[Prod.mk.injEq]at e
 obtain⟨rfl,rfl,rfl,rfl⟩:=e
 refine hQ _ _ ?_
 exact .many (.inl rfl) rfl rfl (.d rfl rfl (.d rfl rfl (.d rfl rfl (.d rfl rfl (.nil)))))
 conv=>cbv
 refine LoopW.lp (κ:=Int) Mt hP [] [0] (fun i6=>[(6,I i6)]) (fun i6=>[])
  (fun i6=>1≤i6∧i6≤step.size∧∀j,1≤j→j<i6.toNat→∀hj:j<step.size,(step[j]).toNat≠58)
  (fun i6=>(step.size - i6).toNat) (1) ⟨by omega,by omega,fun j h1 h2=>by omega⟩ ⟨rfl,trivial⟩ rfl ?_
 rintro i6 J1 ⟨h0,h1,hb⟩ bk
 conv=>cbv
 refine .go fun v3 aw=>?_
 conv=>cbv
 refine .lss (fun h4=>?_) fun h4=>?_
 conv=>cbv
 refine .go i6.toNat fun hjv5 v5 ax bv5=>?_
 conv=>cbv
 refine .eql (fun h6=>?_) fun h6=>?_
 conv=>cbv
 refine .go 0 fun hjv7 v7 ac bv7=>?_
 conv=>cbv
 refine .eql (fun h8=>?_) fun h8=>?_
 conv=>cbv
 refine .lohi fun s9 ay=>?_
 conv=>cbv
 refine .add fun az bm=>?_
 conv=>cbv
 refine .lo fun a1 ao=>?_
 conv=>cbv
 refine .add fun a2 bn=>?_
 conv=>cbv
 refine .lo fun ah ad=>?_
 conv=>cbv
 have bb:ah.size≤step.size:=by rw[ad,ByteArray.size_extract];omega
 generalize aa:Bt ah=a6
 refine .dd hP (M1 (by omega) aa) ?_
 cases a6
 conv=>cbv
 refine .go2 (by kernel_rfl) ?_
 conv=>cbv
 have e:(s9,a1,0,false)=B6 step:=(by have hm:=T8 ag (Lw (n:=62) (show 0<step.size by omega) ac (by omega) (by decide)) (Sy (s:=step) (i:=i6.toNat) (by omega) (by omega) (by omega) hb);have ai:ah=step.extract (i6.toNat+1) step.size:=(by rw[ad,show a2.toNat=i6.toNat+1 by omega]);rw[ai]at aa;rw[hm,ay,ao,aa,show az.toNat=i6.toNat+1 by omega];rfl)
 rw[hr]at e
 simp only[Prod.mk.injEq]at e
 obtain⟨rfl,rfl,rfl,rfl⟩:=e
 refine hQ _ _ ?_
 exact .many (.inl rfl) rfl rfl (.d rfl rfl (.d rfl rfl (.d rfl rfl (.d rfl rfl (.nil)))))
 conv=>cbv
 refine .lohi fun a7 ae=>?_
 conv=>cbv
 refine .add fun bc bo=>?_
 conv=>cbv
 refine .lo fun bv au=>?_
 conv=>cbv
 refine .neq (fun h18=>?_) fun h18=>?_
 conv=>cbv
 refine .go2 (by kernel_rfl) ?_
 conv=>cbv
 have e:(s9,a1,0,true)=B6 step:=(by have hm:=T8 ag (Lw (n:=62) (show 0<step.size by omega) ac (by omega) (by decide)) (Sy (s:=step) (i:=i6.toNat) (by omega) (by omega) (by omega) hb);have ai:ah=step.extract (i6.toNat+1) step.size:=(by rw[ad,show a2.toNat=i6.toNat+1 by omega]);rw[ai]at aa;rw[hm,ay,ao,aa,show az.toNat=i6.toNat+1 by omega,decide_eq_false (show¬step.extract 1 i6.toNat=step.extract (i6.toNat+1) step.size from fun e=>h18 (by rw[ae,au,show bc.toNat=i6.toNat+1 by omega];exact e))];rfl)
 rw[hr]at e
 simp only[Prod.mk.injEq]at e
 obtain⟨rfl,rfl,rfl,rfl⟩:=e
 refine hQ _ _ ?_
 exact .many (.inl rfl) rfl rfl (.d rfl rfl (.d rfl rfl (.d rfl rfl (.d rfl rfl (.nil)))))
 conv=>cbv
 refine .go2 (by kernel_rfl) ?_
 conv=>cbv
 have e:(s9,a1,0,false)=B6 step:=(by have hm:=T8 ag (Lw (n:=62) (show 0<step.size by omega) ac (by omega) (by decide)) (Sy (s:=step) (i:=i6.toNat) (by omega) (by omega) (by omega) hb);have ai:ah=step.extract (i6.toNat+1) step.size:=(by rw[ad,show a2.toNat=i6.toNat+1 by omega]);rw[ai]at aa;rw[hm,ay,ao,aa,show az.toNat=i6.toNat+1 by omega,decide_eq_true (show step.extract 1 i6.toNat=step.extract (i6.toNat+1) step.size from by rw[ae,au,show bc.toNat=i6.toNat+1 by omega]at h18;exact h18)];rfl)
 rw[hr]at e
 simp only[Prod.mk.injEq]at e
 obtain⟨rfl,rfl,rfl,rfl⟩:=e
 refine hQ _ _ ?_
 exact .many (.inl rfl) rfl rfl (.d rfl rfl (.d rfl rfl (.d rfl rfl (.d rfl rfl (.nil)))))
 conv=>cbv
 refine .go i6.toNat fun hjv9 v9 bd bv9=>?_
 conv=>cbv
 refine .eql (fun h10=>?_) fun h10=>?_
 conv=>cbv
 refine .add fun a8 bp=>?_
 conv=>cbv
 refine .lo fun af aj=>?_
 conv=>cbv
 have bq:af.size≤step.size:=by rw[aj,ByteArray.size_extract];omega
 rcases ab:Bi af with⟨ap,be⟩
 refine .dd hP (R5 (by omega) ab) ?_
 conv=>cbv
 refine .lohi fun ba aq=>?_
 conv=>cbv
 cases be
 conv=>cbv
 refine .go2 (by kernel_rfl) ?_
 conv=>cbv
 have e:(ba,(tx []),ap,false)=B6 step:=(by have hm:=T7 ag (hh0.elim id fun h=>h.elim (fun h=>absurd h (Ki (n:=45) (show 0<step.size by omega) an (by omega) (by decide))) fun h=>absurd h (Ki (n:=62) (show 0<step.size by omega) ac (by omega) (by decide))) (Sy (s:=step) (i:=i6.toNat) (by omega) (by omega) (by omega) hb);have ak:af=step.extract (i6.toNat+1) step.size:=(by rw[aj,show a8.toNat=i6.toNat+1 by omega]);rw[ak]at ab;rw[hm,aq,ab];rfl)
 rw[hr]at e
 simp only[Prod.mk.injEq]at e
 obtain⟨rfl,rfl,rfl,rfl⟩:=e
 refine hQ _ _ ?_
 exact .many (.inl rfl) rfl rfl (.d rfl rfl (.d rfl rfl (.d rfl rfl (.d rfl rfl (.nil)))))
 conv=>cbv
 refine .lohi fun a7 ae=>?_
 conv=>cbv
 have bt:a7.size≤step.size:=by rw[ae,ByteArray.size_extract];omega
 generalize al:Bt a7=bl
 refine .dd hP (M1 (by omega) al) ?_
 cases bl
 conv=>cbv
 refine .go2 (by kernel_rfl) ?_
 conv=>cbv
 have e:(ba,(tx []),ap,false)=B6 step:=(by have hm:=T7 ag (hh0.elim id fun h=>h.elim (fun h=>absurd h (Ki (n:=45) (show 0<step.size by omega) an (by omega) (by decide))) fun h=>absurd h (Ki (n:=62) (show 0<step.size by omega) ac (by omega) (by decide))) (Sy (s:=step) (i:=i6.toNat) (by omega) (by omega) (by omega) hb);have ak:af=step.extract (i6.toNat+1) step.size:=(by rw[aj,show a8.toNat=i6.toNat+1 by omega]);rw[ak]at ab;rw[ae]at al;have am:=(show Bt (step.extract 1 i6.toNat)=_ from al);rw[hm,aq,ab,am];rfl)
 rw[hr]at e
 simp only[Prod.mk.injEq]at e
 obtain⟨rfl,rfl,rfl,rfl⟩:=e
 refine hQ _ _ ?_
 exact .many (.inl rfl) rfl rfl (.d rfl rfl (.d rfl rfl (.d rfl rfl (.d rfl rfl (.nil)))))
 conv=>cbv
 refine .go2 (by kernel_rfl) ?_
 conv=>cbv
 have e:(ba,(tx []),ap,true)=B6 step:=(by have hm:=T7 ag (hh0.elim id fun h=>h.elim (fun h=>absurd h (Ki (n:=45) (show 0<step.size by omega) an (by omega) (by decide))) fun h=>absurd h (Ki (n:=62) (show 0<step.size by omega) ac (by omega) (by decide))) (Sy (s:=step) (i:=i6.toNat) (by omega) (by omega) (by omega) hb);have ak:af=step.extract (i6.toNat+1) step.size:=(by rw[aj,show a8.toNat=i6.toNat+1 by omega]);rw[ak]at ab;rw[ae]at al;have am:=(show Bt (step.extract 1 i6.toNat)=_ from al);rw[hm,aq,ab,am];rfl)
 rw[hr]at e
 simp only[Prod.mk.injEq]at e
 obtain⟨rfl,rfl,rfl,rfl⟩:=e
 refine hQ _ _ ?_
 exact .many (.inl rfl) rfl rfl (.d rfl rfl (.d rfl rfl (.d rfl rfl (.d rfl rfl (.nil)))))
 exfalso;omega
 conv=>cbv
 refine .go i6.toNat fun hjv7 v7 ac bv7=>?_
 conv=>cbv
 refine .eql (fun h8=>?_) fun h8=>?_
 conv=>cbv
 refine .add fun v9 bd=>?_
 conv=>cbv
 refine .lo fun bf bg=>?_
 conv=>cbv
 have bu:bf.size≤step.size:=by rw[bg,ByteArray.size_extract];omega
 rcases bh:Bi bf with⟨ar,bi⟩
 refine .dd hP (R5 (by omega) bh) ?_
 conv=>cbv
 refine .lohi fun af aj=>?_
 conv=>cbv
 cases bi
 conv=>cbv
 refine .go2 (by kernel_rfl) ?_
 conv=>cbv
 have e:(af,(tx []),ar,false)=B6 step:=(by exfalso;omega)
 rw[hr]at e
 simp only[Prod.mk.injEq]at e
 obtain⟨rfl,rfl,rfl,rfl⟩:=e
 refine hQ _ _ ?_
 exact .many (.inl rfl) rfl rfl (.d rfl rfl (.d rfl rfl (.d rfl rfl (.d rfl rfl (.nil)))))
 conv=>cbv
 refine .lohi fun ah ad=>?_
 conv=>cbv
 have bb:ah.size≤step.size:=by rw[ad,ByteArray.size_extract];omega
 generalize aa:Bt ah=a6
 refine .dd hP (M1 (by omega) aa) ?_
 cases a6
 conv=>cbv
 refine .go2 (by kernel_rfl) ?_
 conv=>cbv
 have e:(af,(tx []),ar,false)=B6 step:=(by exfalso;omega)
 rw[hr]at e
 simp only[Prod.mk.injEq]at e
 obtain⟨rfl,rfl,rfl,rfl⟩:=e
 refine hQ _ _ ?_
 exact .many (.inl rfl) rfl rfl (.d rfl rfl (.d rfl rfl (.d rfl rfl (.d rfl rfl (.nil)))))
 conv=>cbv
 refine .go2 (by kernel_rfl) ?_
 conv=>cbv
 have e:(af,(tx []),ar,true)=B6 step:=(by exfalso;omega)
 rw[hr]at e
 simp only[Prod.mk.injEq]at e
 obtain⟨rfl,rfl,rfl,rfl⟩:=e
 refine hQ _ _ ?_
 exact .many (.inl rfl) rfl rfl (.d rfl rfl (.d rfl rfl (.d rfl rfl (.d rfl rfl (.nil)))))
 conv=>cbv
 refine .add fun v9 bd=>?_
 conv=>cbv
 exact .go [] (v9) (bk _ ⟨by omega,by omega,fun j k1 k2 hj=>if e:j=i6.toNat then by subst e;omega else hb j k1 (by omega) hj⟩ mlt)
 conv=>cbv
 have e:((tx []),(tx []),0,false)=B6 step:=(by exact Zu ag hh0 (Ki (n:=45) (show 0<step.size by omega) an (by omega) (by decide)) (Xjw fun j k1 hj=>hb j k1 (by omega) hj))
 rw[hr]at e
 simp only[Prod.mk.injEq]at e
 obtain⟨rfl,rfl,rfl,rfl⟩:=e
 refine hQ _ _ ?_
 exact .many (.inl rfl) rfl rfl (.d rfl rfl (.d rfl rfl (.d rfl rfl (.d rfl rfl (.nil)))))
end
section
open Go Go.Proofs
set_option maxRecDepth 20000
set_option maxHeartbeats 4000000
def XaX:List (Nat×TyRow):=[ty3,ty5,ty9,Xcn,XaP,Xai]
theorem XbH:B9 Tryz.prog XaX:=B9.of (by kernel_rfl)
theorem Xfu:Setup Tryz.prog XaX:=⟨XbH,mixed⟩
def Er(l:List Ad)(s:ByteArray):List Ad×Bool:=
 if(B6 s).2.2.2=false∨Bt (B6 s).1=false∨(s.data.toList.head?≠some 43∧Ea l (B6 s).1=false)then([],false)
 else if s.data.toList.head?=some 43 then(Ec l ⟨(B6 s).1,(B6 s).2.2.1⟩,true)
 else if s.data.toList.head?=some 62 then(Ec (Dz l (B6 s).1) ⟨(B6 s).2.1,Cz l (B6 s).1⟩,true)
 else(Dz l (B6 s).1,true)
def C2:List Ad→List ByteArray→List Ad×Bool
 |now,[]=>(now,true)
 |now,s::ss=>if(Er now s).2=false then([],false)else C2 (Er now s).1 ss
def E3(old:List Ad)(steps:List ByteArray)(n:Int):List Ad×Bool:=C2 old (steps.take (Dt n 0 steps.length).toNat)
theorem Xim{s a b:ByteArray}{c:Int}{d:Bool}(e:B6 s=(a,b,c,d)):(a.size≤s.size∧b.size≤s.size)∧(d=true→2≤s.size∧(s.data.toList.head?=some 43∨s.data.toList.head?=some 45∨s.data.toList.head?=some 62)):=by
 have hz:(s.extract 1 s.size).size≤s.size:=by rw[ByteArray.size_extract];omega
 obtain⟨x,y,z,hc⟩:∃x y z,Kw (s.extract 1 s.size)=(x,y,z):=⟨_,_,_,rfl⟩
 have hcb:=Xht hc
 have h0:(tx []).size≤s.size:=by rw[Bz];exact Nat.zero_le _
 unfold B6 at e
 rw[hc]at e
 by_cases h1:s.size<2∨(s.data.toList.head?≠some 43∧s.data.toList.head?≠some 45∧s.data.toList.head?≠some 62)
 ·rw[if_pos h1]at e
  simp only[Prod.mk.injEq]at e
  obtain⟨rfl,rfl,rfl,rfl⟩:=e
  exact⟨⟨h0,h0⟩,fun h=>by cases h⟩
 ·rw[if_neg h1]at e
  have hd:2≤s.size∧(s.data.toList.head?=some 43∨s.data.toList.head?=some 45∨s.data.toList.head?=some 62):=by
   refine⟨by omega,?_⟩
   by_cases k1:s.data.toList.head?=some 43
   ·exact .inl k1
   ·by_cases k2:s.data.toList.head?=some 45
    ·exact .inr (.inl k2)
    ·by_cases k3:s.data.toList.head?=some 62
     ·exact .inr (.inr k3)
     ·exact absurd (.inr ⟨k1,k2,k3⟩) h1
  refine⟨?_,fun _=>hd⟩
  split at e
  ·simp only[Prod.mk.injEq]at e
   obtain⟨rfl,rfl,_⟩:=e
   exact⟨hz,h0⟩
  ·split at e
   ·simp only[Prod.mk.injEq]at e
    obtain⟨rfl,rfl,_⟩:=e
    exact⟨h0,h0⟩
   ·split at e
    ·simp only[Prod.mk.injEq]at e
     obtain⟨rfl,rfl,_⟩:=e
     exact⟨by omega,by omega⟩
    ·simp only[Prod.mk.injEq]at e
     obtain⟨rfl,rfl,_⟩:=e
     exact⟨by omega,h0⟩
theorem Xa2(e:Ad):∀(l:List Ad) (b:Bool),(Tw e l b).length≤l.length+(if b=true then 0 else 1)
 |[],b=>by cases b<;>simp[Tw]
 |x::l,b=>by
  have ih:=Xa2 e l (b|| !(ltB x.name_ e.name_))
  unfold Tw
  rw[List.length_append,List.length_append,List.length_cons]
  cases b<;>cases h:ltB x.name_ e.name_<;>simp only[h,Bool.not_true,Bool.not_false,Bool.or_true,Bool.or_false,Bool.true_or,if_true,Bool.false_eq_true,if_false,true_and,false_and,reduceCtorEq]at ih⊢<;>split<;>simp<;>omega
theorem Ga{l o:List Ad}{e:Ad}(h:Ec l e=o):o.length≤l.length+1:=by
 rw[←h]
 exact Xa2 e l false
theorem Ix{l o:List Ad}{n:ByteArray}(h:Dz l n=o):o.length≤l.length:=by
 rw[←h]
 exact List.length_filter_le _ _
theorem u8_h{s:ByteArray}{n:Nat}(h:0<s.size)(e:s.data.toList.head?=some (UInt8.ofNat n))(hn:n<256):(s[0]).toNat=n:=by
 rw[Lj h]at e
 rw[Option.some.inj e,UInt8.toNat_ofNat',Nat.mod_eq_of_lt (by omega)]
section
variable {l:List Ad} {s a b:ByteArray} {c:Int} {d:Bool}
theorem E9(e:B6 s=(a,b,c,d))(h:d=false∨Bt a=false∨(s.data.toList.head?≠some 43∧Ea l a=false)):Er l s=([],false):=by
 unfold Er
 rw[e,if_pos h]
theorem Xp(e:B6 s=(a,b,c,true))(hn:Bt a=true)(h:s.data.toList.head?=some 43):Er l s=(Ec l ⟨a,c⟩,true):=by
 unfold Er
 rw[e,if_neg (by rw[hn,h];simp),if_pos h]
theorem X4(e:B6 s=(a,b,c,true))(hn:Bt a=true)(hh:Ea l a=true)(h:s.data.toList.head?=some 62):Er l s=(Ec (Dz l a) ⟨b,Cz l a⟩,true):=by
 unfold Er
 rw[e,if_neg (by rw[hn,hh];simp),if_neg (by rw[h];decide),if_pos h]
theorem Wr(e:B6 s=(a,b,c,true))(hn:Bt a=true)(hh:Ea l a=true)(h:s.data.toList.head?=some 45):Er l s=(Dz l a,true):=by
 unfold Er
 rw[e,if_neg (by rw[hn,hh];simp),if_neg (by rw[h];decide),if_neg (by rw[h];decide)]
end
theorem U3{old:List Ad}{xold:List (List D)}{steps:List ByteArray}{xsteps:List (List D)}{n:Int}{oa:List Ad}{xoa:List (List D)}{ob:Bool}(hold:old.map Ac=xold)(hsteps:steps.map cS=xsteps)(hol:old.length≤1000000000)(hsl:steps.length≤1000000000)(hss:okS steps)(hr:E3 old steps n=(oa,ob))(hoa:oa.map Ac=xoa):Fn Tryz.prog 163 [.d (.row 2 xold),.d (.row 1 xsteps),I n] [] ⟨.tup [.d (.row 2 xoa),B ob],[],[]⟩:=by
 refine Fn.go Xfu Tryz.func163 fun P hP Q hQ=>?_
 conv=>cbv
 refine .row0 hold fun df z1 c7 bz=>?_
 conv=>cbv
 refine .go hsteps fun v2 cn=>?_
 conv=>cbv
 generalize bu:Dt n 0 v2=r3
 refine .dd hP (XcD bu) ?_
 conv=>cbv
 have hbr:0≤r3∧r3≤steps.length:=by rw[←bu];unfold Dt;split<;>(try split)<;>omega
 refine .frz 2 [8] rfl rfl (by rw[←bz,List.length_map];first|omega|(simp;omega)) ?_
 refine LoopW.lp (κ:=(List (List D))×Int) Xfu hP [] [1,2] (fun(aj,i9)=>[(8,.d (.row 2 aj)),(9,I i9)]) (fun(aj,i9)=>[])
  (fun(aj,i9)=>∃(u8:List Ad),u8.map Ac=aj∧0≤i9∧i9≤r3∧E3 old steps n=C2 u8 ((steps.take r3.toNat).drop i9.toNat)∧u8.length≤old.length+i9)
  (fun(aj,i9)=>(r3 - i9).toNat) (z1,0) ⟨old,bz,by omega,by omega,by unfold E3;rw[←cn,bu];rfl,by omega⟩ ⟨rfl,rfl,trivial⟩ rfl ?_
 rintro⟨aj,i9⟩ J ⟨u8,ab,h0,h1,hio,hun⟩ hJ
 conv=>cbv
 refine .lss (fun h4=>?_) fun h4=>?_
 conv=>cbv
 refine .go i9.toNat hsteps fun b0 e5 aa=>?_
 conv=>cbv
 have dg:e5.size≤1000000000:=aa▸hss _ (List.getElem_mem b0)
 have hdc:(steps.take r3.toNat).drop i9.toNat=e5::(steps.take r3.toNat).drop (i9.toNat+1):=by rw[List.drop_eq_getElem_cons (by rw[List.length_take];omega),List.getElem_take,←aa]
 rw[hdc]at hio
 rcases am:B6 e5 with⟨ag,bk,bl,co⟩
 refine .dd hP (Xhk (by omega) am) ?_
 conv=>cbv
 have hlf:=Xim am
 cases co
 conv=>cbv
 have e:([],false)=E3 old steps n:=(by rw[hio];show _=(if(Er u8 e5).2=false then _ else _);rw[E9 am (.inl rfl)];rfl)
 rw[hr]at e
 simp only[Prod.mk.injEq]at e
 obtain⟨rfl,rfl⟩:=e
 refine hQ _ _ ?_
 exact .many (.inl rfl) rfl rfl (.ref rfl rfl (by rw[←hoa];rfl) (.d rfl rfl (.nil)))
 conv=>cbv
 obtain⟨h2z,hh0⟩:=hlf.2 rfl
 have h00:0<e5.size:=by omega
 have hh1:(e5[0]).toNat=43∨(e5[0]).toNat=45∨(e5[0]).toNat=62:=hh0.imp (fun h=>u8_h h00 h (by decide)) fun h=>h.imp (fun h=>u8_h h00 h (by decide)) fun h=>u8_h h00 h (by decide)
 generalize az:Bt ag=r7
 refine .dd hP (M1 (by omega) az) ?_
 cases r7
 conv=>cbv
 have e:([],false)=E3 old steps n:=(by rw[hio];show _=(if(Er u8 e5).2=false then _ else _);rw[E9 am (.inr (.inl az))];rfl)
 rw[hr]at e
 simp only[Prod.mk.injEq]at e
 obtain⟨rfl,rfl⟩:=e
 refine hQ _ _ ?_
 exact .many (.inl rfl) rfl rfl (.ref rfl rfl (by rw[←hoa];rfl) (.d rfl rfl (.nil)))
 conv=>cbv
 refine .go i9.toNat hsteps fun c8 e8 cp=>?_
 conv=>cbv
 obtain rfl:e5=e8:=aa.trans cp.symm
 refine .go 0 fun hjv9 v9 b2 bv9=>?_
 conv=>cbv
 refine .neq (fun h10=>?_) fun h10=>?_
 conv=>cbv
 generalize aw:Ea u8 ag=cq
 refine .dd hP (Mn ab (by omega) aw) ?_
 cases cq
 conv=>cbv
 have e:([],false)=E3 old steps n:=(by rw[hio];show _=(if(Er u8 e5).2=false then _ else _);rw[E9 am (.inr (.inr ⟨(Ki (n:=43) h00 b2 (by omega) (by decide)),aw⟩))];rfl)
 rw[hr]at e
 simp only[Prod.mk.injEq]at e
 obtain⟨rfl,rfl⟩:=e
 refine hQ _ _ ?_
 exact .many (.inl rfl) rfl rfl (.ref rfl rfl (by rw[←hoa];rfl) (.d rfl rfl (.nil)))
 conv=>cbv
 refine .go i9.toNat hsteps fun cr ct b3=>?_
 conv=>cbv
 obtain rfl:e5=ct:=aa.trans b3.symm
 refine .go 0 fun hjv13 dh b4 bv13=>?_
 conv=>cbv
 refine .eql (fun h14=>?_) fun h14=>?_
 conv=>cbv
 generalize bn:Cz u8 ag=b5
 refine .dd hP (Mc ab (by omega) bn) ?_
 conv=>cbv
 refine .go i9.toNat hsteps fun cu cv b6=>?_
 conv=>cbv
 obtain rfl:e5=cv:=aa.trans b6.symm
 refine .go 0 fun hjv17 di c9 bv17=>?_
 conv=>cbv
 refine .neq (fun h18=>?_) fun h18=>?_
 conv=>cbv
 generalize a1:Dz u8 ag=b7
 have hln19:=Ix a1
 generalize a2:b7.map Ac=b8
 refine .dd hP (Mg ab (by omega) a1 a2) ?_
 conv=>cbv
 refine .go i9.toNat hsteps fun cw cx b9=>?_
 conv=>cbv
 obtain rfl:e5=cx:=aa.trans b9.symm
 refine .go 0 fun hjv21 al ax bv21=>?_
 conv=>cbv
 refine .neq (fun h22=>?_) fun h22=>?_
 conv=>cbv
 generalize a6:Ec b7 (⟨bk,b5⟩:Ad)=cy
 have hln23:=Ga a6
 generalize bo:cy.map Ac=ca
 refine .dd hP (I1 a2 (by omega) a6 bo) ?_
 conv=>cbv
 refine .add fun cb da=>?_
 conv=>cbv
 exact .go [] (ca,cb) (hJ _ ⟨_,bo,by omega,by omega,by rw[hio,show cb.toNat=i9.toNat+1 by omega];show(if(Er u8 e5).2=false then _ else _)=_;rw[X4 am az aw (Lw (n:=62) h00 b4 (by omega) (by decide)),a1,bn,a6];rfl,by omega⟩ mlt)
 conv=>cbv
 refine .add fun au a7=>?_
 conv=>cbv
 exact .go [] (b8,au) (hJ _ ⟨_,a2,by omega,by omega,by exfalso;omega,by exfalso;omega⟩ mlt)
 conv=>cbv
 refine .go i9.toNat hsteps fun a8 ba an=>?_
 conv=>cbv
 obtain rfl:e5=ba:=aa.trans an.symm
 refine .go 0 fun hjv20 bm ay bv20=>?_
 conv=>cbv
 refine .neq (fun h21=>?_) fun h21=>?_
 conv=>cbv
 generalize ac:Ec u8 (⟨ag,b5⟩:Ad)=bb
 have hln22:=Ga ac
 generalize ad:bb.map Ac=ao
 refine .dd hP (I1 ab (by omega) ac ad) ?_
 conv=>cbv
 refine .add fun au a7=>?_
 conv=>cbv
 exact .go [] (ao,au) (hJ _ ⟨_,ad,by omega,by omega,by exfalso;omega,by exfalso;omega⟩ mlt)
 conv=>cbv
 refine .add fun ah ap=>?_
 conv=>cbv
 exact .go [] (aj,ah) (hJ _ ⟨_,ab,by omega,by omega,by exfalso;omega,by exfalso;omega⟩ mlt)
 conv=>cbv
 refine .go i9.toNat hsteps fun bv bw bc=>?_
 conv=>cbv
 obtain rfl:e5=bw:=aa.trans bc.symm
 refine .go 0 fun hjv16 cz cc bv16=>?_
 conv=>cbv
 refine .neq (fun h17=>?_) fun h17=>?_
 conv=>cbv
 generalize ak:Dz u8 ag=bd
 have hln18:=Ix ak
 generalize ai:bd.map Ac=be
 refine .dd hP (Mg ab (by omega) ak ai) ?_
 conv=>cbv
 refine .go i9.toNat hsteps fun a8 ba an=>?_
 conv=>cbv
 obtain rfl:e5=ba:=aa.trans an.symm
 refine .go 0 fun hjv20 bm ay bv20=>?_
 conv=>cbv
 refine .neq (fun h21=>?_) fun h21=>?_
 conv=>cbv
 generalize ac:Ec bd (⟨bk,bl⟩:Ad)=bb
 have hln22:=Ga ac
 generalize ad:bb.map Ac=ao
 refine .dd hP (I1 ai (by omega) ac ad) ?_
 conv=>cbv
 refine .add fun au a7=>?_
 conv=>cbv
 exact .go [] (ao,au) (hJ _ ⟨_,ad,by omega,by omega,by exfalso;omega,by exfalso;omega⟩ mlt)
 conv=>cbv
 refine .add fun ah ap=>?_
 conv=>cbv
 exact .go [] (be,ah) (hJ _ ⟨_,ai,by omega,by omega,by rw[hio,show ah.toNat=i9.toNat+1 by omega];show(if(Er u8 e5).2=false then _ else _)=_;rw[Wr am az aw (Lw (n:=45) h00 ay (by omega) (by decide)),ak];rfl,by omega⟩ mlt)
 conv=>cbv
 refine .go i9.toNat hsteps fun bf bg aq=>?_
 conv=>cbv
 obtain rfl:e5=bg:=aa.trans aq.symm
 refine .go 0 fun hjv19 cd bp bv19=>?_
 conv=>cbv
 refine .neq (fun h20=>?_) fun h20=>?_
 conv=>cbv
 generalize ae:Ec u8 (⟨ag,bl⟩:Ad)=bh
 have hln21:=Ga ae
 generalize af:bh.map Ac=ar
 refine .dd hP (I1 ab (by omega) ae af) ?_
 conv=>cbv
 refine .add fun ah ap=>?_
 conv=>cbv
 exact .go [] (ar,ah) (hJ _ ⟨_,af,by omega,by omega,by exfalso;omega,by exfalso;omega⟩ mlt)
 conv=>cbv
 refine .add fun al ax=>?_
 conv=>cbv
 exact .go [] (aj,al) (hJ _ ⟨_,ab,by omega,by omega,by exfalso;omega,by exfalso;omega⟩ mlt)
 conv=>cbv
 refine .go i9.toNat hsteps fun c0 c1 ce=>?_
 conv=>cbv
 obtain rfl:e5=c1:=aa.trans ce.symm
 refine .go 0 fun hjv12 dj db bv12=>?_
 conv=>cbv
 refine .eql (fun h13=>?_) fun h13=>?_
 conv=>cbv
 generalize cf:Cz u8 ag=cg
 refine .dd hP (Mc ab (by omega) cf) ?_
 conv=>cbv
 refine .go i9.toNat hsteps fun bv bw bc=>?_
 conv=>cbv
 obtain rfl:e5=bw:=aa.trans bc.symm
 refine .go 0 fun hjv16 cz cc bv16=>?_
 conv=>cbv
 refine .neq (fun h17=>?_) fun h17=>?_
 conv=>cbv
 generalize ak:Dz u8 ag=bd
 have hln18:=Ix ak
 generalize ai:bd.map Ac=be
 refine .dd hP (Mg ab (by omega) ak ai) ?_
 conv=>cbv
 refine .go i9.toNat hsteps fun a8 ba an=>?_
 conv=>cbv
 obtain rfl:e5=ba:=aa.trans an.symm
 refine .go 0 fun hjv20 bm ay bv20=>?_
 conv=>cbv
 refine .neq (fun h21=>?_) fun h21=>?_
 conv=>cbv
 generalize ac:Ec bd (⟨bk,cg⟩:Ad)=bb
 have hln22:=Ga ac
 generalize ad:bb.map Ac=ao
 refine .dd hP (I1 ai (by omega) ac ad) ?_
 conv=>cbv
 refine .add fun au a7=>?_
 conv=>cbv
 exact .go [] (ao,au) (hJ _ ⟨_,ad,by omega,by omega,by exfalso;omega,by exfalso;omega⟩ mlt)
 conv=>cbv
 refine .add fun ah ap=>?_
 conv=>cbv
 exact .go [] (be,ah) (hJ _ ⟨_,ai,by omega,by omega,by exfalso;omega,by exfalso;omega⟩ mlt)
 conv=>cbv
 refine .go i9.toNat hsteps fun bf bg aq=>?_
 conv=>cbv
 obtain rfl:e5=bg:=aa.trans aq.symm
 refine .go 0 fun hjv19 cd bp bv19=>?_
 conv=>cbv
 refine .neq (fun h20=>?_) fun h20=>?_
 conv=>cbv
 generalize ae:Ec u8 (⟨ag,cg⟩:Ad)=bh
 have hln21:=Ga ae
 generalize af:bh.map Ac=ar
 refine .dd hP (I1 ab (by omega) ae af) ?_
 conv=>cbv
 refine .add fun ah ap=>?_
 conv=>cbv
 exact .go [] (ar,ah) (hJ _ ⟨_,af,by omega,by omega,by exfalso;omega,by exfalso;omega⟩ mlt)
 conv=>cbv
 refine .add fun al ax=>?_
 conv=>cbv
 exact .go [] (aj,al) (hJ _ ⟨_,ab,by omega,by omega,by exfalso;omega,by exfalso;omega⟩ mlt)
 conv=>cbv
 refine .go i9.toNat hsteps fun c2 c3 ch=>?_
 conv=>cbv
 obtain rfl:e5=c3:=aa.trans ch.symm
 refine .go 0 fun hjv15 dk dc bv15=>?_
 conv=>cbv
 refine .neq (fun h16=>?_) fun h16=>?_
 conv=>cbv
 generalize bq:Dz u8 ag=ci
 have hln17:=Ix bq
 generalize bi:ci.map Ac=cj
 refine .dd hP (Mg ab (by omega) bq bi) ?_
 conv=>cbv
 refine .go i9.toNat hsteps fun bf bg aq=>?_
 conv=>cbv
 obtain rfl:e5=bg:=aa.trans aq.symm
 refine .go 0 fun hjv19 cd bp bv19=>?_
 conv=>cbv
 refine .neq (fun h20=>?_) fun h20=>?_
 conv=>cbv
 generalize ae:Ec ci (⟨bk,bl⟩:Ad)=bh
 have hln21:=Ga ae
 generalize af:bh.map Ac=ar
 refine .dd hP (I1 bi (by omega) ae af) ?_
 conv=>cbv
 refine .add fun ah ap=>?_
 conv=>cbv
 exact .go [] (ar,ah) (hJ _ ⟨_,af,by omega,by omega,by exfalso;omega,by exfalso;omega⟩ mlt)
 conv=>cbv
 refine .add fun al ax=>?_
 conv=>cbv
 exact .go [] (cj,al) (hJ _ ⟨_,bi,by omega,by omega,by exfalso;omega,by exfalso;omega⟩ mlt)
 conv=>cbv
 refine .go i9.toNat hsteps fun c4 c5 ck=>?_
 conv=>cbv
 obtain rfl:e5=c5:=aa.trans ck.symm
 refine .go 0 fun hjv18 dl de bv18=>?_
 conv=>cbv
 refine .neq (fun h19=>?_) fun h19=>?_
 conv=>cbv
 generalize bj:Ec u8 (⟨ag,bl⟩:Ad)=c6
 have hln20:=Ga bj
 generalize bt:c6.map Ac=cm
 refine .dd hP (I1 ab (by omega) bj bt) ?_
 conv=>cbv
 refine .add fun al ax=>?_
 conv=>cbv
 exact .go [] (cm,al) (hJ _ ⟨_,bt,by omega,by omega,by rw[hio,show al.toNat=i9.toNat+1 by omega];show(if(Er u8 e5).2=false then _ else _)=_;rw[Xp am az (Lw (n:=43) h00 b2 (by omega) (by decide)),bj];rfl,by omega⟩ mlt)
 conv=>cbv
 refine .add fun bm ay=>?_
 conv=>cbv
 exact .go [] (aj,bm) (hJ _ ⟨_,ab,by omega,by omega,by exfalso;omega,by exfalso;omega⟩ mlt)
 conv=>cbv
 have e:(u8,true)=E3 old steps n:=(by rw[hio,List.drop_of_length_le (by rw[List.length_take];omega)];rfl)
 rw[hr]at e
 simp only[Prod.mk.injEq]at e
 obtain⟨rfl,rfl⟩:=e
 refine hQ _ _ ?_
 exact .many (.inl rfl) rfl rfl (.d rfl (Bm ab hoa) (.d rfl rfl (.nil)))
end
section
open Go Go.Proofs
set_option maxRecDepth 20000
set_option maxHeartbeats 4000000
def Vh:List (Nat×TyRow):=[ty3,ty9,Xcn,XhE,XaP,Zr,Zd]
theorem Xb9:B9 Tryz.prog Vh:=B9.of (by kernel_rfl)
theorem Xjo:Setup Tryz.prog Vh:=⟨Xb9,mixed⟩
theorem Xbi(a:List UInt8):Op.bytesLess a a=false:=by
 cases h:Op.bytesLess a a with
 |false=>rfl
 |true=>have:=Mm a a h;rw[h]at this;cases this
theorem Wh:∀a b c:List UInt8,Op.bytesLess a b=true→Op.bytesLess b c=true→Op.bytesLess a c=true
 |_,[],_,h,_=>by simp[Op.bytesLess]at h
 |_,_::_,[],_,h=>by simp[Op.bytesLess]at h
 |[],_::_,_::_,_,_=>by simp[Op.bytesLess]
 |a::x,b::y,c::z,h1,h2=>by
  simp only[Op.bytesLess,Bool.or_eq_true,decide_eq_true_eq,Bool.and_eq_true,beq_iff_eq]at h1 h2⊢
  rcases h1 with h1|⟨rfl,h1⟩
  ·rcases h2 with h2|⟨rfl,h2⟩
   ·exact .inl (UInt8.lt_trans h1 h2)
   ·exact .inl h1
  ·rcases h2 with h2|⟨rfl,h2⟩
   ·exact .inl h2
   ·exact .inr ⟨rfl,Wh x y z h1 h2⟩
theorem Yq(a:ByteArray):ltB a a=false:=Xbi _
theorem Xcu{a b c:ByteArray}(h:ltB a b=true)(k:ltB b c=true):ltB a c=true:=Wh _ _ _ h k
theorem XgS{a b:ByteArray}(h:ltB a b=true):a≠b:=by
 rintro rfl
 rw[Yq]at h
 cases h
theorem Xls{a b:ByteArray}(h:ltB a b=false)(hn:a≠b):ltB b a=true:=by
 have:=Xds a b
 rw[h]at this
 simp only[Bool.not_false,Bool.true_eq,Bool.or_eq_true,decide_eq_true_eq]at this
 exact this.resolve_right fun e=>hn e.symm
def srt(l:List Ad):Prop:=l.Pairwise fun a b=>ltB a.name_ b.name_=true
theorem XbR{α:Type}{p:α→Bool}{x:α}{l:List α}:Vd p (x::l)=if p x=true then 0 else if Vd p l<0 then -1 else Vd p l+1:=by
 unfold Vd
 rw[List.findIdx_cons]
 cases hp:p x with
 |true=>simp
 |false=>
  simp only[List.length_cons,cond_false,Bool.false_eq_true,if_false]
  by_cases h:l.findIdx p<l.length
  ·rw[if_pos (show l.findIdx p+1<l.length+1 by omega),if_pos h,if_neg (show¬(l.findIdx p:Int)<0 by omega)]
   omega
  ·rw[if_neg (show¬l.findIdx p+1<l.length+1 by omega),if_neg h,if_pos (by decide)]
theorem Po{x:Ad}{l:List Ad}{n:ByteArray}:Bc (x::l) n=if x.name_=n then 0 else if Bc l n<0 then -1 else Bc l n+1:=by
 show Vd (fun e=>Co e n) (x::l)=_
 rw[XbR]
 unfold Co
 simp only[decide_eq_true_eq]
 rfl
theorem Xax{l:List Ad}{n:ByteArray}: -1≤Bc l n:=(Ik rfl).1
theorem XjD{l:List Ad}{n:ByteArray}(h:∀x∈l,x.name_≠n):Bc l n<0:=by
 have hb:=Xax (l:=l) (n:=n)
 rcases Int.lt_or_le (Bc l n) 0 with k|k
 ·exact k
 ·obtain⟨hi,hp⟩:=Um (p:=fun e=>Co e n) (rfl:Bc l n=_) k
  unfold Co at hp
  rw[decide_eq_true_eq]at hp
  exact absurd hp (h _ (List.getElem_mem hi))
theorem Za{l:List Ad}{n:ByteArray}{i k:Int}(h:Bc l n=k)(hk:0≤k):Ul l n i=l.set k.toNat ⟨(l.getD k.toNat ⟨tx [],0⟩).name_,i⟩:=by
 subst h
 exact if_pos hk
theorem R9{l:List Ad}{n:ByteArray}{i k:Int}(h:Bc l n<0)(hk:Ct l n=k):Ul l n i=It l (if k<0 then l.length else k) [⟨n,i⟩]:=by
 subst hk
 exact if_neg (by omega)
theorem XhJ{x:Ad}{l:List Ad}{n:ByteArray}{i:Int}:Ul (x::l) n i=if x.name_=n then⟨n,i⟩::l else if Bc l n<0∧Kp x n=true then⟨n,i⟩::x::l else x::Ul l n i:=by
 have hb:=Xax (l:=l) (n:=n)
 by_cases hx:x.name_=n
 ·rw[if_pos hx,Za (k:=0) (by rw[Po,if_pos hx]) (by decide)]
  simp[hx]
 ·rw[if_neg hx]
  by_cases hp:Bc l n<0
  ·have hpc:Bc (x::l) n<0:=by rw[Po,if_neg hx,if_pos hp];decide
   have hc:Ct (x::l) n=if Kp x n=true then 0 else if Ct l n<0 then -1 else Ct l n+1:=XbR (p:=fun e=>Kp e n)
   by_cases h1:Kp x n=true
   ·rw[if_pos ⟨hp,h1⟩,R9 hpc (k:=0) (by rw[hc,if_pos h1]),if_neg (by decide)]
    simp[It]
   ·rw[if_neg (fun h=>h1 h.2)]
    by_cases h2:Ct l n<0
    ·rw[R9 hpc (k:=-1) (by rw[hc,if_neg h1,if_pos h2]),if_pos (by decide),R9 hp rfl,if_pos h2]
     simp[It]
    ·rw[R9 hpc (by rw[hc,if_neg h1,if_neg h2]),if_neg (by omega),R9 hp rfl,if_neg h2]
     unfold It
     rw[show(Ct l n+1).toNat=(Ct l n).toNat+1 by omega]
     simp
  ·rw[if_neg (fun h=>hp h.1),Za (k:=Bc l n+1) (by rw[Po,if_neg hx,if_neg hp]) (by omega),Za (l:=l) rfl (by omega),show(Bc l n+1).toNat=(Bc l n).toNat+1 by omega]
   simp
theorem S7{e:Ad}:∀{l:List Ad},(∀x∈l,x.name_≠e.name_)→Tw e l true=l
 |[],_=>rfl
 |x::l,h=>by
  unfold Tw
  rw[if_neg (by simp),if_neg (h x List.mem_cons_self),Bool.true_or,S7 fun y hy=>h y (List.mem_cons_of_mem _ hy)]
  rfl
theorem XbE{n:ByteArray}{i:Int}:∀{l:List Ad},srt l→Ec l ⟨n,i⟩=Ul l n i
 |[],_=>rfl
 |x::l,h=>by
  have hs:=List.pairwise_cons.1 h
  have ih:=XbE (n:=n) (i:=i) hs.2
  unfold Ec at ih⊢
  rw[XhJ]
  unfold Tw
  by_cases hx:x.name_=n
  ·rw[if_pos hx,hx,Yq,if_pos ⟨rfl,rfl⟩,if_pos rfl,Bool.not_false,Bool.or_true,S7 (fun y hy e=>by
    have:=hs.1 y hy
    rw[hx]at this
    exact XgS this e.symm)]
   rfl
  ·rw[if_neg hx,if_neg hx]
   cases hl:ltB x.name_ n with
   |true=>
    rw[if_neg (by simp),if_neg (by unfold Kp;rw[hl];simp),Bool.not_true,Bool.or_false,ih]
    rfl
   |false=>
    have hg:=Xls hl hx
    have hne:∀y∈l,y.name_≠n:=fun y hy e=>XgS (Xcu hg (hs.1 y hy)) e.symm
    rw[if_pos ⟨rfl,rfl⟩,if_pos ⟨XjD hne,by unfold Kp;rw[hl,decide_eq_false hx];rfl⟩,Bool.not_false,Bool.or_true,S7 hne]
    rfl
theorem Vz{n:ByteArray}:∀{l:List Ad},srt l→0≤Bc l n→Dz l n=l.eraseIdx (Bc l n).toNat
 |[],_,h=>by
  exfalso
  have:Bc [] n= -1:=rfl
  omega
 |x::l,h,hp=>by
  have hs:=List.pairwise_cons.1 h
  have hb:=Xax (l:=l) (n:=n)
  rw[Po]at hp⊢
  unfold Dz
  rw[List.filter_cons]
  by_cases hx:x.name_=n
  ·rw[if_pos hx,decide_eq_true hx]
   have:l.filter (fun x=>!decide (x.name_=n))=l:=by
    rw[List.filter_eq_self]
    intro y hy
    rw[decide_eq_false]
    ·rfl
    ·rintro rfl
     exact XgS (hs.1 y hy) hx
   simp[this]
  ·rw[if_neg hx]at hp⊢
   rw[decide_eq_false hx]
   by_cases h2:Bc l n<0
   ·rw[if_pos h2]at hp;omega
   ·rw[if_neg h2,show(Bc l n+1).toNat=(Bc l n).toNat+1 by omega,List.eraseIdx_cons_succ,←Vz hs.2 (by omega)]
    rfl
theorem Xic{d:Aa}{l:List Ad}(h:Br d l=true){i:Nat}(hi:i<l.length):Ft d l i=true:=by
 unfold Br at h
 rw[Bool.and_eq_true]at h
 exact List.all_eq_true.1 h.1 i (List.mem_range.2 hi)
theorem Xhp{d:Aa}{l:List Ad}(h:Br d l=true){i:Nat}(hi:i+1<l.length):ltB l[i].name_ l[i+1].name_=true:=by
 have h1:=Xic h hi
 unfold Ft at h1
 rw[Xdt hi rfl,show i+1 - 1=i by omega,Xdt (show i<l.length by omega) rfl,decide_eq_false (show¬i+1=0 by omega),Bool.false_or,←Xds]at h1
 simp only[Bool.not_not,Bool.and_eq_true]at h1
 exact h1.1.1
theorem Xig{d:Aa}{l:List Ad}(h:Br d l=true):srt l:=by
 have key:∀(k i:Nat) (hk:i+1+k<l.length),ltB l[i].name_ l[i+1+k].name_=true:=by
  intro k
  induction k with
  |zero=>intro i hk;exact Xhp h hk
  |succ k ih=>intro i hk;exact Xcu (ih i (by omega)) (Xhp h (i:=i+1+k) (by omega))
 refine List.pairwise_iff_getElem.2 fun i j hi hj hij=>?_
 have:=key (j - i - 1) i (by omega)
 simpa only[show i+1+(j - i - 1)=j by omega]using this
theorem Xfh{l:List Ad}{n:ByteArray}(h:srt l):srt (Dz l n):=List.Pairwise.filter _ h
theorem V9{l:List Ad}{s:ByteArray}(h:srt l):Er l s=A3 l s:=by
 by_cases hne:s=tx []
 ·subst hne
  rw[Xfg rfl]
  exact E9 (a:=tx []) (b:=tx []) (c:=0) (d:=false) rfl (.inl rfl)
 have hp:=XeH hne
 have hhd:=Lj hp
 obtain⟨a,b,c,hc⟩:∃a b c,Kw (s.extract 1 s.size)=(a,b,c):=⟨_,_,_,rfl⟩
 have hlt2:c=true→2≤s.size:=by
  rintro rfl
  unfold Kw at hc
  split at hc
  ·rename_i h0
   have:=(Xr (rfl:Jf (s.extract 1 s.size)=_)).2
   rw[ByteArray.size_extract]at this
   omega
  ·simp at hc
 by_cases h43:s.data.toList.head?=some 43
 ·rw[Mb hne h43 hc]
  cases c with
  |false=>
   rw[if_pos (.inl rfl)]
   by_cases aa:s.size<2
   ·exact E9 (Xe (.inl aa)).symm (.inl rfl)
   ·exact E9 (Zu (by omega) (.inl h43) (by rw[h43];decide) (by rw[hc])).symm (.inl rfl)
  |true=>
   have hm:=T7 (hlt2 rfl) h43 hc
   cases hr:(Bi b).2 with
   |false=>rw[if_pos (.inr (.inl rfl))];exact E9 hm (.inl (by rw[hr];rfl))
   |true=>
    cases hn:Bt a with
    |false=>rw[if_pos (.inr (.inr rfl))];exact E9 hm (.inr (.inl hn))
    |true=>
     rw[if_neg (by simp)]
     rw[hr,hn]at hm
     rw[Xp hm hn h43,XbE h]
 ·by_cases h45:s.data.toList.head?=some 45
  ·rw[S5 hne h45]
   by_cases aa:s.size<2
   ·have e:s.extract 1 s.size=tx []:=by
     apply M3
     rw[Dq,List.drop_of_length_le (by rw[List.length_take,Array.length_toList];show min _ s.size≤1;omega)]
     rfl
    rw[E9 (Xe (.inl aa)).symm (.inl rfl),e]
    unfold Gx
    rw[if_pos (.inr (by decide))]
   ·have hm:=(Xa9 (by omega) h45).symm
    unfold Gx
    by_cases hpl:Bc l (s.extract 1 s.size)<0
    ·rw[if_pos (.inl hpl)]
     exact E9 hm (.inr (.inr ⟨h43,by unfold Ea;rw[decide_eq_false_iff_not];omega⟩))
    ·cases hn:Bt (s.extract 1 s.size)with
     |false=>rw[if_pos (.inr rfl)];exact E9 hm (.inr (.inl hn))
     |true=>
      rw[if_neg (by rintro(k|k);exact hpl k;cases k),Wr hm hn (by unfold Ea;rw[decide_eq_true_eq];omega) h45,Vz h (by omega)]
      rfl
  ·by_cases h62:s.data.toList.head?=some 62
   ·rw[Kq hne h62 hc]
    cases c with
    |false=>
     rw[if_pos (.inl rfl)]
     by_cases aa:s.size<2
     ·exact E9 (Xe (.inl aa)).symm (.inl rfl)
     ·exact E9 (Zu (by omega) (.inr (.inr h62)) h45 (by rw[hc])).symm (.inl rfl)
    |true=>
     have hm:=T8 (hlt2 rfl) h62 hc
     cases hnb:Bt b with
     |false=>rw[if_pos (.inr (.inr (.inl rfl)))];exact E9 hm (.inl (by rw[hnb];rfl))
     |true=>
      by_cases hab:a=b
      ·rw[if_pos (.inr (.inr (.inr hab)))];exact E9 hm (.inl (by rw[hnb,decide_eq_true hab];rfl))
      ·rw[hnb,decide_eq_false hab]at hm
       by_cases hpl:Bc l a<0
       ·have hd:Gx l a=([],false):=by unfold Gx;rw[if_pos (.inl hpl)]
        rw[hd,if_pos (.inr (.inl rfl))]
        exact E9 hm (.inr (.inr ⟨h43,by unfold Ea;rw[decide_eq_false_iff_not];omega⟩))
       ·cases hn:Bt a with
        |false=>
         have hd:Gx l a=([],false):=by unfold Gx;rw[if_pos (.inr hn)]
         rw[hd,if_pos (.inr (.inl rfl))]
         exact E9 hm (.inr (.inl hn))
        |true=>
         have hd:Gx l a=(Dz l a,true):=by unfold Gx;rw[if_neg (by rw[hn];rintro(k|k);exact hpl k;cases k),Vz h (by omega)];rfl
         rw[hd,if_neg (by simp;exact hab),X4 hm hn (by unfold Ea;rw[decide_eq_true_eq];omega) h62,XbE (Xfh h)]
   ·rw[XcN hne hhd (fun e=>h43 (by rw[hhd,e])) (fun e=>h45 (by rw[hhd,e])) (fun e=>h62 (by rw[hhd,e]))]
    exact E9 (Xe (.inr ⟨h43,h45,h62⟩)).symm (.inl rfl)
def Xce(d:Aa)(k:Nat):Bool:=if(C2 d.old_ (d.steps_.take k)).2=true then Fp d (C2 d.old_ (d.steps_.take k)).1 (d.steps_.drop k)else false
theorem Xfb{s:ByteArray}:∀(l:List ByteArray) (now:List Ad),C2 now (l++[s])=if(C2 now l).2=true then(if(Er (C2 now l).1 s).2=false then([],false)else Er (C2 now l).1 s)else([],false)
 |[],now=>by
  show(if(Er now s).2=false then _ else C2 (Er now s).1 [])=if true=true then _ else _
  rw[if_pos rfl]
  cases h:Er now s with
  |mk x b=>cases b<;>simp[C2,h]
 |y::l,now=>by
  show(if(Er now y).2=false then _ else C2 (Er now y).1 (l++[s]))=if(if(Er now y).2=false then _ else C2 (Er now y).1 l).2=true then _ else _
  by_cases h:(Er now y).2=false
  ·rw[if_pos h,if_pos h,if_neg (by decide)]
  ·rw[if_neg h,if_neg h,Xfb l]
   have e:C2 now (y::l)=C2 (Er now y).1 l:=if_neg h
   rw[e]
theorem XeV{d:Aa}{k:Nat}{x:List Ad}(hk:k<d.steps_.length)(h:C2 d.old_ (d.steps_.take k)=(x,true))(hr:Br d x=true):C2 d.old_ (d.steps_.take (k+1))=if(A3 x d.steps_[k]).2=false then([],false)else A3 x d.steps_[k]:=by
 rw[List.take_succ_eq_append_getElem hk,Xfb,h,if_pos rfl,V9 (Xig hr)]
theorem Xf5{d:Aa}{k:Nat}{x:List Ad}(hk:k<d.steps_.length)(h:C2 d.old_ (d.steps_.take k)=(x,true))(hr:Br d x=true):Xce d (k+1)=Xce d k:=by
 obtain⟨y,b,hy⟩:∃y b,A3 x d.steps_[k]=(y,b):=⟨_,_,rfl⟩
 unfold Xce
 rw[XeV hk h hr,h,if_pos (show(x,true).2=true from rfl),List.drop_eq_getElem_cons hk]
 show _=(Br d x&&(A3 x d.steps_[k]).2&&Fp d (A3 x d.steps_[k]).1 _)
 rw[hr,hy]
 cases b<;>rfl
theorem XcZ{old:List Ad}{steps:List ByteArray}{k:Int}(h0:0≤k)(h1:k≤steps.length):E3 old steps k=C2 old (steps.take k.toNat):=by
 unfold E3
 rw[show Dt k 0 steps.length=k from by unfold Dt;split<;>(try split)<;>(try split)<;>omega]
def Xi1(d:Aa)(k:Nat):Prop:=Fp d d.old_ d.steps_=Xce d k∧okL (C2 d.old_ (d.steps_.take k)).1∧(C2 d.old_ (d.steps_.take k)).1.length≤1000000000
theorem XgJ{d:Aa}(hd:J8 d):Xi1 d 0:=⟨rfl,hd.2.1,hd.1.2.2.2.2.1⟩
theorem Xgm{d:Aa}(hd:J8 d){k:Nat}{x:List Ad}(hq:Xi1 d k)(hk:k<d.steps_.length)(h:C2 d.old_ (d.steps_.take k)=(x,true))(hr:Br d x=true):Xi1 d (k+1):=by
 obtain⟨h1,h2,h3⟩:=hq
 have hx:=XaB hr
 rw[h]at h2 h3
 refine⟨by rw[h1,Xf5 hk h hr],?_⟩
 rw[XeV hk h hr]
 obtain⟨y,b,hy⟩:∃y b,A3 x d.steps_[k]=(y,b):=⟨_,_,rfl⟩
 have hl:=Rm hy
 have ho:=Xac h2 (hd.2.2 _ (List.getElem_mem hk)) hy
 rw[hy]
 cases b
 ·exact⟨fun e he=>(by cases he),Nat.zero_le _⟩
 ·exact⟨ho,by show y.length≤_;omega⟩
theorem N5:Setup Tryz.prog ((3000007,Eu Tryz.prog 3000007)::((3000001,Eu Tryz.prog 3000001)::Vh)):=(Setup.mark 3000007 (Setup.mark 3000001 Xjo))
theorem Oz{Ae:List Bk}{Bo:List (List D)}{Ag:List Ad}{Bl:List (List D)}{Ah:List Ad}{Bj:List (List D)}{Af:List ByteArray}{Bn:List (List D)}{Ao:Int}{An:Int}{o:Bool}(Aj:Ae.map Bg=Bo)(Am:Ag.map Ac=Bl)(At:Ah.map Ac=Bj)(Ap:Af.map cS=Bn)(ac:J8 ⟨Ae,Ag,Ah,Af,Ao,An⟩)(hr:By (⟨Ae,Ag,Ah,Af,Ao,An⟩:Aa)=o):Fn Tryz.prog 84 [.agg [.d (.row 3 Bo),.d (.row 2 Bl),.d (.row 2 Bj),.d (.row 1 Bn),I Ao,I An]] [] ⟨B o,[],[]⟩:=by
 refine Fn.go N5 Tryz.func84 fun P hP Q hQ=>?_
 conv=>cbv
 refine .go Aj fun v1 bl=>?_
 conv=>cbv
 have hdo:Ah.length≤1000000000:=ac.1.2.2.2.2.1
 have hds:Af.length≤1000000000:=ac.1.2.2.2.2.2
 refine .gtr (fun h2=>?_) fun h2=>?_
 conv=>cbv
 refine .go2 (by kernel_rfl) ?_
 conv=>cbv
 have e:false=By (⟨Ae,Ag,Ah,Af,Ao,An⟩:Aa):=(by exact D2 fun h=>by rw[diskOk_iff]at h;have:=h.2.2.1;unfold Ed at this;rw[decide_eq_false (by simp only[];omega),Bool.and_false]at this;cases this)
 rw[hr]at e
 subst e
 exact hQ _ _ (.b rfl rfl)
 conv=>cbv
 generalize af:Bh Ao 0 1000000000=r3
 refine .dd hP (Do af) ?_
 cases r3
 simp only[Bh,decide_eq_true_eq,decide_eq_false_iff_not]at af
 conv=>cbv
 refine .go2 (by kernel_rfl) ?_
 conv=>cbv
 have e:false=By (⟨Ae,Ag,Ah,Af,Ao,An⟩:Aa):=(by exact D2 fun h=>by rw[diskOk_iff]at h;exact af h.1)
 rw[hr]at e
 subst e
 exact hQ _ _ (.b rfl rfl)
 simp only[Bh,decide_eq_true_eq,decide_eq_false_iff_not]at af
 conv=>cbv
 generalize ag:Bh An 1 1000000000=r4
 refine .dd hP (Do ag) ?_
 cases r4
 simp only[Bh,decide_eq_true_eq,decide_eq_false_iff_not]at ag
 conv=>cbv
 refine .go2 (by kernel_rfl) ?_
 conv=>cbv
 have e:false=By (⟨Ae,Ag,Ah,Af,Ao,An⟩:Aa):=(by exact D2 fun h=>by rw[diskOk_iff]at h;exact ag h.2.1)
 rw[hr]at e
 subst e
 exact hQ _ _ (.b rfl rfl)
 simp only[Bh,decide_eq_true_eq,decide_eq_false_iff_not]at ag
 conv=>cbv
 generalize aq:F2 (⟨Ae,Ag,Ah,Af,Ao,An⟩:Aa)=r5
 refine .dd hP (XfF Aj Am At Ap ac.1 aq) ?_
 conv=>cbv
 refine .gtr (fun h6=>?_) fun h6=>?_
 conv=>cbv
 refine .go2 (by kernel_rfl) ?_
 conv=>cbv
 have e:false=By (⟨Ae,Ag,Ah,Af,Ao,An⟩:Aa):=(by exact D2 fun h=>by rw[diskOk_iff]at h;have:=h.2.2.2.1;rw[aq]at this;simp only[]at this;omega)
 rw[hr]at e
 subst e
 exact hQ _ _ (.b rfl rfl)
 conv=>cbv
 refine .go2 (by kernel_rfl) ?_
 conv=>cbv
 refine LoopW.lp (κ:=Int) N5 hP [] [1] (fun i3=>[(3,I i3)]) (fun i3=>[])
  (fun i3=>0≤i3∧i3≤Ae.length∧∀j:Nat,j<i3.toNat→E7 (⟨Ae,Ag,Ah,Af,Ao,An⟩:Aa) j=true)
  (fun i3=>(Ae.length - i3).toNat) (0) ⟨by omega,by omega,fun j h=>by simp at h⟩ ⟨rfl,trivial⟩ rfl ?_
 rintro i3 J ⟨h0,h1,hb⟩ hJ
 have bm:Ae.length≤1000000000:=ac.1.1
 conv=>cbv
 refine .go Aj fun v7 bn=>?_
 conv=>cbv
 refine .lss (fun h8=>?_) fun h8=>?_
 conv=>cbv
 refine .go i3.toNat Aj fun ad ⟨aw,a7,ah⟩ a8=>?_
 conv=>cbv
 refine .sub fun ba bj=>?_
 conv=>cbv
 have hnd:=XjH (d:=(⟨Ae,Ag,Ah,Af,Ao,An⟩:Aa)) ad a8
 generalize ab:Bh aw 1 ba=bb
 refine .dd hP (Do ab) ?_
 cases bb
 simp only[Bh,decide_eq_true_eq,decide_eq_false_iff_not]at ab
 conv=>cbv
 refine .go2 (by kernel_rfl) ?_
 conv=>cbv
 have e:false=By (⟨Ae,Ag,Ah,Af,Ao,An⟩:Aa):=(by exact D2 fun h=>by rw[diskOk_iff]at h;have h3:=h.2.2.1;rw[←Jt (d:=(⟨Ae,Ag,Ah,Af,Ao,An⟩:Aa)) ad (by unfold E7;rw[decide_eq_false_iff_not,hnd];simp only[];omega)]at h3;cases h3)
 rw[hr]at e
 subst e
 exact hQ _ _ (.b rfl rfl)
 simp only[Bh,decide_eq_true_eq,decide_eq_false_iff_not]at ab
 conv=>cbv
 refine .gtr (fun h12=>?_) fun h12=>?_
 conv=>cbv
 refine .sub fun ai ao=>?_
 conv=>cbv
 refine .go ai.toNat Aj fun ar ⟨bc,a2,a6⟩ ax=>?_
 conv=>cbv
 have hpd:=XjH (d:=(⟨Ae,Ag,Ah,Af,Ao,An⟩:Aa)) ar ax
 rw[show ai.toNat=i3.toNat - 1 by omega]at hpd
 refine .geq (fun h15=>?_) fun h15=>?_
 conv=>cbv
 refine .go2 (by kernel_rfl) ?_
 conv=>cbv
 have e:false=By (⟨Ae,Ag,Ah,Af,Ao,An⟩:Aa):=(by exact D2 fun h=>by rw[diskOk_iff]at h;have h3:=h.2.2.1;rw[←Jt (d:=(⟨Ae,Ag,Ah,Af,Ao,An⟩:Aa)) ad (by unfold E7;rw[decide_eq_false_iff_not,hnd];simp only[];rw[hpd];simp only[];omega)]at h3;cases h3)
 rw[hr]at e
 subst e
 exact hQ _ _ (.b rfl rfl)
 conv=>cbv
 refine .go fun au ay=>?_
 conv=>cbv
 generalize aj:Bh ah 0 au=bd
 refine .dd hP (Do aj) ?_
 cases bd
 simp only[Bh,decide_eq_true_eq,decide_eq_false_iff_not]at aj
 conv=>cbv
 refine .go2 (by kernel_rfl) ?_
 conv=>cbv
 have e:false=By (⟨Ae,Ag,Ah,Af,Ao,An⟩:Aa):=(by exact D2 fun h=>by rw[diskOk_iff]at h;have h3:=h.2.2.1;rw[←Jt (d:=(⟨Ae,Ag,Ah,Af,Ao,An⟩:Aa)) ad (by unfold E7;rw[decide_eq_false_iff_not,hnd];simp only[];omega)]at h3;cases h3)
 rw[hr]at e
 subst e
 exact hQ _ _ (.b rfl rfl)
 simp only[Bh,decide_eq_true_eq,decide_eq_false_iff_not]at aj
 conv=>cbv
 refine .go2 (by kernel_rfl) ?_
 conv=>cbv
 refine .add fun be bk=>?_
 conv=>cbv
 exact .go [] (be) (hJ _ ⟨by omega,by omega,fun j h=>if e:j=i3.toNat then by subst e;unfold E7;rw[decide_eq_true_eq,hnd,hpd];simp only[];omega else hb j (by omega)⟩ mlt)
 conv=>cbv
 refine .go fun ai ao=>?_
 conv=>cbv
 generalize ak:Bh ah 0 ai=bf
 refine .dd hP (Do ak) ?_
 cases bf
 simp only[Bh,decide_eq_true_eq,decide_eq_false_iff_not]at ak
 conv=>cbv
 refine .go2 (by kernel_rfl) ?_
 conv=>cbv
 have e:false=By (⟨Ae,Ag,Ah,Af,Ao,An⟩:Aa):=(by exact D2 fun h=>by rw[diskOk_iff]at h;have h3:=h.2.2.1;rw[←Jt (d:=(⟨Ae,Ag,Ah,Af,Ao,An⟩:Aa)) ad (by unfold E7;rw[decide_eq_false_iff_not,hnd];simp only[];omega)]at h3;cases h3)
 rw[hr]at e
 subst e
 exact hQ _ _ (.b rfl rfl)
 simp only[Bh,decide_eq_true_eq,decide_eq_false_iff_not]at ak
 conv=>cbv
 refine .go2 (by kernel_rfl) ?_
 conv=>cbv
 refine .add fun an az=>?_
 conv=>cbv
 exact .go [] (an) (hJ _ ⟨by omega,by omega,fun j h=>if e:j=i3.toNat then by subst e;unfold E7;rw[decide_eq_true_eq,hnd];simp only[];omega else hb j (by omega)⟩ mlt)
 conv=>cbv
 refine LoopW.lp (κ:=Int) N5 hP [] [1] (fun i5=>[(5,I i5)]) (fun i5=>[])
  (fun i5=>0≤i5∧i5≤Af.length+1∧(i5≤Af.length→Xi1 (⟨Ae,Ag,Ah,Af,Ao,An⟩:Aa) i5.toNat)∧(i5=Af.length+1→Fp (⟨Ae,Ag,Ah,Af,Ao,An⟩:Aa) Ah Af=true))
  (fun i5=>(Af.length+1 - i5).toNat) (0) ⟨by omega,by omega,fun _=>XgJ ac,fun h=>by omega⟩ ⟨rfl,trivial⟩ rfl ?_
 rintro i5 J1 ⟨k0,k1,hQk,hQe⟩ a1
 conv=>cbv
 refine .go Ap fun v9 bo=>?_
 conv=>cbv
 refine .leq (fun h10=>?_) fun h10=>?_
 conv=>cbv
 have hq:=hQk (by omega)
 have hS0:=XcZ (old:=Ah) (steps:=Af) (k:=i5) (by omega) (by omega)
 rcases ab:E3 Ah Af i5 with⟨aa,ap⟩
 generalize ae:aa.map Ac=bg
 refine .dd hP (U3 At Ap (by omega) (by omega) ac.2.2 ab ae) ?_
 conv=>cbv
 have hS:C2 Ah (Af.take i5.toNat)=(aa,ap):=hS0.symm.trans ab
 have hul:okL aa:=by have:=hq.2.1;simp only[]at this;rw[hS]at this;exact this
 have hun:aa.length≤1000000000:=by have:=hq.2.2;simp only[]at this;rw[hS]at this;exact this
 cases ap
 conv=>cbv
 have e:false=By (⟨Ae,Ag,Ah,Af,Ao,An⟩:Aa):=(by exact D2 fun h=>by rw[diskOk_iff]at h;have hk:=h.2.2.2.2;simp only[]at hk;rw[hq.1]at hk;unfold Xce at hk;simp only[]at hk;rw[hS]at hk;cases hk)
 rw[hr]at e
 subst e
 exact hQ _ _ (.b rfl rfl)
 conv=>cbv
 generalize al:Hp (⟨Ae,Ag,Ah,Af,Ao,An⟩:Aa) aa=bh
 refine .dd hP (XaR Aj Am At Ap ae ac.1 hul (by omega) al) ?_
 cases bh
 conv=>cbv
 have e:false=By (⟨Ae,Ag,Ah,Af,Ao,An⟩:Aa):=(by exact D2 fun h=>by rw[diskOk_iff]at h;have hk:=h.2.2.2.2;simp only[]at hk;rw[hq.1]at hk;unfold Xce at hk;simp only[]at hk;rw[hS]at hk;rw[if_pos rfl,Yv (show Br _ aa=false from al)]at hk;cases hk)
 rw[hr]at e
 subst e
 exact hQ _ _ (.b rfl rfl)
 conv=>cbv
 have hre:Br (⟨Ae,Ag,Ah,Af,Ao,An⟩:Aa) aa=true:=al
 refine .go Ap fun ai ao=>?_
 conv=>cbv
 refine .eql (fun h14=>?_) fun h14=>?_
 conv=>cbv
 generalize am:K8 aa Ag=bi
 refine .dd hP (XhB ae Am (by omega) am) ?_
 cases bi
 conv=>cbv
 have e:false=By (⟨Ae,Ag,Ah,Af,Ao,An⟩:Aa):=(by exact D2 fun h=>by rw[diskOk_iff]at h;have hk:=h.2.2.2.2;simp only[]at hk;rw[hq.1]at hk;unfold Xce at hk;simp only[]at hk;rw[hS]at hk;rw[if_pos rfl,List.drop_of_length_le (by omega)]at hk;unfold Fp at hk;rw[show I9 aa _=false from am,Bool.and_false]at hk;cases hk)
 rw[hr]at e
 subst e
 exact hQ _ _ (.b rfl rfl)
 conv=>cbv
 refine .add fun au ay=>?_
 conv=>cbv
 exact .go [] (au) (a1 _ ⟨by omega,by omega,fun h=>by omega,fun _=>by have:=hq.1;simp only[]at this;rw[this];unfold Xce;simp only[];rw[hS,List.drop_of_length_le (by omega),if_pos rfl];show(Br _ aa&&I9 aa Ag)=true;rw[hre,show I9 aa Ag=true from am];rfl⟩ mlt)
 conv=>cbv
 refine .add fun an az=>?_
 conv=>cbv
 exact .go [] (an) (a1 _ ⟨by omega,by omega,fun h=>by rw[show an.toNat=i5.toNat+1 by omega];exact Xgm ac hq (by simp only[];omega) hS hre,fun h=>by omega⟩ mlt)
 conv=>cbv
 have e:true=By (⟨Ae,Ag,Ah,Af,Ao,An⟩:Aa):=(by symm;rw[diskOk_iff];exact⟨af,ag,(Vr (d:=(⟨Ae,Ag,Ah,Af,Ao,An⟩:Aa)) (fun j hj=>hb j (by simp only[]at hj;omega)) (by symm;rw[decide_eq_true_eq];simp only[];omega)).symm,by rw[aq];exact h6,hQe (by omega)⟩)
 rw[hr]at e
 subst e
 exact hQ _ _ (.b rfl rfl)
end
end Go.Proofs.YtgdmjbcllgmepaaGreatDoor.Ab
