/- What functions come to. -/
import Derived.Test.YtjbmpmmffjgedaaGreatDoorFmch19
import Derived.Test.YtjbmpmmffjgedaaGreatDoorFmZ9
set_option linter.unusedVariables false
set_option linter.unusedSimpArgs false
set_option maxHeartbeats 4000000
set_option maxRecDepth 20000
namespace Go.Proofs.YtjbmpmmffjgedaaGreatDoor.Ab
section
open Go Go.Proofs
def Tc:List (Nat×TyRow):=[ty3,ty5,ty9,Z2,U1]
theorem XbZ:B1 Tryz.prog Tc:=B1.of (by kernel_rfl)
theorem Nz:Setup Tryz.prog Tc:=⟨XbZ,mixed⟩
def Jh{α:Type}(l:List α)(i:Int)(m:List α):List α:=l.take i.toNat++m++l.drop i.toNat
def K4{α:Type}(l:List α)(i j:Int):List α:=l.eraseIdx i.toNat
variable {l o oa:List Ad} {xl xo xoa:List (List D)} {nl no:Nat} {i:Int} {name:ByteArray} {ob:Bool}
theorem Gv{m:List Ad}{xm:List (List D)}{nm:Nat}(hl:l.map Ac=xl)(hnl:nl=l.length)(hm:m.map Ac=xm)(hnm:nm=m.length)
  (hp:(0≤i∧i≤l.length)∧l.length≤4000000000∧nm=1)(hr:Jh l i m=o)(ho:o.map Ac=xo)(hno:no=o.length):Fn Tryz.prog 332 [.ref 0 0 nl,I i,.ref 1 0 nm] [.row 2 false xl,.row 2 false xm] ⟨.ref 2 0 no,[.row 2 false xo],[(0,.dead)]⟩:=by
 obtain⟨⟨h0,h1⟩,h2,h3⟩:=hp
 subst h3
 refine⟨E8 Tryz.func332 rfl rfl,?_⟩
 obtain⟨i,rfl⟩:∃k:Nat,i=k:=⟨i.toNat,by omega⟩
 match m,hnm with
 |[x],_=>
  subst hm ho hno hr hl
  have h:=XhF (xs:=l.map Ac) (v:=Ac x) (n:=nl) (i:=i) (by simpa using hnl) (by omega) (by omega)
  have e:(Jh l i [x]).map Ac=(l.map Ac).take i++Ac x::(l.map Ac).drop i:=by
   unfold Jh
   simp
  have e2:(Jh l i [x]).length=((l.map Ac).take i++Ac x::(l.map Ac).drop i).length:=by rw[←e,List.length_map]
  rw[e,e2]
  exact h
theorem Li{j:Int}(hl:l.map Ac=xl)(hnl:nl=l.length)
  (hp:(0≤i∧i<l.length)∧j=i+1∧l.length≤4000000000)(hr:K4 l i j=o)(ho:o.map Ac=xo)(hno:no=o.length):Fn Tryz.prog 333 [.ref 0 0 nl,I i,I j] [.row 2 false xl] ⟨.ref 1 0 no,[.row 2 false xo],[(0,.dead)]⟩:=by
 obtain⟨⟨h0,h1⟩,h2,h3⟩:=hp
 refine⟨E8 Tryz.func333 rfl rfl,?_⟩
 subst ho hno hr hl
 have h:=Xh3 (xs:=l.map Ac) (n:=nl) (i:=i) (j:=j) (by simpa using hnl) h0 (by omega) h2 (by omega)
 have e:(K4 l i j).map Ac=(l.map Ac).eraseIdx i.toNat:=by
  unfold K4
  apply List.ext_getElem?
  intro k
  simp only[List.getElem?_map,List.getElem?_eraseIdx]
  split<;>rfl
 have e2:(K4 l i j).length=((l.map Ac).eraseIdx i.toNat).length:=by rw[←e,List.length_map]
 rw[e,e2]
 exact h
def La(e:Ad)(name:ByteArray):Bool:=!(ltB e.name_ name||decide (e.name_=name))
def Cq(l:List Ad)(name:ByteArray):Int:=Ug (fun e=>La e name) l
def Uq(l:List Ad)(name:ByteArray)(id:Int):List Ad:=
 if 0≤Bd l name then l.set (Bd l name).toNat ⟨(l.getD (Bd l name).toNat ⟨tx [],0⟩).name_,id⟩
 else Jh l (if Cq l name<0 then l.length else Cq l name) [⟨name,id⟩]
def Gq(l:List Ad)(name:ByteArray):List Ad×Bool:=
 if Bd l name<0∨Bs name=false then([],false)else(K4 l (Bd l name) (Bd l name+1),true)
theorem XlR{enam:ByteArray}{eid:Int}{o:Bool}(hr:La (⟨enam,eid⟩:Ad) name=o):Fn Tryz.prog 331 [.agg [S enam,I eid],.ptr 0 0 0] [.box 9 [S name]] ⟨B o,[],[]⟩:=by
 refine Fn.goR Nz Tryz.func331 fun P hP Q hQ=>?_
 conv=>cbv
 refine .gtr fun b1 aa=>?_
 conv=>cbv
 have e:b1=La (⟨enam,eid⟩:Ad) name:=(by unfold La;exact aa)
 rw[hr]at e
 subst e
 exact hQ _ _ (.o [] rfl)
theorem Tt{o:Int}(hl:l.map Ac=xl)(hnl:nl=l.length)(hn:l.length<2^40)(hr:Cq l name=o):Fn Tryz.prog 284 [.ref 0 0 nl,.clo 331 [.ptr 1 0 0]] [.row 2 false xl,.box 9 [S name]] ⟨I o,[],[]⟩:=by
 refine Fn.goR Nz Tryz.func284 fun P hP Q hQ=>?_
 conv=>cbv
 refine .go fun v1 ah=>?_
 conv=>cbv
 refine LoopW.lp (κ:=Int) Nz hP [] [0,1,7] (fun i8=>[(8,I i8)]) (fun i8=>[])
  (fun i8=>0≤i8∧i8≤l.length∧∀(j:Nat) (hj:j<l.length),j<i8.toNat→La l[j] name=false)
  (fun i8=>(l.length - i8).toNat) (0) ⟨by omega,by omega,fun j _ h=>by simp at h⟩ ⟨rfl,trivial⟩ rfl ?_
 rintro i8 J ⟨h0,h1,hb⟩ hJ
 conv=>cbv
 refine .lss (fun h2=>?_) fun h2=>?_
 conv=>cbv
 refine .go i8.toNat fun p3 ae af=>?_
 conv=>cbv
 refine .go hl fun ag ⟨aa,ac⟩ ad=>?_
 conv=>cbv
 subst ae
 generalize ab:La (⟨aa,ac⟩:Ad) name=r5
 refine .bx [1] [] hP (XlR ab) rfl rfl rfl rfl ?_
 cases r5
 conv=>cbv
 refine .add fun v6 ai=>?_
 conv=>cbv
 exact .go [] (v6) (hJ _ ⟨by omega,by omega,fun j hj h=>if e:j=i8.toNat then by subst e;rw[←ad];exact ab else hb j hj (by omega)⟩ mlt)
 conv=>cbv
 have e:i8=Cq l name:=(by exact Me (p:=fun x=>La x name) h0 (by omega) (ad▸ab) hb)
 rw[hr]at e
 subst e
 exact hQ _ _ (.o [] rfl)
 conv=>cbv
 have e:(-1)=Cq l name:=(by exact Hs (p:=fun x=>La x name) fun j hj=>hb j hj (by omega))
 rw[hr]at e
 subst e
 exact hQ _ _ (.o [] rfl)
theorem XbW:Setup Tryz.prog ((1000013,E9 Tryz.prog 1000013)::Tc):=(Setup.mark 1000013 Nz)
theorem Xkv{id:Int}(hl:l.map Ac=xl)(hnl:nl=l.length)(hn:l.length≤4000000000)(hr:Uq l name id=o)(ho:o.map Ac=xo)(hno:no=o.length):Fn Tryz.prog 307 [.ref 0 0 nl,S name,I id] [.row 2 false xl] ⟨.ref 1 0 no,[.row 2 false xo],[(0,.dead)]⟩:=by
 refine Fn.goR XbW Tryz.func307 fun P hP Q hQ=>?_
 conv=>cbv
 refine JoinW.jn (κ:=(List (List D))×Nat) XbW hP [0] [0,2,4] (fun(ab,ac)=>[]) (fun(ab,ac)=>[(3,.row 2 false ab)])
  (fun(ab,ac)=>∃(w3:List Ad),w3.map Ac=ab∧ac=w3.length∧w3=l∧Bd w3 name<0) (fun Jj hJj=>?_) ?_
 conv=>cbv
 generalize aa:Bd l name=r1
 refine .lnt hP (K2 hl (by omega) aa) (.ref rfl (by rw[←hl,List.length_map];first|omega|(simp;omega)) (.d rfl .nil)) ?_
 conv=>cbv
 have hb:=Jg aa
 refine .geq (fun h2=>?_) fun h2=>?_
 conv=>cbv
 refine .go r1.toNat fun p3 ai am=>?_
 conv=>cbv
 refine .go (⟨(l.getD p3 ⟨tx [],0⟩).name_,id⟩:Ad) hl (by omega) (by rw[←gD (show p3<l.length by omega)];rfl) (Nat.le_refl 2) fun z4 aj=>?_
 conv=>cbv
 have e:(l.set p3 (⟨(l.getD p3 ⟨tx [],0⟩).name_,id⟩:Ad))=Uq l name id:=(by unfold Uq;rw[aa,if_pos (by omega),ai])
 rw[hr]at e
 subst e
 obtain rfl:z4=xo:=by rw[←aj,←ho]
 obtain rfl:nl=no:=by first|omega|(rw[hno];simp;done)|(rw[hno];simp;omega)
 exact hQ _ _ (.o [3] rfl)
 conv=>cbv
 exact .go [3] (xl,nl) (hJj _ ⟨_,hl,Ic,rfl,by rw[aa];omega⟩)
 rintro⟨ab,ac⟩ ⟨w3,ad,an,hwl,hneg⟩
 have hwn:w3.length=l.length:=by rw[hwl]
 conv=>cbv
 generalize aa:Cq w3 name=r1
 refine .bx [3,1] [] hP (Tt ad (by first|rfl|omega|(simp;omega)) (by omega) aa) rfl rfl rfl rfl ?_
 conv=>cbv
 have hb:=Xgo (p:=fun e=>La e name) aa
 refine .lss (fun h2=>?_) fun h2=>?_
 conv=>cbv
 refine .go fun v3 ao=>?_
 conv=>cbv
 generalize ae:Jh w3 v3 [(⟨name,id⟩:Ad)]=l4
 generalize af:l4.map Ac=ak
 obtain⟨nl4,hnl4⟩:∃m,m=l4.length:=⟨_,rfl⟩
 refine .bx [3,4] [] hP (Gv ad (by first|rfl|omega|(simp;omega)) rfl (by first|rfl|omega|(simp;omega)) (by omega) ae af hnl4) rfl rfl rfl rfl ?_
 conv=>cbv
 have e:l4=Uq l name id:=(by rw[←hwl];unfold Uq;rw[if_neg (by omega),aa,if_pos (by omega),show((w3.length:Nat):Int)=v3 by omega];exact ae.symm)
 rw[hr]at e
 subst e
 obtain rfl:ak=xo:=by rw[←af,←ho]
 obtain rfl:nl4=no:=by first|omega|(rw[hno];simp;done)|(rw[hno];simp;omega)
 exact hQ _ _ (.o [5] rfl)
 conv=>cbv
 generalize ag:Jh w3 r1 [(⟨name,id⟩:Ad)]=l3
 generalize ah:l3.map Ac=al
 obtain⟨nl3,hnl3⟩:∃m,m=l3.length:=⟨_,rfl⟩
 refine .bx [3,4] [] hP (Gv ad (by first|rfl|omega|(simp;omega)) rfl (by first|rfl|omega|(simp;omega)) (by omega) ag ah hnl3) rfl rfl rfl rfl ?_
 conv=>cbv
 have e:l3=Uq l name id:=(by rw[←hwl];unfold Uq;rw[if_neg (by omega),aa,if_neg (by omega)];exact ag.symm)
 rw[hr]at e
 subst e
 obtain rfl:al=xo:=by rw[←ah,←ho]
 obtain rfl:nl3=no:=by first|omega|(rw[hno];simp;done)|(rw[hno];simp;omega)
 exact hQ _ _ (.o [5] rfl)
theorem Zz:Setup Tryz.prog ((1000016,E9 Tryz.prog 1000016)::Tc):=(Setup.mark 1000016 Nz)
theorem Xf2{noa:Nat}(hl:l.map Ac=xl)(hnl:nl=l.length)(hn:l.length≤4000000000)(hs:name.size≤1000000000)(hr:Gq l name=(oa,ob))(hoa:oa.map Ac=xoa)(hnoa:noa=oa.length):Fn Tryz.prog 308 [.ref 0 0 nl,S name] [.row 2 false xl] ⟨.tup [.ref 1 0 noa,B ob],[.row 2 false xoa],[(0,.dead)]⟩:=by
 refine Fn.goR Zz Tryz.func308 fun P hP Q hQ=>?_
 conv=>cbv
 generalize ab:Bd l name=r1
 refine .lnt hP (K2 hl (by omega) ab) (.ref rfl (by rw[←hl,List.length_map];first|omega|(simp;omega)) (.d rfl .nil)) ?_
 conv=>cbv
 have hb:=Jg ab
 refine JoinW.jn (κ:=(List (List D))×Nat) Zz hP [0] [0,6] (fun(ac,ad)=>[]) (fun(ac,ad)=>[(2,.row 2 false ac)])
  (fun(ac,ad)=>∃(w2:List Ad),w2.map Ac=ac∧ad=w2.length∧w2=l∧0≤r1∧Bs name=true) (fun Jj hJj=>?_) ?_
 conv=>cbv
 refine .lss (fun h2=>?_) fun h2=>?_
 conv=>cbv
 have e:([],false)=Gq l name:=(by unfold Gq;rw[ab,if_pos (.inl h2)])
 rw[hr]at e
 simp only[Prod.mk.injEq]at e
 obtain⟨rfl,rfl⟩:=e
 obtain rfl:[]=xoa:=by first|(rw[←hoa];done)|(rw[←hoa];rfl)
 obtain rfl:0=noa:=by first|omega|(rw[hnoa];simp;done)|(rw[hnoa];simp;omega)
 exact hQ _ _ (.o [3] rfl)
 conv=>cbv
 generalize aa:Bs name=r3
 refine .dd hP (Kt (by omega) aa) ?_
 cases r3
 conv=>cbv
 have e:([],false)=Gq l name:=(by unfold Gq;rw[ab,if_pos (.inr aa)])
 rw[hr]at e
 simp only[Prod.mk.injEq]at e
 obtain⟨rfl,rfl⟩:=e
 obtain rfl:[]=xoa:=by first|(rw[←hoa];done)|(rw[←hoa];rfl)
 obtain rfl:0=noa:=by first|omega|(rw[hnoa];simp;done)|(rw[hnoa];simp;omega)
 exact hQ _ _ (.o [3] rfl)
 conv=>cbv
 exact .go [2] (xl,nl) (hJj _ ⟨_,hl,Ic,rfl,by omega,aa⟩)
 rintro⟨ac,ad⟩ ⟨w2,af,ai,hwl,aj,hnm⟩
 have hwn:w2.length=l.length:=by rw[hwl]
 conv=>cbv
 refine .add fun v2 ag=>?_
 conv=>cbv
 generalize aa:K4 w2 r1 v2=l3
 generalize ae:l3.map Ac=ah
 obtain⟨nl3,hnl3⟩:∃m,m=l3.length:=⟨_,rfl⟩
 refine .bx [2] [] hP (Li af (by first|rfl|omega|(simp;omega)) (by omega) aa ae hnl3) rfl rfl rfl rfl ?_
 conv=>cbv
 have e:(l3,true)=Gq l name:=(by unfold Gq;rw[ab,if_neg (by rintro(h|h);omega;rw[hnm]at h;cases h),←aa,ag,hwl])
 rw[hr]at e
 simp only[Prod.mk.injEq]at e
 obtain⟨rfl,rfl⟩:=e
 obtain rfl:ah=xoa:=by rw[←ae,←hoa]
 obtain rfl:nl3=noa:=by first|omega|(rw[hnoa];simp;done)|(rw[hnoa];simp;omega)
 exact hQ _ _ (.o [3] rfl)
theorem Xcp{o:Int}(hl:l.map Ac=xl)(hn:l.length≤4000000000)(hr:Cw l name=o):Fn Tryz.prog 309 [.d (.row 2 xl),S name] [] ⟨I o,[],[]⟩:=by
 refine Fn.go Nz Tryz.func309 fun P hP Q hQ=>?_
 conv=>cbv
 generalize aa:Bd l name=r1
 refine .dd hP (K2 hl (by omega) aa) ?_
 conv=>cbv
 have hb:=Jg aa
 refine .lss (fun h2=>?_) fun h2=>?_
 conv=>cbv
 have e:0=Cw l name:=(by unfold Cw;rw[aa,if_pos (by omega)])
 rw[hr]at e
 subst e
 exact hQ _ _ (.i rfl rfl)
 conv=>cbv
 refine .go r1.toNat hl fun ae ⟨ac,ab⟩ ad=>?_
 conv=>cbv
 have e:ab=Cw l name:=(by unfold Cw;rw[aa,if_neg (by omega),←gD (show r1.toNat<l.length by omega),←ad])
 rw[hr]at e
 subst e
 exact hQ _ _ (.i rfl rfl)
def As(l:List Ad)(step:ByteArray):List Ad×Bool:=
 if step=tx []then([],false)else
 let nm:=(Lb (step.extract 1 step.size)).1
 let rest:=(Lb (step.extract 1 step.size)).2.1
 let has:=(Lb (step.extract 1 step.size)).2.2
 if step.data.toList.head?=some 43 then
  (if has=false∨(Bh rest).2=false∨Bs nm=false then([],false)else(Uq l nm (Bh rest).1,true))
 else if step.data.toList.head?=some 45 then Gq l (step.extract 1 step.size)
 else if step.data.toList.head?=some 62 then
  (if has=false∨(Gq l nm).2=false∨Bs rest=false∨nm=rest then([],false)else(Uq (Gq l nm).1 rest (Cw l nm),true))
 else([],false)
theorem Hz{t:ByteArray}(h:0<t.size):t.data.toList.head?=some t[0]:=by
 rw[List.head?_eq_getElem?]
 exact N5 h
theorem XaS{t:ByteArray}(h:t≠tx []):0<t.size:=by
 rcases Nat.eq_zero_or_pos t.size with h0|h0
 ·exfalso
  apply h
  have hl:t.data.toList.length=t.size:=Array.length_toList
  rw[h0]at hl
  have h1:=List.eq_nil_of_length_eq_zero hl
  apply ByteArray.ext
  exact Array.toList_inj.1 (by rw[h1];rfl)
 ·exact h0
theorem XeU{b:UInt8}{v:Int}{n:Nat}(hv:v=(b.toNat:Int))(h:v=(n:Int))(hn:n<256):b=UInt8.ofNat n:=by
 apply UInt8.toNat_inj.1
 rw[UInt8.toNat_ofNat',Nat.mod_eq_of_lt (by omega)]
 omega
theorem Xea{b:UInt8}{v:Int}{n:Nat}(hv:v=(b.toNat:Int))(h:v≠(n:Int))(hn:n<256):b≠UInt8.ofNat n:=by
 rintro rfl
 apply h
 rw[hv,UInt8.toNat_ofNat',Nat.mod_eq_of_lt (by omega)]
section
variable {l:List Ad} {step a b:ByteArray} {c:Bool}
theorem XaL(h:step=tx []):As l step=([],false):=by
 unfold As
 rw[if_pos h]
theorem Ht(h:step≠tx [])(hh:step.data.toList.head?=some 43)(hc:Lb (step.extract 1 step.size)=(a,b,c)):As l step=if c=false∨(Bh b).2=false∨Bs a=false then([],false)else(Uq l a (Bh b).1,true):=by
 unfold As
 rw[if_neg h,hc,if_pos hh]
theorem Pu(h:step≠tx [])(hh:step.data.toList.head?=some 45):As l step=Gq l (step.extract 1 step.size):=by
 unfold As
 rw[if_neg h,if_neg (by rw[hh];decide),if_pos hh]
theorem Gh(h:step≠tx [])(hh:step.data.toList.head?=some 62)(hc:Lb (step.extract 1 step.size)=(a,b,c)):As l step=if c=false∨(Gq l a).2=false∨Bs b=false∨a=b then([],false)else(Uq (Gq l a).1 b (Cw l a),true):=by
 unfold As
 rw[if_neg h,hc,if_neg (by rw[hh];decide),if_neg (by rw[hh];decide),if_pos hh]
theorem Wi{x:UInt8}(h:step≠tx [])(hh:step.data.toList.head?=some x)(h1:x≠43)(h2:x≠45)(h3:x≠62):As l step=([],false):=by
 unfold As
 have k:∀y,x≠y→¬step.data.toList.head?=some y:=fun y hy e=>hy (by rw[hh]at e;exact Option.some.inj e)
 rw[if_neg h,if_neg (k _ h1),if_neg (k _ h2),if_neg (k _ h3)]
end
theorem XfH{s a b:ByteArray}{c:Bool}(e:Lb s=(a,b,c)):a.size≤s.size∧b.size≤s.size:=by
 unfold Lb at e
 split at e
 ·simp only[Prod.mk.injEq]at e
  obtain⟨rfl,rfl,rfl⟩:=e
  rw[ByteArray.size_extract,ByteArray.size_extract]
  omega
 ·simp only[Prod.mk.injEq]at e
  obtain⟨rfl,rfl,rfl⟩:=e
  exact⟨Nat.le_refl _,by rw[Bz];exact Nat.zero_le _⟩
theorem Sb{l a:List Ad}{n:ByteArray}{b:Bool}(e:Gq l n=(a,b)):a.length≤l.length:=by
 unfold Gq at e
 split at e
 ·simp only[Prod.mk.injEq]at e
  rw[←e.1]
  exact Nat.zero_le _
 ·simp only[Prod.mk.injEq]at e
  rw[←e.1]
  unfold K4
  rw[List.length_eraseIdx]
  split<;>omega
theorem Xgm{l a:List Ad}{n:ByteArray}{i:Int}(e:Uq l n i=a):a.length≤l.length+1:=by
 rw[←e]
 unfold Uq Jh
 split
 ·rw[List.length_set];omega
 ·simp only[List.length_append,List.length_take,List.length_drop,List.length_cons,List.length_nil]
  omega
theorem M9{l a:List Ad}{s:ByteArray}{b:Bool}(e:As l s=(a,b)):a.length≤l.length+1:=by
 unfold As at e
 have h0:∀{b:Bool},(([]:List Ad),false)=(a,b)→a.length≤l.length+1:=fun h=>by
  simp only[Prod.mk.injEq]at h
  rw[←h.1];exact Nat.zero_le _
 split at e
 ·exact h0 e
 ·dsimp only at e
  split at e
  ·split at e
   ·exact h0 e
   ·simp only[Prod.mk.injEq]at e
    exact Xgm e.1
  ·split at e
   ·have:=Sb e;omega
   ·split at e
    ·split at e
     ·exact h0 e
     ·simp only[Prod.mk.injEq]at e
      have h1:=Xgm e.1
      have h2:=Sb (l:=l) (n:=(Lb (s.extract 1 s.size)).1) (a:=(Gq l (Lb (s.extract 1 s.size)).1).1) (b:=(Gq l (Lb (s.extract 1 s.size)).1).2) rfl
      omega
    ·exact h0 e
theorem Ti{step:ByteArray}(hl:l.map Ac=xl)(hn:l.length≤4000000000)(hs:step.size≤1000000000)(hr:As l step=(oa,ob))(hoa:oa.map Ac=xoa):Fn Tryz.prog 272 [.d (.row 2 xl),S step] [] ⟨.tup [.d (.row 2 xoa),B ob],[],[]⟩:=by
 refine Fn.go Nz Tryz.func272 fun P hP Q hQ=>?_
 conv=>cbv
 refine .eql (fun h1=>?_) fun h1=>?_
 conv=>cbv
 have e:([],false)=As l step:=(by exact(XaL h1).symm)
 rw[hr]at e
 simp only[Prod.mk.injEq]at e
 obtain⟨rfl,rfl⟩:=e
 refine hQ _ _ ?_
 exact .m rfl (.ref rfl rfl (by rw[←hoa];rfl) .d1)
 conv=>cbv
 have hps:=XaS h1
 refine .lo fun s2 ax=>?_
 conv=>cbv
 have be:s2.size≤step.size:=by rw[ax,ByteArray.size_extract];omega
 rcases al:Lb s2 with⟨ae,am,ao⟩
 have hcb:=XfH al
 have hcu:Lb (step.extract 1 step.size)=(ae,am,ao):=by rw[ax]at al;exact al
 refine .dd hP (R9 (by omega) al) ?_
 conv=>cbv
 generalize ay:Ds l=l4
 have aa:l4=l:=ay.symm
 have bb:l4.length=l.length:=by rw[aa]
 generalize af:l4.map Ac=bf
 obtain⟨nl4,hnl4⟩:∃m,m=l4.length:=⟨_,rfl⟩
 refine .ddA hP (Cz hl (by omega) ay af hnl4) rfl rfl rfl (af▸Ff (fun _=>rfl) l4) ?_
 conv=>cbv
 refine .go 0 fun hjv5 v5 ad bv5=>?_
 conv=>cbv
 refine .eql (fun h6=>?_) fun h6=>?_
 conv=>cbv
 have hh:step.data.toList.head?=some 43:=(Hz hps).trans (congrArg some (XeU (n:=43) ad (by omega) (by decide)))
 rcases ap:Bh am with⟨a2,a6⟩
 refine .dd hP (Sa (by omega) ap) ?_
 conv=>cbv
 cases ao
 conv=>cbv
 have e:([],false)=As l step:=(by rw[Ht h1 hh hcu,if_pos (.inl rfl)])
 rw[hr]at e
 simp only[Prod.mk.injEq]at e
 obtain⟨rfl,rfl⟩:=e
 refine hQ _ _ ?_
 exact .m rfl (.ref rfl rfl (by rw[←hoa];rfl) .d1)
 conv=>cbv
 cases a6
 conv=>cbv
 have e:([],false)=As l step:=(by rw[Ht h1 hh hcu,ap,if_pos (.inr (.inl rfl))])
 rw[hr]at e
 simp only[Prod.mk.injEq]at e
 obtain⟨rfl,rfl⟩:=e
 refine hQ _ _ ?_
 exact .m rfl (.ref rfl rfl (by rw[←hoa];rfl) .d1)
 conv=>cbv
 generalize aq:Bs ae=r8
 refine .dd hP (Kt (by omega) aq) ?_
 cases r8
 conv=>cbv
 have e:([],false)=As l step:=(by rw[Ht h1 hh hcu,if_pos (.inr (.inr aq))])
 rw[hr]at e
 simp only[Prod.mk.injEq]at e
 obtain⟨rfl,rfl⟩:=e
 refine hQ _ _ ?_
 exact .m rfl (.ref rfl rfl (by rw[←hoa];rfl) .d1)
 conv=>cbv
 generalize ab:Uq l4 ae a2=l9
 generalize ar:l9.map Ac=bg
 obtain⟨nl9,hnl9⟩:∃m,m=l9.length:=⟨_,rfl⟩
 refine .bx [1] [] hP (Xkv af (by first|rfl|omega|(simp;omega)) (by omega) ab ar hnl9) rfl rfl rfl rfl ?_
 conv=>cbv
 have e:(l9,true)=As l step:=(by rw[Ht h1 hh hcu,ap,if_neg (by rw[aq];simp),←ab,aa])
 rw[hr]at e
 simp only[Prod.mk.injEq]at e
 obtain⟨rfl,rfl⟩:=e
 refine hQ _ _ ?_
 exact .m rfl (.ref rfl (by rw[←ar,List.length_map];first|omega|(simp;omega)) (by rw[←ar,←hoa]) .d1)
 conv=>cbv
 refine .eql (fun h7=>?_) fun h7=>?_
 conv=>cbv
 have hh:step.data.toList.head?=some 45:=(Hz hps).trans (congrArg some (XeU (n:=45) ad (by omega) (by decide)))
 refine .lo fun s8 az=>?_
 conv=>cbv
 have bh:s8.size≤step.size:=by rw[az,ByteArray.size_extract];omega
 rcases ab:Gq l4 s8 with⟨au,a7⟩
 generalize ag:au.map Ac=bc
 obtain⟨nr9a,hnr9a⟩:∃m,m=au.length:=⟨_,rfl⟩
 refine .bx [1] [] hP (Xf2 af (by first|rfl|omega|(simp;omega)) (by omega) (by omega) ab ag hnr9a) rfl rfl rfl rfl ?_
 conv=>cbv
 have e:(au,a7)=As l step:=(by rw[Pu h1 hh];rw[az,aa]at ab;exact ab.symm)
 rw[hr]at e
 simp only[Prod.mk.injEq]at e
 obtain⟨rfl,rfl⟩:=e
 refine hQ _ _ ?_
 exact .m rfl (.ref rfl (by rw[←ag,List.length_map];first|omega|(simp;omega)) (by rw[←ag,←hoa]) .d1)
 conv=>cbv
 refine .eql (fun h8=>?_) fun h8=>?_
 conv=>cbv
 have hh:step.data.toList.head?=some 62:=(Hz hps).trans (congrArg some (XeU (n:=62) ad (by omega) (by decide)))
 generalize ab:Cw l ae=r9
 refine .dd hP (Xcp hl (by omega) ab) ?_
 conv=>cbv
 rcases ac:Gq l4 ae with⟨ah,a1⟩
 have hdl:=Sb ac
 generalize ai:ah.map Ac=a8
 obtain⟨nr10a,hnr10a⟩:∃m,m=ah.length:=⟨_,rfl⟩
 refine .bx [1] [] hP (Xf2 af (by first|rfl|omega|(simp;omega)) (by omega) (by omega) ac ai hnr10a) rfl rfl rfl rfl ?_
 conv=>cbv
 cases ao
 conv=>cbv
 have e:([],false)=As l step:=(by rw[Gh h1 hh hcu,if_pos (.inl rfl)])
 rw[hr]at e
 simp only[Prod.mk.injEq]at e
 obtain⟨rfl,rfl⟩:=e
 refine hQ _ _ ?_
 exact .m rfl (.ref rfl rfl (by rw[←hoa];rfl) .d1)
 conv=>cbv
 cases a1
 conv=>cbv
 have e:([],false)=As l step:=(by rw[Gh h1 hh hcu,←aa,ac,if_pos (.inr (.inl rfl))])
 rw[hr]at e
 simp only[Prod.mk.injEq]at e
 obtain⟨rfl,rfl⟩:=e
 refine hQ _ _ ?_
 exact .m rfl (.ref rfl rfl (by rw[←hoa];rfl) .d1)
 conv=>cbv
 generalize aj:Bs am=ba
 refine .dd hP (Kt (by omega) aj) ?_
 cases ba
 conv=>cbv
 have e:([],false)=As l step:=(by rw[Gh h1 hh hcu,if_pos (.inr (.inr (.inl aj)))])
 rw[hr]at e
 simp only[Prod.mk.injEq]at e
 obtain⟨rfl,rfl⟩:=e
 refine hQ _ _ ?_
 exact .m rfl (.ref rfl rfl (by rw[←hoa];rfl) .d1)
 conv=>cbv
 refine .eql (fun h12=>?_) fun h12=>?_
 conv=>cbv
 have e:([],false)=As l step:=(by rw[Gh h1 hh hcu,if_pos (.inr (.inr (.inr h12)))])
 rw[hr]at e
 simp only[Prod.mk.injEq]at e
 obtain⟨rfl,rfl⟩:=e
 refine hQ _ _ ?_
 exact .m rfl (.ref rfl rfl (by rw[←hoa];rfl) .d1)
 conv=>cbv
 generalize an:Uq ah am r9=aw
 generalize ak:aw.map Ac=bd
 obtain⟨nl13,hnl13⟩:∃m,m=aw.length:=⟨_,rfl⟩
 refine .bx [2] [] hP (Xkv ai (by first|rfl|omega|(simp;omega)) (by omega) an ak hnl13) rfl rfl rfl rfl ?_
 conv=>cbv
 have e:(aw,true)=As l step:=(by rw[Gh h1 hh hcu,if_neg (by rw[←aa,ac,aj];simp;exact h12),ab,←an,←aa,ac])
 rw[hr]at e
 simp only[Prod.mk.injEq]at e
 obtain⟨rfl,rfl⟩:=e
 refine hQ _ _ ?_
 exact .m rfl (.ref rfl (by rw[←ak,List.length_map];first|omega|(simp;omega)) (by rw[←ak,←hoa]) .d1)
 conv=>cbv
 have e:([],false)=As l step:=(by rw[Wi h1 (Hz hps) (Xea (n:=43) ad h6 (by decide)) (Xea (n:=45) ad h7 (by decide)) (Xea (n:=62) ad h8 (by decide))])
 rw[hr]at e
 simp only[Prod.mk.injEq]at e
 obtain⟨rfl,rfl⟩:=e
 refine hQ _ _ ?_
 exact .m rfl (.ref rfl rfl (by rw[←hoa];rfl) .d1)
end
section
open Go Go.Proofs
def S5:List (Nat×TyRow):=[ty3,ty9,XfK,Z2,Xp,U5,U1]
theorem Xc9:B1 Tryz.prog S5:=B1.of (by kernel_rfl)
theorem Pz:Setup Tryz.prog S5:=⟨Xc9,mixed⟩
theorem Xhe{a b:ByteArray}:a.toList=b.toList↔a=b:=⟨fun e=>Pe e,fun e=>by rw[e]⟩
theorem AggW.eSI{a c:ByteArray}{b d:Int}{K:Bool→Prop}(h1:a=c∧b=d→K true)(h2:¬(a=c∧b=d)→K false):AggW [.str,.int] [.d (.sc (.string a)),.d (.sc (.int .i64 b))] [.d (.sc (.string c)),.d (.sc (.int .i64 d))] K:=by
 by_cases h:a=c∧b=d
 ·refine⟨true,?_,h1 h⟩
  simp[Qi,Xmu,h.1,h.2]
 ·refine⟨false,?_,h2 h⟩
  simp only[Qi,Xmu,if_true,Option.bind_some,Option.map_some,Option.some.injEq,Bool.and_true]
  simpa[Bool.and_eq_false_iff,Xhe]using h
instance decEntry:DecidableEq Ad:=fun a b=>match a,b with
 |⟨n,i⟩,⟨m,j⟩=>decidable_of_iff (n=m∧i=j) (by simp)
def okL(l:List Ad):Prop:=∀e∈l,e.name_.size≤1000000000
def okS(l:List ByteArray):Prop:=∀s∈l,s.size≤1000000000
def J8(d:Aa):Prop:=okD d∧okL d.old_∧okS d.steps_
def F9(d:Aa):Int:=XlL (fun n:A0=>(n.text_.size:Int)) d.nodes_
def nd(d:Aa)(i:Nat):A0:=d.nodes_.getD i ⟨0,tx [],0⟩
def Ey(d:Aa)(i:Nat):Bool:=decide ((0<i→(nd d (i - 1)).id_<(nd d i).id_)∧(1≤(nd d i).id_∧(nd d i).id_≤d.next_ - 1)∧0≤(nd d i).sure_∧(nd d i).sure_≤(nd d i).text_.size)
def Ek(d:Aa):Bool:=(List.range d.nodes_.length).all (Ey d)&&decide (d.nodes_.length≤64)
def en(l:List Ad)(i:Nat):Ad:=l.getD i ⟨tx [],0⟩
def Fr(d:Aa)(l:List Ad)(i:Nat):Bool:=(decide (i=0)|| !(ltB (en l i).name_ (en l (i - 1)).name_||decide ((en l i).name_=(en l (i - 1)).name_)))&&Bs (en l i).name_&&decide (0≤Jb d (en l i).id_)
def Bk(d:Aa)(l:List Ad):Bool:=(List.range l.length).all (Fr d l)&&decide (l.length≤16)
theorem XcK{p:Nat→Bool}{n:Nat}(h:∀i,i<n→p i=true):(List.range n).all p=true:=List.all_eq_true.2 fun i hi=>h i (List.mem_range.1 hi)
theorem Xds{p:Nat→Bool}{n i:Nat}(hi:i<n)(h:p i=false):(List.range n).all p=false:=by
 rw[Bool.eq_false_iff]
 intro ha
 have:=List.all_eq_true.1 ha i (List.mem_range.2 hi)
 rw[h]at this
 cases this
theorem Ks{d:Aa}{i:Nat}(hi:i<d.nodes_.length)(h:Ey d i=false):false=Ek d:=by unfold Ek;rw[Xds hi h];rfl
theorem Wy{d:Aa}{b:Bool}(h:∀i,i<d.nodes_.length→Ey d i=true)(hb:b=decide (d.nodes_.length≤64)):b=Ek d:=by unfold Ek;rw[XcK h,hb];rfl
theorem O6{d:Aa}{l:List Ad}{i:Nat}(hi:i<l.length)(h:Fr d l i=false):false=Bk d l:=by unfold Bk;rw[Xds hi h];rfl
theorem Vq{d:Aa}{l:List Ad}{b:Bool}(h:∀i,i<l.length→Fr d l i=true)(hb:b=decide (l.length≤16)):b=Bk d l:=by unfold Bk;rw[XcK h,hb];rfl
theorem Vh{d:Aa}{l:List Ad}(h:Bk d l=true):l.length≤16:=by
 unfold Bk at h
 rw[Bool.and_eq_true,decide_eq_true_eq]at h
 exact h.2
theorem Xjq{d:Aa}{k:Nat}{x:A0}(hk:k<d.nodes_.length)(h:x=d.nodes_[k]):nd d k=x:=by rw[h,gD hk];rfl
theorem Xb4{l:List Ad}{k:Nat}{x:Ad}(hk:k<l.length)(h:x=l[k]):en l k=x:=by rw[h,gD hk];rfl
def E3(d:Aa):List Ad→List ByteArray→Bool
 |now,[]=>Bk d now&&Jy now d.entries_
 |now,s::ss=>Bk d now&&(As now s).2&&E3 d (As now s).1 ss
def Bq(d:Aa):Bool:=Br d.room_&&Ca d.next_ 1 1000000000&&Ek d&&decide (F9 d≤d.room_)&&E3 d d.old_ d.steps_
theorem XiD{l:List Ad}{n:ByteArray}{i:Int}(h:okL l)(hn:n.size≤1000000000):okL (Uq l n i):=by
 intro e he
 unfold Uq Jh at he
 split at he
 ·rename_i h0
  have hlt:=(Jg (rfl:Bd l n=_)).2
  rcases List.mem_or_eq_of_mem_set he with he|rfl
  ·exact h e he
  ·have hk:(Bd l n).toNat<l.length:=by omega
   show(l.getD (Bd l n).toNat ⟨tx [],0⟩).name_.size≤_
   rw[←gD hk]
   exact h _ (List.getElem_mem hk)
 ·simp only[List.append_assoc,List.mem_append,List.mem_cons,List.not_mem_nil,or_false,List.cons_append,List.nil_append]at he
  rcases he with he|rfl|he
  ·exact h e (List.mem_of_mem_take he)
  ·exact hn
  ·exact h e (List.mem_of_mem_drop he)
theorem Xgz{l a:List Ad}{n:ByteArray}{b:Bool}(h:okL l)(e:Gq l n=(a,b)):okL a:=by
 unfold Gq K4 at e
 split at e
 ·simp only[Prod.mk.injEq]at e
  rw[←e.1];intro x hx;cases hx
 ·simp only[Prod.mk.injEq]at e
  rw[←e.1]
  intro x hx
  exact h x (List.mem_of_mem_eraseIdx hx)
theorem Xbh{l a:List Ad}{s:ByteArray}{b:Bool}(h:okL l)(hs:s.size≤1000000000)(e:As l s=(a,b)):okL a:=by
 have h0:∀{b:Bool},(([]:List Ad),false)=(a,b)→okL a:=fun h=>by
  simp only[Prod.mk.injEq]at h
  rw[←h.1];intro x hx;cases hx
 have hz:(s.extract 1 s.size).size≤s.size:=by rw[ByteArray.size_extract];omega
 obtain⟨x,y,c,hc⟩:∃x y c,Lb (s.extract 1 s.size)=(x,y,c):=⟨_,_,_,rfl⟩
 have hcb:=XfH hc
 unfold As at e
 rw[hc]at e
 split at e
 ·exact h0 e
 ·dsimp only at e
  split at e
  ·split at e
   ·exact h0 e
   ·simp only[Prod.mk.injEq]at e
    rw[←e.1]
    exact XiD h (by omega)
  ·split at e
   ·exact Xgz h e
   ·split at e
    ·split at e
     ·exact h0 e
     ·simp only[Prod.mk.injEq]at e
      rw[←e.1]
      exact XiD (Xgz h (b:=(Gq l x).2) rfl) (by omega)
    ·exact h0 e
variable {Af:List A0} {Bo Bn Bm Bp:List (List D)} {Ah Ai:List Ad} {Ag:List ByteArray} {Ap An:Int} {o:Bool}
theorem Xgd{o:Int}(Al:Af.map Bf=Bo)(Am:Ah.map Ac=Bn)(Aq:Ai.map Ac=Bm)(Ao:Ag.map cS=Bp)(hd:okD ⟨Af,Ah,Ai,Ag,Ap,An⟩)(hr:F9 (⟨Af,Ah,Ai,Ag,Ap,An⟩:Aa)=o):Fn Tryz.prog 269 [.agg [.d (.row 3 Bo),.d (.row 2 Bn),.d (.row 2 Bm),.d (.row 1 Bp),I Ap,I An]] [] ⟨I o,[],[]⟩:=by
 refine Fn.go Pz Tryz.func269 fun P hP Q hQ=>?_
 conv=>cbv
 refine .go Al fun v1 ag=>?_
 conv=>cbv
 refine LoopW.lp (κ:=Int×Int) Pz hP [] [7,8] (fun(i3,i9)=>[(3,I i3),(9,I i9)]) (fun(i3,i9)=>[])
  (fun(i3,i9)=>0≤i9∧i9≤Af.length∧i3=XlL (fun n:A0=>(n.text_.size:Int)) (Af.take i9.toNat)∧0≤i3∧i3≤1000000000*i9)
  (fun(i3,i9)=>(Af.length - i9).toNat) (0,0) ⟨by omega,by omega,rfl,by omega,by omega⟩ ⟨rfl,rfl,trivial⟩ rfl ?_
 rintro⟨i3,i9⟩ J ⟨h0,h1,hx,hx0,hx1⟩ hJ
 have ah:Af.length≤1000000000:=hd.1
 have ac:∀n∈Af,n.text_.size≤1000000000:=hd.2.1
 conv=>cbv
 refine .lss (fun h2=>?_) fun h2=>?_
 conv=>cbv
 refine .go i9.toNat Al fun aa ⟨af,ad,ae⟩ ab=>?_
 conv=>cbv
 have hz:=ac _ (List.getElem_mem aa)
 rw[←ab]at hz
 simp only[]at hz
 refine .go fun v4 ai=>?_
 conv=>cbv
 refine .add fun v5 aj=>?_
 conv=>cbv
 refine .add fun v6 ak=>?_
 conv=>cbv
 exact .go [] (v5,v6) (hJ _ ⟨by omega,by omega,by rw[show v6.toNat=i9.toNat+1 by omega,Xca aa,←hx,←ab];simp only[];omega,by omega,by omega⟩ mlt)
 conv=>cbv
 have e:i3=F9 (⟨Af,Ah,Ai,Ag,Ap,An⟩:Aa):=(by unfold F9;rw[hx,List.take_of_length_le (by omega)])
 rw[hr]at e
 subst e
 exact hQ _ _ (.i rfl rfl)
theorem Lf:Setup Tryz.prog ((3000004,E9 Tryz.prog 3000004)::S5):=(Setup.mark 3000004 Pz)
theorem Xe(Al:Af.map Bf=Bo)(Am:Ah.map Ac=Bn)(Aq:Ai.map Ac=Bm)(Ao:Ag.map cS=Bp)(hd:okD ⟨Af,Ah,Ai,Ag,Ap,An⟩)(hx: -9223372036854775807≤An∧An≤9223372036854775807)(hr:Ek (⟨Af,Ah,Ai,Ag,Ap,An⟩:Aa)=o):Fn Tryz.prog 268 [.agg [.d (.row 3 Bo),.d (.row 2 Bn),.d (.row 2 Bm),.d (.row 1 Bp),I Ap,I An]] [] ⟨B o,[],[]⟩:=by
 refine Fn.go Lf Tryz.func268 fun P hP Q hQ=>?_
 conv=>cbv
 refine .go Al fun v1 ax=>?_
 conv=>cbv
 refine LoopW.lp (κ:=Int) Lf hP [] [1,6,7] (fun i8=>[(8,I i8)]) (fun i8=>[])
  (fun i8=>0≤i8∧i8≤Af.length∧∀j:Nat,j<i8.toNat→Ey (⟨Af,Ah,Ai,Ag,Ap,An⟩:Aa) j=true)
  (fun i8=>(Af.length - i8).toNat) (0) ⟨by omega,by omega,fun j h=>by simp at h⟩ ⟨rfl,trivial⟩ rfl ?_
 rintro i8 J ⟨h0,h1,hb⟩ hJ
 have ay:Af.length≤1000000000:=hd.1
 conv=>cbv
 refine .lss (fun h2=>?_) fun h2=>?_
 conv=>cbv
 refine .go i8.toNat Al fun aa ⟨ad,ai,ab⟩ aj=>?_
 conv=>cbv
 have hnd:=Xjq (d:=(⟨Af,Ah,Ai,Ag,Ap,An⟩:Aa)) aa aj
 refine .gtr (fun h4=>?_) fun h4=>?_
 conv=>cbv
 refine .sub fun v5 ak=>?_
 conv=>cbv
 refine .go v5.toNat Al fun ah ⟨ar,al,am⟩ an=>?_
 conv=>cbv
 have hpd:=Xjq (d:=(⟨Af,Ah,Ai,Ag,Ap,An⟩:Aa)) ah an
 rw[show v5.toNat=i8.toNat - 1 by omega]at hpd
 refine .leq (fun h7=>?_) fun h7=>?_
 conv=>cbv
 refine .go2 (by kernel_rfl) ?_
 conv=>cbv
 have e:false=Ek (⟨Af,Ah,Ai,Ag,Ap,An⟩:Aa):=(by exact Ks (d:=(⟨Af,Ah,Ai,Ag,Ap,An⟩:Aa)) aa (by unfold Ey;rw[decide_eq_false_iff_not,hnd];simp only[];rw[hpd];simp only[];omega))
 rw[hr]at e
 subst e
 exact hQ _ _ (.b rfl rfl)
 conv=>cbv
 refine .sub fun v8 az=>?_
 conv=>cbv
 generalize ae:Ca ad 1 v8=r9
 refine .dd hP (Gk ae) ?_
 cases r9
 simp only[Ca,decide_eq_true_eq,decide_eq_false_iff_not]at ae
 conv=>cbv
 refine .go2 (by kernel_rfl) ?_
 conv=>cbv
 have e:false=Ek (⟨Af,Ah,Ai,Ag,Ap,An⟩:Aa):=(by exact Ks (d:=(⟨Af,Ah,Ai,Ag,Ap,An⟩:Aa)) aa (by unfold Ey;rw[decide_eq_false_iff_not,hnd];simp only[];omega))
 rw[hr]at e
 subst e
 exact hQ _ _ (.b rfl rfl)
 simp only[Ca,decide_eq_true_eq,decide_eq_false_iff_not]at ae
 conv=>cbv
 refine .go fun ao au=>?_
 conv=>cbv
 generalize ac:Ca ab 0 ao=ap
 refine .dd hP (Gk ac) ?_
 cases ap
 simp only[Ca,decide_eq_true_eq,decide_eq_false_iff_not]at ac
 conv=>cbv
 refine .go2 (by kernel_rfl) ?_
 conv=>cbv
 have e:false=Ek (⟨Af,Ah,Ai,Ag,Ap,An⟩:Aa):=(by exact Ks (d:=(⟨Af,Ah,Ai,Ag,Ap,An⟩:Aa)) aa (by unfold Ey;rw[decide_eq_false_iff_not,hnd];simp only[];omega))
 rw[hr]at e
 subst e
 exact hQ _ _ (.b rfl rfl)
 simp only[Ca,decide_eq_true_eq,decide_eq_false_iff_not]at ac
 conv=>cbv
 refine .go2 (by kernel_rfl) ?_
 conv=>cbv
 refine .add fun aq aw=>?_
 conv=>cbv
 exact .go [] (aq) (hJ _ ⟨by omega,by omega,fun j h=>if e:j=i8.toNat then by subst e;unfold Ey;rw[decide_eq_true_eq,hnd,hpd];simp only[];omega else hb j (by omega)⟩ mlt)
 conv=>cbv
 refine .sub fun v5 ak=>?_
 conv=>cbv
 generalize af:Ca ad 1 v5=r6
 refine .dd hP (Gk af) ?_
 cases r6
 simp only[Ca,decide_eq_true_eq,decide_eq_false_iff_not]at af
 conv=>cbv
 refine .go2 (by kernel_rfl) ?_
 conv=>cbv
 have e:false=Ek (⟨Af,Ah,Ai,Ag,Ap,An⟩:Aa):=(by exact Ks (d:=(⟨Af,Ah,Ai,Ag,Ap,An⟩:Aa)) aa (by unfold Ey;rw[decide_eq_false_iff_not,hnd];simp only[];omega))
 rw[hr]at e
 subst e
 exact hQ _ _ (.b rfl rfl)
 simp only[Ca,decide_eq_true_eq,decide_eq_false_iff_not]at af
 conv=>cbv
 refine .go fun v7 a1=>?_
 conv=>cbv
 generalize ag:Ca ab 0 v7=r8
 refine .dd hP (Gk ag) ?_
 cases r8
 simp only[Ca,decide_eq_true_eq,decide_eq_false_iff_not]at ag
 conv=>cbv
 refine .go2 (by kernel_rfl) ?_
 conv=>cbv
 have e:false=Ek (⟨Af,Ah,Ai,Ag,Ap,An⟩:Aa):=(by exact Ks (d:=(⟨Af,Ah,Ai,Ag,Ap,An⟩:Aa)) aa (by unfold Ey;rw[decide_eq_false_iff_not,hnd];simp only[];omega))
 rw[hr]at e
 subst e
 exact hQ _ _ (.b rfl rfl)
 simp only[Ca,decide_eq_true_eq,decide_eq_false_iff_not]at ag
 conv=>cbv
 refine .go2 (by kernel_rfl) ?_
 conv=>cbv
 refine .add fun v9 a2=>?_
 conv=>cbv
 exact .go [] (v9) (hJ _ ⟨by omega,by omega,fun j h=>if e:j=i8.toNat then by subst e;unfold Ey;rw[decide_eq_true_eq,hnd];simp only[];omega else hb j (by omega)⟩ mlt)
 conv=>cbv
 refine .go Al fun v3 a6=>?_
 conv=>cbv
 refine .leq (fun h4=>?_) fun h4=>?_
 conv=>cbv
 have e:true=Ek (⟨Af,Ah,Ai,Ag,Ap,An⟩:Aa):=(by exact Wy (d:=(⟨Af,Ah,Ai,Ag,Ap,An⟩:Aa)) (fun j hj=>hb j (by simp only[]at hj;omega)) (by symm;rw[decide_eq_true_eq];simp only[];omega))
 rw[hr]at e
 subst e
 exact hQ _ _ (.b rfl rfl)
 conv=>cbv
 have e:false=Ek (⟨Af,Ah,Ai,Ag,Ap,An⟩:Aa):=(by exact Wy (d:=(⟨Af,Ah,Ai,Ag,Ap,An⟩:Aa)) (fun j hj=>hb j (by simp only[]at hj;omega)) (by symm;rw[decide_eq_false_iff_not];simp only[];omega))
 rw[hr]at e
 subst e
 exact hQ _ _ (.b rfl rfl)
theorem J3:Setup Tryz.prog ((3000004,E9 Tryz.prog 3000004)::S5):=(Setup.mark 3000004 Pz)
theorem Tm{list:List Ad}{xlist:List (List D)}(Al:Af.map Bf=Bo)(Am:Ah.map Ac=Bn)(Aq:Ai.map Ac=Bm)(Ao:Ag.map cS=Bp)(hlist:list.map Ac=xlist)(hd:okD ⟨Af,Ah,Ai,Ag,Ap,An⟩)(hl:okL list)(hln:list.length≤1000000000)(hr:Bk (⟨Af,Ah,Ai,Ag,Ap,An⟩:Aa) list=o):Fn Tryz.prog 270 [.agg [.d (.row 3 Bo),.d (.row 2 Bn),.d (.row 2 Bm),.d (.row 1 Bp),I Ap,I An],.d (.row 2 xlist)] [] ⟨B o,[],[]⟩:=by
 refine Fn.go J3 Tryz.func270 fun P hP Q hQ=>?_
 conv=>cbv
 refine .go hlist fun v1 ap=>?_
 conv=>cbv
 refine LoopW.lp (κ:=Int) J3 hP [] [1,2,7,8] (fun i9=>[(9,I i9)]) (fun i9=>[])
  (fun i9=>0≤i9∧i9≤list.length∧∀j:Nat,j<i9.toNat→Fr (⟨Af,Ah,Ai,Ag,Ap,An⟩:Aa) list j=true)
  (fun i9=>(list.length - i9).toNat) (0) ⟨by omega,by omega,fun j h=>by simp at h⟩ ⟨rfl,trivial⟩ rfl ?_
 rintro i9 J ⟨h0,h1,hb⟩ hJ
 conv=>cbv
 refine .lss (fun h2=>?_) fun h2=>?_
 conv=>cbv
 refine .go i9.toNat hlist fun aa ⟨ab,ac⟩ ah=>?_
 conv=>cbv
 have hnd:=Xb4 aa ah
 have hzn:ab.size≤1000000000:=by have:=hl _ (List.getElem_mem aa);rw[←ah]at this;exact this
 refine .gtr (fun h4=>?_) fun h4=>?_
 conv=>cbv
 refine .sub fun v5 aq=>?_
 conv=>cbv
 refine .go v5.toNat hlist fun ai ⟨ak,an⟩ al=>?_
 conv=>cbv
 have hpd:=Xb4 ai al
 rw[show v5.toNat=i9.toNat - 1 by omega]at hpd
 refine .leq fun b7 aj=>?_
 conv=>cbv
 cases b7
 conv=>cbv
 generalize ad:Bs ab=r8
 refine .dd hP (Kt (by omega) ad) ?_
 cases r8
 conv=>cbv
 refine .go2 (by kernel_rfl) ?_
 conv=>cbv
 have e:false=Bk (⟨Af,Ah,Ai,Ag,Ap,An⟩:Aa) list:=(by exact O6 (d:=(⟨Af,Ah,Ai,Ag,Ap,An⟩:Aa)) aa (by unfold Fr;rw[hnd];simp only[];rw[ad,Bool.and_false];rfl))
 rw[hr]at e
 subst e
 exact hQ _ _ (.b rfl rfl)
 conv=>cbv
 generalize ae:Jb (⟨Af,Ah,Ai,Ag,Ap,An⟩:Aa) ac=r9
 refine .dd hP (N0 Al Am Aq Ao (by have:=hd.1;simp only[]at this;omega) ae) ?_
 conv=>cbv
 refine .lss (fun h10=>?_) fun h10=>?_
 conv=>cbv
 refine .go2 (by kernel_rfl) ?_
 conv=>cbv
 have e:false=Bk (⟨Af,Ah,Ai,Ag,Ap,An⟩:Aa) list:=(by exact O6 (d:=(⟨Af,Ah,Ai,Ag,Ap,An⟩:Aa)) aa (by unfold Fr;rw[hnd];simp only[];rw[ae,decide_eq_false (show¬0≤r9 by omega),Bool.and_false]))
 rw[hr]at e
 subst e
 exact hQ _ _ (.b rfl rfl)
 conv=>cbv
 refine .go2 (by kernel_rfl) ?_
 conv=>cbv
 refine .add fun am ao=>?_
 conv=>cbv
 exact .go [] (am) (hJ _ ⟨by omega,by omega,fun j h=>if e:j=i9.toNat then by subst e;unfold Fr;rw[hnd,hpd];simp only[];rw[←aj,ad,ae,decide_eq_true (show 0≤r9 by omega),decide_eq_false (show¬i9.toNat=0 by omega)];rfl else hb j (by omega)⟩ mlt)
 conv=>cbv
 refine .go2 (by kernel_rfl) ?_
 conv=>cbv
 have e:false=Bk (⟨Af,Ah,Ai,Ag,Ap,An⟩:Aa) list:=(by exact O6 (d:=(⟨Af,Ah,Ai,Ag,Ap,An⟩:Aa)) aa (by unfold Fr;rw[hnd];simp only[];rw[hpd];simp only[];rw[←aj,decide_eq_false (show¬i9.toNat=0 by omega)];rfl))
 rw[hr]at e
 subst e
 exact hQ _ _ (.b rfl rfl)
 conv=>cbv
 generalize af:Bs ab=r5
 refine .dd hP (Kt (by omega) af) ?_
 cases r5
 conv=>cbv
 refine .go2 (by kernel_rfl) ?_
 conv=>cbv
 have e:false=Bk (⟨Af,Ah,Ai,Ag,Ap,An⟩:Aa) list:=(by exact O6 (d:=(⟨Af,Ah,Ai,Ag,Ap,An⟩:Aa)) aa (by unfold Fr;rw[hnd];simp only[];rw[af,Bool.and_false];rfl))
 rw[hr]at e
 subst e
 exact hQ _ _ (.b rfl rfl)
 conv=>cbv
 generalize ag:Jb (⟨Af,Ah,Ai,Ag,Ap,An⟩:Aa) ac=r6
 refine .dd hP (N0 Al Am Aq Ao (by have:=hd.1;simp only[]at this;omega) ag) ?_
 conv=>cbv
 refine .lss (fun h7=>?_) fun h7=>?_
 conv=>cbv
 refine .go2 (by kernel_rfl) ?_
 conv=>cbv
 have e:false=Bk (⟨Af,Ah,Ai,Ag,Ap,An⟩:Aa) list:=(by exact O6 (d:=(⟨Af,Ah,Ai,Ag,Ap,An⟩:Aa)) aa (by unfold Fr;rw[hnd];simp only[];rw[ag,decide_eq_false (show¬0≤r6 by omega),Bool.and_false]))
 rw[hr]at e
 subst e
 exact hQ _ _ (.b rfl rfl)
 conv=>cbv
 refine .go2 (by kernel_rfl) ?_
 conv=>cbv
 refine .add fun v8 ar=>?_
 conv=>cbv
 exact .go [] (v8) (hJ _ ⟨by omega,by omega,fun j h=>if e:j=i9.toNat then by subst e;unfold Fr;rw[hnd];simp only[];rw[af,ag,decide_eq_true (show 0≤r6 by omega),decide_eq_true (show i9.toNat=0 by omega)];rfl else hb j (by omega)⟩ mlt)
 conv=>cbv
 refine .go hlist fun v3 au=>?_
 conv=>cbv
 refine .leq (fun h4=>?_) fun h4=>?_
 conv=>cbv
 have e:true=Bk (⟨Af,Ah,Ai,Ag,Ap,An⟩:Aa) list:=(by exact Vq (l:=list) (fun j hj=>hb j (by omega)) (by symm;rw[decide_eq_true_eq];omega))
 rw[hr]at e
 subst e
 exact hQ _ _ (.b rfl rfl)
 conv=>cbv
 have e:false=Bk (⟨Af,Ah,Ai,Ag,Ap,An⟩:Aa) list:=(by exact Vq (l:=list) (fun j hj=>hb j (by omega)) (by symm;rw[decide_eq_false_iff_not];omega))
 rw[hr]at e
 subst e
 exact hQ _ _ (.b rfl rfl)
theorem Lq{a:List Ad}{xa:List (List D)}{b:List Ad}{xb:List (List D)}(ha:a.map Ac=xa)(hb:b.map Ac=xb)(aj:a.length<2^40)(hr:Jy a b=o):Fn Tryz.prog 271 [.d (.row 2 xa),.d (.row 2 xb)] [] ⟨B o,[],[]⟩:=by
 refine Fn.go Pz Tryz.func271 fun P hP Q hQ=>?_
 conv=>cbv
 refine .go ha fun v1 ak=>?_
 conv=>cbv
 refine .go hb fun v2 al=>?_
 conv=>cbv
 refine .neq (fun h3=>?_) fun h3=>?_
 conv=>cbv
 have e:false=Jy a b:=(by unfold Jy;symm;rw[decide_eq_false_iff_not];intro h;subst h;omega)
 rw[hr]at e
 subst e
 exact hQ _ _ (.b rfl rfl)
 conv=>cbv
 refine .go ha fun v4 am=>?_
 conv=>cbv
 refine LoopW.lp (κ:=Int) Pz hP [] [0,1,12] (fun aa=>[(13,I aa)]) (fun aa=>[])
  (fun aa=>0≤aa∧aa≤a.length∧∀(j:Nat) (p:j<a.length) (q:j<b.length),j<aa.toNat→a[j]=b[j])
  (fun aa=>(a.length - aa).toNat) (0) ⟨by omega,by omega,fun j p q h=>by simp at h⟩ ⟨rfl,trivial⟩ rfl ?_
 rintro aa J ⟨h0,h1,hs⟩ hJ
 conv=>cbv
 refine .lss (fun h5=>?_) fun h5=>?_
 conv=>cbv
 refine .go aa.toNat ha fun af ⟨ad,ag⟩ ab=>?_
 conv=>cbv
 refine .go aa.toNat hb fun ah ⟨ae,ai⟩ ac=>?_
 conv=>cbv
 refine .eSI (fun h8=>?_) fun h8=>?_
 conv=>cbv
 refine .add fun v9 an=>?_
 conv=>cbv
 exact .go [] (v9) (hJ _ ⟨by omega,by omega,fun j p q h=>if e:j=aa.toNat then by subst e;rw[←ab,←ac,Ad.mk.injEq];exact h8 else hs j p q (by omega)⟩ mlt)
 conv=>cbv
 have e:false=Jy a b:=(by unfold Jy;symm;rw[decide_eq_false_iff_not];intro h;subst h;have:=ab.trans ac.symm;rw[Ad.mk.injEq]at this;exact h8 this)
 rw[hr]at e
 subst e
 exact hQ _ _ (.b rfl rfl)
 conv=>cbv
 have e:true=Jy a b:=(by unfold Jy;symm;rw[decide_eq_true_eq];exact List.ext_getElem (show a.length=b.length by omega) fun j p q=>hs j p q (by omega))
 rw[hr]at e
 subst e
 exact hQ _ _ (.b rfl rfl)
end
section
open Go Go.Proofs
def Xg:List (Nat×TyRow):=[ty3,ty9,XfK,Z2,Xp,U5,U1]
theorem Xby:B1 Tryz.prog Xg:=B1.of (by kernel_rfl)
theorem Kw:Setup Tryz.prog Xg:=⟨Xby,mixed⟩
theorem Nr:∀a b:List UInt8,Op.bytesLess a b=true→Op.bytesLess b a=false
 |_,[],h=>by simp[Op.bytesLess]at h
 |[],_::_,_=>by simp[Op.bytesLess]
 |a::x,b::y,h=>by
  simp only[Op.bytesLess,Bool.or_eq_true,decide_eq_true_eq,Bool.and_eq_true,beq_iff_eq]at h
  simp only[Op.bytesLess,Bool.or_eq_false_iff,decide_eq_false_iff_not,Bool.and_eq_false_iff,beq_eq_false_iff_ne]
  rcases h with h|⟨h1,h2⟩
  ·exact⟨fun h3=>absurd (UInt8.lt_trans h h3) (UInt8.lt_irrefl _),.inl fun e=>by subst e;exact UInt8.lt_irrefl _ h⟩
  ·subst h1
   exact⟨UInt8.lt_irrefl _,.inr (Nr x y h2)⟩
theorem V1:∀a b:List UInt8,Op.bytesLess a b=false→a≠b→Op.bytesLess b a=true
 |[],[],_,h=>absurd rfl h
 |[],_::_,h,_=>by simp[Op.bytesLess]at h
 |_::_,[],_,_=>by simp[Op.bytesLess]
 |a::x,b::y,h,hn=>by
  simp only[Op.bytesLess,Bool.or_eq_false_iff,decide_eq_false_iff_not,Bool.and_eq_false_iff,beq_eq_false_iff_ne]at h
  simp only[Op.bytesLess,Bool.or_eq_true,decide_eq_true_eq,Bool.and_eq_true,beq_iff_eq]
  by_cases e:a=b
  ·subst e
   right
   refine⟨rfl,V1 x y (h.2.resolve_left fun h=>h rfl) fun e=>hn (by rw[e])⟩
  ·left
   exact(UInt8.lt_or_lt_of_ne e).resolve_left h.1
theorem Xen(a b:ByteArray):(!(ltB a b))=(ltB b a||decide (b=a)):=by
 unfold ltB
 cases h:Op.bytesLess a.toList b.toList with
 |true=>
  rw[Nr _ _ h]
  have:¬b=a:=by
   rintro rfl
   have:=Nr _ _ h
   rw[h]at this
   cases this
  rw[decide_eq_false this];rfl
 |false=>
  by_cases e:b=a
  ·rw[decide_eq_true e,Bool.or_true];rfl
  ·rw[V1 _ _ h fun e2=>e (Pe e2.symm),decide_eq_false e];rfl
def Ib(d:Aa)(l:List Ad):Bool:=Bk d l
def Lu(a b:List Ad):Bool:=Jy a b
def D2(l:List Ad)(name:ByteArray):List Ad:=l.filter fun x=>!decide (x.name_=name)
def U6(e:Ad):List Ad→Bool→List Ad
 |[],done=>if done=true then[]else[e]
 |x::l,done=>(if done=false∧ltB x.name_ e.name_=false then[e]else[])++((if x.name_=e.name_ then[]else[x])++U6 e l (done|| !(ltB x.name_ e.name_)))
def En(l:List Ad)(e:Ad):List Ad:=U6 e l false
theorem Pn{e x:Ad}{l:List Ad}{i:Nat}{b:Bool}{w:List Ad}{r:List Ad}(hi:i<l.length)(hx:x=l[i])(h:w++U6 e (l.drop i) b=r):
  w++((if b=false∧ltB x.name_ e.name_=false then[e]else[])++((if x.name_=e.name_ then[]else[x])++U6 e (l.drop (i+1)) (b|| !(ltB x.name_ e.name_))))=r:=by
 rw[List.drop_eq_getElem_cons hi,←hx]at h
 exact h
variable {Af:List A0} {Bo Bn Bm Bp xl xo:List (List D)} {Ah Ai o l:List Ad} {Ag:List ByteArray} {Ap An:Int}
theorem Xgl{o:Int}(Al:Af.map Bf=Bo)(Am:Ah.map Ac=Bn)(Aq:Ai.map Ac=Bm)(Ao:Ag.map cS=Bp)(hd:okD ⟨Af,Ah,Ai,Ag,Ap,An⟩)(hr:F9 (⟨Af,Ah,Ai,Ag,Ap,An⟩:Aa)=o):Fn Tryz.prog 225 [.agg [.d (.row 3 Bo),.d (.row 2 Bn),.d (.row 2 Bm),.d (.row 1 Bp),I Ap,I An]] [] ⟨I o,[],[]⟩:=by
 refine Fn.go Kw Tryz.func225 fun P hP Q hQ=>?_
 conv=>cbv
 refine LoopW.lp (κ:=Int×Int) Kw hP [] [1] (fun(i3,i4)=>[(3,I i3),(4,I i4)]) (fun(i3,i4)=>[])
  (fun(i3,i4)=>0≤i4∧i4≤Af.length∧i3=XlL (fun n:A0=>(n.text_.size:Int)) (Af.take i4.toNat)∧0≤i3∧i3≤1000000000*i4)
  (fun(i3,i4)=>(Af.length - i4).toNat) (0,0) ⟨by omega,by omega,rfl,by omega,by omega⟩ ⟨rfl,rfl,trivial⟩ rfl ?_
 rintro⟨i3,i4⟩ J ⟨h0,h1,hx,hx0,hx1⟩ hJ
 have ag:Af.length≤1000000000:=hd.1
 have ac:∀n∈Af,n.text_.size≤1000000000:=hd.2.1
 conv=>cbv
 refine .go Al fun v1 ah=>?_
 conv=>cbv
 refine .lss (fun h2=>?_) fun h2=>?_
 conv=>cbv
 refine .go i4.toNat Al fun aa ⟨af,ad,ae⟩ ab=>?_
 conv=>cbv
 have hz:=ac _ (List.getElem_mem aa)
 rw[←ab]at hz
 simp only[]at hz
 refine .go fun v4 ai=>?_
 conv=>cbv
 refine .add fun v5 aj=>?_
 conv=>cbv
 refine .add fun v6 ak=>?_
 conv=>cbv
 exact .go [] (v5,v6) (hJ _ ⟨by omega,by omega,by rw[show v6.toNat=i4.toNat+1 by omega,Xca aa,←hx,←ab];simp only[];omega,by omega,by omega⟩ mlt)
 conv=>cbv
 have e:i3=F9 (⟨Af,Ah,Ai,Ag,Ap,An⟩:Aa):=(by unfold F9;rw[hx,List.take_of_length_le (by omega)])
 rw[hr]at e
 subst e
 exact hQ _ _ (.i rfl rfl)
theorem Oc:Setup Tryz.prog ((3000004,E9 Tryz.prog 3000004)::Xg):=(Setup.mark 3000004 Kw)
theorem XbP{list:List Ad}{xlist:List (List D)}{o:Bool}(Al:Af.map Bf=Bo)(Am:Ah.map Ac=Bn)(Aq:Ai.map Ac=Bm)(Ao:Ag.map cS=Bp)(hlist:list.map Ac=xlist)(hd:okD ⟨Af,Ah,Ai,Ag,Ap,An⟩)(hl:okL list)(hln:list.length≤1000000000)(hr:Ib (⟨Af,Ah,Ai,Ag,Ap,An⟩:Aa) list=o):Fn Tryz.prog 262 [.agg [.d (.row 3 Bo),.d (.row 2 Bn),.d (.row 2 Bm),.d (.row 1 Bp),I Ap,I An],.d (.row 2 xlist)] [] ⟨B o,[],[]⟩:=by
 refine Fn.go Oc Tryz.func262 fun P hP Q hQ=>?_
 conv=>cbv
 refine LoopW.lp (κ:=Int) Oc hP [] [1,2] (fun i5=>[(5,I i5)]) (fun i5=>[])
  (fun i5=>0≤i5∧i5≤list.length∧∀j:Nat,j<i5.toNat→Fr (⟨Af,Ah,Ai,Ag,Ap,An⟩:Aa) list j=true)
  (fun i5=>(list.length - i5).toNat) (0) ⟨by omega,by omega,fun j h=>by simp at h⟩ ⟨rfl,trivial⟩ rfl ?_
 rintro i5 J ⟨h0,h1,hb⟩ hJ
 conv=>cbv
 refine .go hlist fun v1 a2=>?_
 conv=>cbv
 refine .lss (fun h2=>?_) fun h2=>?_
 conv=>cbv
 refine .go i5.toNat hlist fun aa ⟨ab,am⟩ aj=>?_
 conv=>cbv
 have hnd:=Xb4 aa aj
 have hzn:ab.size≤1000000000:=by have:=hl _ (List.getElem_mem aa);rw[←aj]at this;exact this
 generalize ag:Bs ab=r4
 refine .dd hP (Nh (by omega) ag) ?_
 cases r4
 conv=>cbv
 refine .go2 (by kernel_rfl) ?_
 conv=>cbv
 have e:false=Ib (⟨Af,Ah,Ai,Ag,Ap,An⟩:Aa) list:=(by exact O6 (d:=(⟨Af,Ah,Ai,Ag,Ap,An⟩:Aa)) aa (by unfold Fr;rw[hnd];simp only[];rw[ag,Bool.and_false];rfl))
 rw[hr]at e
 subst e
 exact hQ _ _ (.b rfl rfl)
 conv=>cbv
 refine .go i5.toNat hlist fun az ⟨ae,ac⟩ an=>?_
 conv=>cbv
 generalize ao:H2 (⟨Af,Ah,Ai,Ag,Ap,An⟩:Aa) ac=r6
 refine .dd hP (S8 Al Am Aq Ao (by have:=hd.1;simp only[]at this;omega) ao) ?_
 conv=>cbv
 obtain⟨rfl,rfl⟩:ae=ab∧ac=am:=by have:=an.trans aj.symm;rw[Ad.mk.injEq]at this;exact this
 have af:Jb (⟨Af,Ah,Ai,Ag,Ap,An⟩:Aa) ac=r6:=ao
 refine .lss (fun h7=>?_) fun h7=>?_
 conv=>cbv
 refine .go2 (by kernel_rfl) ?_
 conv=>cbv
 have e:false=Ib (⟨Af,Ah,Ai,Ag,Ap,An⟩:Aa) list:=(by exact O6 (d:=(⟨Af,Ah,Ai,Ag,Ap,An⟩:Aa)) aa (by unfold Fr;rw[hnd];simp only[];rw[af,decide_eq_false (show¬0≤r6 by omega),Bool.and_false]))
 rw[hr]at e
 subst e
 exact hQ _ _ (.b rfl rfl)
 conv=>cbv
 refine .gtr (fun h8=>?_) fun h8=>?_
 conv=>cbv
 refine .sub fun v9 ar=>?_
 conv=>cbv
 refine .go v9.toNat hlist fun ak ⟨ah,au⟩ ap=>?_
 conv=>cbv
 refine .go i5.toNat hlist fun aw ⟨ad,al⟩ aq=>?_
 conv=>cbv
 obtain⟨rfl,rfl⟩:ad=ae∧al=ac:=by have:=aq.trans an.symm;rw[Ad.mk.injEq]at this;exact this
 have hpd:=Xb4 ak ap
 rw[show v9.toNat=i5.toNat - 1 by omega]at hpd
 have hgq:=(Xen ah ad).symm
 refine .geq fun ax ai=>?_
 conv=>cbv
 refine .go2 (by kernel_rfl) ?_
 conv=>cbv
 cases ax
 conv=>cbv
 refine .add fun ay a1=>?_
 conv=>cbv
 exact .go [] (ay) (hJ _ ⟨by omega,by omega,fun j h=>if e:j=i5.toNat then by subst e;unfold Fr;rw[hnd,hpd];simp only[];rw[hgq,←ai,ag,af,decide_eq_true (show 0≤r6 by omega),decide_eq_false (show¬i5.toNat=0 by omega)];rfl else hb j (by omega)⟩ mlt)
 conv=>cbv
 have e:false=Ib (⟨Af,Ah,Ai,Ag,Ap,An⟩:Aa) list:=(by exact O6 (d:=(⟨Af,Ah,Ai,Ag,Ap,An⟩:Aa)) aa (by unfold Fr;rw[hnd];simp only[];rw[hpd];simp only[];rw[hgq,←ai,decide_eq_false (show¬i5.toNat=0 by omega)];rfl))
 rw[hr]at e
 subst e
 exact hQ _ _ (.b rfl rfl)
 conv=>cbv
 refine .go2 (by kernel_rfl) ?_
 conv=>cbv
 refine .add fun v9 ar=>?_
 conv=>cbv
 exact .go [] (v9) (hJ _ ⟨by omega,by omega,fun j h=>if e:j=i5.toNat then by subst e;unfold Fr;rw[hnd];simp only[];rw[ag,af,decide_eq_true (show 0≤r6 by omega),decide_eq_true (show i5.toNat=0 by omega)];rfl else hb j (by omega)⟩ mlt)
 conv=>cbv
 refine .go hlist fun v3 a6=>?_
 conv=>cbv
 refine .leq (fun h4=>?_) fun h4=>?_
 conv=>cbv
 have e:true=Ib (⟨Af,Ah,Ai,Ag,Ap,An⟩:Aa) list:=(by exact Vq (l:=list) (fun j hj=>hb j (by omega)) (by symm;rw[decide_eq_true_eq];omega))
 rw[hr]at e
 subst e
 exact hQ _ _ (.b rfl rfl)
 conv=>cbv
 have e:false=Ib (⟨Af,Ah,Ai,Ag,Ap,An⟩:Aa) list:=(by exact Vq (l:=list) (fun j hj=>hb j (by omega)) (by symm;rw[decide_eq_false_iff_not];omega))
 rw[hr]at e
 subst e
 exact hQ _ _ (.b rfl rfl)
theorem XhH{a:List Ad}{xa:List (List D)}{b:List Ad}{xb:List (List D)}{o:Bool}(ha:a.map Ac=xa)(hb:b.map Ac=xb)(ai:a.length<2^40)(hr:Lu a b=o):Fn Tryz.prog 263 [.d (.row 2 xa),.d (.row 2 xb)] [] ⟨B o,[],[]⟩:=by
 refine Fn.go Kw Tryz.func263 fun P hP Q hQ=>?_
 conv=>cbv
 refine .go ha fun v1 aj=>?_
 conv=>cbv
 refine .go hb fun v2 ak=>?_
 conv=>cbv
 refine .neq (fun h3=>?_) fun h3=>?_
 conv=>cbv
 have e:false=Lu a b:=(by unfold Lu Jy;symm;rw[decide_eq_false_iff_not];intro h;subst h;omega)
 rw[hr]at e
 subst e
 exact hQ _ _ (.b rfl rfl)
 conv=>cbv
 refine LoopW.lp (κ:=Int) Kw hP [] [0,1] (fun i5=>[(5,I i5)]) (fun i5=>[])
  (fun i5=>0≤i5∧i5≤a.length∧∀(j:Nat) (p:j<a.length) (q:j<b.length),j<i5.toNat→a[j]=b[j])
  (fun i5=>(a.length - i5).toNat) (0) ⟨by omega,by omega,fun j p q h=>by simp at h⟩ ⟨rfl,trivial⟩ rfl ?_
 rintro i5 J ⟨h0,h1,hs⟩ hJ
 conv=>cbv
 refine .go ha fun v4 al=>?_
 conv=>cbv
 refine .lss (fun h5=>?_) fun h5=>?_
 conv=>cbv
 refine .go i5.toNat ha fun ae ⟨ac,af⟩ aa=>?_
 conv=>cbv
 refine .go i5.toNat hb fun ag ⟨ad,ah⟩ ab=>?_
 conv=>cbv
 refine .eSI (fun h8=>?_) fun h8=>?_
 conv=>cbv
 refine .add fun v9 am=>?_
 conv=>cbv
 exact .go [] (v9) (hJ _ ⟨by omega,by omega,fun j p q h=>if e:j=i5.toNat then by subst e;rw[←aa,←ab,Ad.mk.injEq];exact h8 else hs j p q (by omega)⟩ mlt)
 conv=>cbv
 have e:false=Lu a b:=(by unfold Lu Jy;symm;rw[decide_eq_false_iff_not];intro h;subst h;have:=aa.trans ab.symm;rw[Ad.mk.injEq]at this;exact h8 this)
 rw[hr]at e
 subst e
 exact hQ _ _ (.b rfl rfl)
 conv=>cbv
 have e:true=Lu a b:=(by unfold Lu Jy;symm;rw[decide_eq_true_eq];exact List.ext_getElem (show a.length=b.length by omega) fun j p q=>hs j p q (by omega))
 rw[hr]at e
 subst e
 exact hQ _ _ (.b rfl rfl)
theorem M6{name:ByteArray}(hl:l.map Ac=xl)(hn:l.length≤4000000000)(hr:D2 l name=o)(ho:o.map Ac=xo):Fn Tryz.prog 266 [.d (.row 2 xl),S name] [] ⟨.d (.row 2 xo),[],[]⟩:=by
 refine Fn.go Kw Tryz.func266 fun P hP Q hQ=>?_
 conv=>cbv
 refine LoopW.lp (κ:=Int×(List (List D))×Nat) Kw hP [1] [0,1] (fun(i6,aa,ab)=>[(5,.ref 2 0 ab),(6,I i6)]) (fun(i6,aa,ab)=>[(2,.row 2 false aa)])
  (fun(i6,aa,ab)=>∃(w2:List Ad),w2.map Ac=aa∧ab=w2.length∧0≤i6∧i6≤l.length∧w2=(l.take i6.toNat).filter (fun x=>!decide (x.name_=name))∧w2.length≤i6)
  (fun(i6,aa,ab)=>(l.length - i6).toNat) (0,[],0) ⟨[],rfl,rfl,by omega,by omega,rfl,by simp⟩ ⟨rfl,rfl,trivial⟩ rfl ?_
 rintro⟨i6,aa,ab⟩ J ⟨w2,ac,al,h0,h1,hx,hxl⟩ hJ
 conv=>cbv
 refine .go hl fun v1 ap=>?_
 conv=>cbv
 refine .lss (fun h2=>?_) fun h2=>?_
 conv=>cbv
 refine .go i6.toNat hl fun ad ⟨ah,am⟩ ae=>?_
 conv=>cbv
 refine .neq (fun h4=>?_) fun h4=>?_
 conv=>cbv
 refine .go i6.toNat hl fun an ⟨af,ag⟩ ai=>?_
 conv=>cbv
 refine .one (⟨af,ag⟩:Ad) ac rfl fun aj z6 ao ak=>?_
 conv=>cbv
 refine .add fun v7 aq=>?_
 conv=>cbv
 exact .go [4] (v7,z6,aj) (hJ _ ⟨_,ak,Ic,by omega,by omega,by rw[show v7.toNat=i6.toNat+1 by omega,Dv ad,←hx,←ae];simp only[];rw[decide_eq_false h4,ai,←ae];rfl,by rw[List.length_append,List.length_singleton];omega⟩ mlt)
 conv=>cbv
 refine .add fun v5 ar=>?_
 conv=>cbv
 exact .go [2] (v5,aa,ab) (hJ _ ⟨_,ac,Ic,by omega,by omega,by rw[show v5.toNat=i6.toNat+1 by omega,Dv ad,←hx,←ae];simp only[];rw[decide_eq_true h4];simp,by omega⟩ mlt)
 conv=>cbv
 have e:w2=D2 l name:=(by unfold D2;rw[hx,List.take_of_length_le (by omega)])
 rw[hr]at e
 subst e
 exact hQ _ _ (.r rfl rfl (by rw[←ac,List.length_map];first|omega|(simp;omega)) (by rw[←ac,←ho]))
theorem Jp{enam:ByteArray}{eid:Int}(hl:l.map Ac=xl)(hn:l.length≤4000000000)(hr:En l (⟨enam,eid⟩:Ad)=o)(ho:o.map Ac=xo):Fn Tryz.prog 267 [.d (.row 2 xl),.agg [S enam,I eid]] [] ⟨.d (.row 2 xo),[],[]⟩:=by
 refine Fn.go Kw Tryz.func267 fun P hP Q hQ=>?_
 conv=>cbv
 refine LoopW.lp (κ:=Bool×Int×(List (List D))×Nat) Kw hP [2] [0,3] (fun(b6,i7,ad,ae)=>[(5,.ref 3 0 ae),(6,B b6),(7,I i7)]) (fun(b6,i7,ad,ae)=>[(3,.row 2 false ad)])
  (fun(b6,i7,ad,ae)=>∃(w3:List Ad),w3.map Ac=ad∧ae=w3.length∧0≤i7∧i7≤l.length∧w3++U6 (⟨enam,eid⟩:Ad) (l.drop i7.toNat) b6=En l (⟨enam,eid⟩:Ad)∧w3.length≤2*i7)
  (fun(b6,i7,ad,ae)=>(l.length - i7).toNat) (false,0,[],0) ⟨[],rfl,rfl,by omega,by omega,rfl,by simp⟩ ⟨rfl,rfl,rfl,trivial⟩ rfl ?_
 rintro⟨b6,i7,ad,ae⟩ J ⟨w3,af,be,h0,h1,hx,hxl⟩ hJ
 conv=>cbv
 refine .go hl fun v1 bo=>?_
 conv=>cbv
 refine .lss (fun h2=>?_) fun h2=>?_
 conv=>cbv
 cases b6
 conv=>cbv
 refine .go i7.toNat hl fun aq ⟨ac,ak⟩ ab=>?_
 conv=>cbv
 refine .geq fun b4 al=>?_
 conv=>cbv
 cases b4
 conv=>cbv
 refine .go i7.toNat hl fun ar ⟨aa,ag⟩ am=>?_
 conv=>cbv
 obtain⟨rfl,rfl⟩:aa=ac∧ag=ak:=by have:=am.trans ab.symm;rw[Ad.mk.injEq]at this;exact this
 refine .neq (fun h6=>?_) fun h6=>?_
 conv=>cbv
 refine .go i7.toNat hl fun bf ⟨ah,an⟩ az=>?_
 conv=>cbv
 obtain⟨rfl,rfl⟩:ah=aa∧an=ag:=by have:=az.trans am.symm;rw[Ad.mk.injEq]at this;exact this
 refine .one (⟨ah,an⟩:Ad) af rfl fun a1 z8 bg a2=>?_
 conv=>cbv
 refine .add fun v9 bp=>?_
 conv=>cbv
 have hlt:ltB ah enam=true:=by simpa using al
 have hps:=Pn (show i7.toNat<l.length by omega) ab hx
 simp only[]at hps
 rw[hlt,if_neg (by simp),if_neg h6,List.nil_append,←List.append_assoc]at hps
 exact .go [5] (false,v9,z8,a1) (hJ _ ⟨_,a2,Ic,by omega,by omega,by rw[show v9.toNat=i7.toNat+1 by omega];exact hps,by first|omega|(simp;omega)⟩ mlt)
 conv=>cbv
 refine .add fun v7 a6=>?_
 conv=>cbv
 have hlt:ltB aa enam=true:=by simpa using al
 have hps:=Pn (show i7.toNat<l.length by omega) ab hx
 simp only[]at hps
 rw[hlt,if_neg (by simp),if_pos h6,List.nil_append,List.nil_append]at hps
 exact .go [3] (false,v7,ad,ae) (hJ _ ⟨_,af,Ic,by omega,by omega,by rw[show v7.toNat=i7.toNat+1 by omega];exact hps,by first|omega|(simp;omega)⟩ mlt)
 conv=>cbv
 refine .one (⟨enam,eid⟩:Ad) af rfl fun a7 z5 bh au=>?_
 conv=>cbv
 refine .go i7.toNat hl fun bi ⟨ai,ao⟩ aw=>?_
 conv=>cbv
 obtain⟨rfl,rfl⟩:ai=ac∧ao=ak:=by have:=aw.trans ab.symm;rw[Ad.mk.injEq]at this;exact this
 refine .neq (fun h7=>?_) fun h7=>?_
 conv=>cbv
 refine .go i7.toNat hl fun bj ⟨aj,ap⟩ a8=>?_
 conv=>cbv
 obtain⟨rfl,rfl⟩:aj=ai∧ap=ao:=by have:=a8.trans aw.symm;rw[Ad.mk.injEq]at this;exact this
 refine .one (⟨aj,ap⟩:Ad) au rfl fun ba z9 bk bb=>?_
 conv=>cbv
 refine .add fun ax bl=>?_
 conv=>cbv
 have hlt:ltB aj enam=false:=by simpa using al
 have hps:=Pn (show i7.toNat<l.length by omega) ab hx
 simp only[]at hps
 rw[hlt,if_pos (by simp),if_neg h7,←List.append_assoc,←List.append_assoc]at hps
 exact .go [7] (true,ax,z9,ba) (hJ _ ⟨_,bb,Ic,by omega,by omega,by rw[show ax.toNat=i7.toNat+1 by omega];exact hps,by first|omega|(simp;omega)⟩ mlt)
 conv=>cbv
 refine .add fun v8 bq=>?_
 conv=>cbv
 have hlt:ltB ai enam=false:=by simpa using al
 have hps:=Pn (show i7.toNat<l.length by omega) ab hx
 simp only[]at hps
 rw[hlt,if_pos (by simp),if_pos h7,List.nil_append,←List.append_assoc]at hps
 exact .go [5] (true,v8,z5,a7) (hJ _ ⟨_,au,Ic,by omega,by omega,by rw[show v8.toNat=i7.toNat+1 by omega];exact hps,by first|omega|(simp;omega)⟩ mlt)
 conv=>cbv
 refine .go i7.toNat hl fun aq ⟨ac,ak⟩ ab=>?_
 conv=>cbv
 refine .neq (fun h4=>?_) fun h4=>?_
 conv=>cbv
 refine .go i7.toNat hl fun ar ⟨aa,ag⟩ am=>?_
 conv=>cbv
 obtain⟨rfl,rfl⟩:aa=ac∧ag=ak:=by have:=am.trans ab.symm;rw[Ad.mk.injEq]at this;exact this
 refine .one (⟨aa,ag⟩:Ad) af rfl fun bc z6 bm bd=>?_
 conv=>cbv
 refine .add fun v7 a6=>?_
 conv=>cbv
 have hps:=Pn (show i7.toNat<l.length by omega) ab hx
 simp only[]at hps
 rw[if_neg (by simp),if_neg h4,List.nil_append,←List.append_assoc]at hps
 exact .go [5] (true,v7,z6,bc) (hJ _ ⟨_,bd,Ic,by omega,by omega,by rw[show v7.toNat=i7.toNat+1 by omega];exact hps,by first|omega|(simp;omega)⟩ mlt)
 conv=>cbv
 refine .add fun v5 bt=>?_
 conv=>cbv
 have hps:=Pn (show i7.toNat<l.length by omega) ab hx
 simp only[]at hps
 rw[if_neg (by simp),if_pos h4,List.nil_append,List.nil_append]at hps
 exact .go [3] (true,v5,ad,ae) (hJ _ ⟨_,af,Ic,by omega,by omega,by rw[show v5.toNat=i7.toNat+1 by omega];exact hps,by first|omega|(simp;omega)⟩ mlt)
 conv=>cbv
 cases b6
 conv=>cbv
 refine .one (⟨enam,eid⟩:Ad) af rfl fun bu z3 bn ay=>?_
 conv=>cbv
 have e:(w3++[(⟨enam,eid⟩:Ad)])=En l (⟨enam,eid⟩:Ad):=(by rw[List.drop_of_length_le (by omega)]at hx;exact hx)
 rw[hr]at e
 subst e
 exact hQ _ _ (.r rfl rfl (by rw[←ay,List.length_map];first|omega|(simp;omega)) (by rw[←ay,←ho]))
 conv=>cbv
 have e:w3=En l (⟨enam,eid⟩:Ad):=(by rw[List.drop_of_length_le (by omega)]at hx;simpa[U6]using hx)
 rw[hr]at e
 subst e
 exact hQ _ _ (.r rfl rfl (by rw[←af,List.length_map];first|omega|(simp;omega)) (by rw[←af,←ho]))
end
section
open Go Go.Proofs
def Xj:List (Nat×TyRow):=[ty3,ty9,Z2,XaC,Xp]
theorem XdS:B1 Tryz.prog Xj:=B1.of (by kernel_rfl)
theorem XkW:Setup Tryz.prog Xj:=⟨XdS,mixed⟩
theorem diskOk_iff{d:Aa}:Bq d=true↔(0≤d.room_∧d.room_≤1000000000)∧(1≤d.next_∧d.next_≤1000000000)∧Ek d=true∧F9 d≤d.room_∧E3 d d.old_ d.steps_=true:=by
 unfold Bq Br Ca
 simp only[Bool.and_eq_true,decide_eq_true_eq,and_assoc]
theorem Ea{d:Aa}(h:¬Bq d=true):false=Bq d:=by
 symm
 rw[Bool.eq_false_iff]
 exact h
theorem Zb{d:Aa}{now:List Ad}{l:List ByteArray}(h:Bk d now=false):E3 d now l=false:=by
 cases l with
 |nil=>unfold E3;rw[h];rfl
 |cons=>unfold E3;rw[h];rfl
def H6:List Ad→List ByteArray→List Ad×Bool
 |now,[]=>(now,true)
 |now,s::ss=>if(As now s).2=false then([],false)else H6 (As now s).1 ss
def Dp(old:List Ad)(steps:List ByteArray)(n:Int):List Ad×Bool:=H6 old (steps.take (Cs n 0 steps.length).toNat)
theorem Uz:Setup Tryz.prog ((3000001,E9 Tryz.prog 3000001)::Xj):=(Setup.mark 3000001 XkW)
theorem N1{Af:List A0}{Bo:List (List D)}{Ah:List Ad}{Bn:List (List D)}{Ai:List Ad}{Bm:List (List D)}{Ag:List ByteArray}{Bp:List (List D)}{Ap:Int}{An:Int}{o:Bool}(Al:Af.map Bf=Bo)(Am:Ah.map Ac=Bn)(Aq:Ai.map Ac=Bm)(Ao:Ag.map cS=Bp)(ab:J8 ⟨Af,Ah,Ai,Ag,Ap,An⟩)(hr:Bq (⟨Af,Ah,Ai,Ag,Ap,An⟩:Aa)=o):Fn Tryz.prog 214 [.agg [.d (.row 3 Bo),.d (.row 2 Bn),.d (.row 2 Bm),.d (.row 1 Bp),I Ap,I An]] [] ⟨B o,[],[]⟩:=by
 refine Fn.go Uz Tryz.func214 fun P hP Q hQ=>?_
 conv=>cbv
 generalize ad:Br Ap=r1
 refine .dd hP (Fx ad) ?_
 cases r1
 simp only[Br,decide_eq_true_eq,decide_eq_false_iff_not]at ad
 conv=>cbv
 refine .go2 (by kernel_rfl) ?_
 conv=>cbv
 have e:false=Bq (⟨Af,Ah,Ai,Ag,Ap,An⟩:Aa):=(by exact Ea fun h=>by rw[diskOk_iff]at h;exact ad h.1)
 rw[hr]at e
 subst e
 exact hQ _ _ (.b rfl rfl)
 simp only[Br,decide_eq_true_eq,decide_eq_false_iff_not]at ad
 conv=>cbv
 generalize ae:Ca An 1 1000000000=r2
 refine .dd hP (Gk ae) ?_
 cases r2
 simp only[Ca,decide_eq_true_eq,decide_eq_false_iff_not]at ae
 conv=>cbv
 refine .go2 (by kernel_rfl) ?_
 conv=>cbv
 have e:false=Bq (⟨Af,Ah,Ai,Ag,Ap,An⟩:Aa):=(by exact Ea fun h=>by rw[diskOk_iff]at h;exact ae h.2.1)
 rw[hr]at e
 subst e
 exact hQ _ _ (.b rfl rfl)
 simp only[Ca,decide_eq_true_eq,decide_eq_false_iff_not]at ae
 conv=>cbv
 generalize am:Ek (⟨Af,Ah,Ai,Ag,Ap,An⟩:Aa)=r3
 refine .dd hP (Xe Al Am Aq Ao ab.1 (by omega) am) ?_
 cases r3
 conv=>cbv
 refine .go2 (by kernel_rfl) ?_
 conv=>cbv
 have e:false=Bq (⟨Af,Ah,Ai,Ag,Ap,An⟩:Aa):=(by exact Ea fun h=>by rw[diskOk_iff]at h;have:=h.2.2.1;rw[am]at this;cases this)
 rw[hr]at e
 subst e
 exact hQ _ _ (.b rfl rfl)
 conv=>cbv
 generalize an:F9 (⟨Af,Ah,Ai,Ag,Ap,An⟩:Aa)=r4
 refine .dd hP (Xgd Al Am Aq Ao ab.1 an) ?_
 conv=>cbv
 refine .gtr (fun h5=>?_) fun h5=>?_
 conv=>cbv
 refine .go2 (by kernel_rfl) ?_
 conv=>cbv
 have e:false=Bq (⟨Af,Ah,Ai,Ag,Ap,An⟩:Aa):=(by exact Ea fun h=>by rw[diskOk_iff]at h;have:=h.2.2.2.1;rw[an]at this;simp only[]at this;omega)
 rw[hr]at e
 subst e
 exact hQ _ _ (.b rfl rfl)
 conv=>cbv
 refine .go2 (by kernel_rfl) ?_
 conv=>cbv
 have hdo:Ai.length≤1000000000:=ab.1.2.2.2.2.1
 have hds:Ag.length≤1000000000:=ab.1.2.2.2.2.2
 generalize aq:Ds Ai=l6
 generalize ar:l6.map Ac=az
 refine .dd hP (C5 Aq (by omega) aq ar) ?_
 conv=>cbv
 have af:l6=Ai:=aq.symm
 refine LoopW.lp (κ:=(List (List D))×Int) Uz hP [] [1] (fun(ac,i4)=>[(3,.d (.row 2 ac)),(4,I i4)]) (fun(ac,i4)=>[])
  (fun(ac,i4)=>∃(u3:List Ad),u3.map Ac=ac∧0≤i4∧i4≤Ag.length∧E3 (⟨Af,Ah,Ai,Ag,Ap,An⟩:Aa) Ai Ag=E3 (⟨Af,Ah,Ai,Ag,Ap,An⟩:Aa) u3 (Ag.drop i4.toNat)∧okL u3∧u3.length≤1000000000)
  (fun(ac,i4)=>(Ag.length - i4).toNat) (az,0) ⟨l6,ar,by omega,by omega,by rw[af];rfl,by rw[af];exact ab.2.1,by rw[af];omega⟩ ⟨rfl,rfl,trivial⟩ rfl ?_
 rintro⟨ac,i4⟩ J ⟨u3,ao,h0,h1,hio,hul,hun⟩ hJ
 conv=>cbv
 generalize ag:Bk (⟨Af,Ah,Ai,Ag,Ap,An⟩:Aa) u3=r7
 refine .dd hP (Tm Al Am Aq Ao ao ab.1 hul (by omega) ag) ?_
 cases r7
 conv=>cbv
 have e:false=Bq (⟨Af,Ah,Ai,Ag,Ap,An⟩:Aa):=(by exact Ea fun h=>by rw[diskOk_iff]at h;have hk:=h.2.2.2.2;simp only[]at hk;rw[hio]at hk;rw[Zb ag]at hk;cases hk)
 rw[hr]at e
 subst e
 exact hQ _ _ (.b rfl rfl)
 conv=>cbv
 have a2:=Vh ag
 refine .go Ao fun v8 a7=>?_
 conv=>cbv
 refine .eql (fun h9=>?_) fun h9=>?_
 conv=>cbv
 generalize ah:Jy u3 Ah=a1
 refine .dd hP (Lq ao Am (by omega) ah) ?_
 cases a1
 conv=>cbv
 have e:false=Bq (⟨Af,Ah,Ai,Ag,Ap,An⟩:Aa):=(by exact Ea fun h=>by rw[diskOk_iff]at h;have hk:=h.2.2.2.2;simp only[]at hk;rw[hio]at hk;rw[List.drop_of_length_le (by omega)]at hk;unfold E3 at hk;rw[ah,Bool.and_false]at hk;cases hk)
 rw[hr]at e
 subst e
 exact hQ _ _ (.b rfl rfl)
 conv=>cbv
 have e:true=Bq (⟨Af,Ah,Ai,Ag,Ap,An⟩:Aa):=(by symm;rw[diskOk_iff];refine⟨ad,ae,am,by rw[an];exact h5,?_⟩;simp only[];rw[hio,List.drop_of_length_le (by omega)];unfold E3;rw[ag,ah];rfl)
 rw[hr]at e
 subst e
 exact hQ _ _ (.b rfl rfl)
 conv=>cbv
 refine .go i4.toNat Ao fun ai aj al=>?_
 conv=>cbv
 have au:aj.size≤1000000000:=al▸ab.2.2 _ (List.getElem_mem ai)
 have hdc:Ag.drop i4.toNat=aj::Ag.drop (i4.toNat+1):=by rw[List.drop_eq_getElem_cons ai,←al]
 rw[hdc]at hio
 rcases aa:As u3 aj with⟨aw,ax⟩
 generalize ak:aw.map Ac=ap
 refine .dd hP (Ti ao (by omega) (by omega) aa ak) ?_
 conv=>cbv
 have hsl:=M9 aa
 have hso:=Xbh hul au aa
 cases ax
 conv=>cbv
 have e:false=Bq (⟨Af,Ah,Ai,Ag,Ap,An⟩:Aa):=(by exact Ea fun h=>by rw[diskOk_iff]at h;have hk:=h.2.2.2.2;simp only[]at hk;rw[hio]at hk;unfold E3 at hk;rw[aa,Bool.and_false]at hk;cases hk)
 rw[hr]at e
 subst e
 exact hQ _ _ (.b rfl rfl)
 conv=>cbv
 refine .add fun ay a6=>?_
 conv=>cbv
 exact .go [] (ap,ay) (hJ _ ⟨_,ak,by omega,by omega,by rw[hio,show ay.toNat=i4.toNat+1 by omega];show(Bk _ _&&(As u3 aj).2&&E3 _ (As u3 aj).1 _)=_;rw[ag,aa];rfl,hso,by omega⟩ mlt)
end
section
open Go Go.Proofs
def Wr:List (Nat×TyRow):=[ty3,ty5,ty9]
theorem XdQ:B1 Tryz.prog Wr:=B1.of (by kernel_rfl)
theorem Xk3:Setup Tryz.prog Wr:=⟨XdQ,mixed⟩
theorem Nj{a b:ByteArray}(h:a.data.toList=b.data.toList):a=b:=ByteArray.ext (Array.toList_inj.1 h)
theorem Dw(s:ByteArray)(a b:Nat):(s.extract a b).data.toList=(s.data.toList.take b).drop a:=by
 rw[ByteArray.data_extract,Array.toList_extract,List.extract_eq_take_drop,List.drop_take]
theorem Pb{c:UInt8}:∀(l:List UInt8) (k:Nat),l[k]? =some c→(∀j,j<k→∀x,l[j]? =some x→x≠c)→Lib.indexByte l c=k
 |[],k,h,_=>by simp at h
 |b::l,0,h,_=>by
  simp at h
  simp[Lib.indexByte,h]
 |b::l,k+1,h,hb=>by
  have h0:=hb 0 (by omega) b rfl
  have ih:=Pb l k (by simpa using h) (fun j hj x hx=>hb (j+1) (by omega) x (by simpa using hx))
  unfold Lib.indexByte
  rw[if_neg (by simpa using h0),ih,if_neg (by simp)]
  omega
theorem Uo{c:UInt8}:∀(l:List UInt8),(∀(j:Nat) x,l[j]? =some x→x≠c)→Lib.indexByte l c= -1
 |[],_=>rfl
 |b::l,hb=>by
  have h0:=hb 0 b rfl
  have ih:=Uo l (fun j x hx=>hb (j+1) x (by simpa using hx))
  unfold Lib.indexByte
  rw[if_neg (by simpa using h0),ih,if_pos (by rfl)]
theorem u8_58{x:UInt8}:x≠58↔x.toNat≠58:=⟨fun h e=>h (UInt8.toNat_inj.1 e),fun h e=>h (by rw[e];rfl)⟩
theorem Xgb{s:ByteArray}{j:Nat}{x:UInt8}(h:(s.extract 1 s.size).data.toList[j]? =some x):∃hj:j+1<s.size,s[j+1]=x:=by
 rw[Dw,List.getElem?_drop,List.take_of_length_le (by rw[Array.length_toList];exact Nat.le_refl _)]at h
 have hl:1+j<s.size:=by
  have:=(List.getElem?_eq_some_iff.1 h).1
  rwa[Array.length_toList]at this
 refine⟨by omega,?_⟩
 rw[show 1+j=j+1 by omega,N5 (show j+1<s.size by omega)]at h
 exact Option.some.inj h
theorem T4{s:ByteArray}{i:Nat}(h1:1≤i)(hi:i<s.size)(h:(s[i]).toNat=58)(hb:∀j,1≤j→j<i→∀hj:j<s.size,(s[j]).toNat≠58):Lb (s.extract 1 s.size)=(s.extract 1 i,s.extract (i+1) s.size,true):=by
 obtain⟨k,rfl⟩:∃k,i=k+1:=⟨i - 1,by omega⟩
 have hsz:(s.extract 1 s.size).size=s.size - 1:=by rw[ByteArray.size_extract];omega
 have e:J9 (s.extract 1 s.size)=(k:Int):=by
  refine Pb _ k ?_ ?_
  ·rw[Dw,List.getElem?_drop,List.take_of_length_le (by rw[Array.length_toList];exact Nat.le_refl _),show 1+k=k+1 by omega,N5 hi]
   exact congrArg some (UInt8.toNat_inj.1 h)
  ·intro j hj x hx
   obtain⟨aa,rfl⟩:=Xgb hx
   exact u8_58.2 (hb (j+1) (by omega) (by omega) aa)
 unfold Lb
 rw[e,if_pos (by omega),Int.toNat_natCast,hsz]
 have a1:(s.extract 1 s.size).extract 0 k=s.extract 1 (k+1):=by
  apply Nj
  rw[Dw,Dw,Dw,List.drop_zero,List.take_of_length_le (l:=s.data.toList) (by rw[Array.length_toList];exact Nat.le_refl _),List.drop_take,Nat.add_sub_cancel]
 have a2:(s.extract 1 s.size).extract (k+1) (s.size - 1)=s.extract (k+1+1) s.size:=by
  apply Nj
  rw[Dw,Dw,Dw,List.take_of_length_le (l:=s.data.toList) (by rw[Array.length_toList];exact Nat.le_refl _),List.take_of_length_le (by rw[List.length_drop,Array.length_toList];exact Nat.le_refl _),List.drop_drop]
  congr 1
  omega
 rw[a1,a2]
theorem Xkr{s:ByteArray}(hb:∀j,1≤j→∀hj:j<s.size,(s[j]).toNat≠58):(Lb (s.extract 1 s.size)).2.2=false:=by
 have e:J9 (s.extract 1 s.size)= -1:=by
  refine Uo _ ?_
  intro j x hx
  obtain⟨aa,rfl⟩:=Xgb hx
  exact u8_58.2 (hb (j+1) (by omega) aa)
 unfold Lb
 rw[e,if_neg (by omega)]
def B7(s:ByteArray):ByteArray×ByteArray×Int×Bool:=
 if s.size<2∨(s.data.toList.head?≠some 43∧s.data.toList.head?≠some 45∧s.data.toList.head?≠some 62)then(tx [],tx [],0,false)
 else if s.data.toList.head?=some 45 then(s.extract 1 s.size,tx [],0,true)
 else if(Lb (s.extract 1 s.size)).2.2=false then(tx [],tx [],0,false)
 else if s.data.toList.head?=some 62 then((Lb (s.extract 1 s.size)).1,(Lb (s.extract 1 s.size)).2.1,0,Bs (Lb (s.extract 1 s.size)).2.1&& !decide ((Lb (s.extract 1 s.size)).1=(Lb (s.extract 1 s.size)).2.1))
 else((Lb (s.extract 1 s.size)).1,tx [],(Bh (Lb (s.extract 1 s.size)).2.1).1,(Bh (Lb (s.extract 1 s.size)).2.1).2&&Bs (Lb (s.extract 1 s.size)).1)
theorem Lm{s:ByteArray}{v:Int}{n:Nat}(h0:0<s.size)(hv:v=((s[0]).toNat:Int))(h:v≠(n:Int))(hn:n<256):s.data.toList.head?≠some (UInt8.ofNat n):=by
 rw[Hz h0]
 intro e
 exact Xea hv h hn (Option.some.inj e)
theorem Mg{s:ByteArray}{v:Int}{n:Nat}(h0:0<s.size)(hv:v=((s[0]).toNat:Int))(h:v=(n:Int))(hn:n<256):s.data.toList.head?=some (UInt8.ofNat n):=(Hz h0).trans (congrArg some (XeU hv h hn))
section
variable {s a b:ByteArray}
theorem Y8(h:s.size<2∨(s.data.toList.head?≠some 43∧s.data.toList.head?≠some 45∧s.data.toList.head?≠some 62)):(tx [],tx [],0,false)=B7 s:=by unfold B7;rw[if_pos h]
theorem Xdk(h2:2≤s.size)(h:s.data.toList.head?=some 45):(s.extract 1 s.size,tx [],0,true)=B7 s:=by
 unfold B7
 rw[if_neg (by rw[h];rintro(h|h);omega;exact h.2.1 rfl),if_pos h]
theorem Xaq(h2:2≤s.size)(hh:s.data.toList.head?=some 43∨s.data.toList.head?=some 45∨s.data.toList.head?=some 62)(h45:s.data.toList.head?≠some 45)(hc:(Lb (s.extract 1 s.size)).2.2=false):(tx [],tx [],0,false)=B7 s:=by
 unfold B7
 rw[if_neg (by rintro(h|⟨k1,k2,k3⟩);omega;rcases hh with h|h|h;exact k1 h;exact k2 h;exact k3 h),if_neg h45,if_pos hc]
theorem Vs(h2:2≤s.size)(h:s.data.toList.head?=some 62)(hc:Lb (s.extract 1 s.size)=(a,b,true)):B7 s=(a,b,0,Bs b&& !decide (a=b)):=by
 unfold B7
 rw[if_neg (by rw[h];rintro(h|h);omega;exact h.2.2 rfl),if_neg (by rw[h];decide),hc,if_neg (by simp),if_pos h]
theorem Ve(h2:2≤s.size)(h:s.data.toList.head?=some 43)(hc:Lb (s.extract 1 s.size)=(a,b,true)):B7 s=(a,tx [],(Bh b).1,(Bh b).2&&Bs a):=by
 unfold B7
 rw[if_neg (by rw[h];rintro(h|h);omega;exact h.1 rfl),if_neg (by rw[h];decide),hc,if_neg (by simp),if_neg (by rw[h];decide)]
end
theorem Nw:Setup Tryz.prog ((3000009,E9 Tryz.prog 3000009)::((3000012,E9 Tryz.prog 3000012)::((1000026,E9 Tryz.prog 1000026)::Wr))):=(Setup.mark 3000009 (Setup.mark 3000012 (Setup.mark 1000026 Xk3)))
theorem XjR{step:ByteArray}{oa:ByteArray}{ob:ByteArray}{oc:Int}{od:Bool}(hs:step.size≤1000000000)(hr:B7 step=(oa,ob,oc,od)):Fn Tryz.prog 264 [S step] [] ⟨.tup [S oa,S ob,I oc,B od],[],[]⟩:=by
 refine Fn.go Nw Tryz.func264 fun P hP Q hQ=>?_
 conv=>cbv
 refine JoinW.jn (κ:=Unit) Nw hP [] [0] (fun()=>[]) (fun()=>[])
  (fun()=>2≤step.size∧(step.data.toList.head?=some 43∨step.data.toList.head?=some 45∨step.data.toList.head?=some 62)) (fun Jj hJj=>?_) ?_
 conv=>cbv
 refine .go fun v1 an=>?_
 conv=>cbv
 refine .lss (fun h2=>?_) fun h2=>?_
 conv=>cbv
 have e:((tx []),(tx []),0,false)=B7 step:=(by exact Y8 (.inl (by omega)))
 rw[hr]at e
 simp only[Prod.mk.injEq]at e
 obtain⟨rfl,rfl,rfl,rfl⟩:=e
 refine hQ _ _ ?_
 exact .m rfl .d4
 conv=>cbv
 refine .go 0 fun hjv3 v3 aw bv3=>?_
 conv=>cbv
 refine .neq (fun h4=>?_) fun h4=>?_
 conv=>cbv
 refine .go 0 fun hjv5 v5 ax bv5=>?_
 conv=>cbv
 refine .neq (fun h6=>?_) fun h6=>?_
 conv=>cbv
 refine .go 0 fun hjv7 v7 ac bv7=>?_
 conv=>cbv
 refine .neq (fun h8=>?_) fun h8=>?_
 conv=>cbv
 have e:((tx []),(tx []),0,false)=B7 step:=(by exact Y8 (.inr ⟨(Lm (n:=43) (show 0<step.size by omega) aw (by omega) (by decide)),(Lm (n:=45) (show 0<step.size by omega) ax (by omega) (by decide)),(Lm (n:=62) (show 0<step.size by omega) ac (by omega) (by decide))⟩))
 rw[hr]at e
 simp only[Prod.mk.injEq]at e
 obtain⟨rfl,rfl,rfl,rfl⟩:=e
 refine hQ _ _ ?_
 exact .m rfl .d4
 conv=>cbv
 exact .go [] (()) (hJj _ ⟨by omega,.inr (.inr (Mg (n:=62) (show 0<step.size by omega) ac (by omega) (by decide)))⟩)
 conv=>cbv
 exact .go [] (()) (hJj _ ⟨by omega,.inr (.inl (Mg (n:=45) (show 0<step.size by omega) ax (by omega) (by decide)))⟩)
 conv=>cbv
 exact .go [] (()) (hJj _ ⟨by omega,.inl (Mg (n:=43) (show 0<step.size by omega) aw (by omega) (by decide))⟩)
 rintro⟨⟩ ⟨ag,hh0⟩
 conv=>cbv
 refine .go 0 fun hjv1 v1 an bv1=>?_
 conv=>cbv
 refine .eql (fun h2=>?_) fun h2=>?_
 conv=>cbv
 refine .lo fun s3 bj=>?_
 conv=>cbv
 have e:(s3,(tx []),0,true)=B7 step:=(by rw[bj];exact Xdk ag (Mg (n:=45) (show 0<step.size by omega) an (by omega) (by decide)))
 rw[hr]at e
 simp only[Prod.mk.injEq]at e
 obtain⟨rfl,rfl,rfl,rfl⟩:=e
 refine hQ _ _ ?_
 exact .m rfl .d4
 conv=>cbv
 refine LoopW.lp (κ:=Int) Nw hP [] [0] (fun i6=>[(6,I i6)]) (fun i6=>[])
  (fun i6=>1≤i6∧i6≤step.size∧∀j,1≤j→j<i6.toNat→∀hj:j<step.size,(step[j]).toNat≠58)
  (fun i6=>(step.size - i6).toNat) (1) ⟨by omega,by omega,fun j h1 h2=>by omega⟩ ⟨rfl,trivial⟩ rfl ?_
 rintro i6 J1 ⟨h0,h1,hb⟩ bk
 conv=>cbv
 refine .go fun v3 aw=>?_
 conv=>cbv
 refine .lss (fun h4=>?_) fun h4=>?_
 conv=>cbv
 refine .go i6.toNat fun hjv5 v5 ax bv5=>?_
 conv=>cbv
 refine .eql (fun h6=>?_) fun h6=>?_
 conv=>cbv
 refine .go 0 fun hjv7 v7 ac bv7=>?_
 conv=>cbv
 refine .eql (fun h8=>?_) fun h8=>?_
 conv=>cbv
 refine .lohi fun s9 ay=>?_
 conv=>cbv
 refine .add fun az bm=>?_
 conv=>cbv
 refine .lo fun a1 ao=>?_
 conv=>cbv
 refine .add fun a2 bn=>?_
 conv=>cbv
 refine .lo fun ah ad=>?_
 conv=>cbv
 have bb:ah.size≤step.size:=by rw[ad,ByteArray.size_extract];omega
 generalize aa:Bs ah=a6
 refine .dd hP (Nh (by omega) aa) ?_
 cases a6
 conv=>cbv
 refine .go2 (by kernel_rfl) ?_
 conv=>cbv
 have e:(s9,a1,0,false)=B7 step:=(by have hm:=Vs ag (Mg (n:=62) (show 0<step.size by omega) ac (by omega) (by decide)) (T4 (s:=step) (i:=i6.toNat) (by omega) (by omega) (by omega) hb);have ai:ah=step.extract (i6.toNat+1) step.size:=(by rw[ad,show a2.toNat=i6.toNat+1 by omega]);rw[ai]at aa;rw[hm,ay,ao,aa,show az.toNat=i6.toNat+1 by omega];rfl)
 rw[hr]at e
 simp only[Prod.mk.injEq]at e
 obtain⟨rfl,rfl,rfl,rfl⟩:=e
 refine hQ _ _ ?_
 exact .m rfl .d4
 conv=>cbv
 refine .lohi fun a7 ae=>?_
 conv=>cbv
 refine .add fun bc bo=>?_
 conv=>cbv
 refine .lo fun bv au=>?_
 conv=>cbv
 refine .neq (fun h18=>?_) fun h18=>?_
 conv=>cbv
 refine .go2 (by kernel_rfl) ?_
 conv=>cbv
 have e:(s9,a1,0,true)=B7 step:=(by have hm:=Vs ag (Mg (n:=62) (show 0<step.size by omega) ac (by omega) (by decide)) (T4 (s:=step) (i:=i6.toNat) (by omega) (by omega) (by omega) hb);have ai:ah=step.extract (i6.toNat+1) step.size:=(by rw[ad,show a2.toNat=i6.toNat+1 by omega]);rw[ai]at aa;rw[hm,ay,ao,aa,show az.toNat=i6.toNat+1 by omega,decide_eq_false (show¬step.extract 1 i6.toNat=step.extract (i6.toNat+1) step.size from fun e=>h18 (by rw[ae,au,show bc.toNat=i6.toNat+1 by omega];exact e))];rfl)
 rw[hr]at e
 simp only[Prod.mk.injEq]at e
 obtain⟨rfl,rfl,rfl,rfl⟩:=e
 refine hQ _ _ ?_
 exact .m rfl .d4
 conv=>cbv
 refine .go2 (by kernel_rfl) ?_
 conv=>cbv
 have e:(s9,a1,0,false)=B7 step:=(by have hm:=Vs ag (Mg (n:=62) (show 0<step.size by omega) ac (by omega) (by decide)) (T4 (s:=step) (i:=i6.toNat) (by omega) (by omega) (by omega) hb);have ai:ah=step.extract (i6.toNat+1) step.size:=(by rw[ad,show a2.toNat=i6.toNat+1 by omega]);rw[ai]at aa;rw[hm,ay,ao,aa,show az.toNat=i6.toNat+1 by omega,decide_eq_true (show step.extract 1 i6.toNat=step.extract (i6.toNat+1) step.size from by rw[ae,au,show bc.toNat=i6.toNat+1 by omega]at h18;exact h18)];rfl)
 rw[hr]at e
 simp only[Prod.mk.injEq]at e
 obtain⟨rfl,rfl,rfl,rfl⟩:=e
 refine hQ _ _ ?_
 exact .m rfl .d4
 conv=>cbv
 refine .go i6.toNat fun hjv9 v9 bd bv9=>?_
 conv=>cbv
 refine .eql (fun h10=>?_) fun h10=>?_
 conv=>cbv
 refine .add fun a8 bp=>?_
 conv=>cbv
 refine .lo fun af aj=>?_
 conv=>cbv
 have bq:af.size≤step.size:=by rw[aj,ByteArray.size_extract];omega
 rcases ab:Bh af with⟨ap,be⟩
 refine .dd hP (S4 (by omega) ab) ?_
 conv=>cbv
 refine .lohi fun ba aq=>?_
 conv=>cbv
 cases be
 conv=>cbv
 refine .go2 (by kernel_rfl) ?_
 conv=>cbv
 have e:(ba,(tx []),ap,false)=B7 step:=(by have hm:=Ve ag (hh0.elim id fun h=>h.elim (fun h=>absurd h (Lm (n:=45) (show 0<step.size by omega) an (by omega) (by decide))) fun h=>absurd h (Lm (n:=62) (show 0<step.size by omega) ac (by omega) (by decide))) (T4 (s:=step) (i:=i6.toNat) (by omega) (by omega) (by omega) hb);have ak:af=step.extract (i6.toNat+1) step.size:=(by rw[aj,show a8.toNat=i6.toNat+1 by omega]);rw[ak]at ab;rw[hm,aq,ab];rfl)
 rw[hr]at e
 simp only[Prod.mk.injEq]at e
 obtain⟨rfl,rfl,rfl,rfl⟩:=e
 refine hQ _ _ ?_
 exact .m rfl .d4
 conv=>cbv
 refine .lohi fun a7 ae=>?_
 conv=>cbv
 have bt:a7.size≤step.size:=by rw[ae,ByteArray.size_extract];omega
 generalize al:Bs a7=bl
 refine .dd hP (Nh (by omega) al) ?_
 cases bl
 conv=>cbv
 refine .go2 (by kernel_rfl) ?_
 conv=>cbv
 have e:(ba,(tx []),ap,false)=B7 step:=(by have hm:=Ve ag (hh0.elim id fun h=>h.elim (fun h=>absurd h (Lm (n:=45) (show 0<step.size by omega) an (by omega) (by decide))) fun h=>absurd h (Lm (n:=62) (show 0<step.size by omega) ac (by omega) (by decide))) (T4 (s:=step) (i:=i6.toNat) (by omega) (by omega) (by omega) hb);have ak:af=step.extract (i6.toNat+1) step.size:=(by rw[aj,show a8.toNat=i6.toNat+1 by omega]);rw[ak]at ab;rw[ae]at al;have am:=(show Bs (step.extract 1 i6.toNat)=_ from al);rw[hm,aq,ab,am];rfl)
 rw[hr]at e
 simp only[Prod.mk.injEq]at e
 obtain⟨rfl,rfl,rfl,rfl⟩:=e
 refine hQ _ _ ?_
 exact .m rfl .d4
 conv=>cbv
 refine .go2 (by kernel_rfl) ?_
 conv=>cbv
 have e:(ba,(tx []),ap,true)=B7 step:=(by have hm:=Ve ag (hh0.elim id fun h=>h.elim (fun h=>absurd h (Lm (n:=45) (show 0<step.size by omega) an (by omega) (by decide))) fun h=>absurd h (Lm (n:=62) (show 0<step.size by omega) ac (by omega) (by decide))) (T4 (s:=step) (i:=i6.toNat) (by omega) (by omega) (by omega) hb);have ak:af=step.extract (i6.toNat+1) step.size:=(by rw[aj,show a8.toNat=i6.toNat+1 by omega]);rw[ak]at ab;rw[ae]at al;have am:=(show Bs (step.extract 1 i6.toNat)=_ from al);rw[hm,aq,ab,am];rfl)
 rw[hr]at e
 simp only[Prod.mk.injEq]at e
 obtain⟨rfl,rfl,rfl,rfl⟩:=e
 refine hQ _ _ ?_
 exact .m rfl .d4
 exfalso;omega
 conv=>cbv
 refine .go i6.toNat fun hjv7 v7 ac bv7=>?_
 conv=>cbv
 refine .eql (fun h8=>?_) fun h8=>?_
 conv=>cbv
 refine .add fun v9 bd=>?_
 conv=>cbv
 refine .lo fun bf bg=>?_
 conv=>cbv
 have bu:bf.size≤step.size:=by rw[bg,ByteArray.size_extract];omega
 rcases bh:Bh bf with⟨ar,bi⟩
 refine .dd hP (S4 (by omega) bh) ?_
 conv=>cbv
 refine .lohi fun af aj=>?_
 conv=>cbv
 cases bi
 conv=>cbv
 refine .go2 (by kernel_rfl) ?_
 conv=>cbv
 have e:(af,(tx []),ar,false)=B7 step:=(by exfalso;omega)
 rw[hr]at e
 simp only[Prod.mk.injEq]at e
 obtain⟨rfl,rfl,rfl,rfl⟩:=e
 refine hQ _ _ ?_
 exact .m rfl .d4
 conv=>cbv
 refine .lohi fun ah ad=>?_
 conv=>cbv
 have bb:ah.size≤step.size:=by rw[ad,ByteArray.size_extract];omega
 generalize aa:Bs ah=a6
 refine .dd hP (Nh (by omega) aa) ?_
 cases a6
 conv=>cbv
 refine .go2 (by kernel_rfl) ?_
 conv=>cbv
 have e:(af,(tx []),ar,false)=B7 step:=(by exfalso;omega)
 rw[hr]at e
 simp only[Prod.mk.injEq]at e
 obtain⟨rfl,rfl,rfl,rfl⟩:=e
 refine hQ _ _ ?_
 exact .m rfl .d4
 conv=>cbv
 refine .go2 (by kernel_rfl) ?_
 conv=>cbv
 have e:(af,(tx []),ar,true)=B7 step:=(by exfalso;omega)
 rw[hr]at e
 simp only[Prod.mk.injEq]at e
 obtain⟨rfl,rfl,rfl,rfl⟩:=e
 refine hQ _ _ ?_
 exact .m rfl .d4
 conv=>cbv
 refine .add fun v9 bd=>?_
 conv=>cbv
 exact .go [] (v9) (bk _ ⟨by omega,by omega,fun j k1 k2 hj=>if e:j=i6.toNat then by subst e;omega else hb j k1 (by omega) hj⟩ mlt)
 conv=>cbv
 have e:((tx []),(tx []),0,false)=B7 step:=(by exact Xaq ag hh0 (Lm (n:=45) (show 0<step.size by omega) an (by omega) (by decide)) (Xkr fun j k1 hj=>hb j k1 (by omega) hj))
 rw[hr]at e
 simp only[Prod.mk.injEq]at e
 obtain⟨rfl,rfl,rfl,rfl⟩:=e
 refine hQ _ _ ?_
 exact .m rfl .d4
end
section
open Go Go.Proofs
def Xdf:List (Nat×TyRow):=[ty3,ty5,ty9,Z2,XaC,U1]
theorem XbL:B1 Tryz.prog Xdf:=B1.of (by kernel_rfl)
theorem Xfl:Setup Tryz.prog Xdf:=⟨XbL,mixed⟩
def E6(l:List Ad)(s:ByteArray):List Ad×Bool:=
 if(B7 s).2.2.2=false∨Bs (B7 s).1=false∨(s.data.toList.head?≠some 43∧El l (B7 s).1=false)then([],false)
 else if s.data.toList.head?=some 43 then(En l ⟨(B7 s).1,(B7 s).2.2.1⟩,true)
 else if s.data.toList.head?=some 62 then(En (D2 l (B7 s).1) ⟨(B7 s).2.1,Cw l (B7 s).1⟩,true)
 else(D2 l (B7 s).1,true)
def Cv:List Ad→List ByteArray→List Ad×Bool
 |now,[]=>(now,true)
 |now,s::ss=>if(E6 now s).2=false then([],false)else Cv (E6 now s).1 ss
def Ee(old:List Ad)(steps:List ByteArray)(n:Int):List Ad×Bool:=Cv old (steps.take (Cs n 0 steps.length).toNat)
theorem XjE{s a b:ByteArray}{c:Int}{d:Bool}(e:B7 s=(a,b,c,d)):(a.size≤s.size∧b.size≤s.size)∧(d=true→2≤s.size∧(s.data.toList.head?=some 43∨s.data.toList.head?=some 45∨s.data.toList.head?=some 62)):=by
 have hz:(s.extract 1 s.size).size≤s.size:=by rw[ByteArray.size_extract];omega
 obtain⟨x,y,z,hc⟩:∃x y z,Lb (s.extract 1 s.size)=(x,y,z):=⟨_,_,_,rfl⟩
 have hcb:=XfH hc
 have h0:(tx []).size≤s.size:=by rw[Bz];exact Nat.zero_le _
 unfold B7 at e
 rw[hc]at e
 by_cases h1:s.size<2∨(s.data.toList.head?≠some 43∧s.data.toList.head?≠some 45∧s.data.toList.head?≠some 62)
 ·rw[if_pos h1]at e
  simp only[Prod.mk.injEq]at e
  obtain⟨rfl,rfl,rfl,rfl⟩:=e
  exact⟨⟨h0,h0⟩,fun h=>by cases h⟩
 ·rw[if_neg h1]at e
  have hd:2≤s.size∧(s.data.toList.head?=some 43∨s.data.toList.head?=some 45∨s.data.toList.head?=some 62):=by
   refine⟨by omega,?_⟩
   by_cases k1:s.data.toList.head?=some 43
   ·exact .inl k1
   ·by_cases k2:s.data.toList.head?=some 45
    ·exact .inr (.inl k2)
    ·by_cases k3:s.data.toList.head?=some 62
     ·exact .inr (.inr k3)
     ·exact absurd (.inr ⟨k1,k2,k3⟩) h1
  refine⟨?_,fun _=>hd⟩
  split at e
  ·simp only[Prod.mk.injEq]at e
   obtain⟨rfl,rfl,_⟩:=e
   exact⟨hz,h0⟩
  ·split at e
   ·simp only[Prod.mk.injEq]at e
    obtain⟨rfl,rfl,_⟩:=e
    exact⟨h0,h0⟩
   ·split at e
    ·simp only[Prod.mk.injEq]at e
     obtain⟨rfl,rfl,_⟩:=e
     exact⟨by omega,by omega⟩
    ·simp only[Prod.mk.injEq]at e
     obtain⟨rfl,rfl,_⟩:=e
     exact⟨by omega,h0⟩
theorem XcS(e:Ad):∀(l:List Ad) (b:Bool),(U6 e l b).length≤l.length+(if b=true then 0 else 1)
 |[],b=>by cases b<;>simp[U6]
 |x::l,b=>by
  have ih:=XcS e l (b|| !(ltB x.name_ e.name_))
  unfold U6
  rw[List.length_append,List.length_append,List.length_cons]
  cases b<;>cases h:ltB x.name_ e.name_<;>simp only[h,Bool.not_true,Bool.not_false,Bool.or_true,Bool.or_false,Bool.true_or,if_true,Bool.false_eq_true,if_false,true_and,false_and,reduceCtorEq]at ih⊢<;>split<;>simp<;>omega
theorem Gj{l o:List Ad}{e:Ad}(h:En l e=o):o.length≤l.length+1:=by
 rw[←h]
 exact XcS e l false
theorem Jd{l o:List Ad}{n:ByteArray}(h:D2 l n=o):o.length≤l.length:=by
 rw[←h]
 exact List.length_filter_le _ _
theorem u8_h{s:ByteArray}{n:Nat}(h:0<s.size)(e:s.data.toList.head?=some (UInt8.ofNat n))(hn:n<256):(s[0]).toNat=n:=by
 rw[Hz h]at e
 rw[Option.some.inj e,UInt8.toNat_ofNat',Nat.mod_eq_of_lt (by omega)]
section
variable {l:List Ad} {s a b:ByteArray} {c:Int} {d:Bool}
theorem Fh(e:B7 s=(a,b,c,d))(h:d=false∨Bs a=false∨(s.data.toList.head?≠some 43∧El l a=false)):E6 l s=([],false):=by
 unfold E6
 rw[e,if_pos h]
theorem Y3(e:B7 s=(a,b,c,true))(hn:Bs a=true)(h:s.data.toList.head?=some 43):E6 l s=(En l ⟨a,c⟩,true):=by
 unfold E6
 rw[e,if_neg (by rw[hn,h];simp),if_pos h]
theorem Xak(e:B7 s=(a,b,c,true))(hn:Bs a=true)(hh:El l a=true)(h:s.data.toList.head?=some 62):E6 l s=(En (D2 l a) ⟨b,Cw l a⟩,true):=by
 unfold E6
 rw[e,if_neg (by rw[hn,hh];simp),if_neg (by rw[h];decide),if_pos h]
theorem Wq(e:B7 s=(a,b,c,true))(hn:Bs a=true)(hh:El l a=true)(h:s.data.toList.head?=some 45):E6 l s=(D2 l a,true):=by
 unfold E6
 rw[e,if_neg (by rw[hn,hh];simp),if_neg (by rw[h];decide),if_neg (by rw[h];decide)]
end
theorem Rr{old:List Ad}{xold:List (List D)}{steps:List ByteArray}{xsteps:List (List D)}{n:Int}{oa:List Ad}{xoa:List (List D)}{ob:Bool}(hold:old.map Ac=xold)(hsteps:steps.map cS=xsteps)(hol:old.length≤1000000000)(hsl:steps.length≤1000000000)(hss:okS steps)(hr:Ee old steps n=(oa,ob))(hoa:oa.map Ac=xoa):Fn Tryz.prog 212 [.d (.row 2 xold),.d (.row 1 xsteps),I n] [] ⟨.tup [.d (.row 2 xoa),B ob],[],[]⟩:=by
 refine Fn.go Xfl Tryz.func212 fun P hP Q hQ=>?_
 conv=>cbv
 refine .row0 hold fun df z1 c7 bz=>?_
 conv=>cbv
 refine .go hsteps fun v2 cn=>?_
 conv=>cbv
 generalize bu:Cs n 0 v2=r3
 refine .dd hP (Wt bu) ?_
 conv=>cbv
 have hbr:0≤r3∧r3≤steps.length:=by rw[←bu];unfold Cs;split<;>(try split)<;>omega
 refine .frz 2 [8] rfl rfl (by rw[←bz,List.length_map];first|omega|(simp;omega)) ?_
 refine LoopW.lp (κ:=(List (List D))×Int) Xfl hP [] [1,2] (fun(aj,i9)=>[(8,.d (.row 2 aj)),(9,I i9)]) (fun(aj,i9)=>[])
  (fun(aj,i9)=>∃(u8:List Ad),u8.map Ac=aj∧0≤i9∧i9≤r3∧Ee old steps n=Cv u8 ((steps.take r3.toNat).drop i9.toNat)∧u8.length≤old.length+i9)
  (fun(aj,i9)=>(r3 - i9).toNat) (z1,0) ⟨old,bz,by omega,by omega,by unfold Ee;rw[←cn,bu];rfl,by omega⟩ ⟨rfl,rfl,trivial⟩ rfl ?_
 rintro⟨aj,i9⟩ J ⟨u8,ab,h0,h1,hio,hun⟩ hJ
 conv=>cbv
 refine .lss (fun h4=>?_) fun h4=>?_
 conv=>cbv
 refine .go i9.toNat hsteps fun b0 e5 aa=>?_
 conv=>cbv
 have dg:e5.size≤1000000000:=aa▸hss _ (List.getElem_mem b0)
 have hdc:(steps.take r3.toNat).drop i9.toNat=e5::(steps.take r3.toNat).drop (i9.toNat+1):=by rw[List.drop_eq_getElem_cons (by rw[List.length_take];omega),List.getElem_take,←aa]
 rw[hdc]at hio
 rcases am:B7 e5 with⟨ag,bk,bl,co⟩
 refine .dd hP (XjR (by omega) am) ?_
 conv=>cbv
 have hlf:=XjE am
 cases co
 conv=>cbv
 have e:([],false)=Ee old steps n:=(by rw[hio];show _=(if(E6 u8 e5).2=false then _ else _);rw[Fh am (.inl rfl)];rfl)
 rw[hr]at e
 simp only[Prod.mk.injEq]at e
 obtain⟨rfl,rfl⟩:=e
 refine hQ _ _ ?_
 exact .m rfl (.ref rfl rfl (by rw[←hoa];rfl) .d1)
 conv=>cbv
 obtain⟨h2z,hh0⟩:=hlf.2 rfl
 have h00:0<e5.size:=by omega
 have hh1:(e5[0]).toNat=43∨(e5[0]).toNat=45∨(e5[0]).toNat=62:=hh0.imp (fun h=>u8_h h00 h (by decide)) fun h=>h.imp (fun h=>u8_h h00 h (by decide)) fun h=>u8_h h00 h (by decide)
 generalize az:Bs ag=r7
 refine .dd hP (Nh (by omega) az) ?_
 cases r7
 conv=>cbv
 have e:([],false)=Ee old steps n:=(by rw[hio];show _=(if(E6 u8 e5).2=false then _ else _);rw[Fh am (.inr (.inl az))];rfl)
 rw[hr]at e
 simp only[Prod.mk.injEq]at e
 obtain⟨rfl,rfl⟩:=e
 refine hQ _ _ ?_
 exact .m rfl (.ref rfl rfl (by rw[←hoa];rfl) .d1)
 conv=>cbv
 refine .go i9.toNat hsteps fun c8 e8 cp=>?_
 conv=>cbv
 obtain rfl:e5=e8:=aa.trans cp.symm
 refine .go 0 fun hjv9 v9 b2 bv9=>?_
 conv=>cbv
 refine .neq (fun h10=>?_) fun h10=>?_
 conv=>cbv
 generalize aw:El u8 ag=cq
 refine .dd hP (Nn ab (by omega) aw) ?_
 cases cq
 conv=>cbv
 have e:([],false)=Ee old steps n:=(by rw[hio];show _=(if(E6 u8 e5).2=false then _ else _);rw[Fh am (.inr (.inr ⟨(Lm (n:=43) h00 b2 (by omega) (by decide)),aw⟩))];rfl)
 rw[hr]at e
 simp only[Prod.mk.injEq]at e
 obtain⟨rfl,rfl⟩:=e
 refine hQ _ _ ?_
 exact .m rfl (.ref rfl rfl (by rw[←hoa];rfl) .d1)
 conv=>cbv
 refine .go i9.toNat hsteps fun cr ct b3=>?_
 conv=>cbv
 obtain rfl:e5=ct:=aa.trans b3.symm
 refine .go 0 fun hjv13 dh b4 bv13=>?_
 conv=>cbv
 refine .eql (fun h14=>?_) fun h14=>?_
 conv=>cbv
 generalize bn:Cw u8 ag=b5
 refine .dd hP (Nb ab (by omega) bn) ?_
 conv=>cbv
 refine .go i9.toNat hsteps fun cu cv b6=>?_
 conv=>cbv
 obtain rfl:e5=cv:=aa.trans b6.symm
 refine .go 0 fun hjv17 di c9 bv17=>?_
 conv=>cbv
 refine .neq (fun h18=>?_) fun h18=>?_
 conv=>cbv
 generalize a1:D2 u8 ag=b7
 have hln19:=Jd a1
 generalize a2:b7.map Ac=b8
 refine .dd hP (M6 ab (by omega) a1 a2) ?_
 conv=>cbv
 refine .go i9.toNat hsteps fun cw cx b9=>?_
 conv=>cbv
 obtain rfl:e5=cx:=aa.trans b9.symm
 refine .go 0 fun hjv21 al ax bv21=>?_
 conv=>cbv
 refine .neq (fun h22=>?_) fun h22=>?_
 conv=>cbv
 generalize a6:En b7 (⟨bk,b5⟩:Ad)=cy
 have hln23:=Gj a6
 generalize bo:cy.map Ac=ca
 refine .dd hP (Jp a2 (by omega) a6 bo) ?_
 conv=>cbv
 refine .add fun cb da=>?_
 conv=>cbv
 exact .go [] (ca,cb) (hJ _ ⟨_,bo,by omega,by omega,by rw[hio,show cb.toNat=i9.toNat+1 by omega];show(if(E6 u8 e5).2=false then _ else _)=_;rw[Xak am az aw (Mg (n:=62) h00 b4 (by omega) (by decide)),a1,bn,a6];rfl,by omega⟩ mlt)
 conv=>cbv
 refine .add fun au a7=>?_
 conv=>cbv
 exact .go [] (b8,au) (hJ _ ⟨_,a2,by omega,by omega,by exfalso;omega,by exfalso;omega⟩ mlt)
 conv=>cbv
 refine .go i9.toNat hsteps fun a8 ba an=>?_
 conv=>cbv
 obtain rfl:e5=ba:=aa.trans an.symm
 refine .go 0 fun hjv20 bm ay bv20=>?_
 conv=>cbv
 refine .neq (fun h21=>?_) fun h21=>?_
 conv=>cbv
 generalize ac:En u8 (⟨ag,b5⟩:Ad)=bb
 have hln22:=Gj ac
 generalize ad:bb.map Ac=ao
 refine .dd hP (Jp ab (by omega) ac ad) ?_
 conv=>cbv
 refine .add fun au a7=>?_
 conv=>cbv
 exact .go [] (ao,au) (hJ _ ⟨_,ad,by omega,by omega,by exfalso;omega,by exfalso;omega⟩ mlt)
 conv=>cbv
 refine .add fun ah ap=>?_
 conv=>cbv
 exact .go [] (aj,ah) (hJ _ ⟨_,ab,by omega,by omega,by exfalso;omega,by exfalso;omega⟩ mlt)
 conv=>cbv
 refine .go i9.toNat hsteps fun bv bw bc=>?_
 conv=>cbv
 obtain rfl:e5=bw:=aa.trans bc.symm
 refine .go 0 fun hjv16 cz cc bv16=>?_
 conv=>cbv
 refine .neq (fun h17=>?_) fun h17=>?_
 conv=>cbv
 generalize ak:D2 u8 ag=bd
 have hln18:=Jd ak
 generalize ai:bd.map Ac=be
 refine .dd hP (M6 ab (by omega) ak ai) ?_
 conv=>cbv
 refine .go i9.toNat hsteps fun a8 ba an=>?_
 conv=>cbv
 obtain rfl:e5=ba:=aa.trans an.symm
 refine .go 0 fun hjv20 bm ay bv20=>?_
 conv=>cbv
 refine .neq (fun h21=>?_) fun h21=>?_
 conv=>cbv
 generalize ac:En bd (⟨bk,bl⟩:Ad)=bb
 have hln22:=Gj ac
 generalize ad:bb.map Ac=ao
 refine .dd hP (Jp ai (by omega) ac ad) ?_
 conv=>cbv
 refine .add fun au a7=>?_
 conv=>cbv
 exact .go [] (ao,au) (hJ _ ⟨_,ad,by omega,by omega,by exfalso;omega,by exfalso;omega⟩ mlt)
 conv=>cbv
 refine .add fun ah ap=>?_
 conv=>cbv
 exact .go [] (be,ah) (hJ _ ⟨_,ai,by omega,by omega,by rw[hio,show ah.toNat=i9.toNat+1 by omega];show(if(E6 u8 e5).2=false then _ else _)=_;rw[Wq am az aw (Mg (n:=45) h00 ay (by omega) (by decide)),ak];rfl,by omega⟩ mlt)
 conv=>cbv
 refine .go i9.toNat hsteps fun bf bg aq=>?_
 conv=>cbv
 obtain rfl:e5=bg:=aa.trans aq.symm
 refine .go 0 fun hjv19 cd bp bv19=>?_
 conv=>cbv
 refine .neq (fun h20=>?_) fun h20=>?_
 conv=>cbv
 generalize ae:En u8 (⟨ag,bl⟩:Ad)=bh
 have hln21:=Gj ae
 generalize af:bh.map Ac=ar
 refine .dd hP (Jp ab (by omega) ae af) ?_
 conv=>cbv
 refine .add fun ah ap=>?_
 conv=>cbv
 exact .go [] (ar,ah) (hJ _ ⟨_,af,by omega,by omega,by exfalso;omega,by exfalso;omega⟩ mlt)
 conv=>cbv
 refine .add fun al ax=>?_
 conv=>cbv
 exact .go [] (aj,al) (hJ _ ⟨_,ab,by omega,by omega,by exfalso;omega,by exfalso;omega⟩ mlt)
 conv=>cbv
 refine .go i9.toNat hsteps fun c0 c1 ce=>?_
 conv=>cbv
 obtain rfl:e5=c1:=aa.trans ce.symm
 refine .go 0 fun hjv12 dj db bv12=>?_
 conv=>cbv
 refine .eql (fun h13=>?_) fun h13=>?_
 conv=>cbv
 generalize cf:Cw u8 ag=cg
 refine .dd hP (Nb ab (by omega) cf) ?_
 conv=>cbv
 refine .go i9.toNat hsteps fun bv bw bc=>?_
 conv=>cbv
 obtain rfl:e5=bw:=aa.trans bc.symm
 refine .go 0 fun hjv16 cz cc bv16=>?_
 conv=>cbv
 refine .neq (fun h17=>?_) fun h17=>?_
 conv=>cbv
 generalize ak:D2 u8 ag=bd
 have hln18:=Jd ak
 generalize ai:bd.map Ac=be
 refine .dd hP (M6 ab (by omega) ak ai) ?_
 conv=>cbv
 refine .go i9.toNat hsteps fun a8 ba an=>?_
 conv=>cbv
 obtain rfl:e5=ba:=aa.trans an.symm
 refine .go 0 fun hjv20 bm ay bv20=>?_
 conv=>cbv
 refine .neq (fun h21=>?_) fun h21=>?_
 conv=>cbv
 generalize ac:En bd (⟨bk,cg⟩:Ad)=bb
 have hln22:=Gj ac
 generalize ad:bb.map Ac=ao
 refine .dd hP (Jp ai (by omega) ac ad) ?_
 conv=>cbv
 refine .add fun au a7=>?_
 conv=>cbv
 exact .go [] (ao,au) (hJ _ ⟨_,ad,by omega,by omega,by exfalso;omega,by exfalso;omega⟩ mlt)
 conv=>cbv
 refine .add fun ah ap=>?_
 conv=>cbv
 exact .go [] (be,ah) (hJ _ ⟨_,ai,by omega,by omega,by exfalso;omega,by exfalso;omega⟩ mlt)
 conv=>cbv
 refine .go i9.toNat hsteps fun bf bg aq=>?_
 conv=>cbv
 obtain rfl:e5=bg:=aa.trans aq.symm
 refine .go 0 fun hjv19 cd bp bv19=>?_
 conv=>cbv
 refine .neq (fun h20=>?_) fun h20=>?_
 conv=>cbv
 generalize ae:En u8 (⟨ag,cg⟩:Ad)=bh
 have hln21:=Gj ae
 generalize af:bh.map Ac=ar
 refine .dd hP (Jp ab (by omega) ae af) ?_
 conv=>cbv
 refine .add fun ah ap=>?_
 conv=>cbv
 exact .go [] (ar,ah) (hJ _ ⟨_,af,by omega,by omega,by exfalso;omega,by exfalso;omega⟩ mlt)
 conv=>cbv
 refine .add fun al ax=>?_
 conv=>cbv
 exact .go [] (aj,al) (hJ _ ⟨_,ab,by omega,by omega,by exfalso;omega,by exfalso;omega⟩ mlt)
 conv=>cbv
 refine .go i9.toNat hsteps fun c2 c3 ch=>?_
 conv=>cbv
 obtain rfl:e5=c3:=aa.trans ch.symm
 refine .go 0 fun hjv15 dk dc bv15=>?_
 conv=>cbv
 refine .neq (fun h16=>?_) fun h16=>?_
 conv=>cbv
 generalize bq:D2 u8 ag=ci
 have hln17:=Jd bq
 generalize bi:ci.map Ac=cj
 refine .dd hP (M6 ab (by omega) bq bi) ?_
 conv=>cbv
 refine .go i9.toNat hsteps fun bf bg aq=>?_
 conv=>cbv
 obtain rfl:e5=bg:=aa.trans aq.symm
 refine .go 0 fun hjv19 cd bp bv19=>?_
 conv=>cbv
 refine .neq (fun h20=>?_) fun h20=>?_
 conv=>cbv
 generalize ae:En ci (⟨bk,bl⟩:Ad)=bh
 have hln21:=Gj ae
 generalize af:bh.map Ac=ar
 refine .dd hP (Jp bi (by omega) ae af) ?_
 conv=>cbv
 refine .add fun ah ap=>?_
 conv=>cbv
 exact .go [] (ar,ah) (hJ _ ⟨_,af,by omega,by omega,by exfalso;omega,by exfalso;omega⟩ mlt)
 conv=>cbv
 refine .add fun al ax=>?_
 conv=>cbv
 exact .go [] (cj,al) (hJ _ ⟨_,bi,by omega,by omega,by exfalso;omega,by exfalso;omega⟩ mlt)
 conv=>cbv
 refine .go i9.toNat hsteps fun c4 c5 ck=>?_
 conv=>cbv
 obtain rfl:e5=c5:=aa.trans ck.symm
 refine .go 0 fun hjv18 dl de bv18=>?_
 conv=>cbv
 refine .neq (fun h19=>?_) fun h19=>?_
 conv=>cbv
 generalize bj:En u8 (⟨ag,bl⟩:Ad)=c6
 have hln20:=Gj bj
 generalize bt:c6.map Ac=cm
 refine .dd hP (Jp ab (by omega) bj bt) ?_
 conv=>cbv
 refine .add fun al ax=>?_
 conv=>cbv
 exact .go [] (cm,al) (hJ _ ⟨_,bt,by omega,by omega,by rw[hio,show al.toNat=i9.toNat+1 by omega];show(if(E6 u8 e5).2=false then _ else _)=_;rw[Y3 am az (Mg (n:=43) h00 b2 (by omega) (by decide)),bj];rfl,by omega⟩ mlt)
 conv=>cbv
 refine .add fun bm ay=>?_
 conv=>cbv
 exact .go [] (aj,bm) (hJ _ ⟨_,ab,by omega,by omega,by exfalso;omega,by exfalso;omega⟩ mlt)
 conv=>cbv
 have e:(u8,true)=Ee old steps n:=(by rw[hio,List.drop_of_length_le (by rw[List.length_take];omega)];rfl)
 rw[hr]at e
 simp only[Prod.mk.injEq]at e
 obtain⟨rfl,rfl⟩:=e
 refine hQ _ _ ?_
 exact .m rfl (.d rfl (Bj ab hoa) .d1)
end
section
open Go Go.Proofs
def Xh:List (Nat×TyRow):=[ty3,ty9,XfK,Z2,XaC,Xp,U5]
theorem Xdc:B1 Tryz.prog Xh:=B1.of (by kernel_rfl)
theorem XkT:Setup Tryz.prog Xh:=⟨Xdc,mixed⟩
theorem XbM(a:List UInt8):Op.bytesLess a a=false:=by
 cases h:Op.bytesLess a a with
 |false=>rfl
 |true=>have:=Nr a a h;rw[h]at this;cases this
theorem X8:∀a b c:List UInt8,Op.bytesLess a b=true→Op.bytesLess b c=true→Op.bytesLess a c=true
 |_,[],_,h,_=>by simp[Op.bytesLess]at h
 |_,_::_,[],_,h=>by simp[Op.bytesLess]at h
 |[],_::_,_::_,_,_=>by simp[Op.bytesLess]
 |a::x,b::y,c::z,h1,h2=>by
  simp only[Op.bytesLess,Bool.or_eq_true,decide_eq_true_eq,Bool.and_eq_true,beq_iff_eq]at h1 h2⊢
  rcases h1 with h1|⟨rfl,h1⟩
  ·rcases h2 with h2|⟨rfl,h2⟩
   ·exact .inl (UInt8.lt_trans h1 h2)
   ·exact .inl h1
  ·rcases h2 with h2|⟨rfl,h2⟩
   ·exact .inl h2
   ·exact .inr ⟨rfl,X8 x y z h1 h2⟩
theorem Y6(a:ByteArray):ltB a a=false:=XbM _
theorem Xc8{a b c:ByteArray}(h:ltB a b=true)(k:ltB b c=true):ltB a c=true:=X8 _ _ _ h k
theorem XhN{a b:ByteArray}(h:ltB a b=true):a≠b:=by
 rintro rfl
 rw[Y6]at h
 cases h
theorem XlZ{a b:ByteArray}(h:ltB a b=false)(hn:a≠b):ltB b a=true:=by
 have:=Xen a b
 rw[h]at this
 simp only[Bool.not_false,Bool.true_eq,Bool.or_eq_true,decide_eq_true_eq]at this
 exact this.resolve_right fun e=>hn e.symm
def srt(l:List Ad):Prop:=l.Pairwise fun a b=>ltB a.name_ b.name_=true
theorem XbJ{α:Type}{p:α→Bool}{x:α}{l:List α}:Ug p (x::l)=if p x=true then 0 else if Ug p l<0 then -1 else Ug p l+1:=by
 unfold Ug
 rw[List.findIdx_cons]
 cases hp:p x with
 |true=>simp
 |false=>
  simp only[List.length_cons,cond_false,Bool.false_eq_true,if_false]
  by_cases h:l.findIdx p<l.length
  ·rw[if_pos (show l.findIdx p+1<l.length+1 by omega),if_pos h,if_neg (show¬(l.findIdx p:Int)<0 by omega)]
   omega
  ·rw[if_neg (show¬l.findIdx p+1<l.length+1 by omega),if_neg h,if_pos (by decide)]
theorem Pt{x:Ad}{l:List Ad}{n:ByteArray}:Bd (x::l) n=if x.name_=n then 0 else if Bd l n<0 then -1 else Bd l n+1:=by
 show Ug (fun e=>Cm e n) (x::l)=_
 rw[XbJ]
 unfold Cm
 simp only[decide_eq_true_eq]
 rfl
theorem XaM{l:List Ad}{n:ByteArray}: -1≤Bd l n:=(Jg rfl).1
theorem XkF{l:List Ad}{n:ByteArray}(h:∀x∈l,x.name_≠n):Bd l n<0:=by
 have hb:=XaM (l:=l) (n:=n)
 rcases Int.lt_or_le (Bd l n) 0 with k|k
 ·exact k
 ·obtain⟨hi,hp⟩:=Rx (p:=fun e=>Cm e n) (rfl:Bd l n=_) k
  unfold Cm at hp
  rw[decide_eq_true_eq]at hp
  exact absurd hp (h _ (List.getElem_mem hi))
theorem Xa8{l:List Ad}{n:ByteArray}{i k:Int}(h:Bd l n=k)(hk:0≤k):Uq l n i=l.set k.toNat ⟨(l.getD k.toNat ⟨tx [],0⟩).name_,i⟩:=by
 subst h
 exact if_pos hk
theorem Sw{l:List Ad}{n:ByteArray}{i k:Int}(h:Bd l n<0)(hk:Cq l n=k):Uq l n i=Jh l (if k<0 then l.length else k) [⟨n,i⟩]:=by
 subst hk
 exact if_neg (by omega)
theorem Xjw{x:Ad}{l:List Ad}{n:ByteArray}{i:Int}:Uq (x::l) n i=if x.name_=n then⟨n,i⟩::l else if Bd l n<0∧La x n=true then⟨n,i⟩::x::l else x::Uq l n i:=by
 have hb:=XaM (l:=l) (n:=n)
 by_cases hx:x.name_=n
 ·rw[if_pos hx,Xa8 (k:=0) (by rw[Pt,if_pos hx]) (by decide)]
  simp[hx]
 ·rw[if_neg hx]
  by_cases hp:Bd l n<0
  ·have hpc:Bd (x::l) n<0:=by rw[Pt,if_neg hx,if_pos hp];decide
   have hc:Cq (x::l) n=if La x n=true then 0 else if Cq l n<0 then -1 else Cq l n+1:=XbJ (p:=fun e=>La e n)
   by_cases h1:La x n=true
   ·rw[if_pos ⟨hp,h1⟩,Sw hpc (k:=0) (by rw[hc,if_pos h1]),if_neg (by decide)]
    simp[Jh]
   ·rw[if_neg (fun h=>h1 h.2)]
    by_cases h2:Cq l n<0
    ·rw[Sw hpc (k:=-1) (by rw[hc,if_neg h1,if_pos h2]),if_pos (by decide),Sw hp rfl,if_pos h2]
     simp[Jh]
    ·rw[Sw hpc (by rw[hc,if_neg h1,if_neg h2]),if_neg (by omega),Sw hp rfl,if_neg h2]
     unfold Jh
     rw[show(Cq l n+1).toNat=(Cq l n).toNat+1 by omega]
     simp
  ·rw[if_neg (fun h=>hp h.1),Xa8 (k:=Bd l n+1) (by rw[Pt,if_neg hx,if_neg hp]) (by omega),Xa8 (l:=l) rfl (by omega),show(Bd l n+1).toNat=(Bd l n).toNat+1 by omega]
   simp
theorem Tq{e:Ad}:∀{l:List Ad},(∀x∈l,x.name_≠e.name_)→U6 e l true=l
 |[],_=>rfl
 |x::l,h=>by
  unfold U6
  rw[if_neg (by simp),if_neg (h x List.mem_cons_self),Bool.true_or,Tq fun y hy=>h y (List.mem_cons_of_mem _ hy)]
  rfl
theorem Xb5{n:ByteArray}{i:Int}:∀{l:List Ad},srt l→En l ⟨n,i⟩=Uq l n i
 |[],_=>rfl
 |x::l,h=>by
  have hs:=List.pairwise_cons.1 h
  have ih:=Xb5 (n:=n) (i:=i) hs.2
  unfold En at ih⊢
  rw[Xjw]
  unfold U6
  by_cases hx:x.name_=n
  ·rw[if_pos hx,hx,Y6,if_pos ⟨rfl,rfl⟩,if_pos rfl,Bool.not_false,Bool.or_true,Tq (fun y hy e=>by
    have:=hs.1 y hy
    rw[hx]at this
    exact XhN this e.symm)]
   rfl
  ·rw[if_neg hx,if_neg hx]
   cases hl:ltB x.name_ n with
   |true=>
    rw[if_neg (by simp),if_neg (by unfold La;rw[hl];simp),Bool.not_true,Bool.or_false,ih]
    rfl
   |false=>
    have hg:=XlZ hl hx
    have hne:∀y∈l,y.name_≠n:=fun y hy e=>XhN (Xc8 hg (hs.1 y hy)) e.symm
    rw[if_pos ⟨rfl,rfl⟩,if_pos ⟨XkF hne,by unfold La;rw[hl,decide_eq_false hx];rfl⟩,Bool.not_false,Bool.or_true,Tq hne]
    rfl
theorem X0{n:ByteArray}:∀{l:List Ad},srt l→0≤Bd l n→D2 l n=l.eraseIdx (Bd l n).toNat
 |[],_,h=>by
  exfalso
  have:Bd [] n= -1:=rfl
  omega
 |x::l,h,hp=>by
  have hs:=List.pairwise_cons.1 h
  have hb:=XaM (l:=l) (n:=n)
  rw[Pt]at hp⊢
  unfold D2
  rw[List.filter_cons]
  by_cases hx:x.name_=n
  ·rw[if_pos hx,decide_eq_true hx]
   have:l.filter (fun x=>!decide (x.name_=n))=l:=by
    rw[List.filter_eq_self]
    intro y hy
    rw[decide_eq_false]
    ·rfl
    ·rintro rfl
     exact XhN (hs.1 y hy) hx
   simp[this]
  ·rw[if_neg hx]at hp⊢
   rw[decide_eq_false hx]
   by_cases h2:Bd l n<0
   ·rw[if_pos h2]at hp;omega
   ·rw[if_neg h2,show(Bd l n+1).toNat=(Bd l n).toNat+1 by omega,List.eraseIdx_cons_succ,←X0 hs.2 (by omega)]
    rfl
theorem Xd9{d:Aa}{l:List Ad}(h:Bk d l=true){i:Nat}(hi:i<l.length):Fr d l i=true:=by
 unfold Bk at h
 rw[Bool.and_eq_true]at h
 exact List.all_eq_true.1 h.1 i (List.mem_range.2 hi)
theorem Xjk{d:Aa}{l:List Ad}(h:Bk d l=true){i:Nat}(hi:i+1<l.length):ltB l[i].name_ l[i+1].name_=true:=by
 have h1:=Xd9 h hi
 unfold Fr at h1
 rw[Xb4 hi rfl,show i+1 - 1=i by omega,Xb4 (show i<l.length by omega) rfl,decide_eq_false (show¬i+1=0 by omega),Bool.false_or,←Xen]at h1
 simp only[Bool.not_not,Bool.and_eq_true]at h1
 exact h1.1.1
theorem XiA{d:Aa}{l:List Ad}(h:Bk d l=true):srt l:=by
 have key:∀(k i:Nat) (hk:i+1+k<l.length),ltB l[i].name_ l[i+1+k].name_=true:=by
  intro k
  induction k with
  |zero=>intro i hk;exact Xjk h hk
  |succ k ih=>intro i hk;exact Xc8 (ih i (by omega)) (Xjk h (i:=i+1+k) (by omega))
 refine List.pairwise_iff_getElem.2 fun i j hi hj hij=>?_
 have:=key (j - i - 1) i (by omega)
 simpa only[show i+1+(j - i - 1)=j by omega]using this
theorem Xfc{l:List Ad}{n:ByteArray}(h:srt l):srt (D2 l n):=List.Pairwise.filter _ h
theorem Wb{l:List Ad}{s:ByteArray}(h:srt l):E6 l s=As l s:=by
 by_cases hne:s=tx []
 ·subst hne
  rw[XaL rfl]
  exact Fh (a:=tx []) (b:=tx []) (c:=0) (d:=false) rfl (.inl rfl)
 have hp:=XaS hne
 have hhd:=Hz hp
 obtain⟨a,b,c,hc⟩:∃a b c,Lb (s.extract 1 s.size)=(a,b,c):=⟨_,_,_,rfl⟩
 have hlt2:c=true→2≤s.size:=by
  rintro rfl
  unfold Lb at hc
  split at hc
  ·rename_i h0
   have:=(Za (rfl:J9 (s.extract 1 s.size)=_)).2
   rw[ByteArray.size_extract]at this
   omega
  ·simp at hc
 by_cases h43:s.data.toList.head?=some 43
 ·rw[Ht hne h43 hc]
  cases c with
  |false=>
   rw[if_pos (.inl rfl)]
   by_cases aa:s.size<2
   ·exact Fh (Y8 (.inl aa)).symm (.inl rfl)
   ·exact Fh (Xaq (by omega) (.inl h43) (by rw[h43];decide) (by rw[hc])).symm (.inl rfl)
  |true=>
   have hm:=Ve (hlt2 rfl) h43 hc
   cases hr:(Bh b).2 with
   |false=>rw[if_pos (.inr (.inl rfl))];exact Fh hm (.inl (by rw[hr];rfl))
   |true=>
    cases hn:Bs a with
    |false=>rw[if_pos (.inr (.inr rfl))];exact Fh hm (.inr (.inl hn))
    |true=>
     rw[if_neg (by simp)]
     rw[hr,hn]at hm
     rw[Y3 hm hn h43,Xb5 h]
 ·by_cases h45:s.data.toList.head?=some 45
  ·rw[Pu hne h45]
   by_cases aa:s.size<2
   ·have e:s.extract 1 s.size=tx []:=by
     apply Nj
     rw[Dw,List.drop_of_length_le (by rw[List.length_take,Array.length_toList];show min _ s.size≤1;omega)]
     rfl
    rw[Fh (Y8 (.inl aa)).symm (.inl rfl),e]
    unfold Gq
    rw[if_pos (.inr (by decide))]
   ·have hm:=(Xdk (by omega) h45).symm
    unfold Gq
    by_cases hpl:Bd l (s.extract 1 s.size)<0
    ·rw[if_pos (.inl hpl)]
     exact Fh hm (.inr (.inr ⟨h43,by unfold El;rw[decide_eq_false_iff_not];omega⟩))
    ·cases hn:Bs (s.extract 1 s.size)with
     |false=>rw[if_pos (.inr rfl)];exact Fh hm (.inr (.inl hn))
     |true=>
      rw[if_neg (by rintro(k|k);exact hpl k;cases k),Wq hm hn (by unfold El;rw[decide_eq_true_eq];omega) h45,X0 h (by omega)]
      rfl
  ·by_cases h62:s.data.toList.head?=some 62
   ·rw[Gh hne h62 hc]
    cases c with
    |false=>
     rw[if_pos (.inl rfl)]
     by_cases aa:s.size<2
     ·exact Fh (Y8 (.inl aa)).symm (.inl rfl)
     ·exact Fh (Xaq (by omega) (.inr (.inr h62)) h45 (by rw[hc])).symm (.inl rfl)
    |true=>
     have hm:=Vs (hlt2 rfl) h62 hc
     cases hnb:Bs b with
     |false=>rw[if_pos (.inr (.inr (.inl rfl)))];exact Fh hm (.inl (by rw[hnb];rfl))
     |true=>
      by_cases hab:a=b
      ·rw[if_pos (.inr (.inr (.inr hab)))];exact Fh hm (.inl (by rw[hnb,decide_eq_true hab];rfl))
      ·rw[hnb,decide_eq_false hab]at hm
       by_cases hpl:Bd l a<0
       ·have hd:Gq l a=([],false):=by unfold Gq;rw[if_pos (.inl hpl)]
        rw[hd,if_pos (.inr (.inl rfl))]
        exact Fh hm (.inr (.inr ⟨h43,by unfold El;rw[decide_eq_false_iff_not];omega⟩))
       ·cases hn:Bs a with
        |false=>
         have hd:Gq l a=([],false):=by unfold Gq;rw[if_pos (.inr hn)]
         rw[hd,if_pos (.inr (.inl rfl))]
         exact Fh hm (.inr (.inl hn))
        |true=>
         have hd:Gq l a=(D2 l a,true):=by unfold Gq;rw[if_neg (by rw[hn];rintro(k|k);exact hpl k;cases k),X0 h (by omega)];rfl
         rw[hd,if_neg (by simp;exact hab),Xak hm hn (by unfold El;rw[decide_eq_true_eq];omega) h62,Xb5 (Xfc h)]
   ·rw[Wi hne hhd (fun e=>h43 (by rw[hhd,e])) (fun e=>h45 (by rw[hhd,e])) (fun e=>h62 (by rw[hhd,e]))]
    exact Fh (Y8 (.inr ⟨h43,h45,h62⟩)).symm (.inl rfl)
def Xcd(d:Aa)(k:Nat):Bool:=if(Cv d.old_ (d.steps_.take k)).2=true then E3 d (Cv d.old_ (d.steps_.take k)).1 (d.steps_.drop k)else false
theorem Xgc{s:ByteArray}:∀(l:List ByteArray) (now:List Ad),Cv now (l++[s])=if(Cv now l).2=true then(if(E6 (Cv now l).1 s).2=false then([],false)else E6 (Cv now l).1 s)else([],false)
 |[],now=>by
  show(if(E6 now s).2=false then _ else Cv (E6 now s).1 [])=if true=true then _ else _
  rw[if_pos rfl]
  cases h:E6 now s with
  |mk x b=>cases b<;>simp[Cv,h]
 |y::l,now=>by
  show(if(E6 now y).2=false then _ else Cv (E6 now y).1 (l++[s]))=if(if(E6 now y).2=false then _ else Cv (E6 now y).1 l).2=true then _ else _
  by_cases h:(E6 now y).2=false
  ·rw[if_pos h,if_pos h,if_neg (by decide)]
  ·rw[if_neg h,if_neg h,Xgc l]
   have e:Cv now (y::l)=Cv (E6 now y).1 l:=if_neg h
   rw[e]
theorem Xgu{d:Aa}{k:Nat}{x:List Ad}(hk:k<d.steps_.length)(h:Cv d.old_ (d.steps_.take k)=(x,true))(hr:Bk d x=true):Cv d.old_ (d.steps_.take (k+1))=if(As x d.steps_[k]).2=false then([],false)else As x d.steps_[k]:=by
 rw[List.take_succ_eq_append_getElem hk,Xgc,h,if_pos rfl,Wb (XiA hr)]
theorem XgQ{d:Aa}{k:Nat}{x:List Ad}(hk:k<d.steps_.length)(h:Cv d.old_ (d.steps_.take k)=(x,true))(hr:Bk d x=true):Xcd d (k+1)=Xcd d k:=by
 obtain⟨y,b,hy⟩:∃y b,As x d.steps_[k]=(y,b):=⟨_,_,rfl⟩
 unfold Xcd
 rw[Xgu hk h hr,h,if_pos (show(x,true).2=true from rfl),List.drop_eq_getElem_cons hk]
 show _=(Bk d x&&(As x d.steps_[k]).2&&E3 d (As x d.steps_[k]).1 _)
 rw[hr,hy]
 cases b<;>rfl
theorem Xcf{old:List Ad}{steps:List ByteArray}{k:Int}(h0:0≤k)(h1:k≤steps.length):Ee old steps k=Cv old (steps.take k.toNat):=by
 unfold Ee
 rw[show Cs k 0 steps.length=k from by unfold Cs;split<;>(try split)<;>(try split)<;>omega]
def Xks(d:Aa)(k:Nat):Prop:=E3 d d.old_ d.steps_=Xcd d k∧okL (Cv d.old_ (d.steps_.take k)).1∧(Cv d.old_ (d.steps_.take k)).1.length≤1000000000
theorem XhD{d:Aa}(hd:J8 d):Xks d 0:=⟨rfl,hd.2.1,hd.1.2.2.2.2.1⟩
theorem Xha{d:Aa}(hd:J8 d){k:Nat}{x:List Ad}(hq:Xks d k)(hk:k<d.steps_.length)(h:Cv d.old_ (d.steps_.take k)=(x,true))(hr:Bk d x=true):Xks d (k+1):=by
 obtain⟨h1,h2,h3⟩:=hq
 have hx:=Vh hr
 rw[h]at h2 h3
 refine⟨by rw[h1,XgQ hk h hr],?_⟩
 rw[Xgu hk h hr]
 obtain⟨y,b,hy⟩:∃y b,As x d.steps_[k]=(y,b):=⟨_,_,rfl⟩
 have hl:=M9 hy
 have ho:=Xbh h2 (hd.2.2 _ (List.getElem_mem hk)) hy
 rw[hy]
 cases b
 ·exact⟨fun e he=>(by cases he),Nat.zero_le _⟩
 ·exact⟨ho,by show y.length≤_;omega⟩
theorem O0:Setup Tryz.prog ((3000007,E9 Tryz.prog 3000007)::((3000001,E9 Tryz.prog 3000001)::Xh)):=(Setup.mark 3000007 (Setup.mark 3000001 XkT))
theorem Np{Af:List A0}{Bo:List (List D)}{Ah:List Ad}{Bn:List (List D)}{Ai:List Ad}{Bm:List (List D)}{Ag:List ByteArray}{Bp:List (List D)}{Ap:Int}{An:Int}{o:Bool}(Al:Af.map Bf=Bo)(Am:Ah.map Ac=Bn)(Aq:Ai.map Ac=Bm)(Ao:Ag.map cS=Bp)(ac:J8 ⟨Af,Ah,Ai,Ag,Ap,An⟩)(hr:Bq (⟨Af,Ah,Ai,Ag,Ap,An⟩:Aa)=o):Fn Tryz.prog 211 [.agg [.d (.row 3 Bo),.d (.row 2 Bn),.d (.row 2 Bm),.d (.row 1 Bp),I Ap,I An]] [] ⟨B o,[],[]⟩:=by
 refine Fn.go O0 Tryz.func211 fun P hP Q hQ=>?_
 conv=>cbv
 refine .go Al fun v1 bl=>?_
 conv=>cbv
 have hdo:Ai.length≤1000000000:=ac.1.2.2.2.2.1
 have hds:Ag.length≤1000000000:=ac.1.2.2.2.2.2
 refine .gtr (fun h2=>?_) fun h2=>?_
 conv=>cbv
 refine .go2 (by kernel_rfl) ?_
 conv=>cbv
 have e:false=Bq (⟨Af,Ah,Ai,Ag,Ap,An⟩:Aa):=(by exact Ea fun h=>by rw[diskOk_iff]at h;have:=h.2.2.1;unfold Ek at this;rw[decide_eq_false (by simp only[];omega),Bool.and_false]at this;cases this)
 rw[hr]at e
 subst e
 exact hQ _ _ (.b rfl rfl)
 conv=>cbv
 generalize af:Bi Ap 0 1000000000=r3
 refine .dd hP (Dt af) ?_
 cases r3
 simp only[Bi,decide_eq_true_eq,decide_eq_false_iff_not]at af
 conv=>cbv
 refine .go2 (by kernel_rfl) ?_
 conv=>cbv
 have e:false=Bq (⟨Af,Ah,Ai,Ag,Ap,An⟩:Aa):=(by exact Ea fun h=>by rw[diskOk_iff]at h;exact af h.1)
 rw[hr]at e
 subst e
 exact hQ _ _ (.b rfl rfl)
 simp only[Bi,decide_eq_true_eq,decide_eq_false_iff_not]at af
 conv=>cbv
 generalize ag:Bi An 1 1000000000=r4
 refine .dd hP (Dt ag) ?_
 cases r4
 simp only[Bi,decide_eq_true_eq,decide_eq_false_iff_not]at ag
 conv=>cbv
 refine .go2 (by kernel_rfl) ?_
 conv=>cbv
 have e:false=Bq (⟨Af,Ah,Ai,Ag,Ap,An⟩:Aa):=(by exact Ea fun h=>by rw[diskOk_iff]at h;exact ag h.2.1)
 rw[hr]at e
 subst e
 exact hQ _ _ (.b rfl rfl)
 simp only[Bi,decide_eq_true_eq,decide_eq_false_iff_not]at ag
 conv=>cbv
 generalize aq:F9 (⟨Af,Ah,Ai,Ag,Ap,An⟩:Aa)=r5
 refine .dd hP (Xgl Al Am Aq Ao ac.1 aq) ?_
 conv=>cbv
 refine .gtr (fun h6=>?_) fun h6=>?_
 conv=>cbv
 refine .go2 (by kernel_rfl) ?_
 conv=>cbv
 have e:false=Bq (⟨Af,Ah,Ai,Ag,Ap,An⟩:Aa):=(by exact Ea fun h=>by rw[diskOk_iff]at h;have:=h.2.2.2.1;rw[aq]at this;simp only[]at this;omega)
 rw[hr]at e
 subst e
 exact hQ _ _ (.b rfl rfl)
 conv=>cbv
 refine .go2 (by kernel_rfl) ?_
 conv=>cbv
 refine LoopW.lp (κ:=Int) O0 hP [] [1] (fun i3=>[(3,I i3)]) (fun i3=>[])
  (fun i3=>0≤i3∧i3≤Af.length∧∀j:Nat,j<i3.toNat→Ey (⟨Af,Ah,Ai,Ag,Ap,An⟩:Aa) j=true)
  (fun i3=>(Af.length - i3).toNat) (0) ⟨by omega,by omega,fun j h=>by simp at h⟩ ⟨rfl,trivial⟩ rfl ?_
 rintro i3 J ⟨h0,h1,hb⟩ hJ
 have bm:Af.length≤1000000000:=ac.1.1
 conv=>cbv
 refine .go Al fun v7 bn=>?_
 conv=>cbv
 refine .lss (fun h8=>?_) fun h8=>?_
 conv=>cbv
 refine .go i3.toNat Al fun ad ⟨aw,a7,ah⟩ a8=>?_
 conv=>cbv
 refine .sub fun ba bj=>?_
 conv=>cbv
 have hnd:=Xjq (d:=(⟨Af,Ah,Ai,Ag,Ap,An⟩:Aa)) ad a8
 generalize ab:Bi aw 1 ba=bb
 refine .dd hP (Dt ab) ?_
 cases bb
 simp only[Bi,decide_eq_true_eq,decide_eq_false_iff_not]at ab
 conv=>cbv
 refine .go2 (by kernel_rfl) ?_
 conv=>cbv
 have e:false=Bq (⟨Af,Ah,Ai,Ag,Ap,An⟩:Aa):=(by exact Ea fun h=>by rw[diskOk_iff]at h;have h3:=h.2.2.1;rw[←Ks (d:=(⟨Af,Ah,Ai,Ag,Ap,An⟩:Aa)) ad (by unfold Ey;rw[decide_eq_false_iff_not,hnd];simp only[];omega)]at h3;cases h3)
 rw[hr]at e
 subst e
 exact hQ _ _ (.b rfl rfl)
 simp only[Bi,decide_eq_true_eq,decide_eq_false_iff_not]at ab
 conv=>cbv
 refine .gtr (fun h12=>?_) fun h12=>?_
 conv=>cbv
 refine .sub fun ai ao=>?_
 conv=>cbv
 refine .go ai.toNat Al fun ar ⟨bc,a2,a6⟩ ax=>?_
 conv=>cbv
 have hpd:=Xjq (d:=(⟨Af,Ah,Ai,Ag,Ap,An⟩:Aa)) ar ax
 rw[show ai.toNat=i3.toNat - 1 by omega]at hpd
 refine .geq (fun h15=>?_) fun h15=>?_
 conv=>cbv
 refine .go2 (by kernel_rfl) ?_
 conv=>cbv
 have e:false=Bq (⟨Af,Ah,Ai,Ag,Ap,An⟩:Aa):=(by exact Ea fun h=>by rw[diskOk_iff]at h;have h3:=h.2.2.1;rw[←Ks (d:=(⟨Af,Ah,Ai,Ag,Ap,An⟩:Aa)) ad (by unfold Ey;rw[decide_eq_false_iff_not,hnd];simp only[];rw[hpd];simp only[];omega)]at h3;cases h3)
 rw[hr]at e
 subst e
 exact hQ _ _ (.b rfl rfl)
 conv=>cbv
 refine .go fun au ay=>?_
 conv=>cbv
 generalize aj:Bi ah 0 au=bd
 refine .dd hP (Dt aj) ?_
 cases bd
 simp only[Bi,decide_eq_true_eq,decide_eq_false_iff_not]at aj
 conv=>cbv
 refine .go2 (by kernel_rfl) ?_
 conv=>cbv
 have e:false=Bq (⟨Af,Ah,Ai,Ag,Ap,An⟩:Aa):=(by exact Ea fun h=>by rw[diskOk_iff]at h;have h3:=h.2.2.1;rw[←Ks (d:=(⟨Af,Ah,Ai,Ag,Ap,An⟩:Aa)) ad (by unfold Ey;rw[decide_eq_false_iff_not,hnd];simp only[];omega)]at h3;cases h3)
 rw[hr]at e
 subst e
 exact hQ _ _ (.b rfl rfl)
 simp only[Bi,decide_eq_true_eq,decide_eq_false_iff_not]at aj
 conv=>cbv
 refine .go2 (by kernel_rfl) ?_
 conv=>cbv
 refine .add fun be bk=>?_
 conv=>cbv
 exact .go [] (be) (hJ _ ⟨by omega,by omega,fun j h=>if e:j=i3.toNat then by subst e;unfold Ey;rw[decide_eq_true_eq,hnd,hpd];simp only[];omega else hb j (by omega)⟩ mlt)
 conv=>cbv
 refine .go fun ai ao=>?_
 conv=>cbv
 generalize ak:Bi ah 0 ai=bf
 refine .dd hP (Dt ak) ?_
 cases bf
 simp only[Bi,decide_eq_true_eq,decide_eq_false_iff_not]at ak
 conv=>cbv
 refine .go2 (by kernel_rfl) ?_
 conv=>cbv
 have e:false=Bq (⟨Af,Ah,Ai,Ag,Ap,An⟩:Aa):=(by exact Ea fun h=>by rw[diskOk_iff]at h;have h3:=h.2.2.1;rw[←Ks (d:=(⟨Af,Ah,Ai,Ag,Ap,An⟩:Aa)) ad (by unfold Ey;rw[decide_eq_false_iff_not,hnd];simp only[];omega)]at h3;cases h3)
 rw[hr]at e
 subst e
 exact hQ _ _ (.b rfl rfl)
 simp only[Bi,decide_eq_true_eq,decide_eq_false_iff_not]at ak
 conv=>cbv
 refine .go2 (by kernel_rfl) ?_
 conv=>cbv
 refine .add fun an az=>?_
 conv=>cbv
 exact .go [] (an) (hJ _ ⟨by omega,by omega,fun j h=>if e:j=i3.toNat then by subst e;unfold Ey;rw[decide_eq_true_eq,hnd];simp only[];omega else hb j (by omega)⟩ mlt)
 conv=>cbv
 refine LoopW.lp (κ:=Int) O0 hP [] [1] (fun i5=>[(5,I i5)]) (fun i5=>[])
  (fun i5=>0≤i5∧i5≤Ag.length+1∧(i5≤Ag.length→Xks (⟨Af,Ah,Ai,Ag,Ap,An⟩:Aa) i5.toNat)∧(i5=Ag.length+1→E3 (⟨Af,Ah,Ai,Ag,Ap,An⟩:Aa) Ai Ag=true))
  (fun i5=>(Ag.length+1 - i5).toNat) (0) ⟨by omega,by omega,fun _=>XhD ac,fun h=>by omega⟩ ⟨rfl,trivial⟩ rfl ?_
 rintro i5 J1 ⟨k0,k1,hQk,hQe⟩ a1
 conv=>cbv
 refine .go Ao fun v9 bo=>?_
 conv=>cbv
 refine .leq (fun h10=>?_) fun h10=>?_
 conv=>cbv
 have hq:=hQk (by omega)
 have hS0:=Xcf (old:=Ai) (steps:=Ag) (k:=i5) (by omega) (by omega)
 rcases ab:Ee Ai Ag i5 with⟨aa,ap⟩
 generalize ae:aa.map Ac=bg
 refine .dd hP (Rr Aq Ao (by omega) (by omega) ac.2.2 ab ae) ?_
 conv=>cbv
 have hS:Cv Ai (Ag.take i5.toNat)=(aa,ap):=hS0.symm.trans ab
 have hul:okL aa:=by have:=hq.2.1;simp only[]at this;rw[hS]at this;exact this
 have hun:aa.length≤1000000000:=by have:=hq.2.2;simp only[]at this;rw[hS]at this;exact this
 cases ap
 conv=>cbv
 have e:false=Bq (⟨Af,Ah,Ai,Ag,Ap,An⟩:Aa):=(by exact Ea fun h=>by rw[diskOk_iff]at h;have hk:=h.2.2.2.2;simp only[]at hk;rw[hq.1]at hk;unfold Xcd at hk;simp only[]at hk;rw[hS]at hk;cases hk)
 rw[hr]at e
 subst e
 exact hQ _ _ (.b rfl rfl)
 conv=>cbv
 generalize al:Ib (⟨Af,Ah,Ai,Ag,Ap,An⟩:Aa) aa=bh
 refine .dd hP (XbP Al Am Aq Ao ae ac.1 hul (by omega) al) ?_
 cases bh
 conv=>cbv
 have e:false=Bq (⟨Af,Ah,Ai,Ag,Ap,An⟩:Aa):=(by exact Ea fun h=>by rw[diskOk_iff]at h;have hk:=h.2.2.2.2;simp only[]at hk;rw[hq.1]at hk;unfold Xcd at hk;simp only[]at hk;rw[hS]at hk;rw[if_pos rfl,Zb (show Bk _ aa=false from al)]at hk;cases hk)
 rw[hr]at e
 subst e
 exact hQ _ _ (.b rfl rfl)
 conv=>cbv
 have hre:Bk (⟨Af,Ah,Ai,Ag,Ap,An⟩:Aa) aa=true:=al
 refine .go Ao fun ai ao=>?_
 conv=>cbv
 refine .eql (fun h14=>?_) fun h14=>?_
 conv=>cbv
 generalize am:Lu aa Ah=bi
 refine .dd hP (XhH ae Am (by omega) am) ?_
 cases bi
 conv=>cbv
 have e:false=Bq (⟨Af,Ah,Ai,Ag,Ap,An⟩:Aa):=(by exact Ea fun h=>by rw[diskOk_iff]at h;have hk:=h.2.2.2.2;simp only[]at hk;rw[hq.1]at hk;unfold Xcd at hk;simp only[]at hk;rw[hS]at hk;rw[if_pos rfl,List.drop_of_length_le (by omega)]at hk;unfold E3 at hk;rw[show Jy aa _=false from am,Bool.and_false]at hk;cases hk)
 rw[hr]at e
 subst e
 exact hQ _ _ (.b rfl rfl)
 conv=>cbv
 refine .add fun au ay=>?_
 conv=>cbv
 exact .go [] (au) (a1 _ ⟨by omega,by omega,fun h=>by omega,fun _=>by have:=hq.1;simp only[]at this;rw[this];unfold Xcd;simp only[];rw[hS,List.drop_of_length_le (by omega),if_pos rfl];show(Bk _ aa&&Jy aa Ah)=true;rw[hre,show Jy aa Ah=true from am];rfl⟩ mlt)
 conv=>cbv
 refine .add fun an az=>?_
 conv=>cbv
 exact .go [] (an) (a1 _ ⟨by omega,by omega,fun h=>by rw[show an.toNat=i5.toNat+1 by omega];exact Xha ac hq (by simp only[];omega) hS hre,fun h=>by omega⟩ mlt)
 conv=>cbv
 have e:true=Bq (⟨Af,Ah,Ai,Ag,Ap,An⟩:Aa):=(by symm;rw[diskOk_iff];exact⟨af,ag,(Wy (d:=(⟨Af,Ah,Ai,Ag,Ap,An⟩:Aa)) (fun j hj=>hb j (by simp only[]at hj;omega)) (by symm;rw[decide_eq_true_eq];simp only[];omega)).symm,by rw[aq];exact h6,hQe (by omega)⟩)
 rw[hr]at e
 subst e
 exact hQ _ _ (.b rfl rfl)
end
end Go.Proofs.YtjbmpmmffjgedaaGreatDoor.Ab
