/- What functions of the program come to, for all arguments in the given bounds. -/
import Derived.Test.YtgdmjbcllgmepaaGreatDoorFrch14
import Derived.Test.YtgdmjbcllgmepaaGreatDoorFrZ9
set_option linter.unusedVariables false
set_option linter.unusedSimpArgs false
namespace Go.Proofs.YtgdmjbcllgmepaaGreatDoor.Ab
section
open Go Go.Proofs
set_option maxRecDepth 20000
set_option maxHeartbeats 4000000
def O5:List (Nat×TyRow):=[ty3,ty5,ty9,XdK,Xbh]
theorem XaR:B1 Tryz.prog O5:=B1.of (by kernel_rfl)
theorem Lm:Setup Tryz.prog O5:=⟨XaR,mixed⟩
def Hj{α:Type}(l:List α)(i:Int)(m:List α):List α:=l.take i.toNat++m++l.drop i.toNat
def Mb{α:Type}(l:List α)(i j:Int):List α:=l.eraseIdx i.toNat
variable {l o oa:List Al} {xl xo xoa:List (List D)} {nl no:Nat} {i:Int} {name:ByteArray} {ob:Bool}
theorem Fl{m:List Al}{xm:List (List D)}{nm:Nat}(hl:l.map Ae=xl)(hnl:nl=l.length)(hm:m.map Ae=xm)(hnm:nm=m.length)
  (hp:(0≤i∧i≤l.length)∧l.length≤4000000000∧nm=1)(hr:Hj l i m=o)(ho:o.map Ae=xo)(hno:no=o.length):Fn Tryz.prog 307 [.ref 0 0 nl,I i,.ref 1 0 nm] [.row 2 false xl,.row 2 false xm] ⟨.ref 2 0 no,[.row 2 false xo],[(0,.dead)]⟩:=by
 obtain⟨⟨h0,h1⟩,h2,h3⟩:=hp
 subst h3
 refine⟨Ep Tryz.func307 rfl rfl,?_⟩
 obtain⟨i,rfl⟩:∃k:Nat,i=k:=⟨i.toNat,by omega⟩
 match m,hnm with
 |[x],_=>
  subst hm ho hno hr hl
  have h:=XeO (xs:=l.map Ae) (v:=Ae x) (n:=nl) (i:=i) (by simpa using hnl) (by omega) (by omega)
  have e:(Hj l i [x]).map Ae=(l.map Ae).take i++Ae x::(l.map Ae).drop i:=by
   unfold Hj
   simp
  have e2:(Hj l i [x]).length=((l.map Ae).take i++Ae x::(l.map Ae).drop i).length:=by rw[←e,List.length_map]
  rw[e,e2]
  exact h
theorem Ji{j:Int}(hl:l.map Ae=xl)(hnl:nl=l.length)
  (hp:(0≤i∧i<l.length)∧j=i+1∧l.length≤4000000000)(hr:Mb l i j=o)(ho:o.map Ae=xo)(hno:no=o.length):Fn Tryz.prog 308 [.ref 0 0 nl,I i,I j] [.row 2 false xl] ⟨.ref 1 0 no,[.row 2 false xo],[(0,.dead)]⟩:=by
 obtain⟨⟨h0,h1⟩,h2,h3⟩:=hp
 refine⟨Ep Tryz.func308 rfl rfl,?_⟩
 subst ho hno hr hl
 have h:=XfJ (xs:=l.map Ae) (n:=nl) (i:=i) (j:=j) (by simpa using hnl) h0 (by omega) h2 (by omega)
 have e:(Mb l i j).map Ae=(l.map Ae).eraseIdx i.toNat:=by
  unfold Mb
  apply List.ext_getElem?
  intro k
  simp only[List.getElem?_map,List.getElem?_eraseIdx]
  split<;>rfl
 have e2:(Mb l i j).length=((l.map Ae).eraseIdx i.toNat).length:=by rw[←e,List.length_map]
 rw[e,e2]
 exact h
def Jf(e:Al)(name:ByteArray):Bool:=!(ltB e.name_ name||decide (e.name_=name))
def B9(l:List Al)(name:ByteArray):Int:=U7 (fun e=>Jf e name) l
def Tl(l:List Al)(name:ByteArray)(id:Int):List Al:=
 if 0≤A7 l name then l.set (A7 l name).toNat ⟨(l.getD (A7 l name).toNat ⟨tx [],0⟩).name_,id⟩
 else Hj l (if B9 l name<0 then l.length else B9 l name) [⟨name,id⟩]
def G2(l:List Al)(name:ByteArray):List Al×Bool:=
 if A7 l name<0∨Bj name=false then([],false)else(Mb l (A7 l name) (A7 l name+1),true)
theorem XiG{enam:ByteArray}{eid:Int}{o:Bool}(hr:Jf (⟨enam,eid⟩:Al) name=o):Fn Tryz.prog 306 [.agg [S enam,I eid],.ptr 0 0 0] [.box 9 [S name]] ⟨B o,[],[]⟩:=by
 refine Fn.goR Lm Tryz.func306 fun P hP Q hQ=>?_
 conv=>cbv
 refine .gtr fun b1 aa=>?_
 conv=>cbv
 have e:b1=Jf (⟨enam,eid⟩:Al) name:=(by unfold Jf;exact aa)
 rw[hr]at e
 subst e
 exact hQ _ _ (.of [] (.inl rfl) rfl rfl rfl rfl)
theorem Q0{o:Int}(hl:l.map Ae=xl)(hnl:nl=l.length)(hn:l.length<2^40)(hr:B9 l name=o):Fn Tryz.prog 301 [.ref 0 0 nl,.clo 306 [.ptr 1 0 0]] [.row 2 false xl,.box 9 [S name]] ⟨I o,[],[]⟩:=by
 refine Fn.goR Lm Tryz.func301 fun P hP Q hQ=>?_
 conv=>cbv
 refine .go fun v1 ah=>?_
 conv=>cbv
 refine LoopW.lp (κ:=Int) Lm hP [] [0,1,7] (fun i8=>[(8,I i8)]) (fun i8=>[])
  (fun i8=>0≤i8∧i8≤l.length∧∀(j:Nat) (hj:j<l.length),j<i8.toNat→Jf l[j] name=false)
  (fun i8=>(l.length - i8).toNat) (0) ⟨by omega,by omega,fun j _ h=>by simp at h⟩ ⟨rfl,trivial⟩ rfl ?_
 rintro i8 J ⟨h0,h1,hb⟩ hJ
 conv=>cbv
 refine .lss (fun h2=>?_) fun h2=>?_
 conv=>cbv
 refine .go i8.toNat fun p3 ae af=>?_
 conv=>cbv
 refine .go hl fun ag ⟨aa,ac⟩ ad=>?_
 conv=>cbv
 subst ae
 generalize ab:Jf (⟨aa,ac⟩:Al) name=r5
 refine .bx [1] [] hP (XiG ab) rfl rfl rfl rfl ?_
 cases r5
 conv=>cbv
 refine .add fun v6 ai=>?_
 conv=>cbv
 exact .go [] (v6) (hJ _ ⟨by omega,by omega,fun j hj h=>if e:j=i8.toNat then by subst e;rw[←ad];exact ab else hb j hj (by omega)⟩ mlt)
 conv=>cbv
 have e:i8=B9 l name:=(by exact Ob (p:=fun x=>Jf x name) h0 (by omega) (ad▸ab) hb)
 rw[hr]at e
 subst e
 exact hQ _ _ (.of [] (.inl rfl) rfl rfl rfl rfl)
 conv=>cbv
 have e:(-1)=B9 l name:=(by exact Jk (p:=fun x=>Jf x name) fun j hj=>hb j hj (by omega))
 rw[hr]at e
 subst e
 exact hQ _ _ (.of [] (.inl rfl) rfl rfl rfl rfl)
theorem XaG:Setup Tryz.prog ((1000013,Em Tryz.prog 1000013)::O5):=(Setup.mark 1000013 Lm)
theorem XjF{id:Int}(hl:l.map Ae=xl)(hnl:nl=l.length)(hn:l.length≤4000000000)(hr:Tl l name id=o)(ho:o.map Ae=xo)(hno:no=o.length):Fn Tryz.prog 252 [.ref 0 0 nl,S name,I id] [.row 2 false xl] ⟨.ref 1 0 no,[.row 2 false xo],[(0,.dead)]⟩:=by
 refine Fn.goR XaG Tryz.func252 fun P hP Q hQ=>?_
 conv=>cbv
 refine JoinW.jn (κ:=(List (List D))×Nat) XaG hP [0] [0,2,4] (fun(ab,ac)=>[]) (fun(ab,ac)=>[(3,.row 2 false ab)])
  (fun(ab,ac)=>∃(w3:List Al),w3.map Ae=ab∧ac=w3.length∧w3=l∧A7 w3 name<0) (fun Jj hJj=>?_) ?_
 conv=>cbv
 generalize aa:A7 l name=r1
 refine .lnt hP (My hl (by omega) aa) (.ref rfl (by rw[←hl,List.length_map];first|omega|(simp;omega)) (.d rfl .nil)) ?_
 conv=>cbv
 have hb:=Hm aa
 refine .geq (fun h2=>?_) fun h2=>?_
 conv=>cbv
 refine .go r1.toNat fun p3 ai am=>?_
 conv=>cbv
 refine .go (⟨(l.getD p3 ⟨tx [],0⟩).name_,id⟩:Al) hl (by omega) (by rw[←gD (show p3<l.length by omega)];rfl) (Nat.le_refl 2) fun z4 aj=>?_
 conv=>cbv
 have e:(l.set p3 (⟨(l.getD p3 ⟨tx [],0⟩).name_,id⟩:Al))=Tl l name id:=(by unfold Tl;rw[aa,if_pos (by omega),ai])
 rw[hr]at e
 subst e
 obtain rfl:z4=xo:=by rw[←aj,←ho]
 obtain rfl:nl=no:=by first|omega|(rw[hno];simp;done)|(rw[hno];simp;omega)
 exact hQ _ _ (.of [3] (.inl rfl) rfl rfl rfl rfl)
 conv=>cbv
 exact .go [3] (xl,nl) (hJj _ ⟨_,hl,Ot,rfl,by rw[aa];omega⟩)
 rintro⟨ab,ac⟩ ⟨w3,ad,an,hwl,hneg⟩
 have hwn:w3.length=l.length:=by rw[hwl]
 conv=>cbv
 generalize aa:B9 w3 name=r1
 refine .bx [3,1] [] hP (Q0 ad (by first|rfl|omega|(simp;omega)) (by omega) aa) rfl rfl rfl rfl ?_
 conv=>cbv
 have hb:=Xdf (p:=fun e=>Jf e name) aa
 refine .lss (fun h2=>?_) fun h2=>?_
 conv=>cbv
 refine .go fun v3 ao=>?_
 conv=>cbv
 generalize ae:Hj w3 v3 [(⟨name,id⟩:Al)]=l4
 generalize af:l4.map Ae=ak
 obtain⟨nl4,hnl4⟩:∃m,m=l4.length:=⟨_,rfl⟩
 refine .bx [3,4] [] hP (Fl ad (by first|rfl|omega|(simp;omega)) rfl (by first|rfl|omega|(simp;omega)) (by omega) ae af hnl4) rfl rfl rfl rfl ?_
 conv=>cbv
 have e:l4=Tl l name id:=(by rw[←hwl];unfold Tl;rw[if_neg (by omega),aa,if_pos (by omega),show((w3.length:Nat):Int)=v3 by omega];exact ae.symm)
 rw[hr]at e
 subst e
 obtain rfl:ak=xo:=by rw[←af,←ho]
 obtain rfl:nl4=no:=by first|omega|(rw[hno];simp;done)|(rw[hno];simp;omega)
 exact hQ _ _ (.of [5] (.inl rfl) rfl rfl rfl rfl)
 conv=>cbv
 generalize ag:Hj w3 r1 [(⟨name,id⟩:Al)]=l3
 generalize ah:l3.map Ae=al
 obtain⟨nl3,hnl3⟩:∃m,m=l3.length:=⟨_,rfl⟩
 refine .bx [3,4] [] hP (Fl ad (by first|rfl|omega|(simp;omega)) rfl (by first|rfl|omega|(simp;omega)) (by omega) ag ah hnl3) rfl rfl rfl rfl ?_
 conv=>cbv
 have e:l3=Tl l name id:=(by rw[←hwl];unfold Tl;rw[if_neg (by omega),aa,if_neg (by omega)];exact ag.symm)
 rw[hr]at e
 subst e
 obtain rfl:al=xo:=by rw[←ah,←ho]
 obtain rfl:nl3=no:=by first|omega|(rw[hno];simp;done)|(rw[hno];simp;omega)
 exact hQ _ _ (.of [5] (.inl rfl) rfl rfl rfl rfl)
theorem V1:Setup Tryz.prog ((1000016,Em Tryz.prog 1000016)::O5):=(Setup.mark 1000016 Lm)
theorem XhX{noa:Nat}(hl:l.map Ae=xl)(hnl:nl=l.length)(hn:l.length≤4000000000)(hs:name.size≤1000000000)(hr:G2 l name=(oa,ob))(hoa:oa.map Ae=xoa)(hnoa:noa=oa.length):Fn Tryz.prog 253 [.ref 0 0 nl,S name] [.row 2 false xl] ⟨.tup [.ref 1 0 noa,B ob],[.row 2 false xoa],[(0,.dead)]⟩:=by
 refine Fn.goR V1 Tryz.func253 fun P hP Q hQ=>?_
 conv=>cbv
 generalize ab:A7 l name=r1
 refine .lnt hP (My hl (by omega) ab) (.ref rfl (by rw[←hl,List.length_map];first|omega|(simp;omega)) (.d rfl .nil)) ?_
 conv=>cbv
 have hb:=Hm ab
 refine JoinW.jn (κ:=(List (List D))×Nat) V1 hP [0] [0,6] (fun(ac,ad)=>[]) (fun(ac,ad)=>[(2,.row 2 false ac)])
  (fun(ac,ad)=>∃(w2:List Al),w2.map Ae=ac∧ad=w2.length∧w2=l∧0≤r1∧Bj name=true) (fun Jj hJj=>?_) ?_
 conv=>cbv
 refine .lss (fun h2=>?_) fun h2=>?_
 conv=>cbv
 have e:([],false)=G2 l name:=(by unfold G2;rw[ab,if_pos (.inl h2)])
 rw[hr]at e
 simp only[Prod.mk.injEq]at e
 obtain⟨rfl,rfl⟩:=e
 obtain rfl:[]=xoa:=by first|(rw[←hoa];done)|(rw[←hoa];rfl)
 obtain rfl:0=noa:=by first|omega|(rw[hnoa];simp;done)|(rw[hnoa];simp;omega)
 exact hQ _ _ (.of [3] (.inl rfl) rfl rfl rfl rfl)
 conv=>cbv
 generalize aa:Bj name=r3
 refine .dd hP (Nj (by omega) aa) ?_
 cases r3
 conv=>cbv
 have e:([],false)=G2 l name:=(by unfold G2;rw[ab,if_pos (.inr aa)])
 rw[hr]at e
 simp only[Prod.mk.injEq]at e
 obtain⟨rfl,rfl⟩:=e
 obtain rfl:[]=xoa:=by first|(rw[←hoa];done)|(rw[←hoa];rfl)
 obtain rfl:0=noa:=by first|omega|(rw[hnoa];simp;done)|(rw[hnoa];simp;omega)
 exact hQ _ _ (.of [3] (.inl rfl) rfl rfl rfl rfl)
 conv=>cbv
 exact .go [2] (xl,nl) (hJj _ ⟨_,hl,Ot,rfl,by omega,aa⟩)
 rintro⟨ac,ad⟩ ⟨w2,af,ai,hwl,aj,hnm⟩
 have hwn:w2.length=l.length:=by rw[hwl]
 conv=>cbv
 refine .add fun v2 ag=>?_
 conv=>cbv
 generalize aa:Mb w2 r1 v2=l3
 generalize ae:l3.map Ae=ah
 obtain⟨nl3,hnl3⟩:∃m,m=l3.length:=⟨_,rfl⟩
 refine .bx [2] [] hP (Ji af (by first|rfl|omega|(simp;omega)) (by omega) aa ae hnl3) rfl rfl rfl rfl ?_
 conv=>cbv
 have e:(l3,true)=G2 l name:=(by unfold G2;rw[ab,if_neg (by rintro(h|h);omega;rw[hnm]at h;cases h),←aa,ag,hwl])
 rw[hr]at e
 simp only[Prod.mk.injEq]at e
 obtain⟨rfl,rfl⟩:=e
 obtain rfl:ah=xoa:=by rw[←ae,←hoa]
 obtain rfl:nl3=noa:=by first|omega|(rw[hnoa];simp;done)|(rw[hnoa];simp;omega)
 exact hQ _ _ (.of [3] (.inl rfl) rfl rfl rfl rfl)
theorem XfM{o:Int}(hl:l.map Ae=xl)(hn:l.length≤4000000000)(hr:Cp l name=o):Fn Tryz.prog 254 [.d (.row 2 xl),S name] [] ⟨I o,[],[]⟩:=by
 refine Fn.go Lm Tryz.func254 fun P hP Q hQ=>?_
 conv=>cbv
 generalize aa:A7 l name=r1
 refine .dd hP (My hl (by omega) aa) ?_
 conv=>cbv
 have hb:=Hm aa
 refine .lss (fun h2=>?_) fun h2=>?_
 conv=>cbv
 have e:0=Cp l name:=(by unfold Cp;rw[aa,if_pos (by omega)])
 rw[hr]at e
 subst e
 exact hQ _ _ (.i rfl rfl)
 conv=>cbv
 refine .go r1.toNat hl fun ae ⟨ac,ab⟩ ad=>?_
 conv=>cbv
 have e:ab=Cp l name:=(by unfold Cp;rw[aa,if_neg (by omega),←gD (show r1.toNat<l.length by omega),←ad])
 rw[hr]at e
 subst e
 exact hQ _ _ (.i rfl rfl)
def Ay(l:List Al)(step:ByteArray):List Al×Bool:=
 if step=tx []then([],false)else
 let nm:=(Jz (step.extract 1 step.size)).1
 let rest:=(Jz (step.extract 1 step.size)).2.1
 let has:=(Jz (step.extract 1 step.size)).2.2
 if step.data.toList.head?=some 43 then
  (if has=false∨(A6 rest).2=false∨Bj nm=false then([],false)else(Tl l nm (A6 rest).1,true))
 else if step.data.toList.head?=some 45 then G2 l (step.extract 1 step.size)
 else if step.data.toList.head?=some 62 then
  (if has=false∨(G2 l nm).2=false∨Bj rest=false∨nm=rest then([],false)else(Tl (G2 l nm).1 rest (Cp l nm),true))
 else([],false)
theorem Jy{t:ByteArray}(h:0<t.size):t.data.toList.head?=some t[0]:=by
 rw[List.head?_eq_getElem?]
 exact Lq h
theorem Xdg{t:ByteArray}(h:t≠tx []):0<t.size:=by
 rcases Nat.eq_zero_or_pos t.size with h0|h0
 ·exfalso
  apply h
  have hl:t.data.toList.length=t.size:=Array.length_toList
  rw[h0]at hl
  have h1:=List.eq_nil_of_length_eq_zero hl
  apply ByteArray.ext
  exact Array.toList_inj.1 (by rw[h1];rfl)
 ·exact h0
theorem Xgw{b:UInt8}{v:Int}{n:Nat}(hv:v=(b.toNat:Int))(h:v=(n:Int))(hn:n<256):b=UInt8.ofNat n:=by
 apply UInt8.toNat_inj.1
 rw[UInt8.toNat_ofNat',Nat.mod_eq_of_lt (by omega)]
 omega
theorem XgA{b:UInt8}{v:Int}{n:Nat}(hv:v=(b.toNat:Int))(h:v≠(n:Int))(hn:n<256):b≠UInt8.ofNat n:=by
 rintro rfl
 apply h
 rw[hv,UInt8.toNat_ofNat',Nat.mod_eq_of_lt (by omega)]
section
variable {l:List Al} {step a b:ByteArray} {c:Bool}
theorem Xdy(h:step=tx []):Ay l step=([],false):=by
 unfold Ay
 rw[if_pos h]
theorem Kr(h:step≠tx [])(hh:step.data.toList.head?=some 43)(hc:Jz (step.extract 1 step.size)=(a,b,c)):Ay l step=if c=false∨(A6 b).2=false∨Bj a=false then([],false)else(Tl l a (A6 b).1,true):=by
 unfold Ay
 rw[if_neg h,hc,if_pos hh]
theorem Ws(h:step≠tx [])(hh:step.data.toList.head?=some 45):Ay l step=G2 l (step.extract 1 step.size):=by
 unfold Ay
 rw[if_neg h,if_neg (by rw[hh];decide),if_pos hh]
theorem Kl(h:step≠tx [])(hh:step.data.toList.head?=some 62)(hc:Jz (step.extract 1 step.size)=(a,b,c)):Ay l step=if c=false∨(G2 l a).2=false∨Bj b=false∨a=b then([],false)else(Tl (G2 l a).1 b (Cp l a),true):=by
 unfold Ay
 rw[if_neg h,hc,if_neg (by rw[hh];decide),if_neg (by rw[hh];decide),if_pos hh]
theorem Zo{x:UInt8}(h:step≠tx [])(hh:step.data.toList.head?=some x)(h1:x≠43)(h2:x≠45)(h3:x≠62):Ay l step=([],false):=by
 unfold Ay
 have k:∀y,x≠y→¬step.data.toList.head?=some y:=fun y hy e=>hy (by rw[hh]at e;exact Option.some.inj e)
 rw[if_neg h,if_neg (k _ h1),if_neg (k _ h2),if_neg (k _ h3)]
end
theorem Xfz{s a b:ByteArray}{c:Bool}(e:Jz s=(a,b,c)):a.size≤s.size∧b.size≤s.size:=by
 unfold Jz at e
 split at e
 ·simp only[Prod.mk.injEq]at e
  obtain⟨rfl,rfl,rfl⟩:=e
  rw[ByteArray.size_extract,ByteArray.size_extract]
  omega
 ·simp only[Prod.mk.injEq]at e
  obtain⟨rfl,rfl,rfl⟩:=e
  exact⟨Nat.le_refl _,by rw[Bw];exact Nat.zero_le _⟩
theorem S8{l a:List Al}{n:ByteArray}{b:Bool}(e:G2 l n=(a,b)):a.length≤l.length:=by
 unfold G2 at e
 split at e
 ·simp only[Prod.mk.injEq]at e
  rw[←e.1]
  exact Nat.zero_le _
 ·simp only[Prod.mk.injEq]at e
  rw[←e.1]
  unfold Mb
  rw[List.length_eraseIdx]
  split<;>omega
theorem Xde{l a:List Al}{n:ByteArray}{i:Int}(e:Tl l n i=a):a.length≤l.length+1:=by
 rw[←e]
 unfold Tl Hj
 split
 ·rw[List.length_set];omega
 ·simp only[List.length_append,List.length_take,List.length_drop,List.length_cons,List.length_nil]
  omega
theorem P2{l a:List Al}{s:ByteArray}{b:Bool}(e:Ay l s=(a,b)):a.length≤l.length+1:=by
 unfold Ay at e
 have h0:∀{b:Bool},(([]:List Al),false)=(a,b)→a.length≤l.length+1:=fun h=>by
  simp only[Prod.mk.injEq]at h
  rw[←h.1];exact Nat.zero_le _
 split at e
 ·exact h0 e
 ·dsimp only at e
  split at e
  ·split at e
   ·exact h0 e
   ·simp only[Prod.mk.injEq]at e
    exact Xde e.1
  ·split at e
   ·have:=S8 e;omega
   ·split at e
    ·split at e
     ·exact h0 e
     ·simp only[Prod.mk.injEq]at e
      have h1:=Xde e.1
      have h2:=S8 (l:=l) (n:=(Jz (s.extract 1 s.size)).1) (a:=(G2 l (Jz (s.extract 1 s.size)).1).1) (b:=(G2 l (Jz (s.extract 1 s.size)).1).2) rfl
      omega
    ·exact h0 e
theorem Q2{step:ByteArray}(hl:l.map Ae=xl)(hn:l.length≤4000000000)(hs:step.size≤1000000000)(hr:Ay l step=(oa,ob))(hoa:oa.map Ae=xoa):Fn Tryz.prog 179 [.d (.row 2 xl),S step] [] ⟨.tup [.d (.row 2 xoa),B ob],[],[]⟩:=by
 refine Fn.go Lm Tryz.func179 fun P hP Q hQ=>?_
 conv=>cbv
 refine .eql (fun h1=>?_) fun h1=>?_
 conv=>cbv
 have e:([],false)=Ay l step:=(by exact(Xdy h1).symm)
 rw[hr]at e
 simp only[Prod.mk.injEq]at e
 obtain⟨rfl,rfl⟩:=e
 refine hQ _ _ ?_
 exact .many (.inl rfl) rfl rfl (.ref rfl rfl (by rw[←hoa];rfl) (.d rfl rfl (.nil)))
 conv=>cbv
 have hps:=Xdg h1
 refine .lo fun s2 ax=>?_
 conv=>cbv
 have a9:s2.size≤step.size:=by rw[ax,ByteArray.size_extract];omega
 rcases al:Jz s2 with⟨ae,am,ao⟩
 have hcb:=Xfz al
 have hcu:Jz (step.extract 1 step.size)=(ae,am,ao):=by rw[ax]at al;exact al
 refine .dd hP (X6 (by omega) al) ?_
 conv=>cbv
 generalize ay:C2 l=l4
 have aa:l4=l:=ay.symm
 have a6:l4.length=l.length:=by rw[aa]
 generalize af:l4.map Ae=ba
 obtain⟨nl4,hnl4⟩:∃m,m=l4.length:=⟨_,rfl⟩
 refine .ddA hP (Jl hl (by omega) ay af hnl4) rfl rfl rfl (af▸Ld (fun _=>rfl) l4) ?_
 conv=>cbv
 refine .go 0 fun hjv5 v5 ad bv5=>?_
 conv=>cbv
 refine .eql (fun h6=>?_) fun h6=>?_
 conv=>cbv
 have hh:step.data.toList.head?=some 43:=(Jy hps).trans (congrArg some (Xgw (n:=43) ad (by omega) (by decide)))
 rcases ap:A6 am with⟨a1,a2⟩
 refine .dd hP (Yb (by omega) ap) ?_
 conv=>cbv
 cases ao
 conv=>cbv
 have e:([],false)=Ay l step:=(by rw[Kr h1 hh hcu,if_pos (.inl rfl)])
 rw[hr]at e
 simp only[Prod.mk.injEq]at e
 obtain⟨rfl,rfl⟩:=e
 refine hQ _ _ ?_
 exact .many (.inl rfl) rfl rfl (.ref rfl rfl (by rw[←hoa];rfl) (.d rfl rfl (.nil)))
 conv=>cbv
 cases a2
 conv=>cbv
 have e:([],false)=Ay l step:=(by rw[Kr h1 hh hcu,ap,if_pos (.inr (.inl rfl))])
 rw[hr]at e
 simp only[Prod.mk.injEq]at e
 obtain⟨rfl,rfl⟩:=e
 refine hQ _ _ ?_
 exact .many (.inl rfl) rfl rfl (.ref rfl rfl (by rw[←hoa];rfl) (.d rfl rfl (.nil)))
 conv=>cbv
 generalize aq:Bj ae=r8
 refine .dd hP (Nj (by omega) aq) ?_
 cases r8
 conv=>cbv
 have e:([],false)=Ay l step:=(by rw[Kr h1 hh hcu,if_pos (.inr (.inr aq))])
 rw[hr]at e
 simp only[Prod.mk.injEq]at e
 obtain⟨rfl,rfl⟩:=e
 refine hQ _ _ ?_
 exact .many (.inl rfl) rfl rfl (.ref rfl rfl (by rw[←hoa];rfl) (.d rfl rfl (.nil)))
 conv=>cbv
 generalize ab:Tl l4 ae a1=l9
 generalize ar:l9.map Ae=bb
 obtain⟨nl9,hnl9⟩:∃m,m=l9.length:=⟨_,rfl⟩
 refine .bx [1] [] hP (XjF af (by first|rfl|omega|(simp;omega)) (by omega) ab ar hnl9) rfl rfl rfl rfl ?_
 conv=>cbv
 have e:(l9,true)=Ay l step:=(by rw[Kr h1 hh hcu,ap,if_neg (by rw[aq];simp),←ab,aa])
 rw[hr]at e
 simp only[Prod.mk.injEq]at e
 obtain⟨rfl,rfl⟩:=e
 refine hQ _ _ ?_
 exact .many (.inl rfl) rfl rfl (.ref rfl (by rw[←ar,List.length_map];first|omega|(simp;omega)) (by rw[←ar,←hoa]) (.d rfl rfl (.nil)))
 conv=>cbv
 refine .eql (fun h7=>?_) fun h7=>?_
 conv=>cbv
 have hh:step.data.toList.head?=some 45:=(Jy hps).trans (congrArg some (Xgw (n:=45) ad (by omega) (by decide)))
 refine .lo fun s8 az=>?_
 conv=>cbv
 have bc:s8.size≤step.size:=by rw[az,ByteArray.size_extract];omega
 rcases ab:G2 l4 s8 with⟨au,a3⟩
 generalize ag:au.map Ae=a7
 obtain⟨nr9a,hnr9a⟩:∃m,m=au.length:=⟨_,rfl⟩
 refine .bx [1] [] hP (XhX af (by first|rfl|omega|(simp;omega)) (by omega) (by omega) ab ag hnr9a) rfl rfl rfl rfl ?_
 conv=>cbv
 have e:(au,a3)=Ay l step:=(by rw[Ws h1 hh];rw[az,aa]at ab;exact ab.symm)
 rw[hr]at e
 simp only[Prod.mk.injEq]at e
 obtain⟨rfl,rfl⟩:=e
 refine hQ _ _ ?_
 exact .many (.inl rfl) rfl rfl (.ref rfl (by rw[←ag,List.length_map];first|omega|(simp;omega)) (by rw[←ag,←hoa]) (.d rfl rfl (.nil)))
 conv=>cbv
 refine .eql (fun h8=>?_) fun h8=>?_
 conv=>cbv
 have hh:step.data.toList.head?=some 62:=(Jy hps).trans (congrArg some (Xgw (n:=62) ad (by omega) (by decide)))
 generalize ab:Cp l ae=r9
 refine .dd hP (XfM hl (by omega) ab) ?_
 conv=>cbv
 rcases ac:G2 l4 ae with⟨ah,a0⟩
 have hdl:=S8 ac
 generalize ai:ah.map Ae=a4
 obtain⟨nr10a,hnr10a⟩:∃m,m=ah.length:=⟨_,rfl⟩
 refine .bx [1] [] hP (XhX af (by first|rfl|omega|(simp;omega)) (by omega) (by omega) ac ai hnr10a) rfl rfl rfl rfl ?_
 conv=>cbv
 cases ao
 conv=>cbv
 have e:([],false)=Ay l step:=(by rw[Kl h1 hh hcu,if_pos (.inl rfl)])
 rw[hr]at e
 simp only[Prod.mk.injEq]at e
 obtain⟨rfl,rfl⟩:=e
 refine hQ _ _ ?_
 exact .many (.inl rfl) rfl rfl (.ref rfl rfl (by rw[←hoa];rfl) (.d rfl rfl (.nil)))
 conv=>cbv
 cases a0
 conv=>cbv
 have e:([],false)=Ay l step:=(by rw[Kl h1 hh hcu,←aa,ac,if_pos (.inr (.inl rfl))])
 rw[hr]at e
 simp only[Prod.mk.injEq]at e
 obtain⟨rfl,rfl⟩:=e
 refine hQ _ _ ?_
 exact .many (.inl rfl) rfl rfl (.ref rfl rfl (by rw[←hoa];rfl) (.d rfl rfl (.nil)))
 conv=>cbv
 generalize aj:Bj am=a5
 refine .dd hP (Nj (by omega) aj) ?_
 cases a5
 conv=>cbv
 have e:([],false)=Ay l step:=(by rw[Kl h1 hh hcu,if_pos (.inr (.inr (.inl aj)))])
 rw[hr]at e
 simp only[Prod.mk.injEq]at e
 obtain⟨rfl,rfl⟩:=e
 refine hQ _ _ ?_
 exact .many (.inl rfl) rfl rfl (.ref rfl rfl (by rw[←hoa];rfl) (.d rfl rfl (.nil)))
 conv=>cbv
 refine .eql (fun h12=>?_) fun h12=>?_
 conv=>cbv
 have e:([],false)=Ay l step:=(by rw[Kl h1 hh hcu,if_pos (.inr (.inr (.inr h12)))])
 rw[hr]at e
 simp only[Prod.mk.injEq]at e
 obtain⟨rfl,rfl⟩:=e
 refine hQ _ _ ?_
 exact .many (.inl rfl) rfl rfl (.ref rfl rfl (by rw[←hoa];rfl) (.d rfl rfl (.nil)))
 conv=>cbv
 generalize an:Tl ah am r9=aw
 generalize ak:aw.map Ae=a8
 obtain⟨nl13,hnl13⟩:∃m,m=aw.length:=⟨_,rfl⟩
 refine .bx [2] [] hP (XjF ai (by first|rfl|omega|(simp;omega)) (by omega) an ak hnl13) rfl rfl rfl rfl ?_
 conv=>cbv
 have e:(aw,true)=Ay l step:=(by rw[Kl h1 hh hcu,if_neg (by rw[←aa,ac,aj];simp;exact h12),ab,←an,←aa,ac])
 rw[hr]at e
 simp only[Prod.mk.injEq]at e
 obtain⟨rfl,rfl⟩:=e
 refine hQ _ _ ?_
 exact .many (.inl rfl) rfl rfl (.ref rfl (by rw[←ak,List.length_map];first|omega|(simp;omega)) (by rw[←ak,←hoa]) (.d rfl rfl (.nil)))
 conv=>cbv
 have e:([],false)=Ay l step:=(by rw[Zo h1 (Jy hps) (XgA (n:=43) ad h6 (by decide)) (XgA (n:=45) ad h7 (by decide)) (XgA (n:=62) ad h8 (by decide))])
 rw[hr]at e
 simp only[Prod.mk.injEq]at e
 obtain⟨rfl,rfl⟩:=e
 refine hQ _ _ ?_
 exact .many (.inl rfl) rfl rfl (.ref rfl rfl (by rw[←hoa];rfl) (.d rfl rfl (.nil)))
end
section
open Go Go.Proofs
set_option maxRecDepth 20000
set_option maxHeartbeats 4000000
def Oq:List (Nat×TyRow):=[ty3,ty9,XeB,XdK,Xbd,Zu,Xbh]
theorem Y4:B1 Tryz.prog Oq:=B1.of (by kernel_rfl)
theorem Nb:Setup Tryz.prog Oq:=⟨Y4,mixed⟩
theorem Xd9{a b:ByteArray}:a.toList=b.toList↔a=b:=⟨fun e=>M5 e,fun e=>by rw[e]⟩
theorem AggW.eSI{a c:ByteArray}{b d:Int}{K:Bool→Prop}(h1:a=c∧b=d→K true)(h2:¬(a=c∧b=d)→K false):AggW [.str,.int] [.d (.sc (.string a)),.d (.sc (.int .i64 b))] [.d (.sc (.string c)),.d (.sc (.int .i64 d))] K:=by
 by_cases h:a=c∧b=d
 ·refine⟨true,?_,h1 h⟩
  simp[Nr,XiD,h.1,h.2]
 ·refine⟨false,?_,h2 h⟩
  simp only[Nr,XiD,if_true,Option.bind_some,Option.map_some,Option.some.injEq,Bool.and_true]
  simpa[Bool.and_eq_false_iff,Xd9]using h
instance decEntry:DecidableEq Al:=fun a b=>match a,b with
 |⟨n,i⟩,⟨m,j⟩=>decidable_of_iff (n=m∧i=j) (by simp)
def okL(l:List Al):Prop:=∀e∈l,e.name_.size≤1000000000
def okS(l:List ByteArray):Prop:=∀s∈l,s.size≤1000000000
def H2(d:Ac):Prop:=okD d∧okL d.old_∧okS d.steps_
def Fe(d:Ac):Int:=Xiu (fun n:Bs=>(n.text_.size:Int)) d.nodes_
def nd(d:Ac)(i:Nat):Bs:=d.nodes_.getD i ⟨0,tx [],0⟩
def Ej(d:Ac)(i:Nat):Bool:=decide ((0<i→(nd d (i - 1)).id_<(nd d i).id_)∧(1≤(nd d i).id_∧(nd d i).id_≤d.next_ - 1)∧0≤(nd d i).sure_∧(nd d i).sure_≤(nd d i).text_.size)
def D1(d:Ac):Bool:=(List.range d.nodes_.length).all (Ej d)&&decide (d.nodes_.length≤64)
def en(l:List Al)(i:Nat):Al:=l.getD i ⟨tx [],0⟩
def Ez(d:Ac)(l:List Al)(i:Nat):Bool:=(decide (i=0)|| !(ltB (en l i).name_ (en l (i - 1)).name_||decide ((en l i).name_=(en l (i - 1)).name_)))&&Bj (en l i).name_&&decide (0≤Hh d (en l i).id_)
def A9(d:Ac)(l:List Al):Bool:=(List.range l.length).all (Ez d l)&&decide (l.length≤16)
theorem Xas{p:Nat→Bool}{n:Nat}(h:∀i,i<n→p i=true):(List.range n).all p=true:=List.all_eq_true.2 fun i hi=>h i (List.mem_range.1 hi)
theorem Y9{p:Nat→Bool}{n i:Nat}(hi:i<n)(h:p i=false):(List.range n).all p=false:=by
 rw[Bool.eq_false_iff]
 intro ha
 have:=List.all_eq_true.1 ha i (List.mem_range.2 hi)
 rw[h]at this
 cases this
theorem I2{d:Ac}{i:Nat}(hi:i<d.nodes_.length)(h:Ej d i=false):false=D1 d:=by unfold D1;rw[Y9 hi h];rfl
theorem T7{d:Ac}{b:Bool}(h:∀i,i<d.nodes_.length→Ej d i=true)(hb:b=decide (d.nodes_.length≤64)):b=D1 d:=by unfold D1;rw[Xas h,hb];rfl
theorem Mo{d:Ac}{l:List Al}{i:Nat}(hi:i<l.length)(h:Ez d l i=false):false=A9 d l:=by unfold A9;rw[Y9 hi h];rfl
theorem R8{d:Ac}{l:List Al}{b:Bool}(h:∀i,i<l.length→Ez d l i=true)(hb:b=decide (l.length≤16)):b=A9 d l:=by unfold A9;rw[Xas h,hb];rfl
theorem Xch{d:Ac}{l:List Al}(h:A9 d l=true):l.length≤16:=by
 unfold A9 at h
 rw[Bool.and_eq_true,decide_eq_true_eq]at h
 exact h.2
theorem Xhk{d:Ac}{k:Nat}{x:Bs}(hk:k<d.nodes_.length)(h:x=d.nodes_[k]):nd d k=x:=by rw[h,gD hk];rfl
theorem XbS{l:List Al}{k:Nat}{x:Al}(hk:k<l.length)(h:x=l[k]):en l k=x:=by rw[h,gD hk];rfl
def E4(d:Ac):List Al→List ByteArray→Bool
 |now,[]=>A9 d now&&Ia now d.entries_
 |now,s::ss=>A9 d now&&(Ay now s).2&&E4 d (Ay now s).1 ss
def B3(d:Ac):Bool:=Bn d.room_&&Bm d.next_ 1 1000000000&&D1 d&&decide (Fe d≤d.room_)&&E4 d d.old_ d.steps_
theorem Xez{l:List Al}{n:ByteArray}{i:Int}(h:okL l)(hn:n.size≤1000000000):okL (Tl l n i):=by
 intro e he
 unfold Tl Hj at he
 split at he
 ·rename_i h0
  have hlt:=(Hm (rfl:A7 l n=_)).2
  rcases List.mem_or_eq_of_mem_set he with he|rfl
  ·exact h e he
  ·have hk:(A7 l n).toNat<l.length:=by omega
   show(l.getD (A7 l n).toNat ⟨tx [],0⟩).name_.size≤_
   rw[←gD hk]
   exact h _ (List.getElem_mem hk)
 ·simp only[List.append_assoc,List.mem_append,List.mem_cons,List.not_mem_nil,or_false,List.cons_append,List.nil_append]at he
  rcases he with he|rfl|he
  ·exact h e (List.mem_of_mem_take he)
  ·exact hn
  ·exact h e (List.mem_of_mem_drop he)
theorem XcQ{l a:List Al}{n:ByteArray}{b:Bool}(h:okL l)(e:G2 l n=(a,b)):okL a:=by
 unfold G2 Mb at e
 split at e
 ·simp only[Prod.mk.injEq]at e
  rw[←e.1];intro x hx;cases hx
 ·simp only[Prod.mk.injEq]at e
  rw[←e.1]
  intro x hx
  exact h x (List.mem_of_mem_eraseIdx hx)
theorem Xe{l a:List Al}{s:ByteArray}{b:Bool}(h:okL l)(hs:s.size≤1000000000)(e:Ay l s=(a,b)):okL a:=by
 have h0:∀{b:Bool},(([]:List Al),false)=(a,b)→okL a:=fun h=>by
  simp only[Prod.mk.injEq]at h
  rw[←h.1];intro x hx;cases hx
 have hz:(s.extract 1 s.size).size≤s.size:=by rw[ByteArray.size_extract];omega
 obtain⟨x,y,c,hc⟩:∃x y c,Jz (s.extract 1 s.size)=(x,y,c):=⟨_,_,_,rfl⟩
 have hcb:=Xfz hc
 unfold Ay at e
 rw[hc]at e
 split at e
 ·exact h0 e
 ·dsimp only at e
  split at e
  ·split at e
   ·exact h0 e
   ·simp only[Prod.mk.injEq]at e
    rw[←e.1]
    exact Xez h (by omega)
  ·split at e
   ·exact XcQ h e
   ·split at e
    ·split at e
     ·exact h0 e
     ·simp only[Prod.mk.injEq]at e
      rw[←e.1]
      exact Xez (XcQ h (b:=(G2 l x).2) rfl) (by omega)
    ·exact h0 e
variable {Ah:List Bs} {Bk Bh Bf Bl:List (List D)} {Ak Aj:List Al} {Ai:List ByteArray} {An Am:Int} {o:Bool}
theorem XcS{o:Int}(Ap:Ah.map A5=Bk)(As:Ak.map Ae=Bh)(Au:Aj.map Ae=Bf)(At:Ai.map cS=Bl)(hd:okD ⟨Ah,Ak,Aj,Ai,An,Am⟩)(hr:Fe (⟨Ah,Ak,Aj,Ai,An,Am⟩:Ac)=o):Fn Tryz.prog 175 [.agg [.d (.row 3 Bk),.d (.row 2 Bh),.d (.row 2 Bf),.d (.row 1 Bl),I An,I Am]] [] ⟨I o,[],[]⟩:=by
 refine Fn.go Nb Tryz.func175 fun P hP Q hQ=>?_
 conv=>cbv
 refine .go Ap fun v1 ag=>?_
 conv=>cbv
 refine LoopW.lp (κ:=Int×Int) Nb hP [] [7,8] (fun(i3,i9)=>[(3,I i3),(9,I i9)]) (fun(i3,i9)=>[])
  (fun(i3,i9)=>0≤i9∧i9≤Ah.length∧i3=Xiu (fun n:Bs=>(n.text_.size:Int)) (Ah.take i9.toNat)∧0≤i3∧i3≤1000000000*i9)
  (fun(i3,i9)=>(Ah.length - i9).toNat) (0,0) ⟨by omega,by omega,rfl,by omega,by omega⟩ ⟨rfl,rfl,trivial⟩ rfl ?_
 rintro⟨i3,i9⟩ J ⟨h0,h1,hx,hx0,hx1⟩ hJ
 have ah:Ah.length≤1000000000:=hd.1
 have ac:∀n∈Ah,n.text_.size≤1000000000:=hd.2.1
 conv=>cbv
 refine .lss (fun h2=>?_) fun h2=>?_
 conv=>cbv
 refine .go i9.toNat Ap fun aa ⟨af,ad,ae⟩ ab=>?_
 conv=>cbv
 have hz:=ac _ (List.getElem_mem aa)
 rw[←ab]at hz
 simp only[]at hz
 refine .go fun v4 ai=>?_
 conv=>cbv
 refine .add fun v5 aj=>?_
 conv=>cbv
 refine .add fun v6 ak=>?_
 conv=>cbv
 exact .go [] (v5,v6) (hJ _ ⟨by omega,by omega,by rw[show v6.toNat=i9.toNat+1 by omega,Y6 aa,←hx,←ab];simp only[];omega,by omega,by omega⟩ mlt)
 conv=>cbv
 have e:i3=Fe (⟨Ah,Ak,Aj,Ai,An,Am⟩:Ac):=(by unfold Fe;rw[hx,List.take_of_length_le (by omega)])
 rw[hr]at e
 subst e
 exact hQ _ _ (.i rfl rfl)
theorem I8:Setup Tryz.prog ((3000004,Em Tryz.prog 3000004)::Oq):=(Setup.mark 3000004 Nb)
theorem Tj(Ap:Ah.map A5=Bk)(As:Ak.map Ae=Bh)(Au:Aj.map Ae=Bf)(At:Ai.map cS=Bl)(hd:okD ⟨Ah,Ak,Aj,Ai,An,Am⟩)(hx: -9223372036854775807≤Am∧Am≤9223372036854775807)(hr:D1 (⟨Ah,Ak,Aj,Ai,An,Am⟩:Ac)=o):Fn Tryz.prog 174 [.agg [.d (.row 3 Bk),.d (.row 2 Bh),.d (.row 2 Bf),.d (.row 1 Bl),I An,I Am]] [] ⟨B o,[],[]⟩:=by
 refine Fn.go I8 Tryz.func174 fun P hP Q hQ=>?_
 conv=>cbv
 refine .go Ap fun v1 ax=>?_
 conv=>cbv
 refine LoopW.lp (κ:=Int) I8 hP [] [1,6,7] (fun i8=>[(8,I i8)]) (fun i8=>[])
  (fun i8=>0≤i8∧i8≤Ah.length∧∀j:Nat,j<i8.toNat→Ej (⟨Ah,Ak,Aj,Ai,An,Am⟩:Ac) j=true)
  (fun i8=>(Ah.length - i8).toNat) (0) ⟨by omega,by omega,fun j h=>by simp at h⟩ ⟨rfl,trivial⟩ rfl ?_
 rintro i8 J ⟨h0,h1,hb⟩ hJ
 have ay:Ah.length≤1000000000:=hd.1
 conv=>cbv
 refine .lss (fun h2=>?_) fun h2=>?_
 conv=>cbv
 refine .go i8.toNat Ap fun aa ⟨ad,ai,ab⟩ aj=>?_
 conv=>cbv
 have hnd:=Xhk (d:=(⟨Ah,Ak,Aj,Ai,An,Am⟩:Ac)) aa aj
 refine .gtr (fun h4=>?_) fun h4=>?_
 conv=>cbv
 refine .sub fun v5 ak=>?_
 conv=>cbv
 refine .go v5.toNat Ap fun ah ⟨ar,al,am⟩ an=>?_
 conv=>cbv
 have hpd:=Xhk (d:=(⟨Ah,Ak,Aj,Ai,An,Am⟩:Ac)) ah an
 rw[show v5.toNat=i8.toNat - 1 by omega]at hpd
 refine .leq (fun h7=>?_) fun h7=>?_
 conv=>cbv
 refine .go2 (by kernel_rfl) ?_
 conv=>cbv
 have e:false=D1 (⟨Ah,Ak,Aj,Ai,An,Am⟩:Ac):=(by exact I2 (d:=(⟨Ah,Ak,Aj,Ai,An,Am⟩:Ac)) aa (by unfold Ej;rw[decide_eq_false_iff_not,hnd];simp only[];rw[hpd];simp only[];omega))
 rw[hr]at e
 subst e
 exact hQ _ _ (.b rfl rfl)
 conv=>cbv
 refine .sub fun v8 az=>?_
 conv=>cbv
 generalize ae:Bm ad 1 v8=r9
 refine .dd hP (Ex ae) ?_
 cases r9
 simp only[Bm,decide_eq_true_eq,decide_eq_false_iff_not]at ae
 conv=>cbv
 refine .go2 (by kernel_rfl) ?_
 conv=>cbv
 have e:false=D1 (⟨Ah,Ak,Aj,Ai,An,Am⟩:Ac):=(by exact I2 (d:=(⟨Ah,Ak,Aj,Ai,An,Am⟩:Ac)) aa (by unfold Ej;rw[decide_eq_false_iff_not,hnd];simp only[];omega))
 rw[hr]at e
 subst e
 exact hQ _ _ (.b rfl rfl)
 simp only[Bm,decide_eq_true_eq,decide_eq_false_iff_not]at ae
 conv=>cbv
 refine .go fun ao au=>?_
 conv=>cbv
 generalize ac:Bm ab 0 ao=ap
 refine .dd hP (Ex ac) ?_
 cases ap
 simp only[Bm,decide_eq_true_eq,decide_eq_false_iff_not]at ac
 conv=>cbv
 refine .go2 (by kernel_rfl) ?_
 conv=>cbv
 have e:false=D1 (⟨Ah,Ak,Aj,Ai,An,Am⟩:Ac):=(by exact I2 (d:=(⟨Ah,Ak,Aj,Ai,An,Am⟩:Ac)) aa (by unfold Ej;rw[decide_eq_false_iff_not,hnd];simp only[];omega))
 rw[hr]at e
 subst e
 exact hQ _ _ (.b rfl rfl)
 simp only[Bm,decide_eq_true_eq,decide_eq_false_iff_not]at ac
 conv=>cbv
 refine .go2 (by kernel_rfl) ?_
 conv=>cbv
 refine .add fun aq aw=>?_
 conv=>cbv
 exact .go [] (aq) (hJ _ ⟨by omega,by omega,fun j h=>if e:j=i8.toNat then by subst e;unfold Ej;rw[decide_eq_true_eq,hnd,hpd];simp only[];omega else hb j (by omega)⟩ mlt)
 conv=>cbv
 refine .sub fun v5 ak=>?_
 conv=>cbv
 generalize af:Bm ad 1 v5=r6
 refine .dd hP (Ex af) ?_
 cases r6
 simp only[Bm,decide_eq_true_eq,decide_eq_false_iff_not]at af
 conv=>cbv
 refine .go2 (by kernel_rfl) ?_
 conv=>cbv
 have e:false=D1 (⟨Ah,Ak,Aj,Ai,An,Am⟩:Ac):=(by exact I2 (d:=(⟨Ah,Ak,Aj,Ai,An,Am⟩:Ac)) aa (by unfold Ej;rw[decide_eq_false_iff_not,hnd];simp only[];omega))
 rw[hr]at e
 subst e
 exact hQ _ _ (.b rfl rfl)
 simp only[Bm,decide_eq_true_eq,decide_eq_false_iff_not]at af
 conv=>cbv
 refine .go fun v7 a0=>?_
 conv=>cbv
 generalize ag:Bm ab 0 v7=r8
 refine .dd hP (Ex ag) ?_
 cases r8
 simp only[Bm,decide_eq_true_eq,decide_eq_false_iff_not]at ag
 conv=>cbv
 refine .go2 (by kernel_rfl) ?_
 conv=>cbv
 have e:false=D1 (⟨Ah,Ak,Aj,Ai,An,Am⟩:Ac):=(by exact I2 (d:=(⟨Ah,Ak,Aj,Ai,An,Am⟩:Ac)) aa (by unfold Ej;rw[decide_eq_false_iff_not,hnd];simp only[];omega))
 rw[hr]at e
 subst e
 exact hQ _ _ (.b rfl rfl)
 simp only[Bm,decide_eq_true_eq,decide_eq_false_iff_not]at ag
 conv=>cbv
 refine .go2 (by kernel_rfl) ?_
 conv=>cbv
 refine .add fun v9 a1=>?_
 conv=>cbv
 exact .go [] (v9) (hJ _ ⟨by omega,by omega,fun j h=>if e:j=i8.toNat then by subst e;unfold Ej;rw[decide_eq_true_eq,hnd];simp only[];omega else hb j (by omega)⟩ mlt)
 conv=>cbv
 refine .go Ap fun v3 a2=>?_
 conv=>cbv
 refine .leq (fun h4=>?_) fun h4=>?_
 conv=>cbv
 have e:true=D1 (⟨Ah,Ak,Aj,Ai,An,Am⟩:Ac):=(by exact T7 (d:=(⟨Ah,Ak,Aj,Ai,An,Am⟩:Ac)) (fun j hj=>hb j (by simp only[]at hj;omega)) (by symm;rw[decide_eq_true_eq];simp only[];omega))
 rw[hr]at e
 subst e
 exact hQ _ _ (.b rfl rfl)
 conv=>cbv
 have e:false=D1 (⟨Ah,Ak,Aj,Ai,An,Am⟩:Ac):=(by exact T7 (d:=(⟨Ah,Ak,Aj,Ai,An,Am⟩:Ac)) (fun j hj=>hb j (by simp only[]at hj;omega)) (by symm;rw[decide_eq_false_iff_not];simp only[];omega))
 rw[hr]at e
 subst e
 exact hQ _ _ (.b rfl rfl)
theorem H7:Setup Tryz.prog ((3000004,Em Tryz.prog 3000004)::Oq):=(Setup.mark 3000004 Nb)
theorem Q3{list:List Al}{xlist:List (List D)}(Ap:Ah.map A5=Bk)(As:Ak.map Ae=Bh)(Au:Aj.map Ae=Bf)(At:Ai.map cS=Bl)(hlist:list.map Ae=xlist)(hd:okD ⟨Ah,Ak,Aj,Ai,An,Am⟩)(hl:okL list)(hln:list.length≤1000000000)(hr:A9 (⟨Ah,Ak,Aj,Ai,An,Am⟩:Ac) list=o):Fn Tryz.prog 177 [.agg [.d (.row 3 Bk),.d (.row 2 Bh),.d (.row 2 Bf),.d (.row 1 Bl),I An,I Am],.d (.row 2 xlist)] [] ⟨B o,[],[]⟩:=by
 refine Fn.go H7 Tryz.func177 fun P hP Q hQ=>?_
 conv=>cbv
 refine .go hlist fun v1 ap=>?_
 conv=>cbv
 refine LoopW.lp (κ:=Int) H7 hP [] [1,2,7,8] (fun i9=>[(9,I i9)]) (fun i9=>[])
  (fun i9=>0≤i9∧i9≤list.length∧∀j:Nat,j<i9.toNat→Ez (⟨Ah,Ak,Aj,Ai,An,Am⟩:Ac) list j=true)
  (fun i9=>(list.length - i9).toNat) (0) ⟨by omega,by omega,fun j h=>by simp at h⟩ ⟨rfl,trivial⟩ rfl ?_
 rintro i9 J ⟨h0,h1,hb⟩ hJ
 conv=>cbv
 refine .lss (fun h2=>?_) fun h2=>?_
 conv=>cbv
 refine .go i9.toNat hlist fun aa ⟨ab,ac⟩ ah=>?_
 conv=>cbv
 have hnd:=XbS aa ah
 have hzn:ab.size≤1000000000:=by have:=hl _ (List.getElem_mem aa);rw[←ah]at this;exact this
 refine .gtr (fun h4=>?_) fun h4=>?_
 conv=>cbv
 refine .sub fun v5 aq=>?_
 conv=>cbv
 refine .go v5.toNat hlist fun ai ⟨ak,an⟩ al=>?_
 conv=>cbv
 have hpd:=XbS ai al
 rw[show v5.toNat=i9.toNat - 1 by omega]at hpd
 refine .leq fun b7 aj=>?_
 conv=>cbv
 cases b7
 conv=>cbv
 generalize ad:Bj ab=r8
 refine .dd hP (Nj (by omega) ad) ?_
 cases r8
 conv=>cbv
 refine .go2 (by kernel_rfl) ?_
 conv=>cbv
 have e:false=A9 (⟨Ah,Ak,Aj,Ai,An,Am⟩:Ac) list:=(by exact Mo (d:=(⟨Ah,Ak,Aj,Ai,An,Am⟩:Ac)) aa (by unfold Ez;rw[hnd];simp only[];rw[ad,Bool.and_false];rfl))
 rw[hr]at e
 subst e
 exact hQ _ _ (.b rfl rfl)
 conv=>cbv
 generalize ae:Hh (⟨Ah,Ak,Aj,Ai,An,Am⟩:Ac) ac=r9
 refine .dd hP (K2 Ap As Au At (by have:=hd.1;simp only[]at this;omega) ae) ?_
 conv=>cbv
 refine .lss (fun h10=>?_) fun h10=>?_
 conv=>cbv
 refine .go2 (by kernel_rfl) ?_
 conv=>cbv
 have e:false=A9 (⟨Ah,Ak,Aj,Ai,An,Am⟩:Ac) list:=(by exact Mo (d:=(⟨Ah,Ak,Aj,Ai,An,Am⟩:Ac)) aa (by unfold Ez;rw[hnd];simp only[];rw[ae,decide_eq_false (show¬0≤r9 by omega),Bool.and_false]))
 rw[hr]at e
 subst e
 exact hQ _ _ (.b rfl rfl)
 conv=>cbv
 refine .go2 (by kernel_rfl) ?_
 conv=>cbv
 refine .add fun am ao=>?_
 conv=>cbv
 exact .go [] (am) (hJ _ ⟨by omega,by omega,fun j h=>if e:j=i9.toNat then by subst e;unfold Ez;rw[hnd,hpd];simp only[];rw[←aj,ad,ae,decide_eq_true (show 0≤r9 by omega),decide_eq_false (show¬i9.toNat=0 by omega)];rfl else hb j (by omega)⟩ mlt)
 conv=>cbv
 refine .go2 (by kernel_rfl) ?_
 conv=>cbv
 have e:false=A9 (⟨Ah,Ak,Aj,Ai,An,Am⟩:Ac) list:=(by exact Mo (d:=(⟨Ah,Ak,Aj,Ai,An,Am⟩:Ac)) aa (by unfold Ez;rw[hnd];simp only[];rw[hpd];simp only[];rw[←aj,decide_eq_false (show¬i9.toNat=0 by omega)];rfl))
 rw[hr]at e
 subst e
 exact hQ _ _ (.b rfl rfl)
 conv=>cbv
 generalize af:Bj ab=r5
 refine .dd hP (Nj (by omega) af) ?_
 cases r5
 conv=>cbv
 refine .go2 (by kernel_rfl) ?_
 conv=>cbv
 have e:false=A9 (⟨Ah,Ak,Aj,Ai,An,Am⟩:Ac) list:=(by exact Mo (d:=(⟨Ah,Ak,Aj,Ai,An,Am⟩:Ac)) aa (by unfold Ez;rw[hnd];simp only[];rw[af,Bool.and_false];rfl))
 rw[hr]at e
 subst e
 exact hQ _ _ (.b rfl rfl)
 conv=>cbv
 generalize ag:Hh (⟨Ah,Ak,Aj,Ai,An,Am⟩:Ac) ac=r6
 refine .dd hP (K2 Ap As Au At (by have:=hd.1;simp only[]at this;omega) ag) ?_
 conv=>cbv
 refine .lss (fun h7=>?_) fun h7=>?_
 conv=>cbv
 refine .go2 (by kernel_rfl) ?_
 conv=>cbv
 have e:false=A9 (⟨Ah,Ak,Aj,Ai,An,Am⟩:Ac) list:=(by exact Mo (d:=(⟨Ah,Ak,Aj,Ai,An,Am⟩:Ac)) aa (by unfold Ez;rw[hnd];simp only[];rw[ag,decide_eq_false (show¬0≤r6 by omega),Bool.and_false]))
 rw[hr]at e
 subst e
 exact hQ _ _ (.b rfl rfl)
 conv=>cbv
 refine .go2 (by kernel_rfl) ?_
 conv=>cbv
 refine .add fun v8 ar=>?_
 conv=>cbv
 exact .go [] (v8) (hJ _ ⟨by omega,by omega,fun j h=>if e:j=i9.toNat then by subst e;unfold Ez;rw[hnd];simp only[];rw[af,ag,decide_eq_true (show 0≤r6 by omega),decide_eq_true (show i9.toNat=0 by omega)];rfl else hb j (by omega)⟩ mlt)
 conv=>cbv
 refine .go hlist fun v3 au=>?_
 conv=>cbv
 refine .leq (fun h4=>?_) fun h4=>?_
 conv=>cbv
 have e:true=A9 (⟨Ah,Ak,Aj,Ai,An,Am⟩:Ac) list:=(by exact R8 (l:=list) (fun j hj=>hb j (by omega)) (by symm;rw[decide_eq_true_eq];omega))
 rw[hr]at e
 subst e
 exact hQ _ _ (.b rfl rfl)
 conv=>cbv
 have e:false=A9 (⟨Ah,Ak,Aj,Ai,An,Am⟩:Ac) list:=(by exact R8 (l:=list) (fun j hj=>hb j (by omega)) (by symm;rw[decide_eq_false_iff_not];omega))
 rw[hr]at e
 subst e
 exact hQ _ _ (.b rfl rfl)
theorem Jn{a:List Al}{xa:List (List D)}{b:List Al}{xb:List (List D)}(ha:a.map Ae=xa)(hb:b.map Ae=xb)(aj:a.length<2^40)(hr:Ia a b=o):Fn Tryz.prog 178 [.d (.row 2 xa),.d (.row 2 xb)] [] ⟨B o,[],[]⟩:=by
 refine Fn.go Nb Tryz.func178 fun P hP Q hQ=>?_
 conv=>cbv
 refine .go ha fun v1 ak=>?_
 conv=>cbv
 refine .go hb fun v2 al=>?_
 conv=>cbv
 refine .neq (fun h3=>?_) fun h3=>?_
 conv=>cbv
 have e:false=Ia a b:=(by unfold Ia;symm;rw[decide_eq_false_iff_not];intro h;subst h;omega)
 rw[hr]at e
 subst e
 exact hQ _ _ (.b rfl rfl)
 conv=>cbv
 refine .go ha fun v4 am=>?_
 conv=>cbv
 refine LoopW.lp (κ:=Int) Nb hP [] [0,1,12] (fun aa=>[(13,I aa)]) (fun aa=>[])
  (fun aa=>0≤aa∧aa≤a.length∧∀(j:Nat) (p:j<a.length) (q:j<b.length),j<aa.toNat→a[j]=b[j])
  (fun aa=>(a.length - aa).toNat) (0) ⟨by omega,by omega,fun j p q h=>by simp at h⟩ ⟨rfl,trivial⟩ rfl ?_
 rintro aa J ⟨h0,h1,hs⟩ hJ
 conv=>cbv
 refine .lss (fun h5=>?_) fun h5=>?_
 conv=>cbv
 refine .go aa.toNat ha fun af ⟨ad,ag⟩ ab=>?_
 conv=>cbv
 refine .go aa.toNat hb fun ah ⟨ae,ai⟩ ac=>?_
 conv=>cbv
 refine .eSI (fun h8=>?_) fun h8=>?_
 conv=>cbv
 refine .add fun v9 an=>?_
 conv=>cbv
 exact .go [] (v9) (hJ _ ⟨by omega,by omega,fun j p q h=>if e:j=aa.toNat then by subst e;rw[←ab,←ac,Al.mk.injEq];exact h8 else hs j p q (by omega)⟩ mlt)
 conv=>cbv
 have e:false=Ia a b:=(by unfold Ia;symm;rw[decide_eq_false_iff_not];intro h;subst h;have:=ab.trans ac.symm;rw[Al.mk.injEq]at this;exact h8 this)
 rw[hr]at e
 subst e
 exact hQ _ _ (.b rfl rfl)
 conv=>cbv
 have e:true=Ia a b:=(by unfold Ia;symm;rw[decide_eq_true_eq];exact List.ext_getElem (show a.length=b.length by omega) fun j p q=>hs j p q (by omega))
 rw[hr]at e
 subst e
 exact hQ _ _ (.b rfl rfl)
end
section
open Go Go.Proofs
set_option maxRecDepth 20000
set_option maxHeartbeats 4000000
def Tg:List (Nat×TyRow):=[ty3,ty9,XeB,XdK,Xbd,Zu,Xbh]
theorem Y2:B1 Tryz.prog Tg:=B1.of (by kernel_rfl)
theorem Ir:Setup Tryz.prog Tg:=⟨Y2,mixed⟩
theorem K8:∀a b:List UInt8,Op.bytesLess a b=true→Op.bytesLess b a=false
 |_,[],h=>by simp[Op.bytesLess]at h
 |[],_::_,_=>by simp[Op.bytesLess]
 |a::x,b::y,h=>by
  simp only[Op.bytesLess,Bool.or_eq_true,decide_eq_true_eq,Bool.and_eq_true,beq_iff_eq]at h
  simp only[Op.bytesLess,Bool.or_eq_false_iff,decide_eq_false_iff_not,Bool.and_eq_false_iff,beq_eq_false_iff_ne]
  rcases h with h|⟨h1,h2⟩
  ·exact⟨fun h3=>absurd (UInt8.lt_trans h h3) (UInt8.lt_irrefl _),.inl fun e=>by subst e;exact UInt8.lt_irrefl _ h⟩
  ·subst h1
   exact⟨UInt8.lt_irrefl _,.inr (K8 x y h2)⟩
theorem Tt:∀a b:List UInt8,Op.bytesLess a b=false→a≠b→Op.bytesLess b a=true
 |[],[],_,h=>absurd rfl h
 |[],_::_,h,_=>by simp[Op.bytesLess]at h
 |_::_,[],_,_=>by simp[Op.bytesLess]
 |a::x,b::y,h,hn=>by
  simp only[Op.bytesLess,Bool.or_eq_false_iff,decide_eq_false_iff_not,Bool.and_eq_false_iff,beq_eq_false_iff_ne]at h
  simp only[Op.bytesLess,Bool.or_eq_true,decide_eq_true_eq,Bool.and_eq_true,beq_iff_eq]
  by_cases e:a=b
  ·subst e
   right
   refine⟨rfl,Tt x y (h.2.resolve_left fun h=>h rfl) fun e=>hn (by rw[e])⟩
  ·left
   exact(UInt8.lt_or_lt_of_ne e).resolve_left h.1
theorem XbF(a b:ByteArray):(!(ltB a b))=(ltB b a||decide (b=a)):=by
 unfold ltB
 cases h:Op.bytesLess a.toList b.toList with
 |true=>
  rw[K8 _ _ h]
  have:¬b=a:=by
   rintro rfl
   have:=K8 _ _ h
   rw[h]at this
   cases this
  rw[decide_eq_false this];rfl
 |false=>
  by_cases e:b=a
  ·rw[decide_eq_true e,Bool.or_true];rfl
  ·rw[Tt _ _ h fun e2=>e (M5 e2.symm),decide_eq_false e];rfl
def Gr(d:Ac)(l:List Al):Bool:=A9 d l
def J5(a b:List Al):Bool:=Ia a b
def D8(l:List Al)(name:ByteArray):List Al:=l.filter fun x=>!decide (x.name_=name)
def Rt(e:Al):List Al→Bool→List Al
 |[],done=>if done=true then[]else[e]
 |x::l,done=>(if done=false∧ltB x.name_ e.name_=false then[e]else[])++((if x.name_=e.name_ then[]else[x])++Rt e l (done|| !(ltB x.name_ e.name_)))
def Ec(l:List Al)(e:Al):List Al:=Rt e l false
theorem Nc{e x:Al}{l:List Al}{i:Nat}{b:Bool}{w:List Al}{r:List Al}(hi:i<l.length)(hx:x=l[i])(h:w++Rt e (l.drop i) b=r):
  w++((if b=false∧ltB x.name_ e.name_=false then[e]else[])++((if x.name_=e.name_ then[]else[x])++Rt e (l.drop (i+1)) (b|| !(ltB x.name_ e.name_))))=r:=by
 rw[List.drop_eq_getElem_cons hi,←hx]at h
 exact h
variable {Ah:List Bs} {Bk Bh Bf Bl xl xo:List (List D)} {Ak Aj o l:List Al} {Ai:List ByteArray} {An Am:Int}
theorem XcR{o:Int}(Ap:Ah.map A5=Bk)(As:Ak.map Ae=Bh)(Au:Aj.map Ae=Bf)(At:Ai.map cS=Bl)(hd:okD ⟨Ah,Ak,Aj,Ai,An,Am⟩)(hr:Fe (⟨Ah,Ak,Aj,Ai,An,Am⟩:Ac)=o):Fn Tryz.prog 170 [.agg [.d (.row 3 Bk),.d (.row 2 Bh),.d (.row 2 Bf),.d (.row 1 Bl),I An,I Am]] [] ⟨I o,[],[]⟩:=by
 refine Fn.go Ir Tryz.func170 fun P hP Q hQ=>?_
 conv=>cbv
 refine LoopW.lp (κ:=Int×Int) Ir hP [] [1] (fun(i3,i4)=>[(3,I i3),(4,I i4)]) (fun(i3,i4)=>[])
  (fun(i3,i4)=>0≤i4∧i4≤Ah.length∧i3=Xiu (fun n:Bs=>(n.text_.size:Int)) (Ah.take i4.toNat)∧0≤i3∧i3≤1000000000*i4)
  (fun(i3,i4)=>(Ah.length - i4).toNat) (0,0) ⟨by omega,by omega,rfl,by omega,by omega⟩ ⟨rfl,rfl,trivial⟩ rfl ?_
 rintro⟨i3,i4⟩ J ⟨h0,h1,hx,hx0,hx1⟩ hJ
 have ag:Ah.length≤1000000000:=hd.1
 have ac:∀n∈Ah,n.text_.size≤1000000000:=hd.2.1
 conv=>cbv
 refine .go Ap fun v1 ah=>?_
 conv=>cbv
 refine .lss (fun h2=>?_) fun h2=>?_
 conv=>cbv
 refine .go i4.toNat Ap fun aa ⟨af,ad,ae⟩ ab=>?_
 conv=>cbv
 have hz:=ac _ (List.getElem_mem aa)
 rw[←ab]at hz
 simp only[]at hz
 refine .go fun v4 ai=>?_
 conv=>cbv
 refine .add fun v5 aj=>?_
 conv=>cbv
 refine .add fun v6 ak=>?_
 conv=>cbv
 exact .go [] (v5,v6) (hJ _ ⟨by omega,by omega,by rw[show v6.toNat=i4.toNat+1 by omega,Y6 aa,←hx,←ab];simp only[];omega,by omega,by omega⟩ mlt)
 conv=>cbv
 have e:i3=Fe (⟨Ah,Ak,Aj,Ai,An,Am⟩:Ac):=(by unfold Fe;rw[hx,List.take_of_length_le (by omega)])
 rw[hr]at e
 subst e
 exact hQ _ _ (.i rfl rfl)
theorem Lz:Setup Tryz.prog ((3000004,Em Tryz.prog 3000004)::Tg):=(Setup.mark 3000004 Ir)
theorem XaF{list:List Al}{xlist:List (List D)}{o:Bool}(Ap:Ah.map A5=Bk)(As:Ak.map Ae=Bh)(Au:Aj.map Ae=Bf)(At:Ai.map cS=Bl)(hlist:list.map Ae=xlist)(hd:okD ⟨Ah,Ak,Aj,Ai,An,Am⟩)(hl:okL list)(hln:list.length≤1000000000)(hr:Gr (⟨Ah,Ak,Aj,Ai,An,Am⟩:Ac) list=o):Fn Tryz.prog 171 [.agg [.d (.row 3 Bk),.d (.row 2 Bh),.d (.row 2 Bf),.d (.row 1 Bl),I An,I Am],.d (.row 2 xlist)] [] ⟨B o,[],[]⟩:=by
 refine Fn.go Lz Tryz.func171 fun P hP Q hQ=>?_
 conv=>cbv
 refine LoopW.lp (κ:=Int) Lz hP [] [1,2] (fun i5=>[(5,I i5)]) (fun i5=>[])
  (fun i5=>0≤i5∧i5≤list.length∧∀j:Nat,j<i5.toNat→Ez (⟨Ah,Ak,Aj,Ai,An,Am⟩:Ac) list j=true)
  (fun i5=>(list.length - i5).toNat) (0) ⟨by omega,by omega,fun j h=>by simp at h⟩ ⟨rfl,trivial⟩ rfl ?_
 rintro i5 J ⟨h0,h1,hb⟩ hJ
 conv=>cbv
 refine .go hlist fun v1 a1=>?_
 conv=>cbv
 refine .lss (fun h2=>?_) fun h2=>?_
 conv=>cbv
 refine .go i5.toNat hlist fun aa ⟨ab,am⟩ aj=>?_
 conv=>cbv
 have hnd:=XbS aa aj
 have hzn:ab.size≤1000000000:=by have:=hl _ (List.getElem_mem aa);rw[←aj]at this;exact this
 generalize ag:Bj ab=r4
 refine .dd hP (Nn (by omega) ag) ?_
 cases r4
 conv=>cbv
 refine .go2 (by kernel_rfl) ?_
 conv=>cbv
 have e:false=Gr (⟨Ah,Ak,Aj,Ai,An,Am⟩:Ac) list:=(by exact Mo (d:=(⟨Ah,Ak,Aj,Ai,An,Am⟩:Ac)) aa (by unfold Ez;rw[hnd];simp only[];rw[ag,Bool.and_false];rfl))
 rw[hr]at e
 subst e
 exact hQ _ _ (.b rfl rfl)
 conv=>cbv
 refine .go i5.toNat hlist fun az ⟨ae,ac⟩ an=>?_
 conv=>cbv
 generalize ao:Gp (⟨Ah,Ak,Aj,Ai,An,Am⟩:Ac) ac=r6
 refine .dd hP (Pw Ap As Au At (by have:=hd.1;simp only[]at this;omega) ao) ?_
 conv=>cbv
 obtain⟨rfl,rfl⟩:ae=ab∧ac=am:=by have:=an.trans aj.symm;rw[Al.mk.injEq]at this;exact this
 have af:Hh (⟨Ah,Ak,Aj,Ai,An,Am⟩:Ac) ac=r6:=ao
 refine .lss (fun h7=>?_) fun h7=>?_
 conv=>cbv
 refine .go2 (by kernel_rfl) ?_
 conv=>cbv
 have e:false=Gr (⟨Ah,Ak,Aj,Ai,An,Am⟩:Ac) list:=(by exact Mo (d:=(⟨Ah,Ak,Aj,Ai,An,Am⟩:Ac)) aa (by unfold Ez;rw[hnd];simp only[];rw[af,decide_eq_false (show¬0≤r6 by omega),Bool.and_false]))
 rw[hr]at e
 subst e
 exact hQ _ _ (.b rfl rfl)
 conv=>cbv
 refine .gtr (fun h8=>?_) fun h8=>?_
 conv=>cbv
 refine .sub fun v9 ar=>?_
 conv=>cbv
 refine .go v9.toNat hlist fun ak ⟨ah,au⟩ ap=>?_
 conv=>cbv
 refine .go i5.toNat hlist fun aw ⟨ad,al⟩ aq=>?_
 conv=>cbv
 obtain⟨rfl,rfl⟩:ad=ae∧al=ac:=by have:=aq.trans an.symm;rw[Al.mk.injEq]at this;exact this
 have hpd:=XbS ak ap
 rw[show v9.toNat=i5.toNat - 1 by omega]at hpd
 have hgq:=(XbF ah ad).symm
 refine .geq fun ax ai=>?_
 conv=>cbv
 refine .go2 (by kernel_rfl) ?_
 conv=>cbv
 cases ax
 conv=>cbv
 refine .add fun ay a0=>?_
 conv=>cbv
 exact .go [] (ay) (hJ _ ⟨by omega,by omega,fun j h=>if e:j=i5.toNat then by subst e;unfold Ez;rw[hnd,hpd];simp only[];rw[hgq,←ai,ag,af,decide_eq_true (show 0≤r6 by omega),decide_eq_false (show¬i5.toNat=0 by omega)];rfl else hb j (by omega)⟩ mlt)
 conv=>cbv
 have e:false=Gr (⟨Ah,Ak,Aj,Ai,An,Am⟩:Ac) list:=(by exact Mo (d:=(⟨Ah,Ak,Aj,Ai,An,Am⟩:Ac)) aa (by unfold Ez;rw[hnd];simp only[];rw[hpd];simp only[];rw[hgq,←ai,decide_eq_false (show¬i5.toNat=0 by omega)];rfl))
 rw[hr]at e
 subst e
 exact hQ _ _ (.b rfl rfl)
 conv=>cbv
 refine .go2 (by kernel_rfl) ?_
 conv=>cbv
 refine .add fun v9 ar=>?_
 conv=>cbv
 exact .go [] (v9) (hJ _ ⟨by omega,by omega,fun j h=>if e:j=i5.toNat then by subst e;unfold Ez;rw[hnd];simp only[];rw[ag,af,decide_eq_true (show 0≤r6 by omega),decide_eq_true (show i5.toNat=0 by omega)];rfl else hb j (by omega)⟩ mlt)
 conv=>cbv
 refine .go hlist fun v3 a2=>?_
 conv=>cbv
 refine .leq (fun h4=>?_) fun h4=>?_
 conv=>cbv
 have e:true=Gr (⟨Ah,Ak,Aj,Ai,An,Am⟩:Ac) list:=(by exact R8 (l:=list) (fun j hj=>hb j (by omega)) (by symm;rw[decide_eq_true_eq];omega))
 rw[hr]at e
 subst e
 exact hQ _ _ (.b rfl rfl)
 conv=>cbv
 have e:false=Gr (⟨Ah,Ak,Aj,Ai,An,Am⟩:Ac) list:=(by exact R8 (l:=list) (fun j hj=>hb j (by omega)) (by symm;rw[decide_eq_false_iff_not];omega))
 rw[hr]at e
 subst e
 exact hQ _ _ (.b rfl rfl)
theorem XeF{a:List Al}{xa:List (List D)}{b:List Al}{xb:List (List D)}{o:Bool}(ha:a.map Ae=xa)(hb:b.map Ae=xb)(ai:a.length<2^40)(hr:J5 a b=o):Fn Tryz.prog 172 [.d (.row 2 xa),.d (.row 2 xb)] [] ⟨B o,[],[]⟩:=by
 refine Fn.go Ir Tryz.func172 fun P hP Q hQ=>?_
 conv=>cbv
 refine .go ha fun v1 aj=>?_
 conv=>cbv
 refine .go hb fun v2 ak=>?_
 conv=>cbv
 refine .neq (fun h3=>?_) fun h3=>?_
 conv=>cbv
 have e:false=J5 a b:=(by unfold J5 Ia;symm;rw[decide_eq_false_iff_not];intro h;subst h;omega)
 rw[hr]at e
 subst e
 exact hQ _ _ (.b rfl rfl)
 conv=>cbv
 refine LoopW.lp (κ:=Int) Ir hP [] [0,1] (fun i5=>[(5,I i5)]) (fun i5=>[])
  (fun i5=>0≤i5∧i5≤a.length∧∀(j:Nat) (p:j<a.length) (q:j<b.length),j<i5.toNat→a[j]=b[j])
  (fun i5=>(a.length - i5).toNat) (0) ⟨by omega,by omega,fun j p q h=>by simp at h⟩ ⟨rfl,trivial⟩ rfl ?_
 rintro i5 J ⟨h0,h1,hs⟩ hJ
 conv=>cbv
 refine .go ha fun v4 al=>?_
 conv=>cbv
 refine .lss (fun h5=>?_) fun h5=>?_
 conv=>cbv
 refine .go i5.toNat ha fun ae ⟨ac,af⟩ aa=>?_
 conv=>cbv
 refine .go i5.toNat hb fun ag ⟨ad,ah⟩ ab=>?_
 conv=>cbv
 refine .eSI (fun h8=>?_) fun h8=>?_
 conv=>cbv
 refine .add fun v9 am=>?_
 conv=>cbv
 exact .go [] (v9) (hJ _ ⟨by omega,by omega,fun j p q h=>if e:j=i5.toNat then by subst e;rw[←aa,←ab,Al.mk.injEq];exact h8 else hs j p q (by omega)⟩ mlt)
 conv=>cbv
 have e:false=J5 a b:=(by unfold J5 Ia;symm;rw[decide_eq_false_iff_not];intro h;subst h;have:=aa.trans ab.symm;rw[Al.mk.injEq]at this;exact h8 this)
 rw[hr]at e
 subst e
 exact hQ _ _ (.b rfl rfl)
 conv=>cbv
 have e:true=J5 a b:=(by unfold J5 Ia;symm;rw[decide_eq_true_eq];exact List.ext_getElem (show a.length=b.length by omega) fun j p q=>hs j p q (by omega))
 rw[hr]at e
 subst e
 exact hQ _ _ (.b rfl rfl)
theorem Pl{name:ByteArray}(hl:l.map Ae=xl)(hn:l.length≤4000000000)(hr:D8 l name=o)(ho:o.map Ae=xo):Fn Tryz.prog 243 [.d (.row 2 xl),S name] [] ⟨.d (.row 2 xo),[],[]⟩:=by
 refine Fn.go Ir Tryz.func243 fun P hP Q hQ=>?_
 conv=>cbv
 refine LoopW.lp (κ:=Int×(List (List D))×Nat) Ir hP [1] [0,1] (fun(i6,aa,ab)=>[(5,.ref 2 0 ab),(6,I i6)]) (fun(i6,aa,ab)=>[(2,.row 2 false aa)])
  (fun(i6,aa,ab)=>∃(w2:List Al),w2.map Ae=aa∧ab=w2.length∧0≤i6∧i6≤l.length∧w2=(l.take i6.toNat).filter (fun x=>!decide (x.name_=name))∧w2.length≤i6)
  (fun(i6,aa,ab)=>(l.length - i6).toNat) (0,[],0) ⟨[],rfl,rfl,by omega,by omega,rfl,by simp⟩ ⟨rfl,rfl,trivial⟩ rfl ?_
 rintro⟨i6,aa,ab⟩ J ⟨w2,ac,al,h0,h1,hx,hxl⟩ hJ
 conv=>cbv
 refine .go hl fun v1 ap=>?_
 conv=>cbv
 refine .lss (fun h2=>?_) fun h2=>?_
 conv=>cbv
 refine .go i6.toNat hl fun ad ⟨ah,am⟩ ae=>?_
 conv=>cbv
 refine .neq (fun h4=>?_) fun h4=>?_
 conv=>cbv
 refine .go i6.toNat hl fun an ⟨af,ag⟩ ai=>?_
 conv=>cbv
 refine .one (⟨af,ag⟩:Al) ac rfl fun aj z6 ao ak=>?_
 conv=>cbv
 refine .add fun v7 aq=>?_
 conv=>cbv
 exact .go [4] (v7,z6,aj) (hJ _ ⟨_,ak,Ot,by omega,by omega,by rw[show v7.toNat=i6.toNat+1 by omega,Ja ad,←hx,←ae];simp only[];rw[decide_eq_false h4,ai,←ae];rfl,by rw[List.length_append,List.length_singleton];omega⟩ mlt)
 conv=>cbv
 refine .add fun v5 ar=>?_
 conv=>cbv
 exact .go [2] (v5,aa,ab) (hJ _ ⟨_,ac,Ot,by omega,by omega,by rw[show v5.toNat=i6.toNat+1 by omega,Ja ad,←hx,←ae];simp only[];rw[decide_eq_true h4];simp,by omega⟩ mlt)
 conv=>cbv
 have e:w2=D8 l name:=(by unfold D8;rw[hx,List.take_of_length_le (by omega)])
 rw[hr]at e
 subst e
 exact hQ _ _ (.r rfl rfl (by rw[←ac,List.length_map];first|omega|(simp;omega)) (by rw[←ac,←ho]))
theorem Iz{enam:ByteArray}{eid:Int}(hl:l.map Ae=xl)(hn:l.length≤4000000000)(hr:Ec l (⟨enam,eid⟩:Al)=o)(ho:o.map Ae=xo):Fn Tryz.prog 244 [.d (.row 2 xl),.agg [S enam,I eid]] [] ⟨.d (.row 2 xo),[],[]⟩:=by
 refine Fn.go Ir Tryz.func244 fun P hP Q hQ=>?_
 conv=>cbv
 refine LoopW.lp (κ:=Bool×Int×(List (List D))×Nat) Ir hP [2] [0,3] (fun(b6,i7,ad,ae)=>[(5,.ref 3 0 ae),(6,B b6),(7,I i7)]) (fun(b6,i7,ad,ae)=>[(3,.row 2 false ad)])
  (fun(b6,i7,ad,ae)=>∃(w3:List Al),w3.map Ae=ad∧ae=w3.length∧0≤i7∧i7≤l.length∧w3++Rt (⟨enam,eid⟩:Al) (l.drop i7.toNat) b6=Ec l (⟨enam,eid⟩:Al)∧w3.length≤2*i7)
  (fun(b6,i7,ad,ae)=>(l.length - i7).toNat) (false,0,[],0) ⟨[],rfl,rfl,by omega,by omega,rfl,by simp⟩ ⟨rfl,rfl,rfl,trivial⟩ rfl ?_
 rintro⟨b6,i7,ad,ae⟩ J ⟨w3,af,a9,h0,h1,hx,hxl⟩ hJ
 conv=>cbv
 refine .go hl fun v1 bj=>?_
 conv=>cbv
 refine .lss (fun h2=>?_) fun h2=>?_
 conv=>cbv
 cases b6
 conv=>cbv
 refine .go i7.toNat hl fun aq ⟨ac,ak⟩ ab=>?_
 conv=>cbv
 refine .geq fun b4 al=>?_
 conv=>cbv
 cases b4
 conv=>cbv
 refine .go i7.toNat hl fun ar ⟨aa,ag⟩ am=>?_
 conv=>cbv
 obtain⟨rfl,rfl⟩:aa=ac∧ag=ak:=by have:=am.trans ab.symm;rw[Al.mk.injEq]at this;exact this
 refine .neq (fun h6=>?_) fun h6=>?_
 conv=>cbv
 refine .go i7.toNat hl fun ba ⟨ah,an⟩ az=>?_
 conv=>cbv
 obtain⟨rfl,rfl⟩:ah=aa∧an=ag:=by have:=az.trans am.symm;rw[Al.mk.injEq]at this;exact this
 refine .one (⟨ah,an⟩:Al) af rfl fun a0 z8 bb a1=>?_
 conv=>cbv
 refine .add fun v9 bk=>?_
 conv=>cbv
 have hlt:ltB ah enam=true:=by simpa using al
 have hps:=Nc (show i7.toNat<l.length by omega) ab hx
 simp only[]at hps
 rw[hlt,if_neg (by simp),if_neg h6,List.nil_append,←List.append_assoc]at hps
 exact .go [5] (false,v9,z8,a0) (hJ _ ⟨_,a1,Ot,by omega,by omega,by rw[show v9.toNat=i7.toNat+1 by omega];exact hps,by first|omega|(simp;omega)⟩ mlt)
 conv=>cbv
 refine .add fun v7 a2=>?_
 conv=>cbv
 have hlt:ltB aa enam=true:=by simpa using al
 have hps:=Nc (show i7.toNat<l.length by omega) ab hx
 simp only[]at hps
 rw[hlt,if_neg (by simp),if_pos h6,List.nil_append,List.nil_append]at hps
 exact .go [3] (false,v7,ad,ae) (hJ _ ⟨_,af,Ot,by omega,by omega,by rw[show v7.toNat=i7.toNat+1 by omega];exact hps,by first|omega|(simp;omega)⟩ mlt)
 conv=>cbv
 refine .one (⟨enam,eid⟩:Al) af rfl fun a3 z5 bc au=>?_
 conv=>cbv
 refine .go i7.toNat hl fun bd ⟨ai,ao⟩ aw=>?_
 conv=>cbv
 obtain⟨rfl,rfl⟩:ai=ac∧ao=ak:=by have:=aw.trans ab.symm;rw[Al.mk.injEq]at this;exact this
 refine .neq (fun h7=>?_) fun h7=>?_
 conv=>cbv
 refine .go i7.toNat hl fun be ⟨aj,ap⟩ a4=>?_
 conv=>cbv
 obtain⟨rfl,rfl⟩:aj=ai∧ap=ao:=by have:=a4.trans aw.symm;rw[Al.mk.injEq]at this;exact this
 refine .one (⟨aj,ap⟩:Al) au rfl fun a5 z9 bf a6=>?_
 conv=>cbv
 refine .add fun ax bg=>?_
 conv=>cbv
 have hlt:ltB aj enam=false:=by simpa using al
 have hps:=Nc (show i7.toNat<l.length by omega) ab hx
 simp only[]at hps
 rw[hlt,if_pos (by simp),if_neg h7,←List.append_assoc,←List.append_assoc]at hps
 exact .go [7] (true,ax,z9,a5) (hJ _ ⟨_,a6,Ot,by omega,by omega,by rw[show ax.toNat=i7.toNat+1 by omega];exact hps,by first|omega|(simp;omega)⟩ mlt)
 conv=>cbv
 refine .add fun v8 bl=>?_
 conv=>cbv
 have hlt:ltB ai enam=false:=by simpa using al
 have hps:=Nc (show i7.toNat<l.length by omega) ab hx
 simp only[]at hps
 rw[hlt,if_pos (by simp),if_pos h7,List.nil_append,←List.append_assoc]at hps
 exact .go [5] (true,v8,z5,a3) (hJ _ ⟨_,au,Ot,by omega,by omega,by rw[show v8.toNat=i7.toNat+1 by omega];exact hps,by first|omega|(simp;omega)⟩ mlt)
 conv=>cbv
 refine .go i7.toNat hl fun aq ⟨ac,ak⟩ ab=>?_
 conv=>cbv
 refine .neq (fun h4=>?_) fun h4=>?_
 conv=>cbv
 refine .go i7.toNat hl fun ar ⟨aa,ag⟩ am=>?_
 conv=>cbv
 obtain⟨rfl,rfl⟩:aa=ac∧ag=ak:=by have:=am.trans ab.symm;rw[Al.mk.injEq]at this;exact this
 refine .one (⟨aa,ag⟩:Al) af rfl fun a7 z6 bh a8=>?_
 conv=>cbv
 refine .add fun v7 a2=>?_
 conv=>cbv
 have hps:=Nc (show i7.toNat<l.length by omega) ab hx
 simp only[]at hps
 rw[if_neg (by simp),if_neg h4,List.nil_append,←List.append_assoc]at hps
 exact .go [5] (true,v7,z6,a7) (hJ _ ⟨_,a8,Ot,by omega,by omega,by rw[show v7.toNat=i7.toNat+1 by omega];exact hps,by first|omega|(simp;omega)⟩ mlt)
 conv=>cbv
 refine .add fun v5 bm=>?_
 conv=>cbv
 have hps:=Nc (show i7.toNat<l.length by omega) ab hx
 simp only[]at hps
 rw[if_neg (by simp),if_pos h4,List.nil_append,List.nil_append]at hps
 exact .go [3] (true,v5,ad,ae) (hJ _ ⟨_,af,Ot,by omega,by omega,by rw[show v5.toNat=i7.toNat+1 by omega];exact hps,by first|omega|(simp;omega)⟩ mlt)
 conv=>cbv
 cases b6
 conv=>cbv
 refine .one (⟨enam,eid⟩:Al) af rfl fun bn z3 bi ay=>?_
 conv=>cbv
 have e:(w3++[(⟨enam,eid⟩:Al)])=Ec l (⟨enam,eid⟩:Al):=(by rw[List.drop_of_length_le (by omega)]at hx;exact hx)
 rw[hr]at e
 subst e
 exact hQ _ _ (.r rfl rfl (by rw[←ay,List.length_map];first|omega|(simp;omega)) (by rw[←ay,←ho]))
 conv=>cbv
 have e:w3=Ec l (⟨enam,eid⟩:Al):=(by rw[List.drop_of_length_le (by omega)]at hx;simpa[Rt]using hx)
 rw[hr]at e
 subst e
 exact hQ _ _ (.r rfl rfl (by rw[←af,List.length_map];first|omega|(simp;omega)) (by rw[←af,←ho]))
end
section
open Go Go.Proofs
set_option maxRecDepth 20000
set_option maxHeartbeats 4000000
def Uo:List (Nat×TyRow):=[ty3,ty9,Xdq,XdK,Xbd]
theorem Y3:B1 Tryz.prog Uo:=B1.of (by kernel_rfl)
theorem Xhu:Setup Tryz.prog Uo:=⟨Y3,mixed⟩
theorem diskOk_iff{d:Ac}:B3 d=true↔(0≤d.room_∧d.room_≤1000000000)∧(1≤d.next_∧d.next_≤1000000000)∧D1 d=true∧Fe d≤d.room_∧E4 d d.old_ d.steps_=true:=by
 unfold B3 Bn Bm
 simp only[Bool.and_eq_true,decide_eq_true_eq,and_assoc]
theorem Dp{d:Ac}(h:¬B3 d=true):false=B3 d:=by
 symm
 rw[Bool.eq_false_iff]
 exact h
theorem Vb{d:Ac}{now:List Al}{l:List ByteArray}(h:A9 d now=false):E4 d now l=false:=by
 cases l with
 |nil=>unfold E4;rw[h];rfl
 |cons=>unfold E4;rw[h];rfl
def Ls:List Al→List ByteArray→List Al×Bool
 |now,[]=>(now,true)
 |now,s::ss=>if(Ay now s).2=false then([],false)else Ls (Ay now s).1 ss
theorem Rl:Setup Tryz.prog ((3000001,Em Tryz.prog 3000001)::Uo):=(Setup.mark 3000001 Xhu)
theorem Sh{Ah:List Bs}{Bk:List (List D)}{Ak:List Al}{Bh:List (List D)}{Aj:List Al}{Bf:List (List D)}{Ai:List ByteArray}{Bl:List (List D)}{An:Int}{Am:Int}{o:Bool}(Ap:Ah.map A5=Bk)(As:Ak.map Ae=Bh)(Au:Aj.map Ae=Bf)(At:Ai.map cS=Bl)(ab:H2 ⟨Ah,Ak,Aj,Ai,An,Am⟩)(hr:B3 (⟨Ah,Ak,Aj,Ai,An,Am⟩:Ac)=o):Fn Tryz.prog 87 [.agg [.d (.row 3 Bk),.d (.row 2 Bh),.d (.row 2 Bf),.d (.row 1 Bl),I An,I Am]] [] ⟨B o,[],[]⟩:=by
 refine Fn.go Rl Tryz.func87 fun P hP Q hQ=>?_
 conv=>cbv
 generalize ad:Bn An=r1
 refine .dd hP (F0 ad) ?_
 cases r1
 simp only[Bn,decide_eq_true_eq,decide_eq_false_iff_not]at ad
 conv=>cbv
 refine .go2 (by kernel_rfl) ?_
 conv=>cbv
 have e:false=B3 (⟨Ah,Ak,Aj,Ai,An,Am⟩:Ac):=(by exact Dp fun h=>by rw[diskOk_iff]at h;exact ad h.1)
 rw[hr]at e
 subst e
 exact hQ _ _ (.b rfl rfl)
 simp only[Bn,decide_eq_true_eq,decide_eq_false_iff_not]at ad
 conv=>cbv
 generalize ae:Bm Am 1 1000000000=r2
 refine .dd hP (Ex ae) ?_
 cases r2
 simp only[Bm,decide_eq_true_eq,decide_eq_false_iff_not]at ae
 conv=>cbv
 refine .go2 (by kernel_rfl) ?_
 conv=>cbv
 have e:false=B3 (⟨Ah,Ak,Aj,Ai,An,Am⟩:Ac):=(by exact Dp fun h=>by rw[diskOk_iff]at h;exact ae h.2.1)
 rw[hr]at e
 subst e
 exact hQ _ _ (.b rfl rfl)
 simp only[Bm,decide_eq_true_eq,decide_eq_false_iff_not]at ae
 conv=>cbv
 generalize am:D1 (⟨Ah,Ak,Aj,Ai,An,Am⟩:Ac)=r3
 refine .dd hP (Tj Ap As Au At ab.1 (by omega) am) ?_
 cases r3
 conv=>cbv
 refine .go2 (by kernel_rfl) ?_
 conv=>cbv
 have e:false=B3 (⟨Ah,Ak,Aj,Ai,An,Am⟩:Ac):=(by exact Dp fun h=>by rw[diskOk_iff]at h;have:=h.2.2.1;rw[am]at this;cases this)
 rw[hr]at e
 subst e
 exact hQ _ _ (.b rfl rfl)
 conv=>cbv
 generalize an:Fe (⟨Ah,Ak,Aj,Ai,An,Am⟩:Ac)=r4
 refine .dd hP (XcS Ap As Au At ab.1 an) ?_
 conv=>cbv
 refine .gtr (fun h5=>?_) fun h5=>?_
 conv=>cbv
 refine .go2 (by kernel_rfl) ?_
 conv=>cbv
 have e:false=B3 (⟨Ah,Ak,Aj,Ai,An,Am⟩:Ac):=(by exact Dp fun h=>by rw[diskOk_iff]at h;have:=h.2.2.2.1;rw[an]at this;simp only[]at this;omega)
 rw[hr]at e
 subst e
 exact hQ _ _ (.b rfl rfl)
 conv=>cbv
 refine .go2 (by kernel_rfl) ?_
 conv=>cbv
 have hdo:Aj.length≤1000000000:=ab.1.2.2.2.2.1
 have hds:Ai.length≤1000000000:=ab.1.2.2.2.2.2
 generalize aq:C2 Aj=l6
 generalize ar:l6.map Ae=az
 refine .dd hP (Ch Au (by omega) aq ar) ?_
 conv=>cbv
 have af:l6=Aj:=aq.symm
 refine LoopW.lp (κ:=(List (List D))×Int) Rl hP [] [1] (fun(ac,i4)=>[(3,.d (.row 2 ac)),(4,I i4)]) (fun(ac,i4)=>[])
  (fun(ac,i4)=>∃(u3:List Al),u3.map Ae=ac∧0≤i4∧i4≤Ai.length∧E4 (⟨Ah,Ak,Aj,Ai,An,Am⟩:Ac) Aj Ai=E4 (⟨Ah,Ak,Aj,Ai,An,Am⟩:Ac) u3 (Ai.drop i4.toNat)∧okL u3∧u3.length≤1000000000)
  (fun(ac,i4)=>(Ai.length - i4).toNat) (az,0) ⟨l6,ar,by omega,by omega,by rw[af];rfl,by rw[af];exact ab.2.1,by rw[af];omega⟩ ⟨rfl,rfl,trivial⟩ rfl ?_
 rintro⟨ac,i4⟩ J ⟨u3,ao,h0,h1,hio,hul,hun⟩ hJ
 conv=>cbv
 generalize ag:A9 (⟨Ah,Ak,Aj,Ai,An,Am⟩:Ac) u3=r7
 refine .dd hP (Q3 Ap As Au At ao ab.1 hul (by omega) ag) ?_
 cases r7
 conv=>cbv
 have e:false=B3 (⟨Ah,Ak,Aj,Ai,An,Am⟩:Ac):=(by exact Dp fun h=>by rw[diskOk_iff]at h;have hk:=h.2.2.2.2;simp only[]at hk;rw[hio]at hk;rw[Vb ag]at hk;cases hk)
 rw[hr]at e
 subst e
 exact hQ _ _ (.b rfl rfl)
 conv=>cbv
 have a1:=Xch ag
 refine .go At fun v8 a3=>?_
 conv=>cbv
 refine .eql (fun h9=>?_) fun h9=>?_
 conv=>cbv
 generalize ah:Ia u3 Ak=a0
 refine .dd hP (Jn ao As (by omega) ah) ?_
 cases a0
 conv=>cbv
 have e:false=B3 (⟨Ah,Ak,Aj,Ai,An,Am⟩:Ac):=(by exact Dp fun h=>by rw[diskOk_iff]at h;have hk:=h.2.2.2.2;simp only[]at hk;rw[hio]at hk;rw[List.drop_of_length_le (by omega)]at hk;unfold E4 at hk;rw[ah,Bool.and_false]at hk;cases hk)
 rw[hr]at e
 subst e
 exact hQ _ _ (.b rfl rfl)
 conv=>cbv
 have e:true=B3 (⟨Ah,Ak,Aj,Ai,An,Am⟩:Ac):=(by symm;rw[diskOk_iff];refine⟨ad,ae,am,by rw[an];exact h5,?_⟩;simp only[];rw[hio,List.drop_of_length_le (by omega)];unfold E4;rw[ag,ah];rfl)
 rw[hr]at e
 subst e
 exact hQ _ _ (.b rfl rfl)
 conv=>cbv
 refine .go i4.toNat At fun ai aj al=>?_
 conv=>cbv
 have au:aj.size≤1000000000:=al▸ab.2.2 _ (List.getElem_mem ai)
 have hdc:Ai.drop i4.toNat=aj::Ai.drop (i4.toNat+1):=by rw[List.drop_eq_getElem_cons ai,←al]
 rw[hdc]at hio
 rcases aa:Ay u3 aj with⟨aw,ax⟩
 generalize ak:aw.map Ae=ap
 refine .dd hP (Q2 ao (by omega) (by omega) aa ak) ?_
 conv=>cbv
 have hsl:=P2 aa
 have hso:=Xe hul au aa
 cases ax
 conv=>cbv
 have e:false=B3 (⟨Ah,Ak,Aj,Ai,An,Am⟩:Ac):=(by exact Dp fun h=>by rw[diskOk_iff]at h;have hk:=h.2.2.2.2;simp only[]at hk;rw[hio]at hk;unfold E4 at hk;rw[aa,Bool.and_false]at hk;cases hk)
 rw[hr]at e
 subst e
 exact hQ _ _ (.b rfl rfl)
 conv=>cbv
 refine .add fun ay a2=>?_
 conv=>cbv
 exact .go [] (ap,ay) (hJ _ ⟨_,ak,by omega,by omega,by rw[hio,show ay.toNat=i4.toNat+1 by omega];show(A9 _ _&&(Ay u3 aj).2&&E4 _ (Ay u3 aj).1 _)=_;rw[ag,aa];rfl,hso,by omega⟩ mlt)
end
section
open Go Go.Proofs
set_option maxRecDepth 20000
set_option maxHeartbeats 4000000
def Uj:List (Nat×TyRow):=[ty3,ty5,ty9]
theorem XaE:B1 Tryz.prog Uj:=B1.of (by kernel_rfl)
theorem Xgz:Setup Tryz.prog Uj:=⟨XaE,mixed⟩
theorem K9{a b:ByteArray}(h:a.data.toList=b.data.toList):a=b:=ByteArray.ext (Array.toList_inj.1 h)
theorem Dc(s:ByteArray)(a b:Nat):(s.extract a b).data.toList=(s.data.toList.take b).drop a:=by
 rw[ByteArray.data_extract,Array.toList_extract,List.extract_eq_take_drop,List.drop_take]
theorem Mv{c:UInt8}:∀(l:List UInt8) (k:Nat),l[k]? =some c→(∀j,j<k→∀x,l[j]? =some x→x≠c)→Lib.indexByte l c=k
 |[],k,h,_=>by simp at h
 |b::l,0,h,_=>by
  simp at h
  simp[Lib.indexByte,h]
 |b::l,k+1,h,hb=>by
  have h0:=hb 0 (by omega) b rfl
  have ih:=Mv l k (by simpa using h) (fun j hj x hx=>hb (j+1) (by omega) x (by simpa using hx))
  unfold Lib.indexByte
  rw[if_neg (by simpa using h0),ih,if_neg (by simp)]
  omega
theorem Rn{c:UInt8}:∀(l:List UInt8),(∀(j:Nat) x,l[j]? =some x→x≠c)→Lib.indexByte l c= -1
 |[],_=>rfl
 |b::l,hb=>by
  have h0:=hb 0 b rfl
  have ih:=Rn l (fun j x hx=>hb (j+1) x (by simpa using hx))
  unfold Lib.indexByte
  rw[if_neg (by simpa using h0),ih,if_pos (by rfl)]
theorem u8_58{x:UInt8}:x≠58↔x.toNat≠58:=⟨fun h e=>h (UInt8.toNat_inj.1 e),fun h e=>h (by rw[e];rfl)⟩
theorem Xdc{s:ByteArray}{j:Nat}{x:UInt8}(h:(s.extract 1 s.size).data.toList[j]? =some x):∃hj:j+1<s.size,s[j+1]=x:=by
 rw[Dc,List.getElem?_drop,List.take_of_length_le (by rw[Array.length_toList];exact Nat.le_refl _)]at h
 have hl:1+j<s.size:=by
  have:=(List.getElem?_eq_some_iff.1 h).1
  rwa[Array.length_toList]at this
 refine⟨by omega,?_⟩
 rw[show 1+j=j+1 by omega,Lq (show j+1<s.size by omega)]at h
 exact Option.some.inj h
theorem Qx{s:ByteArray}{i:Nat}(h1:1≤i)(hi:i<s.size)(h:(s[i]).toNat=58)(hb:∀j,1≤j→j<i→∀hj:j<s.size,(s[j]).toNat≠58):Jz (s.extract 1 s.size)=(s.extract 1 i,s.extract (i+1) s.size,true):=by
 obtain⟨k,rfl⟩:∃k,i=k+1:=⟨i - 1,by omega⟩
 have hsz:(s.extract 1 s.size).size=s.size - 1:=by rw[ByteArray.size_extract];omega
 have e:If (s.extract 1 s.size)=(k:Int):=by
  refine Mv _ k ?_ ?_
  ·rw[Dc,List.getElem?_drop,List.take_of_length_le (by rw[Array.length_toList];exact Nat.le_refl _),show 1+k=k+1 by omega,Lq hi]
   exact congrArg some (UInt8.toNat_inj.1 h)
  ·intro j hj x hx
   obtain⟨aa,rfl⟩:=Xdc hx
   exact u8_58.2 (hb (j+1) (by omega) (by omega) aa)
 unfold Jz
 rw[e,if_pos (by omega),Int.toNat_natCast,hsz]
 have a1:(s.extract 1 s.size).extract 0 k=s.extract 1 (k+1):=by
  apply K9
  rw[Dc,Dc,Dc,List.drop_zero,List.take_of_length_le (l:=s.data.toList) (by rw[Array.length_toList];exact Nat.le_refl _),List.drop_take,Nat.add_sub_cancel]
 have a2:(s.extract 1 s.size).extract (k+1) (s.size - 1)=s.extract (k+1+1) s.size:=by
  apply K9
  rw[Dc,Dc,Dc,List.take_of_length_le (l:=s.data.toList) (by rw[Array.length_toList];exact Nat.le_refl _),List.take_of_length_le (by rw[List.length_drop,Array.length_toList];exact Nat.le_refl _),List.drop_drop]
  congr 1
  omega
 rw[a1,a2]
theorem Xha{s:ByteArray}(hb:∀j,1≤j→∀hj:j<s.size,(s[j]).toNat≠58):(Jz (s.extract 1 s.size)).2.2=false:=by
 have e:If (s.extract 1 s.size)= -1:=by
  refine Rn _ ?_
  intro j x hx
  obtain⟨aa,rfl⟩:=Xdc hx
  exact u8_58.2 (hb (j+1) (by omega) aa)
 unfold Jz
 rw[e,if_neg (by omega)]
def Bp(s:ByteArray):ByteArray×ByteArray×Int×Bool:=
 if s.size<2∨(s.data.toList.head?≠some 43∧s.data.toList.head?≠some 45∧s.data.toList.head?≠some 62)then(tx [],tx [],0,false)
 else if s.data.toList.head?=some 45 then(s.extract 1 s.size,tx [],0,true)
 else if(Jz (s.extract 1 s.size)).2.2=false then(tx [],tx [],0,false)
 else if s.data.toList.head?=some 62 then((Jz (s.extract 1 s.size)).1,(Jz (s.extract 1 s.size)).2.1,0,Bj (Jz (s.extract 1 s.size)).2.1&& !decide ((Jz (s.extract 1 s.size)).1=(Jz (s.extract 1 s.size)).2.1))
 else((Jz (s.extract 1 s.size)).1,tx [],(A6 (Jz (s.extract 1 s.size)).2.1).1,(A6 (Jz (s.extract 1 s.size)).2.1).2&&Bj (Jz (s.extract 1 s.size)).1)
theorem I7{s:ByteArray}{v:Int}{n:Nat}(h0:0<s.size)(hv:v=((s[0]).toNat:Int))(h:v≠(n:Int))(hn:n<256):s.data.toList.head?≠some (UInt8.ofNat n):=by
 rw[Jy h0]
 intro e
 exact XgA hv h hn (Option.some.inj e)
theorem Kg{s:ByteArray}{v:Int}{n:Nat}(h0:0<s.size)(hv:v=((s[0]).toNat:Int))(h:v=(n:Int))(hn:n<256):s.data.toList.head?=some (UInt8.ofNat n):=(Jy h0).trans (congrArg some (Xgw hv h hn))
section
variable {s a b:ByteArray}
theorem We(h:s.size<2∨(s.data.toList.head?≠some 43∧s.data.toList.head?≠some 45∧s.data.toList.head?≠some 62)):(tx [],tx [],0,false)=Bp s:=by unfold Bp;rw[if_pos h]
theorem Y5(h2:2≤s.size)(h:s.data.toList.head?=some 45):(s.extract 1 s.size,tx [],0,true)=Bp s:=by
 unfold Bp
 rw[if_neg (by rw[h];rintro(h|h);omega;exact h.2.1 rfl),if_pos h]
theorem Xz(h2:2≤s.size)(hh:s.data.toList.head?=some 43∨s.data.toList.head?=some 45∨s.data.toList.head?=some 62)(h45:s.data.toList.head?≠some 45)(hc:(Jz (s.extract 1 s.size)).2.2=false):(tx [],tx [],0,false)=Bp s:=by
 unfold Bp
 rw[if_neg (by rintro(h|⟨k1,k2,k3⟩);omega;rcases hh with h|h|h;exact k1 h;exact k2 h;exact k3 h),if_neg h45,if_pos hc]
theorem Sd(h2:2≤s.size)(h:s.data.toList.head?=some 62)(hc:Jz (s.extract 1 s.size)=(a,b,true)):Bp s=(a,b,0,Bj b&& !decide (a=b)):=by
 unfold Bp
 rw[if_neg (by rw[h];rintro(h|h);omega;exact h.2.2 rfl),if_neg (by rw[h];decide),hc,if_neg (by simp),if_pos h]
theorem Rx(h2:2≤s.size)(h:s.data.toList.head?=some 43)(hc:Jz (s.extract 1 s.size)=(a,b,true)):Bp s=(a,tx [],(A6 b).1,(A6 b).2&&Bj a):=by
 unfold Bp
 rw[if_neg (by rw[h];rintro(h|h);omega;exact h.1 rfl),if_neg (by rw[h];decide),hc,if_neg (by simp),if_neg (by rw[h];decide)]
end
theorem K1:Setup Tryz.prog ((3000009,Em Tryz.prog 3000009)::((3000012,Em Tryz.prog 3000012)::((1000026,Em Tryz.prog 1000026)::Uj))):=(Setup.mark 3000009 (Setup.mark 3000012 (Setup.mark 1000026 Xgz)))
theorem XfT{step:ByteArray}{oa:ByteArray}{ob:ByteArray}{oc:Int}{od:Bool}(hs:step.size≤1000000000)(hr:Bp step=(oa,ob,oc,od)):Fn Tryz.prog 241 [S step] [] ⟨.tup [S oa,S ob,I oc,B od],[],[]⟩:=by
 refine Fn.go K1 Tryz.func241 fun P hP Q hQ=>?_
 conv=>cbv
 refine JoinW.jn (κ:=Unit) K1 hP [] [0] (fun()=>[]) (fun()=>[])
  (fun()=>2≤step.size∧(step.data.toList.head?=some 43∨step.data.toList.head?=some 45∨step.data.toList.head?=some 62)) (fun Jj hJj=>?_) ?_
 conv=>cbv
 refine .go fun v1 an=>?_
 conv=>cbv
 refine .lss (fun h2=>?_) fun h2=>?_
 conv=>cbv
 have e:((tx []),(tx []),0,false)=Bp step:=(by exact We (.inl (by omega)))
 rw[hr]at e
 simp only[Prod.mk.injEq]at e
 obtain⟨rfl,rfl,rfl,rfl⟩:=e
 refine hQ _ _ ?_
 exact .many (.inl rfl) rfl rfl (.d rfl rfl (.d rfl rfl (.d rfl rfl (.d rfl rfl (.nil)))))
 conv=>cbv
 refine .go 0 fun hjv3 v3 aw bv3=>?_
 conv=>cbv
 refine .neq (fun h4=>?_) fun h4=>?_
 conv=>cbv
 refine .go 0 fun hjv5 v5 ax bv5=>?_
 conv=>cbv
 refine .neq (fun h6=>?_) fun h6=>?_
 conv=>cbv
 refine .go 0 fun hjv7 v7 ac bv7=>?_
 conv=>cbv
 refine .neq (fun h8=>?_) fun h8=>?_
 conv=>cbv
 have e:((tx []),(tx []),0,false)=Bp step:=(by exact We (.inr ⟨(I7 (n:=43) (show 0<step.size by omega) aw (by omega) (by decide)),(I7 (n:=45) (show 0<step.size by omega) ax (by omega) (by decide)),(I7 (n:=62) (show 0<step.size by omega) ac (by omega) (by decide))⟩))
 rw[hr]at e
 simp only[Prod.mk.injEq]at e
 obtain⟨rfl,rfl,rfl,rfl⟩:=e
 refine hQ _ _ ?_
 exact .many (.inl rfl) rfl rfl (.d rfl rfl (.d rfl rfl (.d rfl rfl (.d rfl rfl (.nil)))))
 conv=>cbv
 exact .go [] (()) (hJj _ ⟨by omega,.inr (.inr (Kg (n:=62) (show 0<step.size by omega) ac (by omega) (by decide)))⟩)
 conv=>cbv
 exact .go [] (()) (hJj _ ⟨by omega,.inr (.inl (Kg (n:=45) (show 0<step.size by omega) ax (by omega) (by decide)))⟩)
 conv=>cbv
 exact .go [] (()) (hJj _ ⟨by omega,.inl (Kg (n:=43) (show 0<step.size by omega) aw (by omega) (by decide))⟩)
 rintro⟨⟩ ⟨ag,hh0⟩
 conv=>cbv
 refine .go 0 fun hjv1 v1 an bv1=>?_
 conv=>cbv
 refine .eql (fun h2=>?_) fun h2=>?_
 conv=>cbv
 refine .lo fun s3 be=>?_
 conv=>cbv
 have e:(s3,(tx []),0,true)=Bp step:=(by rw[be];exact Y5 ag (Kg (n:=45) (show 0<step.size by omega) an (by omega) (by decide)))
 rw[hr]at e
 simp only[Prod.mk.injEq]at e
 obtain⟨rfl,rfl,rfl,rfl⟩:=e
 refine hQ _ _ ?_
 exact .many (.inl rfl) rfl rfl (.d rfl rfl (.d rfl rfl (.d rfl rfl (.d rfl rfl (.nil)))))
 conv=>cbv
 refine LoopW.lp (κ:=Int) K1 hP [] [0] (fun i6=>[(6,I i6)]) (fun i6=>[])
  (fun i6=>1≤i6∧i6≤step.size∧∀j,1≤j→j<i6.toNat→∀hj:j<step.size,(step[j]).toNat≠58)
  (fun i6=>(step.size - i6).toNat) (1) ⟨by omega,by omega,fun j h1 h2=>by omega⟩ ⟨rfl,trivial⟩ rfl ?_
 rintro i6 J1 ⟨h0,h1,hb⟩ bf
 conv=>cbv
 refine .go fun v3 aw=>?_
 conv=>cbv
 refine .lss (fun h4=>?_) fun h4=>?_
 conv=>cbv
 refine .go i6.toNat fun hjv5 v5 ax bv5=>?_
 conv=>cbv
 refine .eql (fun h6=>?_) fun h6=>?_
 conv=>cbv
 refine .go 0 fun hjv7 v7 ac bv7=>?_
 conv=>cbv
 refine .eql (fun h8=>?_) fun h8=>?_
 conv=>cbv
 refine .lohi fun s9 ay=>?_
 conv=>cbv
 refine .add fun az bh=>?_
 conv=>cbv
 refine .lo fun a0 ao=>?_
 conv=>cbv
 refine .add fun a1 bi=>?_
 conv=>cbv
 refine .lo fun ah ad=>?_
 conv=>cbv
 have a6:ah.size≤step.size:=by rw[ad,ByteArray.size_extract];omega
 generalize aa:Bj ah=a2
 refine .dd hP (Nn (by omega) aa) ?_
 cases a2
 conv=>cbv
 refine .go2 (by kernel_rfl) ?_
 conv=>cbv
 have e:(s9,a0,0,false)=Bp step:=(by have hm:=Sd ag (Kg (n:=62) (show 0<step.size by omega) ac (by omega) (by decide)) (Qx (s:=step) (i:=i6.toNat) (by omega) (by omega) (by omega) hb);have ai:ah=step.extract (i6.toNat+1) step.size:=(by rw[ad,show a1.toNat=i6.toNat+1 by omega]);rw[ai]at aa;rw[hm,ay,ao,aa,show az.toNat=i6.toNat+1 by omega];rfl)
 rw[hr]at e
 simp only[Prod.mk.injEq]at e
 obtain⟨rfl,rfl,rfl,rfl⟩:=e
 refine hQ _ _ ?_
 exact .many (.inl rfl) rfl rfl (.d rfl rfl (.d rfl rfl (.d rfl rfl (.d rfl rfl (.nil)))))
 conv=>cbv
 refine .lohi fun a3 ae=>?_
 conv=>cbv
 refine .add fun a7 bj=>?_
 conv=>cbv
 refine .lo fun bo au=>?_
 conv=>cbv
 refine .neq (fun h18=>?_) fun h18=>?_
 conv=>cbv
 refine .go2 (by kernel_rfl) ?_
 conv=>cbv
 have e:(s9,a0,0,true)=Bp step:=(by have hm:=Sd ag (Kg (n:=62) (show 0<step.size by omega) ac (by omega) (by decide)) (Qx (s:=step) (i:=i6.toNat) (by omega) (by omega) (by omega) hb);have ai:ah=step.extract (i6.toNat+1) step.size:=(by rw[ad,show a1.toNat=i6.toNat+1 by omega]);rw[ai]at aa;rw[hm,ay,ao,aa,show az.toNat=i6.toNat+1 by omega,decide_eq_false (show¬step.extract 1 i6.toNat=step.extract (i6.toNat+1) step.size from fun e=>h18 (by rw[ae,au,show a7.toNat=i6.toNat+1 by omega];exact e))];rfl)
 rw[hr]at e
 simp only[Prod.mk.injEq]at e
 obtain⟨rfl,rfl,rfl,rfl⟩:=e
 refine hQ _ _ ?_
 exact .many (.inl rfl) rfl rfl (.d rfl rfl (.d rfl rfl (.d rfl rfl (.d rfl rfl (.nil)))))
 conv=>cbv
 refine .go2 (by kernel_rfl) ?_
 conv=>cbv
 have e:(s9,a0,0,false)=Bp step:=(by have hm:=Sd ag (Kg (n:=62) (show 0<step.size by omega) ac (by omega) (by decide)) (Qx (s:=step) (i:=i6.toNat) (by omega) (by omega) (by omega) hb);have ai:ah=step.extract (i6.toNat+1) step.size:=(by rw[ad,show a1.toNat=i6.toNat+1 by omega]);rw[ai]at aa;rw[hm,ay,ao,aa,show az.toNat=i6.toNat+1 by omega,decide_eq_true (show step.extract 1 i6.toNat=step.extract (i6.toNat+1) step.size from by rw[ae,au,show a7.toNat=i6.toNat+1 by omega]at h18;exact h18)];rfl)
 rw[hr]at e
 simp only[Prod.mk.injEq]at e
 obtain⟨rfl,rfl,rfl,rfl⟩:=e
 refine hQ _ _ ?_
 exact .many (.inl rfl) rfl rfl (.d rfl rfl (.d rfl rfl (.d rfl rfl (.d rfl rfl (.nil)))))
 conv=>cbv
 refine .go i6.toNat fun hjv9 v9 a8 bv9=>?_
 conv=>cbv
 refine .eql (fun h10=>?_) fun h10=>?_
 conv=>cbv
 refine .add fun a4 bk=>?_
 conv=>cbv
 refine .lo fun af aj=>?_
 conv=>cbv
 have bl:af.size≤step.size:=by rw[aj,ByteArray.size_extract];omega
 rcases ab:A6 af with⟨ap,a9⟩
 refine .dd hP (O6 (by omega) ab) ?_
 conv=>cbv
 refine .lohi fun a5 aq=>?_
 conv=>cbv
 cases a9
 conv=>cbv
 refine .go2 (by kernel_rfl) ?_
 conv=>cbv
 have e:(a5,(tx []),ap,false)=Bp step:=(by have hm:=Rx ag (hh0.elim id fun h=>h.elim (fun h=>absurd h (I7 (n:=45) (show 0<step.size by omega) an (by omega) (by decide))) fun h=>absurd h (I7 (n:=62) (show 0<step.size by omega) ac (by omega) (by decide))) (Qx (s:=step) (i:=i6.toNat) (by omega) (by omega) (by omega) hb);have ak:af=step.extract (i6.toNat+1) step.size:=(by rw[aj,show a4.toNat=i6.toNat+1 by omega]);rw[ak]at ab;rw[hm,aq,ab];rfl)
 rw[hr]at e
 simp only[Prod.mk.injEq]at e
 obtain⟨rfl,rfl,rfl,rfl⟩:=e
 refine hQ _ _ ?_
 exact .many (.inl rfl) rfl rfl (.d rfl rfl (.d rfl rfl (.d rfl rfl (.d rfl rfl (.nil)))))
 conv=>cbv
 refine .lohi fun a3 ae=>?_
 conv=>cbv
 have bm:a3.size≤step.size:=by rw[ae,ByteArray.size_extract];omega
 generalize al:Bj a3=bg
 refine .dd hP (Nn (by omega) al) ?_
 cases bg
 conv=>cbv
 refine .go2 (by kernel_rfl) ?_
 conv=>cbv
 have e:(a5,(tx []),ap,false)=Bp step:=(by have hm:=Rx ag (hh0.elim id fun h=>h.elim (fun h=>absurd h (I7 (n:=45) (show 0<step.size by omega) an (by omega) (by decide))) fun h=>absurd h (I7 (n:=62) (show 0<step.size by omega) ac (by omega) (by decide))) (Qx (s:=step) (i:=i6.toNat) (by omega) (by omega) (by omega) hb);have ak:af=step.extract (i6.toNat+1) step.size:=(by rw[aj,show a4.toNat=i6.toNat+1 by omega]);rw[ak]at ab;rw[ae]at al;have am:=(show Bj (step.extract 1 i6.toNat)=_ from al);rw[hm,aq,ab,am];rfl)
 rw[hr]at e
 simp only[Prod.mk.injEq]at e
 obtain⟨rfl,rfl,rfl,rfl⟩:=e
 refine hQ _ _ ?_
 exact .many (.inl rfl) rfl rfl (.d rfl rfl (.d rfl rfl (.d rfl rfl (.d rfl rfl (.nil)))))
 conv=>cbv
 refine .go2 (by kernel_rfl) ?_
 conv=>cbv
 have e:(a5,(tx []),ap,true)=Bp step:=(by have hm:=Rx ag (hh0.elim id fun h=>h.elim (fun h=>absurd h (I7 (n:=45) (show 0<step.size by omega) an (by omega) (by decide))) fun h=>absurd h (I7 (n:=62) (show 0<step.size by omega) ac (by omega) (by decide))) (Qx (s:=step) (i:=i6.toNat) (by omega) (by omega) (by omega) hb);have ak:af=step.extract (i6.toNat+1) step.size:=(by rw[aj,show a4.toNat=i6.toNat+1 by omega]);rw[ak]at ab;rw[ae]at al;have am:=(show Bj (step.extract 1 i6.toNat)=_ from al);rw[hm,aq,ab,am];rfl)
 rw[hr]at e
 simp only[Prod.mk.injEq]at e
 obtain⟨rfl,rfl,rfl,rfl⟩:=e
 refine hQ _ _ ?_
 exact .many (.inl rfl) rfl rfl (.d rfl rfl (.d rfl rfl (.d rfl rfl (.d rfl rfl (.nil)))))
 exfalso;omega
 conv=>cbv
 refine .go i6.toNat fun hjv7 v7 ac bv7=>?_
 conv=>cbv
 refine .eql (fun h8=>?_) fun h8=>?_
 conv=>cbv
 refine .add fun v9 a8=>?_
 conv=>cbv
 refine .lo fun ba bb=>?_
 conv=>cbv
 have bn:ba.size≤step.size:=by rw[bb,ByteArray.size_extract];omega
 rcases bc:A6 ba with⟨ar,bd⟩
 refine .dd hP (O6 (by omega) bc) ?_
 conv=>cbv
 refine .lohi fun af aj=>?_
 conv=>cbv
 cases bd
 conv=>cbv
 refine .go2 (by kernel_rfl) ?_
 conv=>cbv
 have e:(af,(tx []),ar,false)=Bp step:=(by exfalso;omega)
 rw[hr]at e
 simp only[Prod.mk.injEq]at e
 obtain⟨rfl,rfl,rfl,rfl⟩:=e
 refine hQ _ _ ?_
 exact .many (.inl rfl) rfl rfl (.d rfl rfl (.d rfl rfl (.d rfl rfl (.d rfl rfl (.nil)))))
 conv=>cbv
 refine .lohi fun ah ad=>?_
 conv=>cbv
 have a6:ah.size≤step.size:=by rw[ad,ByteArray.size_extract];omega
 generalize aa:Bj ah=a2
 refine .dd hP (Nn (by omega) aa) ?_
 cases a2
 conv=>cbv
 refine .go2 (by kernel_rfl) ?_
 conv=>cbv
 have e:(af,(tx []),ar,false)=Bp step:=(by exfalso;omega)
 rw[hr]at e
 simp only[Prod.mk.injEq]at e
 obtain⟨rfl,rfl,rfl,rfl⟩:=e
 refine hQ _ _ ?_
 exact .many (.inl rfl) rfl rfl (.d rfl rfl (.d rfl rfl (.d rfl rfl (.d rfl rfl (.nil)))))
 conv=>cbv
 refine .go2 (by kernel_rfl) ?_
 conv=>cbv
 have e:(af,(tx []),ar,true)=Bp step:=(by exfalso;omega)
 rw[hr]at e
 simp only[Prod.mk.injEq]at e
 obtain⟨rfl,rfl,rfl,rfl⟩:=e
 refine hQ _ _ ?_
 exact .many (.inl rfl) rfl rfl (.d rfl rfl (.d rfl rfl (.d rfl rfl (.d rfl rfl (.nil)))))
 conv=>cbv
 refine .add fun v9 a8=>?_
 conv=>cbv
 exact .go [] (v9) (bf _ ⟨by omega,by omega,fun j k1 k2 hj=>if e:j=i6.toNat then by subst e;omega else hb j k1 (by omega) hj⟩ mlt)
 conv=>cbv
 have e:((tx []),(tx []),0,false)=Bp step:=(by exact Xz ag hh0 (I7 (n:=45) (show 0<step.size by omega) an (by omega) (by decide)) (Xha fun j k1 hj=>hb j k1 (by omega) hj))
 rw[hr]at e
 simp only[Prod.mk.injEq]at e
 obtain⟨rfl,rfl,rfl,rfl⟩:=e
 refine hQ _ _ ?_
 exact .many (.inl rfl) rfl rfl (.d rfl rfl (.d rfl rfl (.d rfl rfl (.d rfl rfl (.nil)))))
end
section
open Go Go.Proofs
set_option maxRecDepth 20000
set_option maxHeartbeats 4000000
def Xap:List (Nat×TyRow):=[ty3,ty5,ty9,Xdq,XdK,Xbh]
theorem Zg:B1 Tryz.prog Xap:=B1.of (by kernel_rfl)
theorem Xdi:Setup Tryz.prog Xap:=⟨Zg,mixed⟩
def D9(l:List Al)(s:ByteArray):List Al×Bool:=
 if(Bp s).2.2.2=false∨Bj (Bp s).1=false∨(s.data.toList.head?≠some 43∧D6 l (Bp s).1=false)then([],false)
 else if s.data.toList.head?=some 43 then(Ec l ⟨(Bp s).1,(Bp s).2.2.1⟩,true)
 else if s.data.toList.head?=some 62 then(Ec (D8 l (Bp s).1) ⟨(Bp s).2.1,Cp l (Bp s).1⟩,true)
 else(D8 l (Bp s).1,true)
def Ce:List Al→List ByteArray→List Al×Bool
 |now,[]=>(now,true)
 |now,s::ss=>if(D9 now s).2=false then([],false)else Ce (D9 now s).1 ss
def Ee(old:List Al)(steps:List ByteArray)(n:Int):List Al×Bool:=Ce old (steps.take (Fh n 0 steps.length).toNat)
theorem XfY{s a b:ByteArray}{c:Int}{d:Bool}(e:Bp s=(a,b,c,d)):(a.size≤s.size∧b.size≤s.size)∧(d=true→2≤s.size∧(s.data.toList.head?=some 43∨s.data.toList.head?=some 45∨s.data.toList.head?=some 62)):=by
 have hz:(s.extract 1 s.size).size≤s.size:=by rw[ByteArray.size_extract];omega
 obtain⟨x,y,z,hc⟩:∃x y z,Jz (s.extract 1 s.size)=(x,y,z):=⟨_,_,_,rfl⟩
 have hcb:=Xfz hc
 have h0:(tx []).size≤s.size:=by rw[Bw];exact Nat.zero_le _
 unfold Bp at e
 rw[hc]at e
 by_cases h1:s.size<2∨(s.data.toList.head?≠some 43∧s.data.toList.head?≠some 45∧s.data.toList.head?≠some 62)
 ·rw[if_pos h1]at e
  simp only[Prod.mk.injEq]at e
  obtain⟨rfl,rfl,rfl,rfl⟩:=e
  exact⟨⟨h0,h0⟩,fun h=>by cases h⟩
 ·rw[if_neg h1]at e
  have hd:2≤s.size∧(s.data.toList.head?=some 43∨s.data.toList.head?=some 45∨s.data.toList.head?=some 62):=by
   refine⟨by omega,?_⟩
   by_cases k1:s.data.toList.head?=some 43
   ·exact .inl k1
   ·by_cases k2:s.data.toList.head?=some 45
    ·exact .inr (.inl k2)
    ·by_cases k3:s.data.toList.head?=some 62
     ·exact .inr (.inr k3)
     ·exact absurd (.inr ⟨k1,k2,k3⟩) h1
  refine⟨?_,fun _=>hd⟩
  split at e
  ·simp only[Prod.mk.injEq]at e
   obtain⟨rfl,rfl,_⟩:=e
   exact⟨hz,h0⟩
  ·split at e
   ·simp only[Prod.mk.injEq]at e
    obtain⟨rfl,rfl,_⟩:=e
    exact⟨h0,h0⟩
   ·split at e
    ·simp only[Prod.mk.injEq]at e
     obtain⟨rfl,rfl,_⟩:=e
     exact⟨by omega,by omega⟩
    ·simp only[Prod.mk.injEq]at e
     obtain⟨rfl,rfl,_⟩:=e
     exact⟨by omega,h0⟩
theorem Zc(e:Al):∀(l:List Al) (b:Bool),(Rt e l b).length≤l.length+(if b=true then 0 else 1)
 |[],b=>by cases b<;>simp[Rt]
 |x::l,b=>by
  have ih:=Zc e l (b|| !(ltB x.name_ e.name_))
  unfold Rt
  rw[List.length_append,List.length_append,List.length_cons]
  cases b<;>cases h:ltB x.name_ e.name_<;>simp only[h,Bool.not_true,Bool.not_false,Bool.or_true,Bool.or_false,Bool.true_or,if_true,Bool.false_eq_true,if_false,true_and,false_and,reduceCtorEq]at ih⊢<;>split<;>simp<;>omega
theorem Fg{l o:List Al}{e:Al}(h:Ec l e=o):o.length≤l.length+1:=by
 rw[←h]
 exact Zc e l false
theorem Jm{l o:List Al}{n:ByteArray}(h:D8 l n=o):o.length≤l.length:=by
 rw[←h]
 exact List.length_filter_le _ _
theorem u8_h{s:ByteArray}{n:Nat}(h:0<s.size)(e:s.data.toList.head?=some (UInt8.ofNat n))(hn:n<256):(s[0]).toNat=n:=by
 rw[Jy h]at e
 rw[Option.some.inj e,UInt8.toNat_ofNat',Nat.mod_eq_of_lt (by omega)]
section
variable {l:List Al} {s a b:ByteArray} {c:Int} {d:Bool}
theorem Ek(e:Bp s=(a,b,c,d))(h:d=false∨Bj a=false∨(s.data.toList.head?≠some 43∧D6 l a=false)):D9 l s=([],false):=by
 unfold D9
 rw[e,if_pos h]
theorem V2(e:Bp s=(a,b,c,true))(hn:Bj a=true)(h:s.data.toList.head?=some 43):D9 l s=(Ec l ⟨a,c⟩,true):=by
 unfold D9
 rw[e,if_neg (by rw[hn,h];simp),if_pos h]
theorem Wu(e:Bp s=(a,b,c,true))(hn:Bj a=true)(hh:D6 l a=true)(h:s.data.toList.head?=some 62):D9 l s=(Ec (D8 l a) ⟨b,Cp l a⟩,true):=by
 unfold D9
 rw[e,if_neg (by rw[hn,hh];simp),if_neg (by rw[h];decide),if_pos h]
theorem T3(e:Bp s=(a,b,c,true))(hn:Bj a=true)(hh:D6 l a=true)(h:s.data.toList.head?=some 45):D9 l s=(D8 l a,true):=by
 unfold D9
 rw[e,if_neg (by rw[hn,hh];simp),if_neg (by rw[h];decide),if_neg (by rw[h];decide)]
end
theorem Ua{old:List Al}{xold:List (List D)}{steps:List ByteArray}{xsteps:List (List D)}{n:Int}{oa:List Al}{xoa:List (List D)}{ob:Bool}(hold:old.map Ae=xold)(hsteps:steps.map cS=xsteps)(hol:old.length≤1000000000)(hsl:steps.length≤1000000000)(hss:okS steps)(hr:Ee old steps n=(oa,ob))(hoa:oa.map Ae=xoa):Fn Tryz.prog 163 [.d (.row 2 xold),.d (.row 1 xsteps),I n] [] ⟨.tup [.d (.row 2 xoa),B ob],[],[]⟩:=by
 refine Fn.go Xdi Tryz.func163 fun P hP Q hQ=>?_
 conv=>cbv
 refine .row0 hold fun da z1 c2 bq=>?_
 conv=>cbv
 refine .go hsteps fun v2 ch=>?_
 conv=>cbv
 generalize bn:Fh n 0 v2=r3
 refine .dd hP (XfP bn) ?_
 conv=>cbv
 have hbr:0≤r3∧r3≤steps.length:=by rw[←bn];unfold Fh;split<;>(try split)<;>omega
 refine .frz 2 [8] rfl rfl (by rw[←bq,List.length_map];first|omega|(simp;omega)) ?_
 refine LoopW.lp (κ:=(List (List D))×Int) Xdi hP [] [1,2] (fun(aj,i9)=>[(8,.d (.row 2 aj)),(9,I i9)]) (fun(aj,i9)=>[])
  (fun(aj,i9)=>∃(u8:List Al),u8.map Ae=aj∧0≤i9∧i9≤r3∧Ee old steps n=Ce u8 ((steps.take r3.toNat).drop i9.toNat)∧u8.length≤old.length+i9)
  (fun(aj,i9)=>(r3 - i9).toNat) (z1,0) ⟨old,bq,by omega,by omega,by unfold Ee;rw[←ch,bn];rfl,by omega⟩ ⟨rfl,rfl,trivial⟩ rfl ?_
 rintro⟨aj,i9⟩ J ⟨u8,ab,h0,h1,hio,hun⟩ hJ
 conv=>cbv
 refine .lss (fun h4=>?_) fun h4=>?_
 conv=>cbv
 refine .go i9.toNat hsteps fun bt e5 aa=>?_
 conv=>cbv
 have db:e5.size≤1000000000:=aa▸hss _ (List.getElem_mem bt)
 have hdc:(steps.take r3.toNat).drop i9.toNat=e5::(steps.take r3.toNat).drop (i9.toNat+1):=by rw[List.drop_eq_getElem_cons (by rw[List.length_take];omega),List.getElem_take,←aa]
 rw[hdc]at hio
 rcases am:Bp e5 with⟨ag,bf,bg,ci⟩
 refine .dd hP (XfT (by omega) am) ?_
 conv=>cbv
 have hlf:=XfY am
 cases ci
 conv=>cbv
 have e:([],false)=Ee old steps n:=(by rw[hio];show _=(if(D9 u8 e5).2=false then _ else _);rw[Ek am (.inl rfl)];rfl)
 rw[hr]at e
 simp only[Prod.mk.injEq]at e
 obtain⟨rfl,rfl⟩:=e
 refine hQ _ _ ?_
 exact .many (.inl rfl) rfl rfl (.ref rfl rfl (by rw[←hoa];rfl) (.d rfl rfl (.nil)))
 conv=>cbv
 obtain⟨h2z,hh0⟩:=hlf.2 rfl
 have h00:0<e5.size:=by omega
 have hh1:(e5[0]).toNat=43∨(e5[0]).toNat=45∨(e5[0]).toNat=62:=hh0.imp (fun h=>u8_h h00 h (by decide)) fun h=>h.imp (fun h=>u8_h h00 h (by decide)) fun h=>u8_h h00 h (by decide)
 generalize az:Bj ag=r7
 refine .dd hP (Nn (by omega) az) ?_
 cases r7
 conv=>cbv
 have e:([],false)=Ee old steps n:=(by rw[hio];show _=(if(D9 u8 e5).2=false then _ else _);rw[Ek am (.inr (.inl az))];rfl)
 rw[hr]at e
 simp only[Prod.mk.injEq]at e
 obtain⟨rfl,rfl⟩:=e
 refine hQ _ _ ?_
 exact .many (.inl rfl) rfl rfl (.ref rfl rfl (by rw[←hoa];rfl) (.d rfl rfl (.nil)))
 conv=>cbv
 refine .go i9.toNat hsteps fun c3 e8 cj=>?_
 conv=>cbv
 obtain rfl:e5=e8:=aa.trans cj.symm
 refine .go 0 fun hjv9 v9 bu bv9=>?_
 conv=>cbv
 refine .neq (fun h10=>?_) fun h10=>?_
 conv=>cbv
 generalize aw:D6 u8 ag=ck
 refine .dd hP (Ox ab (by omega) aw) ?_
 cases ck
 conv=>cbv
 have e:([],false)=Ee old steps n:=(by rw[hio];show _=(if(D9 u8 e5).2=false then _ else _);rw[Ek am (.inr (.inr ⟨(I7 (n:=43) h00 bu (by omega) (by decide)),aw⟩))];rfl)
 rw[hr]at e
 simp only[Prod.mk.injEq]at e
 obtain⟨rfl,rfl⟩:=e
 refine hQ _ _ ?_
 exact .many (.inl rfl) rfl rfl (.ref rfl rfl (by rw[←hoa];rfl) (.d rfl rfl (.nil)))
 conv=>cbv
 refine .go i9.toNat hsteps fun cm cn bv=>?_
 conv=>cbv
 obtain rfl:e5=cn:=aa.trans bv.symm
 refine .go 0 fun hjv13 dc bw bv13=>?_
 conv=>cbv
 refine .eql (fun h14=>?_) fun h14=>?_
 conv=>cbv
 generalize bi:Cp u8 ag=bz
 refine .dd hP (Mu ab (by omega) bi) ?_
 conv=>cbv
 refine .go i9.toNat hsteps fun co cp b0=>?_
 conv=>cbv
 obtain rfl:e5=cp:=aa.trans b0.symm
 refine .go 0 fun hjv17 de c4 bv17=>?_
 conv=>cbv
 refine .neq (fun h18=>?_) fun h18=>?_
 conv=>cbv
 generalize a0:D8 u8 ag=b2
 have hln19:=Jm a0
 generalize a1:b2.map Ae=b3
 refine .dd hP (Pl ab (by omega) a0 a1) ?_
 conv=>cbv
 refine .go i9.toNat hsteps fun cq cr b4=>?_
 conv=>cbv
 obtain rfl:e5=cr:=aa.trans b4.symm
 refine .go 0 fun hjv21 al ax bv21=>?_
 conv=>cbv
 refine .neq (fun h22=>?_) fun h22=>?_
 conv=>cbv
 generalize a2:Ec b2 (⟨bf,bz⟩:Al)=ct
 have hln23:=Fg a2
 generalize bj:ct.map Ae=b5
 refine .dd hP (Iz a1 (by omega) a2 bj) ?_
 conv=>cbv
 refine .add fun b6 c5=>?_
 conv=>cbv
 exact .go [] (b5,b6) (hJ _ ⟨_,bj,by omega,by omega,by rw[hio,show b6.toNat=i9.toNat+1 by omega];show(if(D9 u8 e5).2=false then _ else _)=_;rw[Wu am az aw (Kg (n:=62) h00 bw (by omega) (by decide)),a0,bi,a2];rfl,by omega⟩ mlt)
 conv=>cbv
 refine .add fun au a3=>?_
 conv=>cbv
 exact .go [] (b3,au) (hJ _ ⟨_,a1,by omega,by omega,by exfalso;omega,by exfalso;omega⟩ mlt)
 conv=>cbv
 refine .go i9.toNat hsteps fun a4 a5 an=>?_
 conv=>cbv
 obtain rfl:e5=a5:=aa.trans an.symm
 refine .go 0 fun hjv20 bh ay bv20=>?_
 conv=>cbv
 refine .neq (fun h21=>?_) fun h21=>?_
 conv=>cbv
 generalize ac:Ec u8 (⟨ag,bz⟩:Al)=a6
 have hln22:=Fg ac
 generalize ad:a6.map Ae=ao
 refine .dd hP (Iz ab (by omega) ac ad) ?_
 conv=>cbv
 refine .add fun au a3=>?_
 conv=>cbv
 exact .go [] (ao,au) (hJ _ ⟨_,ad,by omega,by omega,by exfalso;omega,by exfalso;omega⟩ mlt)
 conv=>cbv
 refine .add fun ah ap=>?_
 conv=>cbv
 exact .go [] (aj,ah) (hJ _ ⟨_,ab,by omega,by omega,by exfalso;omega,by exfalso;omega⟩ mlt)
 conv=>cbv
 refine .go i9.toNat hsteps fun bo bp a7=>?_
 conv=>cbv
 obtain rfl:e5=bp:=aa.trans a7.symm
 refine .go 0 fun hjv16 cu b7 bv16=>?_
 conv=>cbv
 refine .neq (fun h17=>?_) fun h17=>?_
 conv=>cbv
 generalize ak:D8 u8 ag=a8
 have hln18:=Jm ak
 generalize ai:a8.map Ae=a9
 refine .dd hP (Pl ab (by omega) ak ai) ?_
 conv=>cbv
 refine .go i9.toNat hsteps fun a4 a5 an=>?_
 conv=>cbv
 obtain rfl:e5=a5:=aa.trans an.symm
 refine .go 0 fun hjv20 bh ay bv20=>?_
 conv=>cbv
 refine .neq (fun h21=>?_) fun h21=>?_
 conv=>cbv
 generalize ac:Ec a8 (⟨bf,bg⟩:Al)=a6
 have hln22:=Fg ac
 generalize ad:a6.map Ae=ao
 refine .dd hP (Iz ai (by omega) ac ad) ?_
 conv=>cbv
 refine .add fun au a3=>?_
 conv=>cbv
 exact .go [] (ao,au) (hJ _ ⟨_,ad,by omega,by omega,by exfalso;omega,by exfalso;omega⟩ mlt)
 conv=>cbv
 refine .add fun ah ap=>?_
 conv=>cbv
 exact .go [] (a9,ah) (hJ _ ⟨_,ai,by omega,by omega,by rw[hio,show ah.toNat=i9.toNat+1 by omega];show(if(D9 u8 e5).2=false then _ else _)=_;rw[T3 am az aw (Kg (n:=45) h00 ay (by omega) (by decide)),ak];rfl,by omega⟩ mlt)
 conv=>cbv
 refine .go i9.toNat hsteps fun ba bb aq=>?_
 conv=>cbv
 obtain rfl:e5=bb:=aa.trans aq.symm
 refine .go 0 fun hjv19 b8 bk bv19=>?_
 conv=>cbv
 refine .neq (fun h20=>?_) fun h20=>?_
 conv=>cbv
 generalize ae:Ec u8 (⟨ag,bg⟩:Al)=bc
 have hln21:=Fg ae
 generalize af:bc.map Ae=ar
 refine .dd hP (Iz ab (by omega) ae af) ?_
 conv=>cbv
 refine .add fun ah ap=>?_
 conv=>cbv
 exact .go [] (ar,ah) (hJ _ ⟨_,af,by omega,by omega,by exfalso;omega,by exfalso;omega⟩ mlt)
 conv=>cbv
 refine .add fun al ax=>?_
 conv=>cbv
 exact .go [] (aj,al) (hJ _ ⟨_,ab,by omega,by omega,by exfalso;omega,by exfalso;omega⟩ mlt)
 conv=>cbv
 refine .go i9.toNat hsteps fun cv cw b9=>?_
 conv=>cbv
 obtain rfl:e5=cw:=aa.trans b9.symm
 refine .go 0 fun hjv12 df c6 bv12=>?_
 conv=>cbv
 refine .eql (fun h13=>?_) fun h13=>?_
 conv=>cbv
 generalize ca:Cp u8 ag=cb
 refine .dd hP (Mu ab (by omega) ca) ?_
 conv=>cbv
 refine .go i9.toNat hsteps fun bo bp a7=>?_
 conv=>cbv
 obtain rfl:e5=bp:=aa.trans a7.symm
 refine .go 0 fun hjv16 cu b7 bv16=>?_
 conv=>cbv
 refine .neq (fun h17=>?_) fun h17=>?_
 conv=>cbv
 generalize ak:D8 u8 ag=a8
 have hln18:=Jm ak
 generalize ai:a8.map Ae=a9
 refine .dd hP (Pl ab (by omega) ak ai) ?_
 conv=>cbv
 refine .go i9.toNat hsteps fun a4 a5 an=>?_
 conv=>cbv
 obtain rfl:e5=a5:=aa.trans an.symm
 refine .go 0 fun hjv20 bh ay bv20=>?_
 conv=>cbv
 refine .neq (fun h21=>?_) fun h21=>?_
 conv=>cbv
 generalize ac:Ec a8 (⟨bf,cb⟩:Al)=a6
 have hln22:=Fg ac
 generalize ad:a6.map Ae=ao
 refine .dd hP (Iz ai (by omega) ac ad) ?_
 conv=>cbv
 refine .add fun au a3=>?_
 conv=>cbv
 exact .go [] (ao,au) (hJ _ ⟨_,ad,by omega,by omega,by exfalso;omega,by exfalso;omega⟩ mlt)
 conv=>cbv
 refine .add fun ah ap=>?_
 conv=>cbv
 exact .go [] (a9,ah) (hJ _ ⟨_,ai,by omega,by omega,by exfalso;omega,by exfalso;omega⟩ mlt)
 conv=>cbv
 refine .go i9.toNat hsteps fun ba bb aq=>?_
 conv=>cbv
 obtain rfl:e5=bb:=aa.trans aq.symm
 refine .go 0 fun hjv19 b8 bk bv19=>?_
 conv=>cbv
 refine .neq (fun h20=>?_) fun h20=>?_
 conv=>cbv
 generalize ae:Ec u8 (⟨ag,cb⟩:Al)=bc
 have hln21:=Fg ae
 generalize af:bc.map Ae=ar
 refine .dd hP (Iz ab (by omega) ae af) ?_
 conv=>cbv
 refine .add fun ah ap=>?_
 conv=>cbv
 exact .go [] (ar,ah) (hJ _ ⟨_,af,by omega,by omega,by exfalso;omega,by exfalso;omega⟩ mlt)
 conv=>cbv
 refine .add fun al ax=>?_
 conv=>cbv
 exact .go [] (aj,al) (hJ _ ⟨_,ab,by omega,by omega,by exfalso;omega,by exfalso;omega⟩ mlt)
 conv=>cbv
 refine .go i9.toNat hsteps fun cx cy cc=>?_
 conv=>cbv
 obtain rfl:e5=cy:=aa.trans cc.symm
 refine .go 0 fun hjv15 dg c7 bv15=>?_
 conv=>cbv
 refine .neq (fun h16=>?_) fun h16=>?_
 conv=>cbv
 generalize bl:D8 u8 ag=cd
 have hln17:=Jm bl
 generalize bd:cd.map Ae=ce
 refine .dd hP (Pl ab (by omega) bl bd) ?_
 conv=>cbv
 refine .go i9.toNat hsteps fun ba bb aq=>?_
 conv=>cbv
 obtain rfl:e5=bb:=aa.trans aq.symm
 refine .go 0 fun hjv19 b8 bk bv19=>?_
 conv=>cbv
 refine .neq (fun h20=>?_) fun h20=>?_
 conv=>cbv
 generalize ae:Ec cd (⟨bf,bg⟩:Al)=bc
 have hln21:=Fg ae
 generalize af:bc.map Ae=ar
 refine .dd hP (Iz bd (by omega) ae af) ?_
 conv=>cbv
 refine .add fun ah ap=>?_
 conv=>cbv
 exact .go [] (ar,ah) (hJ _ ⟨_,af,by omega,by omega,by exfalso;omega,by exfalso;omega⟩ mlt)
 conv=>cbv
 refine .add fun al ax=>?_
 conv=>cbv
 exact .go [] (ce,al) (hJ _ ⟨_,bd,by omega,by omega,by exfalso;omega,by exfalso;omega⟩ mlt)
 conv=>cbv
 refine .go i9.toNat hsteps fun cz c0 cf=>?_
 conv=>cbv
 obtain rfl:e5=c0:=aa.trans cf.symm
 refine .go 0 fun hjv18 dh c9 bv18=>?_
 conv=>cbv
 refine .neq (fun h19=>?_) fun h19=>?_
 conv=>cbv
 generalize be:Ec u8 (⟨ag,bg⟩:Al)=c1
 have hln20:=Fg be
 generalize bm:c1.map Ae=cg
 refine .dd hP (Iz ab (by omega) be bm) ?_
 conv=>cbv
 refine .add fun al ax=>?_
 conv=>cbv
 exact .go [] (cg,al) (hJ _ ⟨_,bm,by omega,by omega,by rw[hio,show al.toNat=i9.toNat+1 by omega];show(if(D9 u8 e5).2=false then _ else _)=_;rw[V2 am az (Kg (n:=43) h00 bu (by omega) (by decide)),be];rfl,by omega⟩ mlt)
 conv=>cbv
 refine .add fun bh ay=>?_
 conv=>cbv
 exact .go [] (aj,bh) (hJ _ ⟨_,ab,by omega,by omega,by exfalso;omega,by exfalso;omega⟩ mlt)
 conv=>cbv
 have e:(u8,true)=Ee old steps n:=(by rw[hio,List.drop_of_length_le (by rw[List.length_take];omega)];rfl)
 rw[hr]at e
 simp only[Prod.mk.injEq]at e
 obtain⟨rfl,rfl⟩:=e
 refine hQ _ _ ?_
 exact .many (.inl rfl) rfl rfl (.d rfl (Ag ab hoa) (.d rfl rfl (.nil)))
end
section
open Go Go.Proofs
set_option maxRecDepth 20000
set_option maxHeartbeats 4000000
def Uu:List (Nat×TyRow):=[ty3,ty9,Xdq,XeB,XdK,Xbd,Zu]
theorem XaO:B1 Tryz.prog Uu:=B1.of (by kernel_rfl)
theorem XgB:Setup Tryz.prog Uu:=⟨XaO,mixed⟩
theorem Xab(a:List UInt8):Op.bytesLess a a=false:=by
 cases h:Op.bytesLess a a with
 |false=>rfl
 |true=>have:=K8 a a h;rw[h]at this;cases this
theorem Ss:∀a b c:List UInt8,Op.bytesLess a b=true→Op.bytesLess b c=true→Op.bytesLess a c=true
 |_,[],_,h,_=>by simp[Op.bytesLess]at h
 |_,_::_,[],_,h=>by simp[Op.bytesLess]at h
 |[],_::_,_::_,_,_=>by simp[Op.bytesLess]
 |a::x,b::y,c::z,h1,h2=>by
  simp only[Op.bytesLess,Bool.or_eq_true,decide_eq_true_eq,Bool.and_eq_true,beq_iff_eq]at h1 h2⊢
  rcases h1 with h1|⟨rfl,h1⟩
  ·rcases h2 with h2|⟨rfl,h2⟩
   ·exact .inl (UInt8.lt_trans h1 h2)
   ·exact .inl h1
  ·rcases h2 with h2|⟨rfl,h2⟩
   ·exact .inl h2
   ·exact .inr ⟨rfl,Ss x y z h1 h2⟩
theorem Vy(a:ByteArray):ltB a a=false:=Xab _
theorem XaX{a b c:ByteArray}(h:ltB a b=true)(k:ltB b c=true):ltB a c=true:=Ss _ _ _ h k
theorem XfU{a b:ByteArray}(h:ltB a b=true):a≠b:=by
 rintro rfl
 rw[Vy]at h
 cases h
theorem Xis{a b:ByteArray}(h:ltB a b=false)(hn:a≠b):ltB b a=true:=by
 have:=XbF a b
 rw[h]at this
 simp only[Bool.not_false,Bool.true_eq,Bool.or_eq_true,decide_eq_true_eq]at this
 exact this.resolve_right fun e=>hn e.symm
def srt(l:List Al):Prop:=l.Pairwise fun a b=>ltB a.name_ b.name_=true
theorem XaZ{α:Type}{p:α→Bool}{x:α}{l:List α}:U7 p (x::l)=if p x=true then 0 else if U7 p l<0 then -1 else U7 p l+1:=by
 unfold U7
 rw[List.findIdx_cons]
 cases hp:p x with
 |true=>simp
 |false=>
  simp only[List.length_cons,cond_false,Bool.false_eq_true,if_false]
  by_cases h:l.findIdx p<l.length
  ·rw[if_pos (show l.findIdx p+1<l.length+1 by omega),if_pos h,if_neg (show¬(l.findIdx p:Int)<0 by omega)]
   omega
  ·rw[if_neg (show¬l.findIdx p+1<l.length+1 by omega),if_neg h,if_pos (by decide)]
theorem Nl{x:Al}{l:List Al}{n:ByteArray}:A7 (x::l) n=if x.name_=n then 0 else if A7 l n<0 then -1 else A7 l n+1:=by
 show U7 (fun e=>B2 e n) (x::l)=_
 rw[XaZ]
 unfold B2
 simp only[decide_eq_true_eq]
 rfl
theorem X4{l:List Al}{n:ByteArray}: -1≤A7 l n:=(Hm rfl).1
theorem XgX{l:List Al}{n:ByteArray}(h:∀x∈l,x.name_≠n):A7 l n<0:=by
 have hb:=X4 (l:=l) (n:=n)
 rcases Int.lt_or_le (A7 l n) 0 with k|k
 ·exact k
 ·obtain⟨hi,hp⟩:=Xc (p:=fun e=>B2 e n) (rfl:A7 l n=_) k
  unfold B2 at hp
  rw[decide_eq_true_eq]at hp
  exact absurd hp (h _ (List.getElem_mem hi))
theorem Xy{l:List Al}{n:ByteArray}{i k:Int}(h:A7 l n=k)(hk:0≤k):Tl l n i=l.set k.toNat ⟨(l.getD k.toNat ⟨tx [],0⟩).name_,i⟩:=by
 subst h
 exact if_pos hk
theorem Ou{l:List Al}{n:ByteArray}{i k:Int}(h:A7 l n<0)(hk:B9 l n=k):Tl l n i=Hj l (if k<0 then l.length else k) [⟨n,i⟩]:=by
 subst hk
 exact if_neg (by omega)
theorem Xfn{x:Al}{l:List Al}{n:ByteArray}{i:Int}:Tl (x::l) n i=if x.name_=n then⟨n,i⟩::l else if A7 l n<0∧Jf x n=true then⟨n,i⟩::x::l else x::Tl l n i:=by
 have hb:=X4 (l:=l) (n:=n)
 by_cases hx:x.name_=n
 ·rw[if_pos hx,Xy (k:=0) (by rw[Nl,if_pos hx]) (by decide)]
  simp[hx]
 ·rw[if_neg hx]
  by_cases hp:A7 l n<0
  ·have hpc:A7 (x::l) n<0:=by rw[Nl,if_neg hx,if_pos hp];decide
   have hc:B9 (x::l) n=if Jf x n=true then 0 else if B9 l n<0 then -1 else B9 l n+1:=XaZ (p:=fun e=>Jf e n)
   by_cases h1:Jf x n=true
   ·rw[if_pos ⟨hp,h1⟩,Ou hpc (k:=0) (by rw[hc,if_pos h1]),if_neg (by decide)]
    simp[Hj]
   ·rw[if_neg (fun h=>h1 h.2)]
    by_cases h2:B9 l n<0
    ·rw[Ou hpc (k:=-1) (by rw[hc,if_neg h1,if_pos h2]),if_pos (by decide),Ou hp rfl,if_pos h2]
     simp[Hj]
    ·rw[Ou hpc (by rw[hc,if_neg h1,if_neg h2]),if_neg (by omega),Ou hp rfl,if_neg h2]
     unfold Hj
     rw[show(B9 l n+1).toNat=(B9 l n).toNat+1 by omega]
     simp
  ·rw[if_neg (fun h=>hp h.1),Xy (k:=A7 l n+1) (by rw[Nl,if_neg hx,if_neg hp]) (by omega),Xy (l:=l) rfl (by omega),show(A7 l n+1).toNat=(A7 l n).toNat+1 by omega]
   simp
theorem P5{e:Al}:∀{l:List Al},(∀x∈l,x.name_≠e.name_)→Rt e l true=l
 |[],_=>rfl
 |x::l,h=>by
  unfold Rt
  rw[if_neg (by simp),if_neg (h x List.mem_cons_self),Bool.true_or,P5 fun y hy=>h y (List.mem_cons_of_mem _ hy)]
  rfl
theorem Xda{n:ByteArray}{i:Int}:∀{l:List Al},srt l→Ec l ⟨n,i⟩=Tl l n i
 |[],_=>rfl
 |x::l,h=>by
  have hs:=List.pairwise_cons.1 h
  have ih:=Xda (n:=n) (i:=i) hs.2
  unfold Ec at ih⊢
  rw[Xfn]
  unfold Rt
  by_cases hx:x.name_=n
  ·rw[if_pos hx,hx,Vy,if_pos ⟨rfl,rfl⟩,if_pos rfl,Bool.not_false,Bool.or_true,P5 (fun y hy e=>by
    have:=hs.1 y hy
    rw[hx]at this
    exact XfU this e.symm)]
   rfl
  ·rw[if_neg hx,if_neg hx]
   cases hl:ltB x.name_ n with
   |true=>
    rw[if_neg (by simp),if_neg (by unfold Jf;rw[hl];simp),Bool.not_true,Bool.or_false,ih]
    rfl
   |false=>
    have hg:=Xis hl hx
    have hne:∀y∈l,y.name_≠n:=fun y hy e=>XfU (XaX hg (hs.1 y hy)) e.symm
    rw[if_pos ⟨rfl,rfl⟩,if_pos ⟨XgX hne,by unfold Jf;rw[hl,decide_eq_false hx];rfl⟩,Bool.not_false,Bool.or_true,P5 hne]
    rfl
theorem XbE{n:ByteArray}:∀{l:List Al},srt l→0≤A7 l n→D8 l n=l.eraseIdx (A7 l n).toNat
 |[],_,h=>by
  exfalso
  have:A7 [] n= -1:=rfl
  omega
 |x::l,h,hp=>by
  have hs:=List.pairwise_cons.1 h
  have hb:=X4 (l:=l) (n:=n)
  rw[Nl]at hp⊢
  unfold D8
  rw[List.filter_cons]
  by_cases hx:x.name_=n
  ·rw[if_pos hx,decide_eq_true hx]
   have:l.filter (fun x=>!decide (x.name_=n))=l:=by
    rw[List.filter_eq_self]
    intro y hy
    rw[decide_eq_false]
    ·rfl
    ·rintro rfl
     exact XfU (hs.1 y hy) hx
   simp[this]
  ·rw[if_neg hx]at hp⊢
   rw[decide_eq_false hx]
   by_cases h2:A7 l n<0
   ·rw[if_pos h2]at hp;omega
   ·rw[if_neg h2,show(A7 l n+1).toNat=(A7 l n).toNat+1 by omega,List.eraseIdx_cons_succ,←XbE hs.2 (by omega)]
    rfl
theorem Xf6{d:Ac}{l:List Al}(h:A9 d l=true){i:Nat}(hi:i<l.length):Ez d l i=true:=by
 unfold A9 at h
 rw[Bool.and_eq_true]at h
 exact List.all_eq_true.1 h.1 i (List.mem_range.2 hi)
theorem XeS{d:Ac}{l:List Al}(h:A9 d l=true){i:Nat}(hi:i+1<l.length):ltB l[i].name_ l[i+1].name_=true:=by
 have h1:=Xf6 h hi
 unfold Ez at h1
 rw[XbS hi rfl,show i+1 - 1=i by omega,XbS (show i<l.length by omega) rfl,decide_eq_false (show¬i+1=0 by omega),Bool.false_or,←XbF]at h1
 simp only[Bool.not_not,Bool.and_eq_true]at h1
 exact h1.1.1
theorem XfK{d:Ac}{l:List Al}(h:A9 d l=true):srt l:=by
 have key:∀(k i:Nat) (hk:i+1+k<l.length),ltB l[i].name_ l[i+1+k].name_=true:=by
  intro k
  induction k with
  |zero=>intro i hk;exact XeS h hk
  |succ k ih=>intro i hk;exact XaX (ih i (by omega)) (XeS h (i:=i+1+k) (by omega))
 refine List.pairwise_iff_getElem.2 fun i j hi hj hij=>?_
 have:=key (j - i - 1) i (by omega)
 simpa only[show i+1+(j - i - 1)=j by omega]using this
theorem Xhv{l:List Al}{n:ByteArray}(h:srt l):srt (D8 l n):=List.Pairwise.filter _ h
theorem Uv{l:List Al}{s:ByteArray}(h:srt l):D9 l s=Ay l s:=by
 by_cases hne:s=tx []
 ·subst hne
  rw[Xdy rfl]
  exact Ek (a:=tx []) (b:=tx []) (c:=0) (d:=false) rfl (.inl rfl)
 have hp:=Xdg hne
 have hhd:=Jy hp
 obtain⟨a,b,c,hc⟩:∃a b c,Jz (s.extract 1 s.size)=(a,b,c):=⟨_,_,_,rfl⟩
 have hlt2:c=true→2≤s.size:=by
  rintro rfl
  unfold Jz at hc
  split at hc
  ·rename_i h0
   have:=(Vk (rfl:If (s.extract 1 s.size)=_)).2
   rw[ByteArray.size_extract]at this
   omega
  ·simp at hc
 by_cases h43:s.data.toList.head?=some 43
 ·rw[Kr hne h43 hc]
  cases c with
  |false=>
   rw[if_pos (.inl rfl)]
   by_cases aa:s.size<2
   ·exact Ek (We (.inl aa)).symm (.inl rfl)
   ·exact Ek (Xz (by omega) (.inl h43) (by rw[h43];decide) (by rw[hc])).symm (.inl rfl)
  |true=>
   have hm:=Rx (hlt2 rfl) h43 hc
   cases hr:(A6 b).2 with
   |false=>rw[if_pos (.inr (.inl rfl))];exact Ek hm (.inl (by rw[hr];rfl))
   |true=>
    cases hn:Bj a with
    |false=>rw[if_pos (.inr (.inr rfl))];exact Ek hm (.inr (.inl hn))
    |true=>
     rw[if_neg (by simp)]
     rw[hr,hn]at hm
     rw[V2 hm hn h43,Xda h]
 ·by_cases h45:s.data.toList.head?=some 45
  ·rw[Ws hne h45]
   by_cases aa:s.size<2
   ·have e:s.extract 1 s.size=tx []:=by
     apply K9
     rw[Dc,List.drop_of_length_le (by rw[List.length_take,Array.length_toList];show min _ s.size≤1;omega)]
     rfl
    rw[Ek (We (.inl aa)).symm (.inl rfl),e]
    unfold G2
    rw[if_pos (.inr (by decide))]
   ·have hm:=(Y5 (by omega) h45).symm
    unfold G2
    by_cases hpl:A7 l (s.extract 1 s.size)<0
    ·rw[if_pos (.inl hpl)]
     exact Ek hm (.inr (.inr ⟨h43,by unfold D6;rw[decide_eq_false_iff_not];omega⟩))
    ·cases hn:Bj (s.extract 1 s.size)with
     |false=>rw[if_pos (.inr rfl)];exact Ek hm (.inr (.inl hn))
     |true=>
      rw[if_neg (by rintro(k|k);exact hpl k;cases k),T3 hm hn (by unfold D6;rw[decide_eq_true_eq];omega) h45,XbE h (by omega)]
      rfl
  ·by_cases h62:s.data.toList.head?=some 62
   ·rw[Kl hne h62 hc]
    cases c with
    |false=>
     rw[if_pos (.inl rfl)]
     by_cases aa:s.size<2
     ·exact Ek (We (.inl aa)).symm (.inl rfl)
     ·exact Ek (Xz (by omega) (.inr (.inr h62)) h45 (by rw[hc])).symm (.inl rfl)
    |true=>
     have hm:=Sd (hlt2 rfl) h62 hc
     cases hnb:Bj b with
     |false=>rw[if_pos (.inr (.inr (.inl rfl)))];exact Ek hm (.inl (by rw[hnb];rfl))
     |true=>
      by_cases hab:a=b
      ·rw[if_pos (.inr (.inr (.inr hab)))];exact Ek hm (.inl (by rw[hnb,decide_eq_true hab];rfl))
      ·rw[hnb,decide_eq_false hab]at hm
       by_cases hpl:A7 l a<0
       ·have hd:G2 l a=([],false):=by unfold G2;rw[if_pos (.inl hpl)]
        rw[hd,if_pos (.inr (.inl rfl))]
        exact Ek hm (.inr (.inr ⟨h43,by unfold D6;rw[decide_eq_false_iff_not];omega⟩))
       ·cases hn:Bj a with
        |false=>
         have hd:G2 l a=([],false):=by unfold G2;rw[if_pos (.inr hn)]
         rw[hd,if_pos (.inr (.inl rfl))]
         exact Ek hm (.inr (.inl hn))
        |true=>
         have hd:G2 l a=(D8 l a,true):=by unfold G2;rw[if_neg (by rw[hn];rintro(k|k);exact hpl k;cases k),XbE h (by omega)];rfl
         rw[hd,if_neg (by simp;exact hab),Wu hm hn (by unfold D6;rw[decide_eq_true_eq];omega) h62,Xda (Xhv h)]
   ·rw[Zo hne hhd (fun e=>h43 (by rw[hhd,e])) (fun e=>h45 (by rw[hhd,e])) (fun e=>h62 (by rw[hhd,e]))]
    exact Ek (We (.inr ⟨h43,h45,h62⟩)).symm (.inl rfl)
def XaU(d:Ac)(k:Nat):Bool:=if(Ce d.old_ (d.steps_.take k)).2=true then E4 d (Ce d.old_ (d.steps_.take k)).1 (d.steps_.drop k)else false
theorem Xcr{s:ByteArray}:∀(l:List ByteArray) (now:List Al),Ce now (l++[s])=if(Ce now l).2=true then(if(D9 (Ce now l).1 s).2=false then([],false)else D9 (Ce now l).1 s)else([],false)
 |[],now=>by
  show(if(D9 now s).2=false then _ else Ce (D9 now s).1 [])=if true=true then _ else _
  rw[if_pos rfl]
  cases h:D9 now s with
  |mk x b=>cases b<;>simp[Ce,h]
 |y::l,now=>by
  show(if(D9 now y).2=false then _ else Ce (D9 now y).1 (l++[s]))=if(if(D9 now y).2=false then _ else Ce (D9 now y).1 l).2=true then _ else _
  by_cases h:(D9 now y).2=false
  ·rw[if_pos h,if_pos h,if_neg (by decide)]
  ·rw[if_neg h,if_neg h,Xcr l]
   have e:Ce now (y::l)=Ce (D9 now y).1 l:=if_neg h
   rw[e]
theorem XcF{d:Ac}{k:Nat}{x:List Al}(hk:k<d.steps_.length)(h:Ce d.old_ (d.steps_.take k)=(x,true))(hr:A9 d x=true):Ce d.old_ (d.steps_.take (k+1))=if(Ay x d.steps_[k]).2=false then([],false)else Ay x d.steps_[k]:=by
 rw[List.take_succ_eq_append_getElem hk,Xcr,h,if_pos rfl,Uv (XfK hr)]
theorem Xd3{d:Ac}{k:Nat}{x:List Al}(hk:k<d.steps_.length)(h:Ce d.old_ (d.steps_.take k)=(x,true))(hr:A9 d x=true):XaU d (k+1)=XaU d k:=by
 obtain⟨y,b,hy⟩:∃y b,Ay x d.steps_[k]=(y,b):=⟨_,_,rfl⟩
 unfold XaU
 rw[XcF hk h hr,h,if_pos (show(x,true).2=true from rfl),List.drop_eq_getElem_cons hk]
 show _=(A9 d x&&(Ay x d.steps_[k]).2&&E4 d (Ay x d.steps_[k]).1 _)
 rw[hr,hy]
 cases b<;>rfl
theorem Xam{old:List Al}{steps:List ByteArray}{k:Int}(h0:0≤k)(h1:k≤steps.length):Ee old steps k=Ce old (steps.take k.toNat):=by
 unfold Ee
 rw[show Fh k 0 steps.length=k from by unfold Fh;split<;>(try split)<;>(try split)<;>omega]
def Xhp(d:Ac)(k:Nat):Prop:=E4 d d.old_ d.steps_=XaU d k∧okL (Ce d.old_ (d.steps_.take k)).1∧(Ce d.old_ (d.steps_.take k)).1.length≤1000000000
theorem XdR{d:Ac}(hd:H2 d):Xhp d 0:=⟨rfl,hd.2.1,hd.1.2.2.2.2.1⟩
theorem Xei{d:Ac}(hd:H2 d){k:Nat}{x:List Al}(hq:Xhp d k)(hk:k<d.steps_.length)(h:Ce d.old_ (d.steps_.take k)=(x,true))(hr:A9 d x=true):Xhp d (k+1):=by
 obtain⟨h1,h2,h3⟩:=hq
 have hx:=Xch hr
 rw[h]at h2 h3
 refine⟨by rw[h1,Xd3 hk h hr],?_⟩
 rw[XcF hk h hr]
 obtain⟨y,b,hy⟩:∃y b,Ay x d.steps_[k]=(y,b):=⟨_,_,rfl⟩
 have hl:=P2 hy
 have ho:=Xe h2 (hd.2.2 _ (List.getElem_mem hk)) hy
 rw[hy]
 cases b
 ·exact⟨fun e he=>(by cases he),Nat.zero_le _⟩
 ·exact⟨ho,by show y.length≤_;omega⟩
theorem Mw:Setup Tryz.prog ((3000007,Em Tryz.prog 3000007)::((3000001,Em Tryz.prog 3000001)::Uu)):=(Setup.mark 3000007 (Setup.mark 3000001 XgB))
theorem Ry{Ah:List Bs}{Bk:List (List D)}{Ak:List Al}{Bh:List (List D)}{Aj:List Al}{Bf:List (List D)}{Ai:List ByteArray}{Bl:List (List D)}{An:Int}{Am:Int}{o:Bool}(Ap:Ah.map A5=Bk)(As:Ak.map Ae=Bh)(Au:Aj.map Ae=Bf)(At:Ai.map cS=Bl)(ac:H2 ⟨Ah,Ak,Aj,Ai,An,Am⟩)(hr:B3 (⟨Ah,Ak,Aj,Ai,An,Am⟩:Ac)=o):Fn Tryz.prog 84 [.agg [.d (.row 3 Bk),.d (.row 2 Bh),.d (.row 2 Bf),.d (.row 1 Bl),I An,I Am]] [] ⟨B o,[],[]⟩:=by
 refine Fn.go Mw Tryz.func84 fun P hP Q hQ=>?_
 conv=>cbv
 refine .go Ap fun v1 bg=>?_
 conv=>cbv
 have hdo:Aj.length≤1000000000:=ac.1.2.2.2.2.1
 have hds:Ai.length≤1000000000:=ac.1.2.2.2.2.2
 refine .gtr (fun h2=>?_) fun h2=>?_
 conv=>cbv
 refine .go2 (by kernel_rfl) ?_
 conv=>cbv
 have e:false=B3 (⟨Ah,Ak,Aj,Ai,An,Am⟩:Ac):=(by exact Dp fun h=>by rw[diskOk_iff]at h;have:=h.2.2.1;unfold D1 at this;rw[decide_eq_false (by simp only[];omega),Bool.and_false]at this;cases this)
 rw[hr]at e
 subst e
 exact hQ _ _ (.b rfl rfl)
 conv=>cbv
 generalize af:A8 An 0 1000000000=r3
 refine .dd hP (Dk af) ?_
 cases r3
 simp only[A8,decide_eq_true_eq,decide_eq_false_iff_not]at af
 conv=>cbv
 refine .go2 (by kernel_rfl) ?_
 conv=>cbv
 have e:false=B3 (⟨Ah,Ak,Aj,Ai,An,Am⟩:Ac):=(by exact Dp fun h=>by rw[diskOk_iff]at h;exact af h.1)
 rw[hr]at e
 subst e
 exact hQ _ _ (.b rfl rfl)
 simp only[A8,decide_eq_true_eq,decide_eq_false_iff_not]at af
 conv=>cbv
 generalize ag:A8 Am 1 1000000000=r4
 refine .dd hP (Dk ag) ?_
 cases r4
 simp only[A8,decide_eq_true_eq,decide_eq_false_iff_not]at ag
 conv=>cbv
 refine .go2 (by kernel_rfl) ?_
 conv=>cbv
 have e:false=B3 (⟨Ah,Ak,Aj,Ai,An,Am⟩:Ac):=(by exact Dp fun h=>by rw[diskOk_iff]at h;exact ag h.2.1)
 rw[hr]at e
 subst e
 exact hQ _ _ (.b rfl rfl)
 simp only[A8,decide_eq_true_eq,decide_eq_false_iff_not]at ag
 conv=>cbv
 generalize aq:Fe (⟨Ah,Ak,Aj,Ai,An,Am⟩:Ac)=r5
 refine .dd hP (XcR Ap As Au At ac.1 aq) ?_
 conv=>cbv
 refine .gtr (fun h6=>?_) fun h6=>?_
 conv=>cbv
 refine .go2 (by kernel_rfl) ?_
 conv=>cbv
 have e:false=B3 (⟨Ah,Ak,Aj,Ai,An,Am⟩:Ac):=(by exact Dp fun h=>by rw[diskOk_iff]at h;have:=h.2.2.2.1;rw[aq]at this;simp only[]at this;omega)
 rw[hr]at e
 subst e
 exact hQ _ _ (.b rfl rfl)
 conv=>cbv
 refine .go2 (by kernel_rfl) ?_
 conv=>cbv
 refine LoopW.lp (κ:=Int) Mw hP [] [1] (fun i3=>[(3,I i3)]) (fun i3=>[])
  (fun i3=>0≤i3∧i3≤Ah.length∧∀j:Nat,j<i3.toNat→Ej (⟨Ah,Ak,Aj,Ai,An,Am⟩:Ac) j=true)
  (fun i3=>(Ah.length - i3).toNat) (0) ⟨by omega,by omega,fun j h=>by simp at h⟩ ⟨rfl,trivial⟩ rfl ?_
 rintro i3 J ⟨h0,h1,hb⟩ hJ
 have bh:Ah.length≤1000000000:=ac.1.1
 conv=>cbv
 refine .go Ap fun v7 bi=>?_
 conv=>cbv
 refine .lss (fun h8=>?_) fun h8=>?_
 conv=>cbv
 refine .go i3.toNat Ap fun ad ⟨aw,a3,ah⟩ a4=>?_
 conv=>cbv
 refine .sub fun a5 be=>?_
 conv=>cbv
 have hnd:=Xhk (d:=(⟨Ah,Ak,Aj,Ai,An,Am⟩:Ac)) ad a4
 generalize ab:A8 aw 1 a5=a6
 refine .dd hP (Dk ab) ?_
 cases a6
 simp only[A8,decide_eq_true_eq,decide_eq_false_iff_not]at ab
 conv=>cbv
 refine .go2 (by kernel_rfl) ?_
 conv=>cbv
 have e:false=B3 (⟨Ah,Ak,Aj,Ai,An,Am⟩:Ac):=(by exact Dp fun h=>by rw[diskOk_iff]at h;have h3:=h.2.2.1;rw[←I2 (d:=(⟨Ah,Ak,Aj,Ai,An,Am⟩:Ac)) ad (by unfold Ej;rw[decide_eq_false_iff_not,hnd];simp only[];omega)]at h3;cases h3)
 rw[hr]at e
 subst e
 exact hQ _ _ (.b rfl rfl)
 simp only[A8,decide_eq_true_eq,decide_eq_false_iff_not]at ab
 conv=>cbv
 refine .gtr (fun h12=>?_) fun h12=>?_
 conv=>cbv
 refine .sub fun ai ao=>?_
 conv=>cbv
 refine .go ai.toNat Ap fun ar ⟨a7,a1,a2⟩ ax=>?_
 conv=>cbv
 have hpd:=Xhk (d:=(⟨Ah,Ak,Aj,Ai,An,Am⟩:Ac)) ar ax
 rw[show ai.toNat=i3.toNat - 1 by omega]at hpd
 refine .geq (fun h15=>?_) fun h15=>?_
 conv=>cbv
 refine .go2 (by kernel_rfl) ?_
 conv=>cbv
 have e:false=B3 (⟨Ah,Ak,Aj,Ai,An,Am⟩:Ac):=(by exact Dp fun h=>by rw[diskOk_iff]at h;have h3:=h.2.2.1;rw[←I2 (d:=(⟨Ah,Ak,Aj,Ai,An,Am⟩:Ac)) ad (by unfold Ej;rw[decide_eq_false_iff_not,hnd];simp only[];rw[hpd];simp only[];omega)]at h3;cases h3)
 rw[hr]at e
 subst e
 exact hQ _ _ (.b rfl rfl)
 conv=>cbv
 refine .go fun au ay=>?_
 conv=>cbv
 generalize aj:A8 ah 0 au=a8
 refine .dd hP (Dk aj) ?_
 cases a8
 simp only[A8,decide_eq_true_eq,decide_eq_false_iff_not]at aj
 conv=>cbv
 refine .go2 (by kernel_rfl) ?_
 conv=>cbv
 have e:false=B3 (⟨Ah,Ak,Aj,Ai,An,Am⟩:Ac):=(by exact Dp fun h=>by rw[diskOk_iff]at h;have h3:=h.2.2.1;rw[←I2 (d:=(⟨Ah,Ak,Aj,Ai,An,Am⟩:Ac)) ad (by unfold Ej;rw[decide_eq_false_iff_not,hnd];simp only[];omega)]at h3;cases h3)
 rw[hr]at e
 subst e
 exact hQ _ _ (.b rfl rfl)
 simp only[A8,decide_eq_true_eq,decide_eq_false_iff_not]at aj
 conv=>cbv
 refine .go2 (by kernel_rfl) ?_
 conv=>cbv
 refine .add fun a9 bf=>?_
 conv=>cbv
 exact .go [] (a9) (hJ _ ⟨by omega,by omega,fun j h=>if e:j=i3.toNat then by subst e;unfold Ej;rw[decide_eq_true_eq,hnd,hpd];simp only[];omega else hb j (by omega)⟩ mlt)
 conv=>cbv
 refine .go fun ai ao=>?_
 conv=>cbv
 generalize ak:A8 ah 0 ai=ba
 refine .dd hP (Dk ak) ?_
 cases ba
 simp only[A8,decide_eq_true_eq,decide_eq_false_iff_not]at ak
 conv=>cbv
 refine .go2 (by kernel_rfl) ?_
 conv=>cbv
 have e:false=B3 (⟨Ah,Ak,Aj,Ai,An,Am⟩:Ac):=(by exact Dp fun h=>by rw[diskOk_iff]at h;have h3:=h.2.2.1;rw[←I2 (d:=(⟨Ah,Ak,Aj,Ai,An,Am⟩:Ac)) ad (by unfold Ej;rw[decide_eq_false_iff_not,hnd];simp only[];omega)]at h3;cases h3)
 rw[hr]at e
 subst e
 exact hQ _ _ (.b rfl rfl)
 simp only[A8,decide_eq_true_eq,decide_eq_false_iff_not]at ak
 conv=>cbv
 refine .go2 (by kernel_rfl) ?_
 conv=>cbv
 refine .add fun an az=>?_
 conv=>cbv
 exact .go [] (an) (hJ _ ⟨by omega,by omega,fun j h=>if e:j=i3.toNat then by subst e;unfold Ej;rw[decide_eq_true_eq,hnd];simp only[];omega else hb j (by omega)⟩ mlt)
 conv=>cbv
 refine LoopW.lp (κ:=Int) Mw hP [] [1] (fun i5=>[(5,I i5)]) (fun i5=>[])
  (fun i5=>0≤i5∧i5≤Ai.length+1∧(i5≤Ai.length→Xhp (⟨Ah,Ak,Aj,Ai,An,Am⟩:Ac) i5.toNat)∧(i5=Ai.length+1→E4 (⟨Ah,Ak,Aj,Ai,An,Am⟩:Ac) Aj Ai=true))
  (fun i5=>(Ai.length+1 - i5).toNat) (0) ⟨by omega,by omega,fun _=>XdR ac,fun h=>by omega⟩ ⟨rfl,trivial⟩ rfl ?_
 rintro i5 J1 ⟨k0,k1,hQk,hQe⟩ a0
 conv=>cbv
 refine .go At fun v9 bj=>?_
 conv=>cbv
 refine .leq (fun h10=>?_) fun h10=>?_
 conv=>cbv
 have hq:=hQk (by omega)
 have hS0:=Xam (old:=Aj) (steps:=Ai) (k:=i5) (by omega) (by omega)
 rcases ab:Ee Aj Ai i5 with⟨aa,ap⟩
 generalize ae:aa.map Ae=bb
 refine .dd hP (Ua Au At (by omega) (by omega) ac.2.2 ab ae) ?_
 conv=>cbv
 have hS:Ce Aj (Ai.take i5.toNat)=(aa,ap):=hS0.symm.trans ab
 have hul:okL aa:=by have:=hq.2.1;simp only[]at this;rw[hS]at this;exact this
 have hun:aa.length≤1000000000:=by have:=hq.2.2;simp only[]at this;rw[hS]at this;exact this
 cases ap
 conv=>cbv
 have e:false=B3 (⟨Ah,Ak,Aj,Ai,An,Am⟩:Ac):=(by exact Dp fun h=>by rw[diskOk_iff]at h;have hk:=h.2.2.2.2;simp only[]at hk;rw[hq.1]at hk;unfold XaU at hk;simp only[]at hk;rw[hS]at hk;cases hk)
 rw[hr]at e
 subst e
 exact hQ _ _ (.b rfl rfl)
 conv=>cbv
 generalize al:Gr (⟨Ah,Ak,Aj,Ai,An,Am⟩:Ac) aa=bc
 refine .dd hP (XaF Ap As Au At ae ac.1 hul (by omega) al) ?_
 cases bc
 conv=>cbv
 have e:false=B3 (⟨Ah,Ak,Aj,Ai,An,Am⟩:Ac):=(by exact Dp fun h=>by rw[diskOk_iff]at h;have hk:=h.2.2.2.2;simp only[]at hk;rw[hq.1]at hk;unfold XaU at hk;simp only[]at hk;rw[hS]at hk;rw[if_pos rfl,Vb (show A9 _ aa=false from al)]at hk;cases hk)
 rw[hr]at e
 subst e
 exact hQ _ _ (.b rfl rfl)
 conv=>cbv
 have hre:A9 (⟨Ah,Ak,Aj,Ai,An,Am⟩:Ac) aa=true:=al
 refine .go At fun ai ao=>?_
 conv=>cbv
 refine .eql (fun h14=>?_) fun h14=>?_
 conv=>cbv
 generalize am:J5 aa Ak=bd
 refine .dd hP (XeF ae As (by omega) am) ?_
 cases bd
 conv=>cbv
 have e:false=B3 (⟨Ah,Ak,Aj,Ai,An,Am⟩:Ac):=(by exact Dp fun h=>by rw[diskOk_iff]at h;have hk:=h.2.2.2.2;simp only[]at hk;rw[hq.1]at hk;unfold XaU at hk;simp only[]at hk;rw[hS]at hk;rw[if_pos rfl,List.drop_of_length_le (by omega)]at hk;unfold E4 at hk;rw[show Ia aa _=false from am,Bool.and_false]at hk;cases hk)
 rw[hr]at e
 subst e
 exact hQ _ _ (.b rfl rfl)
 conv=>cbv
 refine .add fun au ay=>?_
 conv=>cbv
 exact .go [] (au) (a0 _ ⟨by omega,by omega,fun h=>by omega,fun _=>by have:=hq.1;simp only[]at this;rw[this];unfold XaU;simp only[];rw[hS,List.drop_of_length_le (by omega),if_pos rfl];show(A9 _ aa&&Ia aa Ak)=true;rw[hre,show Ia aa Ak=true from am];rfl⟩ mlt)
 conv=>cbv
 refine .add fun an az=>?_
 conv=>cbv
 exact .go [] (an) (a0 _ ⟨by omega,by omega,fun h=>by rw[show an.toNat=i5.toNat+1 by omega];exact Xei ac hq (by simp only[];omega) hS hre,fun h=>by omega⟩ mlt)
 conv=>cbv
 have e:true=B3 (⟨Ah,Ak,Aj,Ai,An,Am⟩:Ac):=(by symm;rw[diskOk_iff];exact⟨af,ag,(T7 (d:=(⟨Ah,Ak,Aj,Ai,An,Am⟩:Ac)) (fun j hj=>hb j (by simp only[]at hj;omega)) (by symm;rw[decide_eq_true_eq];simp only[];omega)).symm,by rw[aq];exact h6,hQe (by omega)⟩)
 rw[hr]at e
 subst e
 exact hQ _ _ (.b rfl rfl)
end
end Go.Proofs.YtgdmjbcllgmepaaGreatDoor.Ab
