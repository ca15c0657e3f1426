/- What functions of the program come to, for all arguments in the given bounds. -/
import Derived.Test.YtgdmjbcllgmepaaGreatDoorEcch06a
import Derived.Test.YtgdmjbcllgmepaaGreatDoorEcZ9
set_option linter.unusedVariables false
set_option linter.unusedSimpArgs false
namespace Go.Proofs.YtgdmjbcllgmepaaGreatDoor.Ab
section
open Go Go.Proofs
set_option maxRecDepth 20000
set_option maxHeartbeats 4000000
def Uu:List (Nat×TyRow):=[ty3,ty9,Xg9,XaK,W8,XaB,Xc]
theorem XbY:Cb Tryz.prog Uu:=Cb.of (by kernel_rfl)
theorem Kf:Setup Tryz.prog Uu:=⟨XbY,mixed⟩
theorem M2:∀a b:List UInt8,Op.bytesLess a b=true→Op.bytesLess b a=false
 |_,[],h=>by simp[Op.bytesLess]at h
 |[],_::_,_=>by simp[Op.bytesLess]
 |a::x,b::y,h=>by
  simp only[Op.bytesLess,Bool.or_eq_true,decide_eq_true_eq,Bool.and_eq_true,beq_iff_eq]at h
  simp only[Op.bytesLess,Bool.or_eq_false_iff,decide_eq_false_iff_not,Bool.and_eq_false_iff,beq_eq_false_iff_ne]
  rcases h with h|⟨h1,h2⟩
  ·exact⟨fun h3=>absurd (UInt8.lt_trans h h3) (UInt8.lt_irrefl _),.inl fun e=>by subst e;exact UInt8.lt_irrefl _ h⟩
  ·subst h1
   exact⟨UInt8.lt_irrefl _,.inr (M2 x y h2)⟩
theorem Wz:∀a b:List UInt8,Op.bytesLess a b=false→a≠b→Op.bytesLess b a=true
 |[],[],_,h=>absurd rfl h
 |[],_::_,h,_=>by simp[Op.bytesLess]at h
 |_::_,[],_,_=>by simp[Op.bytesLess]
 |a::x,b::y,h,hn=>by
  simp only[Op.bytesLess,Bool.or_eq_false_iff,decide_eq_false_iff_not,Bool.and_eq_false_iff,beq_eq_false_iff_ne]at h
  simp only[Op.bytesLess,Bool.or_eq_true,decide_eq_true_eq,Bool.and_eq_true,beq_iff_eq]
  by_cases e:a=b
  ·subst e
   right
   refine⟨rfl,Wz x y (h.2.resolve_left fun h=>h rfl) fun e=>hn (by rw[e])⟩
  ·left
   exact(UInt8.lt_or_lt_of_ne e).resolve_left h.1
theorem XdG(a b:ByteArray):(!(ltB a b))=(ltB b a||decide (b=a)):=by
 unfold ltB
 cases h:Op.bytesLess a.toList b.toList with
 |true=>
  rw[M2 _ _ h]
  have:¬b=a:=by
   rintro rfl
   have:=M2 _ _ h
   rw[h]at this
   cases this
  rw[decide_eq_false this];rfl
 |false=>
  by_cases e:b=a
  ·rw[decide_eq_true e,Bool.or_true];rfl
  ·rw[Wz _ _ h fun e2=>e (N6 e2.symm),decide_eq_false e];rfl
def H2(d:Aa)(l:List Ad):Bool:=Bi d l
def Lp(a b:List Ad):Bool:=Gf a b
def D0(l:List Ad)(name:ByteArray):List Ad:=l.filter fun x=>!decide (x.name_=name)
def Uc(e:Ad):List Ad→Bool→List Ad
 |[],done=>if done=true then[]else[e]
 |x::l,done=>(if done=false∧ltB x.name_ e.name_=false then[e]else[])++((if x.name_=e.name_ then[]else[x])++Uc e l (done|| !(ltB x.name_ e.name_)))
def Ek(l:List Ad)(e:Ad):List Ad:=Uc e l false
theorem Pj{e x:Ad}{l:List Ad}{i:Nat}{b:Bool}{w:List Ad}{r:List Ad}(hi:i<l.length)(hx:x=l[i])(h:w++Uc e (l.drop i) b=r):
  w++((if b=false∧ltB x.name_ e.name_=false then[e]else[])++((if x.name_=e.name_ then[]else[x])++Uc e (l.drop (i+1)) (b|| !(ltB x.name_ e.name_))))=r:=by
 rw[List.drop_eq_getElem_cons hi,←hx]at h
 exact h
variable {Ae:List Be} {A3 A2 A1 A4 xl xo:List (List D)} {Ag Ah l:List Ad} {Af:List ByteArray} {Aj Ai:Int} {o:Bool}
theorem XeF{o:Int}(Ak:Ae.map A8=A3)(Al:Ag.map Ac=A2)(Ao:Ah.map Ac=A1)(An:Af.map cS=A4)(hd:okD ⟨Ae,Ag,Ah,Af,Aj,Ai⟩)(hr:F3 (⟨Ae,Ag,Ah,Af,Aj,Ai⟩:Aa)=o):Fn Tryz.prog 170 [.agg [.d (.row 3 A3),.d (.row 2 A2),.d (.row 2 A1),.d (.row 1 A4),I Aj,I Ai]] [] ⟨I o,[],[]⟩:=by
 refine Fn.go Kf Tryz.func170 fun P hP Q hQ=>?_
 conv=>cbv
 refine LoopW.lp (κ:=Int×Int) Kf hP [] [1] (fun(i3,i4)=>[(3,I i3),(4,I i4)]) (fun(i3,i4)=>[])
  (fun(i3,i4)=>0≤i4∧i4≤Ae.length∧i3=XlI (fun n:Be=>(n.text_.size:Int)) (Ae.take i4.toNat)∧0≤i3∧i3≤1000000000*i4)
  (fun(i3,i4)=>(Ae.length - i4).toNat) (0,0) ⟨by omega,by omega,rfl,by omega,by omega⟩ ⟨rfl,rfl,trivial⟩ rfl ?_
 rintro⟨i3,i4⟩ J ⟨h0,h1,hx,hx0,hx1⟩ hJ
 have ag:Ae.length≤1000000000:=hd.1
 have ac:∀n∈Ae,n.text_.size≤1000000000:=hd.2.1
 conv=>cbv
 refine .go Ak fun v1 ah=>?_
 conv=>cbv
 refine .lss (fun h2=>?_) fun h2=>?_
 conv=>cbv
 refine .go i4.toNat Ak fun aa ⟨af,ad,ae⟩ ab=>?_
 conv=>cbv
 have hz:=ac _ (List.getElem_mem aa)
 rw[←ab]at hz
 simp only[]at hz
 refine .go fun v4 ai=>?_
 conv=>cbv
 refine .add fun v5 aj=>?_
 conv=>cbv
 refine .add fun v6 ak=>?_
 conv=>cbv
 exact .go [] (v5,v6) (hJ _ ⟨by omega,by omega,by rw[show v6.toNat=i4.toNat+1 by omega,XcD aa,←hx,←ab];simp only[];omega,by omega,by omega⟩ mlt)
 conv=>cbv
 have e:i3=F3 (⟨Ae,Ag,Ah,Af,Aj,Ai⟩:Aa):=(by unfold F3;rw[hx,List.take_of_length_le (by omega)])
 rw[hr]at e
 subst e
 exact hQ _ _ (.i rfl rfl)
theorem Nt:Setup Tryz.prog ((3000004,Ex Tryz.prog 3000004)::Uu):=(Setup.mark 3000004 Kf)
theorem XaZ{list:List Ad}{xlist:List (List D)}(Ak:Ae.map A8=A3)(Al:Ag.map Ac=A2)(Ao:Ah.map Ac=A1)(An:Af.map cS=A4)(hlist:list.map Ac=xlist)(hd:okD ⟨Ae,Ag,Ah,Af,Aj,Ai⟩)(hl:okL list)(hln:list.length≤1000000000)(hr:H2 (⟨Ae,Ag,Ah,Af,Aj,Ai⟩:Aa) list=o):Fn Tryz.prog 171 [.agg [.d (.row 3 A3),.d (.row 2 A2),.d (.row 2 A1),.d (.row 1 A4),I Aj,I Ai],.d (.row 2 xlist)] [] ⟨B o,[],[]⟩:=by
 refine Fn.go Nt Tryz.func171 fun P hP Q hQ=>?_
 conv=>cbv
 refine LoopW.lp (κ:=Int) Nt hP [] [1,2] (fun i5=>[(5,I i5)]) (fun i5=>[])
  (fun i5=>0≤i5∧i5≤list.length∧∀j:Nat,j<i5.toNat→Fr (⟨Ae,Ag,Ah,Af,Aj,Ai⟩:Aa) list j=true)
  (fun i5=>(list.length - i5).toNat) (0) ⟨by omega,by omega,fun j h=>by simp at h⟩ ⟨rfl,trivial⟩ rfl ?_
 rintro i5 J ⟨h0,h1,hb⟩ hJ
 conv=>cbv
 refine .go hlist fun v1 a2=>?_
 conv=>cbv
 refine .lss (fun h2=>?_) fun h2=>?_
 conv=>cbv
 refine .go i5.toNat hlist fun aa ⟨ab,am⟩ aj=>?_
 conv=>cbv
 have hnd:=Xet aa aj
 have hzn:ab.size≤1000000000:=by have:=hl _ (List.getElem_mem aa);rw[←aj]at this;exact this
 generalize ag:Bl ab=r4
 refine .dd hP (Na (by omega) ag) ?_
 cases r4
 conv=>cbv
 refine .go2 (by kernel_rfl) ?_
 conv=>cbv
 have e:false=H2 (⟨Ae,Ag,Ah,Af,Aj,Ai⟩:Aa) list:=(by exact Oy (d:=(⟨Ae,Ag,Ah,Af,Aj,Ai⟩:Aa)) aa (by unfold Fr;rw[hnd];simp only[];rw[ag,Bool.and_false];rfl))
 rw[hr]at e
 subst e
 exact hQ _ _ (.b rfl rfl)
 conv=>cbv
 refine .go i5.toNat hlist fun az ⟨ae,ac⟩ an=>?_
 conv=>cbv
 generalize ao:Hw (⟨Ae,Ag,Ah,Af,Aj,Ai⟩:Aa) ac=r6
 refine .dd hP (R7 Ak Al Ao An (by have:=hd.1;simp only[]at this;omega) ao) ?_
 conv=>cbv
 obtain⟨rfl,rfl⟩:ae=ab∧ac=am:=by have:=an.trans aj.symm;rw[Ad.mk.injEq]at this;exact this
 have af:Jc (⟨Ae,Ag,Ah,Af,Aj,Ai⟩:Aa) ac=r6:=ao
 refine .lss (fun h7=>?_) fun h7=>?_
 conv=>cbv
 refine .go2 (by kernel_rfl) ?_
 conv=>cbv
 have e:false=H2 (⟨Ae,Ag,Ah,Af,Aj,Ai⟩:Aa) list:=(by exact Oy (d:=(⟨Ae,Ag,Ah,Af,Aj,Ai⟩:Aa)) aa (by unfold Fr;rw[hnd];simp only[];rw[af,decide_eq_false (show¬0≤r6 by omega),Bool.and_false]))
 rw[hr]at e
 subst e
 exact hQ _ _ (.b rfl rfl)
 conv=>cbv
 refine .gtr (fun h8=>?_) fun h8=>?_
 conv=>cbv
 refine .sub fun v9 ar=>?_
 conv=>cbv
 refine .go v9.toNat hlist fun ak ⟨ah,au⟩ ap=>?_
 conv=>cbv
 refine .go i5.toNat hlist fun aw ⟨ad,al⟩ aq=>?_
 conv=>cbv
 obtain⟨rfl,rfl⟩:ad=ae∧al=ac:=by have:=aq.trans an.symm;rw[Ad.mk.injEq]at this;exact this
 have hpd:=Xet ak ap
 rw[show v9.toNat=i5.toNat - 1 by omega]at hpd
 have hgq:=(XdG ah ad).symm
 refine .geq fun ax ai=>?_
 conv=>cbv
 refine .go2 (by kernel_rfl) ?_
 conv=>cbv
 cases ax
 conv=>cbv
 refine .add fun ay a1=>?_
 conv=>cbv
 exact .go [] (ay) (hJ _ ⟨by omega,by omega,fun j h=>if e:j=i5.toNat then by subst e;unfold Fr;rw[hnd,hpd];simp only[];rw[hgq,←ai,ag,af,decide_eq_true (show 0≤r6 by omega),decide_eq_false (show¬i5.toNat=0 by omega)];rfl else hb j (by omega)⟩ mlt)
 conv=>cbv
 have e:false=H2 (⟨Ae,Ag,Ah,Af,Aj,Ai⟩:Aa) list:=(by exact Oy (d:=(⟨Ae,Ag,Ah,Af,Aj,Ai⟩:Aa)) aa (by unfold Fr;rw[hnd];simp only[];rw[hpd];simp only[];rw[hgq,←ai,decide_eq_false (show¬i5.toNat=0 by omega)];rfl))
 rw[hr]at e
 subst e
 exact hQ _ _ (.b rfl rfl)
 conv=>cbv
 refine .go2 (by kernel_rfl) ?_
 conv=>cbv
 refine .add fun v9 ar=>?_
 conv=>cbv
 exact .go [] (v9) (hJ _ ⟨by omega,by omega,fun j h=>if e:j=i5.toNat then by subst e;unfold Fr;rw[hnd];simp only[];rw[ag,af,decide_eq_true (show 0≤r6 by omega),decide_eq_true (show i5.toNat=0 by omega)];rfl else hb j (by omega)⟩ mlt)
 conv=>cbv
 refine .go hlist fun v3 a6=>?_
 conv=>cbv
 refine .leq (fun h4=>?_) fun h4=>?_
 conv=>cbv
 have e:true=H2 (⟨Ae,Ag,Ah,Af,Aj,Ai⟩:Aa) list:=(by exact Uq (l:=list) (fun j hj=>hb j (by omega)) (by symm;rw[decide_eq_true_eq];omega))
 rw[hr]at e
 subst e
 exact hQ _ _ (.b rfl rfl)
 conv=>cbv
 have e:false=H2 (⟨Ae,Ag,Ah,Af,Aj,Ai⟩:Aa) list:=(by exact Uq (l:=list) (fun j hj=>hb j (by omega)) (by symm;rw[decide_eq_false_iff_not];omega))
 rw[hr]at e
 subst e
 exact hQ _ _ (.b rfl rfl)
theorem Xio{a:List Ad}{xa:List (List D)}{b:List Ad}{xb:List (List D)}(ha:a.map Ac=xa)(hb:b.map Ac=xb)(ai:a.length<2^40)(hr:Lp a b=o):Fn Tryz.prog 172 [.d (.row 2 xa),.d (.row 2 xb)] [] ⟨B o,[],[]⟩:=by
 refine Fn.go Kf Tryz.func172 fun P hP Q hQ=>?_
 conv=>cbv
 refine .go ha fun v1 aj=>?_
 conv=>cbv
 refine .go hb fun v2 ak=>?_
 conv=>cbv
 refine .neq (fun h3=>?_) fun h3=>?_
 conv=>cbv
 have e:false=Lp a b:=(by unfold Lp Gf;symm;rw[decide_eq_false_iff_not];intro h;subst h;omega)
 rw[hr]at e
 subst e
 exact hQ _ _ (.b rfl rfl)
 conv=>cbv
 refine LoopW.lp (κ:=Int) Kf hP [] [0,1] (fun i5=>[(5,I i5)]) (fun i5=>[])
  (fun i5=>0≤i5∧i5≤a.length∧∀(j:Nat) (p:j<a.length) (q:j<b.length),j<i5.toNat→a[j]=b[j])
  (fun i5=>(a.length - i5).toNat) (0) ⟨by omega,by omega,fun j p q h=>by simp at h⟩ ⟨rfl,trivial⟩ rfl ?_
 rintro i5 J ⟨h0,h1,hs⟩ hJ
 conv=>cbv
 refine .go ha fun v4 al=>?_
 conv=>cbv
 refine .lss (fun h5=>?_) fun h5=>?_
 conv=>cbv
 refine .go i5.toNat ha fun ae ⟨ac,af⟩ aa=>?_
 conv=>cbv
 refine .go i5.toNat hb fun ag ⟨ad,ah⟩ ab=>?_
 conv=>cbv
 refine .eSI (fun h8=>?_) fun h8=>?_
 conv=>cbv
 refine .add fun v9 am=>?_
 conv=>cbv
 exact .go [] (v9) (hJ _ ⟨by omega,by omega,fun j p q h=>if e:j=i5.toNat then by subst e;rw[←aa,←ab,Ad.mk.injEq];exact h8 else hs j p q (by omega)⟩ mlt)
 conv=>cbv
 have e:false=Lp a b:=(by unfold Lp Gf;symm;rw[decide_eq_false_iff_not];intro h;subst h;have:=aa.trans ab.symm;rw[Ad.mk.injEq]at this;exact h8 this)
 rw[hr]at e
 subst e
 exact hQ _ _ (.b rfl rfl)
 conv=>cbv
 have e:true=Lp a b:=(by unfold Lp Gf;symm;rw[decide_eq_true_eq];exact List.ext_getElem (show a.length=b.length by omega) fun j p q=>hs j p q (by omega))
 rw[hr]at e
 subst e
 exact hQ _ _ (.b rfl rfl)
theorem Mf{name:ByteArray}{o:List Ad}(hl:l.map Ac=xl)(hn:l.length≤4000000000)(hr:D0 l name=o)(ho:o.map Ac=xo):Fn Tryz.prog 243 [.d (.row 2 xl),S name] [] ⟨.d (.row 2 xo),[],[]⟩:=by
 refine Fn.go Kf Tryz.func243 fun P hP Q hQ=>?_
 conv=>cbv
 refine LoopW.lp (κ:=Int×(List (List D))×Nat) Kf hP [1] [0,1] (fun(i6,aa,ab)=>[(5,.ref 2 0 ab),(6,I i6)]) (fun(i6,aa,ab)=>[(2,.row 2 false aa)])
  (fun(i6,aa,ab)=>∃(w2:List Ad),w2.map Ac=aa∧ab=w2.length∧0≤i6∧i6≤l.length∧w2=(l.take i6.toNat).filter (fun x=>!decide (x.name_=name))∧w2.length≤i6)
  (fun(i6,aa,ab)=>(l.length - i6).toNat) (0,[],0) ⟨[],rfl,rfl,by omega,by omega,rfl,by simp⟩ ⟨rfl,rfl,trivial⟩ rfl ?_
 rintro⟨i6,aa,ab⟩ J ⟨w2,ac,al,h0,h1,hx,hxl⟩ hJ
 conv=>cbv
 refine .go hl fun v1 ap=>?_
 conv=>cbv
 refine .lss (fun h2=>?_) fun h2=>?_
 conv=>cbv
 refine .go i6.toNat hl fun ad ⟨ah,am⟩ ae=>?_
 conv=>cbv
 refine .neq (fun h4=>?_) fun h4=>?_
 conv=>cbv
 refine .go i6.toNat hl fun an ⟨af,ag⟩ ai=>?_
 conv=>cbv
 refine .one (⟨af,ag⟩:Ad) ac rfl fun aj z6 ao ak=>?_
 conv=>cbv
 refine .add fun v7 aq=>?_
 conv=>cbv
 exact .go [4] (v7,z6,aj) (hJ _ ⟨_,ak,Gw,by omega,by omega,by rw[show v7.toNat=i6.toNat+1 by omega,Do ad,←hx,←ae];simp only[];rw[decide_eq_false h4,ai,←ae];rfl,by rw[List.length_append,List.length_singleton];omega⟩ mlt)
 conv=>cbv
 refine .add fun v5 ar=>?_
 conv=>cbv
 exact .go [2] (v5,aa,ab) (hJ _ ⟨_,ac,Gw,by omega,by omega,by rw[show v5.toNat=i6.toNat+1 by omega,Do ad,←hx,←ae];simp only[];rw[decide_eq_true h4];simp,by omega⟩ mlt)
 conv=>cbv
 have e:w2=D0 l name:=(by unfold D0;rw[hx,List.take_of_length_le (by omega)])
 rw[hr]at e
 subst e
 exact hQ _ _ (.r rfl rfl (by rw[←ac,List.length_map];first|omega|(simp;omega)) (by rw[←ac,←ho]))
theorem Jg{enam:ByteArray}{eid:Int}{o:List Ad}(hl:l.map Ac=xl)(hn:l.length≤4000000000)(hr:Ek l (⟨enam,eid⟩:Ad)=o)(ho:o.map Ac=xo):Fn Tryz.prog 244 [.d (.row 2 xl),.agg [S enam,I eid]] [] ⟨.d (.row 2 xo),[],[]⟩:=by
 refine Fn.go Kf Tryz.func244 fun P hP Q hQ=>?_
 conv=>cbv
 refine LoopW.lp (κ:=Bool×Int×(List (List D))×Nat) Kf hP [2] [0,3] (fun(b6,i7,ad,ae)=>[(5,.ref 3 0 ae),(6,B b6),(7,I i7)]) (fun(b6,i7,ad,ae)=>[(3,.row 2 false ad)])
  (fun(b6,i7,ad,ae)=>∃(w3:List Ad),w3.map Ac=ad∧ae=w3.length∧0≤i7∧i7≤l.length∧w3++Uc (⟨enam,eid⟩:Ad) (l.drop i7.toNat) b6=Ek l (⟨enam,eid⟩:Ad)∧w3.length≤2*i7)
  (fun(b6,i7,ad,ae)=>(l.length - i7).toNat) (false,0,[],0) ⟨[],rfl,rfl,by omega,by omega,rfl,by simp⟩ ⟨rfl,rfl,rfl,trivial⟩ rfl ?_
 rintro⟨b6,i7,ad,ae⟩ J ⟨w3,af,be,h0,h1,hx,hxl⟩ hJ
 conv=>cbv
 refine .go hl fun v1 bo=>?_
 conv=>cbv
 refine .lss (fun h2=>?_) fun h2=>?_
 conv=>cbv
 cases b6
 conv=>cbv
 refine .go i7.toNat hl fun aq ⟨ac,ak⟩ ab=>?_
 conv=>cbv
 refine .geq fun b4 al=>?_
 conv=>cbv
 cases b4
 conv=>cbv
 refine .go i7.toNat hl fun ar ⟨aa,ag⟩ am=>?_
 conv=>cbv
 obtain⟨rfl,rfl⟩:aa=ac∧ag=ak:=by have:=am.trans ab.symm;rw[Ad.mk.injEq]at this;exact this
 refine .neq (fun h6=>?_) fun h6=>?_
 conv=>cbv
 refine .go i7.toNat hl fun bf ⟨ah,an⟩ az=>?_
 conv=>cbv
 obtain⟨rfl,rfl⟩:ah=aa∧an=ag:=by have:=az.trans am.symm;rw[Ad.mk.injEq]at this;exact this
 refine .one (⟨ah,an⟩:Ad) af rfl fun a1 z8 bg a2=>?_
 conv=>cbv
 refine .add fun v9 bp=>?_
 conv=>cbv
 have hlt:ltB ah enam=true:=by simpa using al
 have hps:=Pj (show i7.toNat<l.length by omega) ab hx
 simp only[]at hps
 rw[hlt,if_neg (by simp),if_neg h6,List.nil_append,←List.append_assoc]at hps
 exact .go [5] (false,v9,z8,a1) (hJ _ ⟨_,a2,Gw,by omega,by omega,by rw[show v9.toNat=i7.toNat+1 by omega];exact hps,by first|omega|(simp;omega)⟩ mlt)
 conv=>cbv
 refine .add fun v7 a6=>?_
 conv=>cbv
 have hlt:ltB aa enam=true:=by simpa using al
 have hps:=Pj (show i7.toNat<l.length by omega) ab hx
 simp only[]at hps
 rw[hlt,if_neg (by simp),if_pos h6,List.nil_append,List.nil_append]at hps
 exact .go [3] (false,v7,ad,ae) (hJ _ ⟨_,af,Gw,by omega,by omega,by rw[show v7.toNat=i7.toNat+1 by omega];exact hps,by first|omega|(simp;omega)⟩ mlt)
 conv=>cbv
 refine .one (⟨enam,eid⟩:Ad) af rfl fun a7 z5 bh au=>?_
 conv=>cbv
 refine .go i7.toNat hl fun bi ⟨ai,ao⟩ aw=>?_
 conv=>cbv
 obtain⟨rfl,rfl⟩:ai=ac∧ao=ak:=by have:=aw.trans ab.symm;rw[Ad.mk.injEq]at this;exact this
 refine .neq (fun h7=>?_) fun h7=>?_
 conv=>cbv
 refine .go i7.toNat hl fun bj ⟨aj,ap⟩ a8=>?_
 conv=>cbv
 obtain⟨rfl,rfl⟩:aj=ai∧ap=ao:=by have:=a8.trans aw.symm;rw[Ad.mk.injEq]at this;exact this
 refine .one (⟨aj,ap⟩:Ad) au rfl fun ba z9 bk bb=>?_
 conv=>cbv
 refine .add fun ax bl=>?_
 conv=>cbv
 have hlt:ltB aj enam=false:=by simpa using al
 have hps:=Pj (show i7.toNat<l.length by omega) ab hx
 simp only[]at hps
 rw[hlt,if_pos (by simp),if_neg h7,←List.append_assoc,←List.append_assoc]at hps
 exact .go [7] (true,ax,z9,ba) (hJ _ ⟨_,bb,Gw,by omega,by omega,by rw[show ax.toNat=i7.toNat+1 by omega];exact hps,by first|omega|(simp;omega)⟩ mlt)
 conv=>cbv
 refine .add fun v8 bq=>?_
 conv=>cbv
 have hlt:ltB ai enam=false:=by simpa using al
 have hps:=Pj (show i7.toNat<l.length by omega) ab hx
 simp only[]at hps
 rw[hlt,if_pos (by simp),if_pos h7,List.nil_append,←List.append_assoc]at hps
 exact .go [5] (true,v8,z5,a7) (hJ _ ⟨_,au,Gw,by omega,by omega,by rw[show v8.toNat=i7.toNat+1 by omega];exact hps,by first|omega|(simp;omega)⟩ mlt)
 conv=>cbv
 refine .go i7.toNat hl fun aq ⟨ac,ak⟩ ab=>?_
 conv=>cbv
 refine .neq (fun h4=>?_) fun h4=>?_
 conv=>cbv
 refine .go i7.toNat hl fun ar ⟨aa,ag⟩ am=>?_
 conv=>cbv
 obtain⟨rfl,rfl⟩:aa=ac∧ag=ak:=by have:=am.trans ab.symm;rw[Ad.mk.injEq]at this;exact this
 refine .one (⟨aa,ag⟩:Ad) af rfl fun bc z6 bm bd=>?_
 conv=>cbv
 refine .add fun v7 a6=>?_
 conv=>cbv
 have hps:=Pj (show i7.toNat<l.length by omega) ab hx
 simp only[]at hps
 rw[if_neg (by simp),if_neg h4,List.nil_append,←List.append_assoc]at hps
 exact .go [5] (true,v7,z6,bc) (hJ _ ⟨_,bd,Gw,by omega,by omega,by rw[show v7.toNat=i7.toNat+1 by omega];exact hps,by first|omega|(simp;omega)⟩ mlt)
 conv=>cbv
 refine .add fun v5 bt=>?_
 conv=>cbv
 have hps:=Pj (show i7.toNat<l.length by omega) ab hx
 simp only[]at hps
 rw[if_neg (by simp),if_pos h4,List.nil_append,List.nil_append]at hps
 exact .go [3] (true,v5,ad,ae) (hJ _ ⟨_,af,Gw,by omega,by omega,by rw[show v5.toNat=i7.toNat+1 by omega];exact hps,by first|omega|(simp;omega)⟩ mlt)
 conv=>cbv
 cases b6
 conv=>cbv
 refine .one (⟨enam,eid⟩:Ad) af rfl fun bu z3 bn ay=>?_
 conv=>cbv
 have e:(w3++[(⟨enam,eid⟩:Ad)])=Ek l (⟨enam,eid⟩:Ad):=(by rw[List.drop_of_length_le (by omega)]at hx;exact hx)
 rw[hr]at e
 subst e
 exact hQ _ _ (.r rfl rfl (by rw[←ay,List.length_map];first|omega|(simp;omega)) (by rw[←ay,←ho]))
 conv=>cbv
 have e:w3=Ek l (⟨enam,eid⟩:Ad):=(by rw[List.drop_of_length_le (by omega)]at hx;simpa[Uc]using hx)
 rw[hr]at e
 subst e
 exact hQ _ _ (.r rfl rfl (by rw[←af,List.length_map];first|omega|(simp;omega)) (by rw[←af,←ho]))
end
section
open Go Go.Proofs
set_option maxRecDepth 20000
set_option maxHeartbeats 4000000
def Vy:List (Nat×TyRow):=[ty3,ty9,X1,XaK,W8]
theorem XbK:Cb Tryz.prog Vy:=Cb.of (by kernel_rfl)
theorem XkE:Setup Tryz.prog Vy:=⟨XbK,mixed⟩
theorem diskOk_iff{d:Aa}:Bw d=true↔(0≤d.room_∧d.room_≤1000000000)∧(1≤d.next_∧d.next_≤1000000000)∧Er d=true∧F3 d≤d.room_∧Fu d d.old_ d.steps_=true:=by
 unfold Bw Bg Cg
 simp only[Bool.and_eq_true,decide_eq_true_eq,and_assoc]
theorem D6{d:Aa}(h:¬Bw d=true):false=Bw d:=by
 symm
 rw[Bool.eq_false_iff]
 exact h
theorem Xj{d:Aa}{now:List Ad}{l:List ByteArray}(h:Bi d now=false):Fu d now l=false:=by
 cases l with
 |nil=>unfold Fu;rw[h];rfl
 |cons=>unfold Fu;rw[h];rfl
def M5:List Ad→List ByteArray→List Ad×Bool
 |now,[]=>(now,true)
 |now,s::ss=>if(At now s).2=false then([],false)else M5 (At now s).1 ss
theorem Ts:Setup Tryz.prog ((3000001,Ex Tryz.prog 3000001)::Vy):=(Setup.mark 3000001 XkE)
theorem O7{Ae:List Be}{A3:List (List D)}{Ag:List Ad}{A2:List (List D)}{Ah:List Ad}{A1:List (List D)}{Af:List ByteArray}{A4:List (List D)}{Aj:Int}{Ai:Int}{o:Bool}(Ak:Ae.map A8=A3)(Al:Ag.map Ac=A2)(Ao:Ah.map Ac=A1)(An:Af.map cS=A4)(ab:La ⟨Ae,Ag,Ah,Af,Aj,Ai⟩)(hr:Bw (⟨Ae,Ag,Ah,Af,Aj,Ai⟩:Aa)=o):Fn Tryz.prog 87 [.agg [.d (.row 3 A3),.d (.row 2 A2),.d (.row 2 A1),.d (.row 1 A4),I Aj,I Ai]] [] ⟨B o,[],[]⟩:=by
 refine Fn.go Ts Tryz.func87 fun P hP Q hQ=>?_
 conv=>cbv
 generalize ad:Bg Aj=r1
 refine .dd hP (Fv ad) ?_
 cases r1
 simp only[Bg,decide_eq_true_eq,decide_eq_false_iff_not]at ad
 conv=>cbv
 refine .go2 (by kernel_rfl) ?_
 conv=>cbv
 have e:false=Bw (⟨Ae,Ag,Ah,Af,Aj,Ai⟩:Aa):=(by exact D6 fun h=>by rw[diskOk_iff]at h;exact ad h.1)
 rw[hr]at e
 subst e
 exact hQ _ _ (.b rfl rfl)
 simp only[Bg,decide_eq_true_eq,decide_eq_false_iff_not]at ad
 conv=>cbv
 generalize ae:Cg Ai 1 1000000000=r2
 refine .dd hP (Gr ae) ?_
 cases r2
 simp only[Cg,decide_eq_true_eq,decide_eq_false_iff_not]at ae
 conv=>cbv
 refine .go2 (by kernel_rfl) ?_
 conv=>cbv
 have e:false=Bw (⟨Ae,Ag,Ah,Af,Aj,Ai⟩:Aa):=(by exact D6 fun h=>by rw[diskOk_iff]at h;exact ae h.2.1)
 rw[hr]at e
 subst e
 exact hQ _ _ (.b rfl rfl)
 simp only[Cg,decide_eq_true_eq,decide_eq_false_iff_not]at ae
 conv=>cbv
 generalize am:Er (⟨Ae,Ag,Ah,Af,Aj,Ai⟩:Aa)=r3
 refine .dd hP (Wj Ak Al Ao An ab.1 (by omega) am) ?_
 cases r3
 conv=>cbv
 refine .go2 (by kernel_rfl) ?_
 conv=>cbv
 have e:false=Bw (⟨Ae,Ag,Ah,Af,Aj,Ai⟩:Aa):=(by exact D6 fun h=>by rw[diskOk_iff]at h;have:=h.2.2.1;rw[am]at this;cases this)
 rw[hr]at e
 subst e
 exact hQ _ _ (.b rfl rfl)
 conv=>cbv
 generalize an:F3 (⟨Ae,Ag,Ah,Af,Aj,Ai⟩:Aa)=r4
 refine .dd hP (Xfr Ak Al Ao An ab.1 an) ?_
 conv=>cbv
 refine .gtr (fun h5=>?_) fun h5=>?_
 conv=>cbv
 refine .go2 (by kernel_rfl) ?_
 conv=>cbv
 have e:false=Bw (⟨Ae,Ag,Ah,Af,Aj,Ai⟩:Aa):=(by exact D6 fun h=>by rw[diskOk_iff]at h;have:=h.2.2.2.1;rw[an]at this;simp only[]at this;omega)
 rw[hr]at e
 subst e
 exact hQ _ _ (.b rfl rfl)
 conv=>cbv
 refine .go2 (by kernel_rfl) ?_
 conv=>cbv
 have hdo:Ah.length≤1000000000:=ab.1.2.2.2.2.1
 have hds:Af.length≤1000000000:=ab.1.2.2.2.2.2
 generalize aq:Eg Ah=l6
 generalize ar:l6.map Ac=az
 refine .dd hP (C8 Ao (by omega) aq ar) ?_
 conv=>cbv
 have af:l6=Ah:=aq.symm
 refine LoopW.lp (κ:=(List (List D))×Int) Ts hP [] [1] (fun(ac,i4)=>[(3,.d (.row 2 ac)),(4,I i4)]) (fun(ac,i4)=>[])
  (fun(ac,i4)=>∃(u3:List Ad),u3.map Ac=ac∧0≤i4∧i4≤Af.length∧Fu (⟨Ae,Ag,Ah,Af,Aj,Ai⟩:Aa) Ah Af=Fu (⟨Ae,Ag,Ah,Af,Aj,Ai⟩:Aa) u3 (Af.drop i4.toNat)∧okL u3∧u3.length≤1000000000)
  (fun(ac,i4)=>(Af.length - i4).toNat) (az,0) ⟨l6,ar,by omega,by omega,by rw[af];rfl,by rw[af];exact ab.2.1,by rw[af];omega⟩ ⟨rfl,rfl,trivial⟩ rfl ?_
 rintro⟨ac,i4⟩ J ⟨u3,ao,h0,h1,hio,hul,hun⟩ hJ
 conv=>cbv
 generalize ag:Bi (⟨Ae,Ag,Ah,Af,Aj,Ai⟩:Aa) u3=r7
 refine .dd hP (S3 Ak Al Ao An ao ab.1 hul (by omega) ag) ?_
 cases r7
 conv=>cbv
 have e:false=Bw (⟨Ae,Ag,Ah,Af,Aj,Ai⟩:Aa):=(by exact D6 fun h=>by rw[diskOk_iff]at h;have hk:=h.2.2.2.2;simp only[]at hk;rw[hio]at hk;rw[Xj ag]at hk;cases hk)
 rw[hr]at e
 subst e
 exact hQ _ _ (.b rfl rfl)
 conv=>cbv
 have a2:=Zm ag
 refine .go An fun v8 a7=>?_
 conv=>cbv
 refine .eql (fun h9=>?_) fun h9=>?_
 conv=>cbv
 generalize ah:Gf u3 Ag=a1
 refine .dd hP (Lf ao Al (by omega) ah) ?_
 cases a1
 conv=>cbv
 have e:false=Bw (⟨Ae,Ag,Ah,Af,Aj,Ai⟩:Aa):=(by exact D6 fun h=>by rw[diskOk_iff]at h;have hk:=h.2.2.2.2;simp only[]at hk;rw[hio]at hk;rw[List.drop_of_length_le (by omega)]at hk;unfold Fu at hk;rw[ah,Bool.and_false]at hk;cases hk)
 rw[hr]at e
 subst e
 exact hQ _ _ (.b rfl rfl)
 conv=>cbv
 have e:true=Bw (⟨Ae,Ag,Ah,Af,Aj,Ai⟩:Aa):=(by symm;rw[diskOk_iff];refine⟨ad,ae,am,by rw[an];exact h5,?_⟩;simp only[];rw[hio,List.drop_of_length_le (by omega)];unfold Fu;rw[ag,ah];rfl)
 rw[hr]at e
 subst e
 exact hQ _ _ (.b rfl rfl)
 conv=>cbv
 refine .go i4.toNat An fun ai aj al=>?_
 conv=>cbv
 have au:aj.size≤1000000000:=al▸ab.2.2 _ (List.getElem_mem ai)
 have hdc:Af.drop i4.toNat=aj::Af.drop (i4.toNat+1):=by rw[List.drop_eq_getElem_cons ai,←al]
 rw[hdc]at hio
 rcases aa:At u3 aj with⟨aw,ax⟩
 generalize ak:aw.map Ac=ap
 refine .dd hP (S6 ao (by omega) (by omega) aa ak) ?_
 conv=>cbv
 have hsl:=Q4 aa
 have hso:=Y8 hul au aa
 cases ax
 conv=>cbv
 have e:false=Bw (⟨Ae,Ag,Ah,Af,Aj,Ai⟩:Aa):=(by exact D6 fun h=>by rw[diskOk_iff]at h;have hk:=h.2.2.2.2;simp only[]at hk;rw[hio]at hk;unfold Fu at hk;rw[aa,Bool.and_false]at hk;cases hk)
 rw[hr]at e
 subst e
 exact hQ _ _ (.b rfl rfl)
 conv=>cbv
 refine .add fun ay a6=>?_
 conv=>cbv
 exact .go [] (ap,ay) (hJ _ ⟨_,ak,by omega,by omega,by rw[hio,show ay.toNat=i4.toNat+1 by omega];show(Bi _ _&&(At u3 aj).2&&Fu _ (At u3 aj).1 _)=_;rw[ag,aa];rfl,hso,by omega⟩ mlt)
end
section
open Go Go.Proofs
set_option maxRecDepth 20000
set_option maxHeartbeats 4000000
def Vd:List (Nat×TyRow):=[ty3,ty5,ty9]
theorem XbG:Cb Tryz.prog Vd:=Cb.of (by kernel_rfl)
theorem Xkx:Setup Tryz.prog Vd:=⟨XbG,mixed⟩
theorem Mx{a b:ByteArray}(h:a.data.toList=b.data.toList):a=b:=ByteArray.ext (Array.toList_inj.1 h)
theorem Du(s:ByteArray)(a b:Nat):(s.extract a b).data.toList=(s.data.toList.take b).drop a:=by
 rw[ByteArray.data_extract,Array.toList_extract,List.extract_eq_take_drop,List.drop_take]
theorem Ov{c:UInt8}:∀(l:List UInt8) (k:Nat),l[k]? =some c→(∀j,j<k→∀x,l[j]? =some x→x≠c)→Lib.indexByte l c=k
 |[],k,h,_=>by simp at h
 |b::l,0,h,_=>by
  simp at h
  simp[Lib.indexByte,h]
 |b::l,k+1,h,hb=>by
  have h0:=hb 0 (by omega) b rfl
  have ih:=Ov l k (by simpa using h) (fun j hj x hx=>hb (j+1) (by omega) x (by simpa using hx))
  unfold Lib.indexByte
  rw[if_neg (by simpa using h0),ih,if_neg (by simp)]
  omega
theorem Tr{c:UInt8}:∀(l:List UInt8),(∀(j:Nat) x,l[j]? =some x→x≠c)→Lib.indexByte l c= -1
 |[],_=>rfl
 |b::l,hb=>by
  have h0:=hb 0 b rfl
  have ih:=Tr l (fun j x hx=>hb (j+1) x (by simpa using hx))
  unfold Lib.indexByte
  rw[if_neg (by simpa using h0),ih,if_pos (by rfl)]
theorem u8_58{x:UInt8}:x≠58↔x.toNat≠58:=⟨fun h e=>h (UInt8.toNat_inj.1 e),fun h e=>h (by rw[e];rfl)⟩
theorem Xfa{s:ByteArray}{j:Nat}{x:UInt8}(h:(s.extract 1 s.size).data.toList[j]? =some x):∃hj:j+1<s.size,s[j+1]=x:=by
 rw[Du,List.getElem?_drop,List.take_of_length_le (by rw[Array.length_toList];exact Nat.le_refl _)]at h
 have hl:1+j<s.size:=by
  have:=(List.getElem?_eq_some_iff.1 h).1
  rwa[Array.length_toList]at this
 refine⟨by omega,?_⟩
 rw[show 1+j=j+1 by omega,Nf (show j+1<s.size by omega)]at h
 exact Option.some.inj h
theorem Su{s:ByteArray}{i:Nat}(h1:1≤i)(hi:i<s.size)(h:(s[i]).toNat=58)(hb:∀j,1≤j→j<i→∀hj:j<s.size,(s[j]).toNat≠58):Ld (s.extract 1 s.size)=(s.extract 1 i,s.extract (i+1) s.size,true):=by
 obtain⟨k,rfl⟩:∃k,i=k+1:=⟨i - 1,by omega⟩
 have hsz:(s.extract 1 s.size).size=s.size - 1:=by rw[ByteArray.size_extract];omega
 have e:Jw (s.extract 1 s.size)=(k:Int):=by
  refine Ov _ k ?_ ?_
  ·rw[Du,List.getElem?_drop,List.take_of_length_le (by rw[Array.length_toList];exact Nat.le_refl _),show 1+k=k+1 by omega,Nf hi]
   exact congrArg some (UInt8.toNat_inj.1 h)
  ·intro j hj x hx
   obtain⟨aa,rfl⟩:=Xfa hx
   exact u8_58.2 (hb (j+1) (by omega) (by omega) aa)
 unfold Ld
 rw[e,if_pos (by omega),Int.toNat_natCast,hsz]
 have a1:(s.extract 1 s.size).extract 0 k=s.extract 1 (k+1):=by
  apply Mx
  rw[Du,Du,Du,List.drop_zero,List.take_of_length_le (l:=s.data.toList) (by rw[Array.length_toList];exact Nat.le_refl _),List.drop_take,Nat.add_sub_cancel]
 have a2:(s.extract 1 s.size).extract (k+1) (s.size - 1)=s.extract (k+1+1) s.size:=by
  apply Mx
  rw[Du,Du,Du,List.take_of_length_le (l:=s.data.toList) (by rw[Array.length_toList];exact Nat.le_refl _),List.take_of_length_le (by rw[List.length_drop,Array.length_toList];exact Nat.le_refl _),List.drop_drop]
  congr 1
  omega
 rw[a1,a2]
theorem XkD{s:ByteArray}(hb:∀j,1≤j→∀hj:j<s.size,(s[j]).toNat≠58):(Ld (s.extract 1 s.size)).2.2=false:=by
 have e:Jw (s.extract 1 s.size)= -1:=by
  refine Tr _ ?_
  intro j x hx
  obtain⟨aa,rfl⟩:=Xfa hx
  exact u8_58.2 (hb (j+1) (by omega) aa)
 unfold Ld
 rw[e,if_neg (by omega)]
def Cc(s:ByteArray):ByteArray×ByteArray×Int×Bool:=
 if s.size<2∨(s.data.toList.head?≠some 43∧s.data.toList.head?≠some 45∧s.data.toList.head?≠some 62)then(tx [],tx [],0,false)
 else if s.data.toList.head?=some 45 then(s.extract 1 s.size,tx [],0,true)
 else if(Ld (s.extract 1 s.size)).2.2=false then(tx [],tx [],0,false)
 else if s.data.toList.head?=some 62 then((Ld (s.extract 1 s.size)).1,(Ld (s.extract 1 s.size)).2.1,0,Bl (Ld (s.extract 1 s.size)).2.1&& !decide ((Ld (s.extract 1 s.size)).1=(Ld (s.extract 1 s.size)).2.1))
 else((Ld (s.extract 1 s.size)).1,tx [],(A7 (Ld (s.extract 1 s.size)).2.1).1,(A7 (Ld (s.extract 1 s.size)).2.1).2&&Bl (Ld (s.extract 1 s.size)).1)
theorem Ky{s:ByteArray}{v:Int}{n:Nat}(h0:0<s.size)(hv:v=((s[0]).toNat:Int))(h:v≠(n:Int))(hn:n<256):s.data.toList.head?≠some (UInt8.ofNat n):=by
 rw[Lm h0]
 intro e
 exact Xkp hv h hn (Option.some.inj e)
theorem L5{s:ByteArray}{v:Int}{n:Nat}(h0:0<s.size)(hv:v=((s[0]).toNat:Int))(h:v=(n:Int))(hn:n<256):s.data.toList.head?=some (UInt8.ofNat n):=(Lm h0).trans (congrArg some (XjX hv h hn))
section
variable {s a b:ByteArray}
theorem Xk(h:s.size<2∨(s.data.toList.head?≠some 43∧s.data.toList.head?≠some 45∧s.data.toList.head?≠some 62)):(tx [],tx [],0,false)=Cc s:=by unfold Cc;rw[if_pos h]
theorem Xci(h2:2≤s.size)(h:s.data.toList.head?=some 45):(s.extract 1 s.size,tx [],0,true)=Cc s:=by
 unfold Cc
 rw[if_neg (by rw[h];rintro(h|h);omega;exact h.2.1 rfl),if_pos h]
theorem Zo(h2:2≤s.size)(hh:s.data.toList.head?=some 43∨s.data.toList.head?=some 45∨s.data.toList.head?=some 62)(h45:s.data.toList.head?≠some 45)(hc:(Ld (s.extract 1 s.size)).2.2=false):(tx [],tx [],0,false)=Cc s:=by
 unfold Cc
 rw[if_neg (by rintro(h|⟨k1,k2,k3⟩);omega;rcases hh with h|h|h;exact k1 h;exact k2 h;exact k3 h),if_neg h45,if_pos hc]
theorem Uh(h2:2≤s.size)(h:s.data.toList.head?=some 62)(hc:Ld (s.extract 1 s.size)=(a,b,true)):Cc s=(a,b,0,Bl b&& !decide (a=b)):=by
 unfold Cc
 rw[if_neg (by rw[h];rintro(h|h);omega;exact h.2.2 rfl),if_neg (by rw[h];decide),hc,if_neg (by simp),if_pos h]
theorem Ur(h2:2≤s.size)(h:s.data.toList.head?=some 43)(hc:Ld (s.extract 1 s.size)=(a,b,true)):Cc s=(a,tx [],(A7 b).1,(A7 b).2&&Bl a):=by
 unfold Cc
 rw[if_neg (by rw[h];rintro(h|h);omega;exact h.1 rfl),if_neg (by rw[h];decide),hc,if_neg (by simp),if_neg (by rw[h];decide)]
end
theorem My:Setup Tryz.prog ((3000009,Ex Tryz.prog 3000009)::((3000012,Ex Tryz.prog 3000012)::((1000026,Ex Tryz.prog 1000026)::Vd))):=(Setup.mark 3000009 (Setup.mark 3000012 (Setup.mark 1000026 Xkx)))
theorem XiT{step:ByteArray}{oa:ByteArray}{ob:ByteArray}{oc:Int}{od:Bool}(hs:step.size≤1000000000)(hr:Cc step=(oa,ob,oc,od)):Fn Tryz.prog 241 [S step] [] ⟨.tup [S oa,S ob,I oc,B od],[],[]⟩:=by
 refine Fn.go My Tryz.func241 fun P hP Q hQ=>?_
 conv=>cbv
 refine JoinW.jn (κ:=Unit) My hP [] [0] (fun()=>[]) (fun()=>[])
  (fun()=>2≤step.size∧(step.data.toList.head?=some 43∨step.data.toList.head?=some 45∨step.data.toList.head?=some 62)) (fun Jj hJj=>?_) ?_
 conv=>cbv
 refine .go fun v1 an=>?_
 conv=>cbv
 refine .lss (fun h2=>?_) fun h2=>?_
 conv=>cbv
 have e:((tx []),(tx []),0,false)=Cc step:=(by exact Xk (.inl (by omega)))
 rw[hr]at e
 simp only[Prod.mk.injEq]at e
 obtain⟨rfl,rfl,rfl,rfl⟩:=e
 refine hQ _ _ ?_
 exact .many (.inl rfl) rfl rfl (.d rfl rfl (.d rfl rfl (.d rfl rfl (.d rfl rfl (.nil)))))
 conv=>cbv
 refine .go 0 fun hjv3 v3 aw bv3=>?_
 conv=>cbv
 refine .neq (fun h4=>?_) fun h4=>?_
 conv=>cbv
 refine .go 0 fun hjv5 v5 ax bv5=>?_
 conv=>cbv
 refine .neq (fun h6=>?_) fun h6=>?_
 conv=>cbv
 refine .go 0 fun hjv7 v7 ac bv7=>?_
 conv=>cbv
 refine .neq (fun h8=>?_) fun h8=>?_
 conv=>cbv
 have e:((tx []),(tx []),0,false)=Cc step:=(by exact Xk (.inr ⟨(Ky (n:=43) (show 0<step.size by omega) aw (by omega) (by decide)),(Ky (n:=45) (show 0<step.size by omega) ax (by omega) (by decide)),(Ky (n:=62) (show 0<step.size by omega) ac (by omega) (by decide))⟩))
 rw[hr]at e
 simp only[Prod.mk.injEq]at e
 obtain⟨rfl,rfl,rfl,rfl⟩:=e
 refine hQ _ _ ?_
 exact .many (.inl rfl) rfl rfl (.d rfl rfl (.d rfl rfl (.d rfl rfl (.d rfl rfl (.nil)))))
 conv=>cbv
 exact .go [] (()) (hJj _ ⟨by omega,.inr (.inr (L5 (n:=62) (show 0<step.size by omega) ac (by omega) (by decide)))⟩)
 conv=>cbv
 exact .go [] (()) (hJj _ ⟨by omega,.inr (.inl (L5 (n:=45) (show 0<step.size by omega) ax (by omega) (by decide)))⟩)
 conv=>cbv
 exact .go [] (()) (hJj _ ⟨by omega,.inl (L5 (n:=43) (show 0<step.size by omega) aw (by omega) (by decide))⟩)
 rintro⟨⟩ ⟨ag,hh0⟩
 conv=>cbv
 refine .go 0 fun hjv1 v1 an bv1=>?_
 conv=>cbv
 refine .eql (fun h2=>?_) fun h2=>?_
 conv=>cbv
 refine .lo fun s3 bj=>?_
 conv=>cbv
 have e:(s3,(tx []),0,true)=Cc step:=(by rw[bj];exact Xci ag (L5 (n:=45) (show 0<step.size by omega) an (by omega) (by decide)))
 rw[hr]at e
 simp only[Prod.mk.injEq]at e
 obtain⟨rfl,rfl,rfl,rfl⟩:=e
 refine hQ _ _ ?_
 exact .many (.inl rfl) rfl rfl (.d rfl rfl (.d rfl rfl (.d rfl rfl (.d rfl rfl (.nil)))))
 conv=>cbv
 refine LoopW.lp (κ:=Int) My hP [] [0] (fun i6=>[(6,I i6)]) (fun i6=>[])
  (fun i6=>1≤i6∧i6≤step.size∧∀j,1≤j→j<i6.toNat→∀hj:j<step.size,(step[j]).toNat≠58)
  (fun i6=>(step.size - i6).toNat) (1) ⟨by omega,by omega,fun j h1 h2=>by omega⟩ ⟨rfl,trivial⟩ rfl ?_
 rintro i6 J1 ⟨h0,h1,hb⟩ bk
 conv=>cbv
 refine .go fun v3 aw=>?_
 conv=>cbv
 refine .lss (fun h4=>?_) fun h4=>?_
 conv=>cbv
 refine .go i6.toNat fun hjv5 v5 ax bv5=>?_
 conv=>cbv
 refine .eql (fun h6=>?_) fun h6=>?_
 conv=>cbv
 refine .go 0 fun hjv7 v7 ac bv7=>?_
 conv=>cbv
 refine .eql (fun h8=>?_) fun h8=>?_
 conv=>cbv
 refine .lohi fun s9 ay=>?_
 conv=>cbv
 refine .add fun az bm=>?_
 conv=>cbv
 refine .lo fun a1 ao=>?_
 conv=>cbv
 refine .add fun a2 bn=>?_
 conv=>cbv
 refine .lo fun ah ad=>?_
 conv=>cbv
 have bb:ah.size≤step.size:=by rw[ad,ByteArray.size_extract];omega
 generalize aa:Bl ah=a6
 refine .dd hP (Na (by omega) aa) ?_
 cases a6
 conv=>cbv
 refine .go2 (by kernel_rfl) ?_
 conv=>cbv
 have e:(s9,a1,0,false)=Cc step:=(by have hm:=Uh ag (L5 (n:=62) (show 0<step.size by omega) ac (by omega) (by decide)) (Su (s:=step) (i:=i6.toNat) (by omega) (by omega) (by omega) hb);have ai:ah=step.extract (i6.toNat+1) step.size:=(by rw[ad,show a2.toNat=i6.toNat+1 by omega]);rw[ai]at aa;rw[hm,ay,ao,aa,show az.toNat=i6.toNat+1 by omega];rfl)
 rw[hr]at e
 simp only[Prod.mk.injEq]at e
 obtain⟨rfl,rfl,rfl,rfl⟩:=e
 refine hQ _ _ ?_
 exact .many (.inl rfl) rfl rfl (.d rfl rfl (.d rfl rfl (.d rfl rfl (.d rfl rfl (.nil)))))
 conv=>cbv
 refine .lohi fun a7 ae=>?_
 conv=>cbv
 refine .add fun bc bo=>?_
 conv=>cbv
 refine .lo fun bv au=>?_
 conv=>cbv
 refine .neq (fun h18=>?_) fun h18=>?_
 conv=>cbv
 refine .go2 (by kernel_rfl) ?_
 conv=>cbv
 have e:(s9,a1,0,true)=Cc step:=(by have hm:=Uh ag (L5 (n:=62) (show 0<step.size by omega) ac (by omega) (by decide)) (Su (s:=step) (i:=i6.toNat) (by omega) (by omega) (by omega) hb);have ai:ah=step.extract (i6.toNat+1) step.size:=(by rw[ad,show a2.toNat=i6.toNat+1 by omega]);rw[ai]at aa;rw[hm,ay,ao,aa,show az.toNat=i6.toNat+1 by omega,decide_eq_false (show¬step.extract 1 i6.toNat=step.extract (i6.toNat+1) step.size from fun e=>h18 (by rw[ae,au,show bc.toNat=i6.toNat+1 by omega];exact e))];rfl)
 rw[hr]at e
 simp only[Prod.mk.injEq]at e
 obtain⟨rfl,rfl,rfl,rfl⟩:=e
 refine hQ _ _ ?_
 exact .many (.inl rfl) rfl rfl (.d rfl rfl (.d rfl rfl (.d rfl rfl (.d rfl rfl (.nil)))))
 conv=>cbv
 refine .go2 (by kernel_rfl) ?_
 conv=>cbv
 have e:(s9,a1,0,false)=Cc step:=(by have hm:=Uh ag (L5 (n:=62) (show 0<step.size by omega) ac (by omega) (by decide)) (Su (s:=step) (i:=i6.toNat) (by omega) (by omega) (by omega) hb);have ai:ah=step.extract (i6.toNat+1) step.size:=(by rw[ad,show a2.toNat=i6.toNat+1 by omega]);rw[ai]at aa;rw[hm,ay,ao,aa,show az.toNat=i6.toNat+1 by omega,decide_eq_true (show step.extract 1 i6.toNat=step.extract (i6.toNat+1) step.size from by rw[ae,au,show bc.toNat=i6.toNat+1 by omega]at h18;exact h18)];rfl)
 rw[hr]at e
 simp only[Prod.mk.injEq]at e
 obtain⟨rfl,rfl,rfl,rfl⟩:=e
 refine hQ _ _ ?_
 exact .many (.inl rfl) rfl rfl (.d rfl rfl (.d rfl rfl (.d rfl rfl (.d rfl rfl (.nil)))))
 conv=>cbv
 refine .go i6.toNat fun hjv9 v9 bd bv9=>?_
 conv=>cbv
 refine .eql (fun h10=>?_) fun h10=>?_
 conv=>cbv
 refine .add fun a8 bp=>?_
 conv=>cbv
 refine .lo fun af aj=>?_
 conv=>cbv
 have bq:af.size≤step.size:=by rw[aj,ByteArray.size_extract];omega
 rcases ab:A7 af with⟨ap,be⟩
 refine .dd hP (Rl (by omega) ab) ?_
 conv=>cbv
 refine .lohi fun ba aq=>?_
 conv=>cbv
 cases be
 conv=>cbv
 refine .go2 (by kernel_rfl) ?_
 conv=>cbv
 have e:(ba,(tx []),ap,false)=Cc step:=(by have hm:=Ur ag (hh0.elim id fun h=>h.elim (fun h=>absurd h (Ky (n:=45) (show 0<step.size by omega) an (by omega) (by decide))) fun h=>absurd h (Ky (n:=62) (show 0<step.size by omega) ac (by omega) (by decide))) (Su (s:=step) (i:=i6.toNat) (by omega) (by omega) (by omega) hb);have ak:af=step.extract (i6.toNat+1) step.size:=(by rw[aj,show a8.toNat=i6.toNat+1 by omega]);rw[ak]at ab;rw[hm,aq,ab];rfl)
 rw[hr]at e
 simp only[Prod.mk.injEq]at e
 obtain⟨rfl,rfl,rfl,rfl⟩:=e
 refine hQ _ _ ?_
 exact .many (.inl rfl) rfl rfl (.d rfl rfl (.d rfl rfl (.d rfl rfl (.d rfl rfl (.nil)))))
 conv=>cbv
 refine .lohi fun a7 ae=>?_
 conv=>cbv
 have bt:a7.size≤step.size:=by rw[ae,ByteArray.size_extract];omega
 generalize al:Bl a7=bl
 refine .dd hP (Na (by omega) al) ?_
 cases bl
 conv=>cbv
 refine .go2 (by kernel_rfl) ?_
 conv=>cbv
 have e:(ba,(tx []),ap,false)=Cc step:=(by have hm:=Ur ag (hh0.elim id fun h=>h.elim (fun h=>absurd h (Ky (n:=45) (show 0<step.size by omega) an (by omega) (by decide))) fun h=>absurd h (Ky (n:=62) (show 0<step.size by omega) ac (by omega) (by decide))) (Su (s:=step) (i:=i6.toNat) (by omega) (by omega) (by omega) hb);have ak:af=step.extract (i6.toNat+1) step.size:=(by rw[aj,show a8.toNat=i6.toNat+1 by omega]);rw[ak]at ab;rw[ae]at al;have am:=(show Bl (step.extract 1 i6.toNat)=_ from al);rw[hm,aq,ab,am];rfl)
 rw[hr]at e
 simp only[Prod.mk.injEq]at e
 obtain⟨rfl,rfl,rfl,rfl⟩:=e
 refine hQ _ _ ?_
 exact .many (.inl rfl) rfl rfl (.d rfl rfl (.d rfl rfl (.d rfl rfl (.d rfl rfl (.nil)))))
 conv=>cbv
 refine .go2 (by kernel_rfl) ?_
 conv=>cbv
 have e:(ba,(tx []),ap,true)=Cc step:=(by have hm:=Ur ag (hh0.elim id fun h=>h.elim (fun h=>absurd h (Ky (n:=45) (show 0<step.size by omega) an (by omega) (by decide))) fun h=>absurd h (Ky (n:=62) (show 0<step.size by omega) ac (by omega) (by decide))) (Su (s:=step) (i:=i6.toNat) (by omega) (by omega) (by omega) hb);have ak:af=step.extract (i6.toNat+1) step.size:=(by rw[aj,show a8.toNat=i6.toNat+1 by omega]);rw[ak]at ab;rw[ae]at al;have am:=(show Bl (step.extract 1 i6.toNat)=_ from al);rw[hm,aq,ab,am];rfl)
 rw[hr]at e
 simp only[Prod.mk.injEq]at e
 obtain⟨rfl,rfl,rfl,rfl⟩:=e
 refine hQ _ _ ?_
 exact .many (.inl rfl) rfl rfl (.d rfl rfl (.d rfl rfl (.d rfl rfl (.d rfl rfl (.nil)))))
 exfalso;omega
 conv=>cbv
 refine .go i6.toNat fun hjv7 v7 ac bv7=>?_
 conv=>cbv
 refine .eql (fun h8=>?_) fun h8=>?_
 conv=>cbv
 refine .add fun v9 bd=>?_
 conv=>cbv
 refine .lo fun bf bg=>?_
 conv=>cbv
 have bu:bf.size≤step.size:=by rw[bg,ByteArray.size_extract];omega
 rcases bh:A7 bf with⟨ar,bi⟩
 refine .dd hP (Rl (by omega) bh) ?_
 conv=>cbv
 refine .lohi fun af aj=>?_
 conv=>cbv
 cases bi
 conv=>cbv
 refine .go2 (by kernel_rfl) ?_
 conv=>cbv
 have e:(af,(tx []),ar,false)=Cc step:=(by exfalso;omega)
 rw[hr]at e
 simp only[Prod.mk.injEq]at e
 obtain⟨rfl,rfl,rfl,rfl⟩:=e
 refine hQ _ _ ?_
 exact .many (.inl rfl) rfl rfl (.d rfl rfl (.d rfl rfl (.d rfl rfl (.d rfl rfl (.nil)))))
 conv=>cbv
 refine .lohi fun ah ad=>?_
 conv=>cbv
 have bb:ah.size≤step.size:=by rw[ad,ByteArray.size_extract];omega
 generalize aa:Bl ah=a6
 refine .dd hP (Na (by omega) aa) ?_
 cases a6
 conv=>cbv
 refine .go2 (by kernel_rfl) ?_
 conv=>cbv
 have e:(af,(tx []),ar,false)=Cc step:=(by exfalso;omega)
 rw[hr]at e
 simp only[Prod.mk.injEq]at e
 obtain⟨rfl,rfl,rfl,rfl⟩:=e
 refine hQ _ _ ?_
 exact .many (.inl rfl) rfl rfl (.d rfl rfl (.d rfl rfl (.d rfl rfl (.d rfl rfl (.nil)))))
 conv=>cbv
 refine .go2 (by kernel_rfl) ?_
 conv=>cbv
 have e:(af,(tx []),ar,true)=Cc step:=(by exfalso;omega)
 rw[hr]at e
 simp only[Prod.mk.injEq]at e
 obtain⟨rfl,rfl,rfl,rfl⟩:=e
 refine hQ _ _ ?_
 exact .many (.inl rfl) rfl rfl (.d rfl rfl (.d rfl rfl (.d rfl rfl (.d rfl rfl (.nil)))))
 conv=>cbv
 refine .add fun v9 bd=>?_
 conv=>cbv
 exact .go [] (v9) (bk _ ⟨by omega,by omega,fun j k1 k2 hj=>if e:j=i6.toNat then by subst e;omega else hb j k1 (by omega) hj⟩ mlt)
 conv=>cbv
 have e:((tx []),(tx []),0,false)=Cc step:=(by exact Zo ag hh0 (Ky (n:=45) (show 0<step.size by omega) an (by omega) (by decide)) (XkD fun j k1 hj=>hb j k1 (by omega) hj))
 rw[hr]at e
 simp only[Prod.mk.injEq]at e
 obtain⟨rfl,rfl,rfl,rfl⟩:=e
 refine hQ _ _ ?_
 exact .many (.inl rfl) rfl rfl (.d rfl rfl (.d rfl rfl (.d rfl rfl (.d rfl rfl (.nil)))))
end
section
open Go Go.Proofs
set_option maxRecDepth 20000
set_option maxHeartbeats 4000000
def XbH:List (Nat×TyRow):=[ty3,ty5,ty9,X1,XaK,Xc]
theorem XcE:Cb Tryz.prog XbH:=Cb.of (by kernel_rfl)
theorem XeS:Setup Tryz.prog XbH:=⟨XcE,mixed⟩
def Eu(l:List Ad)(s:ByteArray):List Ad×Bool:=
 if(Cc s).2.2.2=false∨Bl (Cc s).1=false∨(s.data.toList.head?≠some 43∧Eh l (Cc s).1=false)then([],false)
 else if s.data.toList.head?=some 43 then(Ek l ⟨(Cc s).1,(Cc s).2.2.1⟩,true)
 else if s.data.toList.head?=some 62 then(Ek (D0 l (Cc s).1) ⟨(Cc s).2.1,C2 l (Cc s).1⟩,true)
 else(D0 l (Cc s).1,true)
def C4:List Ad→List ByteArray→List Ad×Bool
 |now,[]=>(now,true)
 |now,s::ss=>if(Eu now s).2=false then([],false)else C4 (Eu now s).1 ss
def E3(old:List Ad)(steps:List ByteArray)(n:Int):List Ad×Bool:=C4 old (steps.take (Dv n 0 steps.length).toNat)
theorem Xjf{s a b:ByteArray}{c:Int}{d:Bool}(e:Cc s=(a,b,c,d)):(a.size≤s.size∧b.size≤s.size)∧(d=true→2≤s.size∧(s.data.toList.head?=some 43∨s.data.toList.head?=some 45∨s.data.toList.head?=some 62)):=by
 have hz:(s.extract 1 s.size).size≤s.size:=by rw[ByteArray.size_extract];omega
 obtain⟨x,y,z,hc⟩:∃x y z,Ld (s.extract 1 s.size)=(x,y,z):=⟨_,_,_,rfl⟩
 have hcb:=XhM hc
 have h0:(tx []).size≤s.size:=by rw[Bh];exact Nat.zero_le _
 unfold Cc at e
 rw[hc]at e
 by_cases h1:s.size<2∨(s.data.toList.head?≠some 43∧s.data.toList.head?≠some 45∧s.data.toList.head?≠some 62)
 ·rw[if_pos h1]at e
  simp only[Prod.mk.injEq]at e
  obtain⟨rfl,rfl,rfl,rfl⟩:=e
  exact⟨⟨h0,h0⟩,fun h=>by cases h⟩
 ·rw[if_neg h1]at e
  have hd:2≤s.size∧(s.data.toList.head?=some 43∨s.data.toList.head?=some 45∨s.data.toList.head?=some 62):=by
   refine⟨by omega,?_⟩
   by_cases k1:s.data.toList.head?=some 43
   ·exact .inl k1
   ·by_cases k2:s.data.toList.head?=some 45
    ·exact .inr (.inl k2)
    ·by_cases k3:s.data.toList.head?=some 62
     ·exact .inr (.inr k3)
     ·exact absurd (.inr ⟨k1,k2,k3⟩) h1
  refine⟨?_,fun _=>hd⟩
  split at e
  ·simp only[Prod.mk.injEq]at e
   obtain⟨rfl,rfl,_⟩:=e
   exact⟨hz,h0⟩
  ·split at e
   ·simp only[Prod.mk.injEq]at e
    obtain⟨rfl,rfl,_⟩:=e
    exact⟨h0,h0⟩
   ·split at e
    ·simp only[Prod.mk.injEq]at e
     obtain⟨rfl,rfl,_⟩:=e
     exact⟨by omega,by omega⟩
    ·simp only[Prod.mk.injEq]at e
     obtain⟨rfl,rfl,_⟩:=e
     exact⟨by omega,h0⟩
theorem Xa3(e:Ad):∀(l:List Ad) (b:Bool),(Uc e l b).length≤l.length+(if b=true then 0 else 1)
 |[],b=>by cases b<;>simp[Uc]
 |x::l,b=>by
  have ih:=Xa3 e l (b|| !(ltB x.name_ e.name_))
  unfold Uc
  rw[List.length_append,List.length_append,List.length_cons]
  cases b<;>cases h:ltB x.name_ e.name_<;>simp only[h,Bool.not_true,Bool.not_false,Bool.or_true,Bool.or_false,Bool.true_or,if_true,Bool.false_eq_true,if_false,true_and,false_and,reduceCtorEq]at ih⊢<;>split<;>simp<;>omega
theorem Gj{l o:List Ad}{e:Ad}(h:Ek l e=o):o.length≤l.length+1:=by
 rw[←h]
 exact Xa3 e l false
theorem I7{l o:List Ad}{n:ByteArray}(h:D0 l n=o):o.length≤l.length:=by
 rw[←h]
 exact List.length_filter_le _ _
theorem u8_h{s:ByteArray}{n:Nat}(h:0<s.size)(e:s.data.toList.head?=some (UInt8.ofNat n))(hn:n<256):(s[0]).toNat=n:=by
 rw[Lm h]at e
 rw[Option.some.inj e,UInt8.toNat_ofNat',Nat.mod_eq_of_lt (by omega)]
section
variable {l:List Ad} {s a b:ByteArray} {c:Int} {d:Bool}
theorem Fa(e:Cc s=(a,b,c,d))(h:d=false∨Bl a=false∨(s.data.toList.head?≠some 43∧Eh l a=false)):Eu l s=([],false):=by
 unfold Eu
 rw[e,if_pos h]
theorem Xw(e:Cc s=(a,b,c,true))(hn:Bl a=true)(h:s.data.toList.head?=some 43):Eu l s=(Ek l ⟨a,c⟩,true):=by
 unfold Eu
 rw[e,if_neg (by rw[hn,h];simp),if_pos h]
theorem Xn(e:Cc s=(a,b,c,true))(hn:Bl a=true)(hh:Eh l a=true)(h:s.data.toList.head?=some 62):Eu l s=(Ek (D0 l a) ⟨b,C2 l a⟩,true):=by
 unfold Eu
 rw[e,if_neg (by rw[hn,hh];simp),if_neg (by rw[h];decide),if_pos h]
theorem Uy(e:Cc s=(a,b,c,true))(hn:Bl a=true)(hh:Eh l a=true)(h:s.data.toList.head?=some 45):Eu l s=(D0 l a,true):=by
 unfold Eu
 rw[e,if_neg (by rw[hn,hh];simp),if_neg (by rw[h];decide),if_neg (by rw[h];decide)]
end
theorem W0{old:List Ad}{xold:List (List D)}{steps:List ByteArray}{xsteps:List (List D)}{n:Int}{oa:List Ad}{xoa:List (List D)}{ob:Bool}(hold:old.map Ac=xold)(hsteps:steps.map cS=xsteps)(hol:old.length≤1000000000)(hsl:steps.length≤1000000000)(hss:okS steps)(hr:E3 old steps n=(oa,ob))(hoa:oa.map Ac=xoa):Fn Tryz.prog 163 [.d (.row 2 xold),.d (.row 1 xsteps),I n] [] ⟨.tup [.d (.row 2 xoa),B ob],[],[]⟩:=by
 refine Fn.go XeS Tryz.func163 fun P hP Q hQ=>?_
 conv=>cbv
 refine .row0 hold fun df z1 c7 bz=>?_
 conv=>cbv
 refine .go hsteps fun v2 cn=>?_
 conv=>cbv
 generalize bu:Dv n 0 v2=r3
 refine .dd hP (Xc5 bu) ?_
 conv=>cbv
 have hbr:0≤r3∧r3≤steps.length:=by rw[←bu];unfold Dv;split<;>(try split)<;>omega
 refine .frz 2 [8] rfl rfl (by rw[←bz,List.length_map];first|omega|(simp;omega)) ?_
 refine LoopW.lp (κ:=(List (List D))×Int) XeS hP [] [1,2] (fun(aj,i9)=>[(8,.d (.row 2 aj)),(9,I i9)]) (fun(aj,i9)=>[])
  (fun(aj,i9)=>∃(u8:List Ad),u8.map Ac=aj∧0≤i9∧i9≤r3∧E3 old steps n=C4 u8 ((steps.take r3.toNat).drop i9.toNat)∧u8.length≤old.length+i9)
  (fun(aj,i9)=>(r3 - i9).toNat) (z1,0) ⟨old,bz,by omega,by omega,by unfold E3;rw[←cn,bu];rfl,by omega⟩ ⟨rfl,rfl,trivial⟩ rfl ?_
 rintro⟨aj,i9⟩ J ⟨u8,ab,h0,h1,hio,hun⟩ hJ
 conv=>cbv
 refine .lss (fun h4=>?_) fun h4=>?_
 conv=>cbv
 refine .go i9.toNat hsteps fun b0 e5 aa=>?_
 conv=>cbv
 have dg:e5.size≤1000000000:=aa▸hss _ (List.getElem_mem b0)
 have hdc:(steps.take r3.toNat).drop i9.toNat=e5::(steps.take r3.toNat).drop (i9.toNat+1):=by rw[List.drop_eq_getElem_cons (by rw[List.length_take];omega),List.getElem_take,←aa]
 rw[hdc]at hio
 rcases am:Cc e5 with⟨ag,bk,bl,co⟩
 refine .dd hP (XiT (by omega) am) ?_
 conv=>cbv
 have hlf:=Xjf am
 cases co
 conv=>cbv
 have e:([],false)=E3 old steps n:=(by rw[hio];show _=(if(Eu u8 e5).2=false then _ else _);rw[Fa am (.inl rfl)];rfl)
 rw[hr]at e
 simp only[Prod.mk.injEq]at e
 obtain⟨rfl,rfl⟩:=e
 refine hQ _ _ ?_
 exact .many (.inl rfl) rfl rfl (.ref rfl rfl (by rw[←hoa];rfl) (.d rfl rfl (.nil)))
 conv=>cbv
 obtain⟨h2z,hh0⟩:=hlf.2 rfl
 have h00:0<e5.size:=by omega
 have hh1:(e5[0]).toNat=43∨(e5[0]).toNat=45∨(e5[0]).toNat=62:=hh0.imp (fun h=>u8_h h00 h (by decide)) fun h=>h.imp (fun h=>u8_h h00 h (by decide)) fun h=>u8_h h00 h (by decide)
 generalize az:Bl ag=r7
 refine .dd hP (Na (by omega) az) ?_
 cases r7
 conv=>cbv
 have e:([],false)=E3 old steps n:=(by rw[hio];show _=(if(Eu u8 e5).2=false then _ else _);rw[Fa am (.inr (.inl az))];rfl)
 rw[hr]at e
 simp only[Prod.mk.injEq]at e
 obtain⟨rfl,rfl⟩:=e
 refine hQ _ _ ?_
 exact .many (.inl rfl) rfl rfl (.ref rfl rfl (by rw[←hoa];rfl) (.d rfl rfl (.nil)))
 conv=>cbv
 refine .go i9.toNat hsteps fun c8 e8 cp=>?_
 conv=>cbv
 obtain rfl:e5=e8:=aa.trans cp.symm
 refine .go 0 fun hjv9 v9 b2 bv9=>?_
 conv=>cbv
 refine .neq (fun h10=>?_) fun h10=>?_
 conv=>cbv
 generalize aw:Eh u8 ag=cq
 refine .dd hP (M3 ab (by omega) aw) ?_
 cases cq
 conv=>cbv
 have e:([],false)=E3 old steps n:=(by rw[hio];show _=(if(Eu u8 e5).2=false then _ else _);rw[Fa am (.inr (.inr ⟨(Ky (n:=43) h00 b2 (by omega) (by decide)),aw⟩))];rfl)
 rw[hr]at e
 simp only[Prod.mk.injEq]at e
 obtain⟨rfl,rfl⟩:=e
 refine hQ _ _ ?_
 exact .many (.inl rfl) rfl rfl (.ref rfl rfl (by rw[←hoa];rfl) (.d rfl rfl (.nil)))
 conv=>cbv
 refine .go i9.toNat hsteps fun cr ct b3=>?_
 conv=>cbv
 obtain rfl:e5=ct:=aa.trans b3.symm
 refine .go 0 fun hjv13 dh b4 bv13=>?_
 conv=>cbv
 refine .eql (fun h14=>?_) fun h14=>?_
 conv=>cbv
 generalize bn:C2 u8 ag=b5
 refine .dd hP (Mp ab (by omega) bn) ?_
 conv=>cbv
 refine .go i9.toNat hsteps fun cu cv b6=>?_
 conv=>cbv
 obtain rfl:e5=cv:=aa.trans b6.symm
 refine .go 0 fun hjv17 di c9 bv17=>?_
 conv=>cbv
 refine .neq (fun h18=>?_) fun h18=>?_
 conv=>cbv
 generalize a1:D0 u8 ag=b7
 have hln19:=I7 a1
 generalize a2:b7.map Ac=b8
 refine .dd hP (Mf ab (by omega) a1 a2) ?_
 conv=>cbv
 refine .go i9.toNat hsteps fun cw cx b9=>?_
 conv=>cbv
 obtain rfl:e5=cx:=aa.trans b9.symm
 refine .go 0 fun hjv21 al ax bv21=>?_
 conv=>cbv
 refine .neq (fun h22=>?_) fun h22=>?_
 conv=>cbv
 generalize a6:Ek b7 (⟨bk,b5⟩:Ad)=cy
 have hln23:=Gj a6
 generalize bo:cy.map Ac=ca
 refine .dd hP (Jg a2 (by omega) a6 bo) ?_
 conv=>cbv
 refine .add fun cb da=>?_
 conv=>cbv
 exact .go [] (ca,cb) (hJ _ ⟨_,bo,by omega,by omega,by rw[hio,show cb.toNat=i9.toNat+1 by omega];show(if(Eu u8 e5).2=false then _ else _)=_;rw[Xn am az aw (L5 (n:=62) h00 b4 (by omega) (by decide)),a1,bn,a6];rfl,by omega⟩ mlt)
 conv=>cbv
 refine .add fun au a7=>?_
 conv=>cbv
 exact .go [] (b8,au) (hJ _ ⟨_,a2,by omega,by omega,by exfalso;omega,by exfalso;omega⟩ mlt)
 conv=>cbv
 refine .go i9.toNat hsteps fun a8 ba an=>?_
 conv=>cbv
 obtain rfl:e5=ba:=aa.trans an.symm
 refine .go 0 fun hjv20 bm ay bv20=>?_
 conv=>cbv
 refine .neq (fun h21=>?_) fun h21=>?_
 conv=>cbv
 generalize ac:Ek u8 (⟨ag,b5⟩:Ad)=bb
 have hln22:=Gj ac
 generalize ad:bb.map Ac=ao
 refine .dd hP (Jg ab (by omega) ac ad) ?_
 conv=>cbv
 refine .add fun au a7=>?_
 conv=>cbv
 exact .go [] (ao,au) (hJ _ ⟨_,ad,by omega,by omega,by exfalso;omega,by exfalso;omega⟩ mlt)
 conv=>cbv
 refine .add fun ah ap=>?_
 conv=>cbv
 exact .go [] (aj,ah) (hJ _ ⟨_,ab,by omega,by omega,by exfalso;omega,by exfalso;omega⟩ mlt)
 conv=>cbv
 refine .go i9.toNat hsteps fun bv bw bc=>?_
 conv=>cbv
 obtain rfl:e5=bw:=aa.trans bc.symm
 refine .go 0 fun hjv16 cz cc bv16=>?_
 conv=>cbv
 refine .neq (fun h17=>?_) fun h17=>?_
 conv=>cbv
 generalize ak:D0 u8 ag=bd
 have hln18:=I7 ak
 generalize ai:bd.map Ac=be
 refine .dd hP (Mf ab (by omega) ak ai) ?_
 conv=>cbv
 refine .go i9.toNat hsteps fun a8 ba an=>?_
 conv=>cbv
 obtain rfl:e5=ba:=aa.trans an.symm
 refine .go 0 fun hjv20 bm ay bv20=>?_
 conv=>cbv
 refine .neq (fun h21=>?_) fun h21=>?_
 conv=>cbv
 generalize ac:Ek bd (⟨bk,bl⟩:Ad)=bb
 have hln22:=Gj ac
 generalize ad:bb.map Ac=ao
 refine .dd hP (Jg ai (by omega) ac ad) ?_
 conv=>cbv
 refine .add fun au a7=>?_
 conv=>cbv
 exact .go [] (ao,au) (hJ _ ⟨_,ad,by omega,by omega,by exfalso;omega,by exfalso;omega⟩ mlt)
 conv=>cbv
 refine .add fun ah ap=>?_
 conv=>cbv
 exact .go [] (be,ah) (hJ _ ⟨_,ai,by omega,by omega,by rw[hio,show ah.toNat=i9.toNat+1 by omega];show(if(Eu u8 e5).2=false then _ else _)=_;rw[Uy am az aw (L5 (n:=45) h00 ay (by omega) (by decide)),ak];rfl,by omega⟩ mlt)
 conv=>cbv
 refine .go i9.toNat hsteps fun bf bg aq=>?_
 conv=>cbv
 obtain rfl:e5=bg:=aa.trans aq.symm
 refine .go 0 fun hjv19 cd bp bv19=>?_
 conv=>cbv
 refine .neq (fun h20=>?_) fun h20=>?_
 conv=>cbv
 generalize ae:Ek u8 (⟨ag,bl⟩:Ad)=bh
 have hln21:=Gj ae
 generalize af:bh.map Ac=ar
 refine .dd hP (Jg ab (by omega) ae af) ?_
 conv=>cbv
 refine .add fun ah ap=>?_
 conv=>cbv
 exact .go [] (ar,ah) (hJ _ ⟨_,af,by omega,by omega,by exfalso;omega,by exfalso;omega⟩ mlt)
 conv=>cbv
 refine .add fun al ax=>?_
 conv=>cbv
 exact .go [] (aj,al) (hJ _ ⟨_,ab,by omega,by omega,by exfalso;omega,by exfalso;omega⟩ mlt)
 conv=>cbv
 refine .go i9.toNat hsteps fun c0 c1 ce=>?_
 conv=>cbv
 obtain rfl:e5=c1:=aa.trans ce.symm
 refine .go 0 fun hjv12 dj db bv12=>?_
 conv=>cbv
 refine .eql (fun h13=>?_) fun h13=>?_
 conv=>cbv
 generalize cf:C2 u8 ag=cg
 refine .dd hP (Mp ab (by omega) cf) ?_
 conv=>cbv
 refine .go i9.toNat hsteps fun bv bw bc=>?_
 conv=>cbv
 obtain rfl:e5=bw:=aa.trans bc.symm
 refine .go 0 fun hjv16 cz cc bv16=>?_
 conv=>cbv
 refine .neq (fun h17=>?_) fun h17=>?_
 conv=>cbv
 generalize ak:D0 u8 ag=bd
 have hln18:=I7 ak
 generalize ai:bd.map Ac=be
 refine .dd hP (Mf ab (by omega) ak ai) ?_
 conv=>cbv
 refine .go i9.toNat hsteps fun a8 ba an=>?_
 conv=>cbv
 obtain rfl:e5=ba:=aa.trans an.symm
 refine .go 0 fun hjv20 bm ay bv20=>?_
 conv=>cbv
 refine .neq (fun h21=>?_) fun h21=>?_
 conv=>cbv
 generalize ac:Ek bd (⟨bk,cg⟩:Ad)=bb
 have hln22:=Gj ac
 generalize ad:bb.map Ac=ao
 refine .dd hP (Jg ai (by omega) ac ad) ?_
 conv=>cbv
 refine .add fun au a7=>?_
 conv=>cbv
 exact .go [] (ao,au) (hJ _ ⟨_,ad,by omega,by omega,by exfalso;omega,by exfalso;omega⟩ mlt)
 conv=>cbv
 refine .add fun ah ap=>?_
 conv=>cbv
 exact .go [] (be,ah) (hJ _ ⟨_,ai,by omega,by omega,by exfalso;omega,by exfalso;omega⟩ mlt)
 conv=>cbv
 refine .go i9.toNat hsteps fun bf bg aq=>?_
 conv=>cbv
 obtain rfl:e5=bg:=aa.trans aq.symm
 refine .go 0 fun hjv19 cd bp bv19=>?_
 conv=>cbv
 refine .neq (fun h20=>?_) fun h20=>?_
 conv=>cbv
 generalize ae:Ek u8 (⟨ag,cg⟩:Ad)=bh
 have hln21:=Gj ae
 generalize af:bh.map Ac=ar
 refine .dd hP (Jg ab (by omega) ae af) ?_
 conv=>cbv
 refine .add fun ah ap=>?_
 conv=>cbv
 exact .go [] (ar,ah) (hJ _ ⟨_,af,by omega,by omega,by exfalso;omega,by exfalso;omega⟩ mlt)
 conv=>cbv
 refine .add fun al ax=>?_
 conv=>cbv
 exact .go [] (aj,al) (hJ _ ⟨_,ab,by omega,by omega,by exfalso;omega,by exfalso;omega⟩ mlt)
 conv=>cbv
 refine .go i9.toNat hsteps fun c2 c3 ch=>?_
 conv=>cbv
 obtain rfl:e5=c3:=aa.trans ch.symm
 refine .go 0 fun hjv15 dk dc bv15=>?_
 conv=>cbv
 refine .neq (fun h16=>?_) fun h16=>?_
 conv=>cbv
 generalize bq:D0 u8 ag=ci
 have hln17:=I7 bq
 generalize bi:ci.map Ac=cj
 refine .dd hP (Mf ab (by omega) bq bi) ?_
 conv=>cbv
 refine .go i9.toNat hsteps fun bf bg aq=>?_
 conv=>cbv
 obtain rfl:e5=bg:=aa.trans aq.symm
 refine .go 0 fun hjv19 cd bp bv19=>?_
 conv=>cbv
 refine .neq (fun h20=>?_) fun h20=>?_
 conv=>cbv
 generalize ae:Ek ci (⟨bk,bl⟩:Ad)=bh
 have hln21:=Gj ae
 generalize af:bh.map Ac=ar
 refine .dd hP (Jg bi (by omega) ae af) ?_
 conv=>cbv
 refine .add fun ah ap=>?_
 conv=>cbv
 exact .go [] (ar,ah) (hJ _ ⟨_,af,by omega,by omega,by exfalso;omega,by exfalso;omega⟩ mlt)
 conv=>cbv
 refine .add fun al ax=>?_
 conv=>cbv
 exact .go [] (cj,al) (hJ _ ⟨_,bi,by omega,by omega,by exfalso;omega,by exfalso;omega⟩ mlt)
 conv=>cbv
 refine .go i9.toNat hsteps fun c4 c5 ck=>?_
 conv=>cbv
 obtain rfl:e5=c5:=aa.trans ck.symm
 refine .go 0 fun hjv18 dl de bv18=>?_
 conv=>cbv
 refine .neq (fun h19=>?_) fun h19=>?_
 conv=>cbv
 generalize bj:Ek u8 (⟨ag,bl⟩:Ad)=c6
 have hln20:=Gj bj
 generalize bt:c6.map Ac=cm
 refine .dd hP (Jg ab (by omega) bj bt) ?_
 conv=>cbv
 refine .add fun al ax=>?_
 conv=>cbv
 exact .go [] (cm,al) (hJ _ ⟨_,bt,by omega,by omega,by rw[hio,show al.toNat=i9.toNat+1 by omega];show(if(Eu u8 e5).2=false then _ else _)=_;rw[Xw am az (L5 (n:=43) h00 b2 (by omega) (by decide)),bj];rfl,by omega⟩ mlt)
 conv=>cbv
 refine .add fun bm ay=>?_
 conv=>cbv
 exact .go [] (aj,bm) (hJ _ ⟨_,ab,by omega,by omega,by exfalso;omega,by exfalso;omega⟩ mlt)
 conv=>cbv
 have e:(u8,true)=E3 old steps n:=(by rw[hio,List.drop_of_length_le (by rw[List.length_take];omega)];rfl)
 rw[hr]at e
 simp only[Prod.mk.injEq]at e
 obtain⟨rfl,rfl⟩:=e
 refine hQ _ _ ?_
 exact .many (.inl rfl) rfl rfl (.d rfl (Bf ab hoa) (.d rfl rfl (.nil)))
end
section
open Go Go.Proofs
set_option maxRecDepth 20000
set_option maxHeartbeats 4000000
def U7:List (Nat×TyRow):=[ty3,ty9,X1,Xg9,XaK,W8,XaB]
theorem XbT:Cb Tryz.prog U7:=Cb.of (by kernel_rfl)
theorem XjT:Setup Tryz.prog U7:=⟨XbT,mixed⟩
theorem Xcr(a:List UInt8):Op.bytesLess a a=false:=by
 cases h:Op.bytesLess a a with
 |false=>rfl
 |true=>have:=M2 a a h;rw[h]at this;cases this
theorem Vv:∀a b c:List UInt8,Op.bytesLess a b=true→Op.bytesLess b c=true→Op.bytesLess a c=true
 |_,[],_,h,_=>by simp[Op.bytesLess]at h
 |_,_::_,[],_,h=>by simp[Op.bytesLess]at h
 |[],_::_,_::_,_,_=>by simp[Op.bytesLess]
 |a::x,b::y,c::z,h1,h2=>by
  simp only[Op.bytesLess,Bool.or_eq_true,decide_eq_true_eq,Bool.and_eq_true,beq_iff_eq]at h1 h2⊢
  rcases h1 with h1|⟨rfl,h1⟩
  ·rcases h2 with h2|⟨rfl,h2⟩
   ·exact .inl (UInt8.lt_trans h1 h2)
   ·exact .inl h1
  ·rcases h2 with h2|⟨rfl,h2⟩
   ·exact .inl h2
   ·exact .inr ⟨rfl,Vv x y z h1 h2⟩
theorem Ys(a:ByteArray):ltB a a=false:=Xcr _
theorem XcN{a b c:ByteArray}(h:ltB a b=true)(k:ltB b c=true):ltB a c=true:=Vv _ _ _ h k
theorem Xiw{a b:ByteArray}(h:ltB a b=true):a≠b:=by
 rintro rfl
 rw[Ys]at h
 cases h
theorem Xk5{a b:ByteArray}(h:ltB a b=false)(hn:a≠b):ltB b a=true:=by
 have:=XdG a b
 rw[h]at this
 simp only[Bool.not_false,Bool.true_eq,Bool.or_eq_true,decide_eq_true_eq]at this
 exact this.resolve_right fun e=>hn e.symm
def srt(l:List Ad):Prop:=l.Pairwise fun a b=>ltB a.name_ b.name_=true
theorem Xa5{α:Type}{p:α→Bool}{x:α}{l:List α}:Vr p (x::l)=if p x=true then 0 else if Vr p l<0 then -1 else Vr p l+1:=by
 unfold Vr
 rw[List.findIdx_cons]
 cases hp:p x with
 |true=>simp
 |false=>
  simp only[List.length_cons,cond_false,Bool.false_eq_true,if_false]
  by_cases h:l.findIdx p<l.length
  ·rw[if_pos (show l.findIdx p+1<l.length+1 by omega),if_pos h,if_neg (show¬(l.findIdx p:Int)<0 by omega)]
   omega
  ·rw[if_neg (show¬l.findIdx p+1<l.length+1 by omega),if_neg h,if_pos (by decide)]
theorem O3{x:Ad}{l:List Ad}{n:ByteArray}:Au (x::l) n=if x.name_=n then 0 else if Au l n<0 then -1 else Au l n+1:=by
 show Vr (fun e=>Cp e n) (x::l)=_
 rw[Xa5]
 unfold Cp
 simp only[decide_eq_true_eq]
 rfl
theorem Xav{l:List Ad}{n:ByteArray}: -1≤Au l n:=(I5 rfl).1
theorem XkH{l:List Ad}{n:ByteArray}(h:∀x∈l,x.name_≠n):Au l n<0:=by
 have hb:=Xav (l:=l) (n:=n)
 rcases Int.lt_or_le (Au l n) 0 with k|k
 ·exact k
 ·obtain⟨hi,hp⟩:=Ue (p:=fun e=>Cp e n) (rfl:Au l n=_) k
  unfold Cp at hp
  rw[decide_eq_true_eq]at hp
  exact absurd hp (h _ (List.getElem_mem hi))
theorem Zj{l:List Ad}{n:ByteArray}{i k:Int}(h:Au l n=k)(hk:0≤k):Ug l n i=l.set k.toNat ⟨(l.getD k.toNat ⟨tx [],0⟩).name_,i⟩:=by
 subst h
 exact if_pos hk
theorem Rt{l:List Ad}{n:ByteArray}{i k:Int}(h:Au l n<0)(hk:Ct l n=k):Ug l n i=I1 l (if k<0 then l.length else k) [⟨n,i⟩]:=by
 subst hk
 exact if_neg (by omega)
theorem XhR{x:Ad}{l:List Ad}{n:ByteArray}{i:Int}:Ug (x::l) n i=if x.name_=n then⟨n,i⟩::l else if Au l n<0∧K3 x n=true then⟨n,i⟩::x::l else x::Ug l n i:=by
 have hb:=Xav (l:=l) (n:=n)
 by_cases hx:x.name_=n
 ·rw[if_pos hx,Zj (k:=0) (by rw[O3,if_pos hx]) (by decide)]
  simp[hx]
 ·rw[if_neg hx]
  by_cases hp:Au l n<0
  ·have hpc:Au (x::l) n<0:=by rw[O3,if_neg hx,if_pos hp];decide
   have hc:Ct (x::l) n=if K3 x n=true then 0 else if Ct l n<0 then -1 else Ct l n+1:=Xa5 (p:=fun e=>K3 e n)
   by_cases h1:K3 x n=true
   ·rw[if_pos ⟨hp,h1⟩,Rt hpc (k:=0) (by rw[hc,if_pos h1]),if_neg (by decide)]
    simp[I1]
   ·rw[if_neg (fun h=>h1 h.2)]
    by_cases h2:Ct l n<0
    ·rw[Rt hpc (k:=-1) (by rw[hc,if_neg h1,if_pos h2]),if_pos (by decide),Rt hp rfl,if_pos h2]
     simp[I1]
    ·rw[Rt hpc (by rw[hc,if_neg h1,if_neg h2]),if_neg (by omega),Rt hp rfl,if_neg h2]
     unfold I1
     rw[show(Ct l n+1).toNat=(Ct l n).toNat+1 by omega]
     simp
  ·rw[if_neg (fun h=>hp h.1),Zj (k:=Au l n+1) (by rw[O3,if_neg hx,if_neg hp]) (by omega),Zj (l:=l) rfl (by omega),show(Au l n+1).toNat=(Au l n).toNat+1 by omega]
   simp
theorem Tc{e:Ad}:∀{l:List Ad},(∀x∈l,x.name_≠e.name_)→Uc e l true=l
 |[],_=>rfl
 |x::l,h=>by
  unfold Uc
  rw[if_neg (by simp),if_neg (h x List.mem_cons_self),Bool.true_or,Tc fun y hy=>h y (List.mem_cons_of_mem _ hy)]
  rfl
theorem Xcc{n:ByteArray}{i:Int}:∀{l:List Ad},srt l→Ek l ⟨n,i⟩=Ug l n i
 |[],_=>rfl
 |x::l,h=>by
  have hs:=List.pairwise_cons.1 h
  have ih:=Xcc (n:=n) (i:=i) hs.2
  unfold Ek at ih⊢
  rw[XhR]
  unfold Uc
  by_cases hx:x.name_=n
  ·rw[if_pos hx,hx,Ys,if_pos ⟨rfl,rfl⟩,if_pos rfl,Bool.not_false,Bool.or_true,Tc (fun y hy e=>by
    have:=hs.1 y hy
    rw[hx]at this
    exact Xiw this e.symm)]
   rfl
  ·rw[if_neg hx,if_neg hx]
   cases hl:ltB x.name_ n with
   |true=>
    rw[if_neg (by simp),if_neg (by unfold K3;rw[hl];simp),Bool.not_true,Bool.or_false,ih]
    rfl
   |false=>
    have hg:=Xk5 hl hx
    have hne:∀y∈l,y.name_≠n:=fun y hy e=>Xiw (XcN hg (hs.1 y hy)) e.symm
    rw[if_pos ⟨rfl,rfl⟩,if_pos ⟨XkH hne,by unfold K3;rw[hl,decide_eq_false hx];rfl⟩,Bool.not_false,Bool.or_true,Tc hne]
    rfl
theorem Vj{n:ByteArray}:∀{l:List Ad},srt l→0≤Au l n→D0 l n=l.eraseIdx (Au l n).toNat
 |[],_,h=>by
  exfalso
  have:Au [] n= -1:=rfl
  omega
 |x::l,h,hp=>by
  have hs:=List.pairwise_cons.1 h
  have hb:=Xav (l:=l) (n:=n)
  rw[O3]at hp⊢
  unfold D0
  rw[List.filter_cons]
  by_cases hx:x.name_=n
  ·rw[if_pos hx,decide_eq_true hx]
   have:l.filter (fun x=>!decide (x.name_=n))=l:=by
    rw[List.filter_eq_self]
    intro y hy
    rw[decide_eq_false]
    ·rfl
    ·rintro rfl
     exact Xiw (hs.1 y hy) hx
   simp[this]
  ·rw[if_neg hx]at hp⊢
   rw[decide_eq_false hx]
   by_cases h2:Au l n<0
   ·rw[if_pos h2]at hp;omega
   ·rw[if_neg h2,show(Au l n+1).toNat=(Au l n).toNat+1 by omega,List.eraseIdx_cons_succ,←Vj hs.2 (by omega)]
    rfl
theorem XhN{d:Aa}{l:List Ad}(h:Bi d l=true){i:Nat}(hi:i<l.length):Fr d l i=true:=by
 unfold Bi at h
 rw[Bool.and_eq_true]at h
 exact List.all_eq_true.1 h.1 i (List.mem_range.2 hi)
theorem XiX{d:Aa}{l:List Ad}(h:Bi d l=true){i:Nat}(hi:i+1<l.length):ltB l[i].name_ l[i+1].name_=true:=by
 have h1:=XhN h hi
 unfold Fr at h1
 rw[Xet hi rfl,show i+1 - 1=i by omega,Xet (show i<l.length by omega) rfl,decide_eq_false (show¬i+1=0 by omega),Bool.false_or,←XdG]at h1
 simp only[Bool.not_not,Bool.and_eq_true]at h1
 exact h1.1.1
theorem Xix{d:Aa}{l:List Ad}(h:Bi d l=true):srt l:=by
 have key:∀(k i:Nat) (hk:i+1+k<l.length),ltB l[i].name_ l[i+1+k].name_=true:=by
  intro k
  induction k with
  |zero=>intro i hk;exact XiX h hk
  |succ k ih=>intro i hk;exact XcN (ih i (by omega)) (XiX h (i:=i+1+k) (by omega))
 refine List.pairwise_iff_getElem.2 fun i j hi hj hij=>?_
 have:=key (j - i - 1) i (by omega)
 simpa only[show i+1+(j - i - 1)=j by omega]using this
theorem XfJ{l:List Ad}{n:ByteArray}(h:srt l):srt (D0 l n):=List.Pairwise.filter _ h
theorem V3{l:List Ad}{s:ByteArray}(h:srt l):Eu l s=At l s:=by
 by_cases hne:s=tx []
 ·subst hne
  rw[XeU rfl]
  exact Fa (a:=tx []) (b:=tx []) (c:=0) (d:=false) rfl (.inl rfl)
 have hp:=XeD hne
 have hhd:=Lm hp
 obtain⟨a,b,c,hc⟩:∃a b c,Ld (s.extract 1 s.size)=(a,b,c):=⟨_,_,_,rfl⟩
 have hlt2:c=true→2≤s.size:=by
  rintro rfl
  unfold Ld at hc
  split at hc
  ·rename_i h0
   have:=(Yi (rfl:Jw (s.extract 1 s.size)=_)).2
   rw[ByteArray.size_extract]at this
   omega
  ·simp at hc
 by_cases h43:s.data.toList.head?=some 43
 ·rw[Ms hne h43 hc]
  cases c with
  |false=>
   rw[if_pos (.inl rfl)]
   by_cases aa:s.size<2
   ·exact Fa (Xk (.inl aa)).symm (.inl rfl)
   ·exact Fa (Zo (by omega) (.inl h43) (by rw[h43];decide) (by rw[hc])).symm (.inl rfl)
  |true=>
   have hm:=Ur (hlt2 rfl) h43 hc
   cases hr:(A7 b).2 with
   |false=>rw[if_pos (.inr (.inl rfl))];exact Fa hm (.inl (by rw[hr];rfl))
   |true=>
    cases hn:Bl a with
    |false=>rw[if_pos (.inr (.inr rfl))];exact Fa hm (.inr (.inl hn))
    |true=>
     rw[if_neg (by simp)]
     rw[hr,hn]at hm
     rw[Xw hm hn h43,Xcc h]
 ·by_cases h45:s.data.toList.head?=some 45
  ·rw[Th hne h45]
   by_cases aa:s.size<2
   ·have e:s.extract 1 s.size=tx []:=by
     apply Mx
     rw[Du,List.drop_of_length_le (by rw[List.length_take,Array.length_toList];show min _ s.size≤1;omega)]
     rfl
    rw[Fa (Xk (.inl aa)).symm (.inl rfl),e]
    unfold Hi
    rw[if_pos (.inr (by decide))]
   ·have hm:=(Xci (by omega) h45).symm
    unfold Hi
    by_cases hpl:Au l (s.extract 1 s.size)<0
    ·rw[if_pos (.inl hpl)]
     exact Fa hm (.inr (.inr ⟨h43,by unfold Eh;rw[decide_eq_false_iff_not];omega⟩))
    ·cases hn:Bl (s.extract 1 s.size)with
     |false=>rw[if_pos (.inr rfl)];exact Fa hm (.inr (.inl hn))
     |true=>
      rw[if_neg (by rintro(k|k);exact hpl k;cases k),Uy hm hn (by unfold Eh;rw[decide_eq_true_eq];omega) h45,Vj h (by omega)]
      rfl
  ·by_cases h62:s.data.toList.head?=some 62
   ·rw[Kt hne h62 hc]
    cases c with
    |false=>
     rw[if_pos (.inl rfl)]
     by_cases aa:s.size<2
     ·exact Fa (Xk (.inl aa)).symm (.inl rfl)
     ·exact Fa (Zo (by omega) (.inr (.inr h62)) h45 (by rw[hc])).symm (.inl rfl)
    |true=>
     have hm:=Uh (hlt2 rfl) h62 hc
     cases hnb:Bl b with
     |false=>rw[if_pos (.inr (.inr (.inl rfl)))];exact Fa hm (.inl (by rw[hnb];rfl))
     |true=>
      by_cases hab:a=b
      ·rw[if_pos (.inr (.inr (.inr hab)))];exact Fa hm (.inl (by rw[hnb,decide_eq_true hab];rfl))
      ·rw[hnb,decide_eq_false hab]at hm
       by_cases hpl:Au l a<0
       ·have hd:Hi l a=([],false):=by unfold Hi;rw[if_pos (.inl hpl)]
        rw[hd,if_pos (.inr (.inl rfl))]
        exact Fa hm (.inr (.inr ⟨h43,by unfold Eh;rw[decide_eq_false_iff_not];omega⟩))
       ·cases hn:Bl a with
        |false=>
         have hd:Hi l a=([],false):=by unfold Hi;rw[if_pos (.inr hn)]
         rw[hd,if_pos (.inr (.inl rfl))]
         exact Fa hm (.inr (.inl hn))
        |true=>
         have hd:Hi l a=(D0 l a,true):=by unfold Hi;rw[if_neg (by rw[hn];rintro(k|k);exact hpl k;cases k),Vj h (by omega)];rfl
         rw[hd,if_neg (by simp;exact hab),Xn hm hn (by unfold Eh;rw[decide_eq_true_eq];omega) h62,Xcc (XfJ h)]
   ·rw[Xa7 hne hhd (fun e=>h43 (by rw[hhd,e])) (fun e=>h45 (by rw[hhd,e])) (fun e=>h62 (by rw[hhd,e]))]
    exact Fa (Xk (.inr ⟨h43,h45,h62⟩)).symm (.inl rfl)
def XbD(d:Aa)(k:Nat):Bool:=if(C4 d.old_ (d.steps_.take k)).2=true then Fu d (C4 d.old_ (d.steps_.take k)).1 (d.steps_.drop k)else false
theorem Xfy{s:ByteArray}:∀(l:List ByteArray) (now:List Ad),C4 now (l++[s])=if(C4 now l).2=true then(if(Eu (C4 now l).1 s).2=false then([],false)else Eu (C4 now l).1 s)else([],false)
 |[],now=>by
  show(if(Eu now s).2=false then _ else C4 (Eu now s).1 [])=if true=true then _ else _
  rw[if_pos rfl]
  cases h:Eu now s with
  |mk x b=>cases b<;>simp[C4,h]
 |y::l,now=>by
  show(if(Eu now y).2=false then _ else C4 (Eu now y).1 (l++[s]))=if(if(Eu now y).2=false then _ else C4 (Eu now y).1 l).2=true then _ else _
  by_cases h:(Eu now y).2=false
  ·rw[if_pos h,if_pos h,if_neg (by decide)]
  ·rw[if_neg h,if_neg h,Xfy l]
   have e:C4 now (y::l)=C4 (Eu now y).1 l:=if_neg h
   rw[e]
theorem Xe0{d:Aa}{k:Nat}{x:List Ad}(hk:k<d.steps_.length)(h:C4 d.old_ (d.steps_.take k)=(x,true))(hr:Bi d x=true):C4 d.old_ (d.steps_.take (k+1))=if(At x d.steps_[k]).2=false then([],false)else At x d.steps_[k]:=by
 rw[List.take_succ_eq_append_getElem hk,Xfy,h,if_pos rfl,V3 (Xix hr)]
theorem Xf8{d:Aa}{k:Nat}{x:List Ad}(hk:k<d.steps_.length)(h:C4 d.old_ (d.steps_.take k)=(x,true))(hr:Bi d x=true):XbD d (k+1)=XbD d k:=by
 obtain⟨y,b,hy⟩:∃y b,At x d.steps_[k]=(y,b):=⟨_,_,rfl⟩
 unfold XbD
 rw[Xe0 hk h hr,h,if_pos (show(x,true).2=true from rfl),List.drop_eq_getElem_cons hk]
 show _=(Bi d x&&(At x d.steps_[k]).2&&Fu d (At x d.steps_[k]).1 _)
 rw[hr,hy]
 cases b<;>rfl
theorem Xco{old:List Ad}{steps:List ByteArray}{k:Int}(h0:0≤k)(h1:k≤steps.length):E3 old steps k=C4 old (steps.take k.toNat):=by
 unfold E3
 rw[show Dv k 0 steps.length=k from by unfold Dv;split<;>(try split)<;>(try split)<;>omega]
def Xkz(d:Aa)(k:Nat):Prop:=Fu d d.old_ d.steps_=XbD d k∧okL (C4 d.old_ (d.steps_.take k)).1∧(C4 d.old_ (d.steps_.take k)).1.length≤1000000000
theorem Xgo{d:Aa}(hd:La d):Xkz d 0:=⟨rfl,hd.2.1,hd.1.2.2.2.2.1⟩
theorem XgI{d:Aa}(hd:La d){k:Nat}{x:List Ad}(hq:Xkz d k)(hk:k<d.steps_.length)(h:C4 d.old_ (d.steps_.take k)=(x,true))(hr:Bi d x=true):Xkz d (k+1):=by
 obtain⟨h1,h2,h3⟩:=hq
 have hx:=Zm hr
 rw[h]at h2 h3
 refine⟨by rw[h1,Xf8 hk h hr],?_⟩
 rw[Xe0 hk h hr]
 obtain⟨y,b,hy⟩:∃y b,At x d.steps_[k]=(y,b):=⟨_,_,rfl⟩
 have hl:=Q4 hy
 have ho:=Y8 h2 (hd.2.2 _ (List.getElem_mem hk)) hy
 rw[hy]
 cases b
 ·exact⟨fun e he=>(by cases he),Nat.zero_le _⟩
 ·exact⟨ho,by show y.length≤_;omega⟩
theorem Om:Setup Tryz.prog ((3000007,Ex Tryz.prog 3000007)::((3000001,Ex Tryz.prog 3000001)::U7)):=(Setup.mark 3000007 (Setup.mark 3000001 XjT))
theorem Pq{Ae:List Be}{A3:List (List D)}{Ag:List Ad}{A2:List (List D)}{Ah:List Ad}{A1:List (List D)}{Af:List ByteArray}{A4:List (List D)}{Aj:Int}{Ai:Int}{o:Bool}(Ak:Ae.map A8=A3)(Al:Ag.map Ac=A2)(Ao:Ah.map Ac=A1)(An:Af.map cS=A4)(ac:La ⟨Ae,Ag,Ah,Af,Aj,Ai⟩)(hr:Bw (⟨Ae,Ag,Ah,Af,Aj,Ai⟩:Aa)=o):Fn Tryz.prog 84 [.agg [.d (.row 3 A3),.d (.row 2 A2),.d (.row 2 A1),.d (.row 1 A4),I Aj,I Ai]] [] ⟨B o,[],[]⟩:=by
 refine Fn.go Om Tryz.func84 fun P hP Q hQ=>?_
 conv=>cbv
 refine .go Ak fun v1 bl=>?_
 conv=>cbv
 have hdo:Ah.length≤1000000000:=ac.1.2.2.2.2.1
 have hds:Af.length≤1000000000:=ac.1.2.2.2.2.2
 refine .gtr (fun h2=>?_) fun h2=>?_
 conv=>cbv
 refine .go2 (by kernel_rfl) ?_
 conv=>cbv
 have e:false=Bw (⟨Ae,Ag,Ah,Af,Aj,Ai⟩:Aa):=(by exact D6 fun h=>by rw[diskOk_iff]at h;have:=h.2.2.1;unfold Er at this;rw[decide_eq_false (by simp only[];omega),Bool.and_false]at this;cases this)
 rw[hr]at e
 subst e
 exact hQ _ _ (.b rfl rfl)
 conv=>cbv
 generalize af:A6 Aj 0 1000000000=r3
 refine .dd hP (Dr af) ?_
 cases r3
 simp only[A6,decide_eq_true_eq,decide_eq_false_iff_not]at af
 conv=>cbv
 refine .go2 (by kernel_rfl) ?_
 conv=>cbv
 have e:false=Bw (⟨Ae,Ag,Ah,Af,Aj,Ai⟩:Aa):=(by exact D6 fun h=>by rw[diskOk_iff]at h;exact af h.1)
 rw[hr]at e
 subst e
 exact hQ _ _ (.b rfl rfl)
 simp only[A6,decide_eq_true_eq,decide_eq_false_iff_not]at af
 conv=>cbv
 generalize ag:A6 Ai 1 1000000000=r4
 refine .dd hP (Dr ag) ?_
 cases r4
 simp only[A6,decide_eq_true_eq,decide_eq_false_iff_not]at ag
 conv=>cbv
 refine .go2 (by kernel_rfl) ?_
 conv=>cbv
 have e:false=Bw (⟨Ae,Ag,Ah,Af,Aj,Ai⟩:Aa):=(by exact D6 fun h=>by rw[diskOk_iff]at h;exact ag h.2.1)
 rw[hr]at e
 subst e
 exact hQ _ _ (.b rfl rfl)
 simp only[A6,decide_eq_true_eq,decide_eq_false_iff_not]at ag
 conv=>cbv
 generalize aq:F3 (⟨Ae,Ag,Ah,Af,Aj,Ai⟩:Aa)=r5
 refine .dd hP (XeF Ak Al Ao An ac.1 aq) ?_
 conv=>cbv
 refine .gtr (fun h6=>?_) fun h6=>?_
 conv=>cbv
 refine .go2 (by kernel_rfl) ?_
 conv=>cbv
 have e:false=Bw (⟨Ae,Ag,Ah,Af,Aj,Ai⟩:Aa):=(by exact D6 fun h=>by rw[diskOk_iff]at h;have:=h.2.2.2.1;rw[aq]at this;simp only[]at this;omega)
 rw[hr]at e
 subst e
 exact hQ _ _ (.b rfl rfl)
 conv=>cbv
 refine .go2 (by kernel_rfl) ?_
 conv=>cbv
 refine LoopW.lp (κ:=Int) Om hP [] [1] (fun i3=>[(3,I i3)]) (fun i3=>[])
  (fun i3=>0≤i3∧i3≤Ae.length∧∀j:Nat,j<i3.toNat→E7 (⟨Ae,Ag,Ah,Af,Aj,Ai⟩:Aa) j=true)
  (fun i3=>(Ae.length - i3).toNat) (0) ⟨by omega,by omega,fun j h=>by simp at h⟩ ⟨rfl,trivial⟩ rfl ?_
 rintro i3 J ⟨h0,h1,hb⟩ hJ
 have bm:Ae.length≤1000000000:=ac.1.1
 conv=>cbv
 refine .go Ak fun v7 bn=>?_
 conv=>cbv
 refine .lss (fun h8=>?_) fun h8=>?_
 conv=>cbv
 refine .go i3.toNat Ak fun ad ⟨aw,a7,ah⟩ a8=>?_
 conv=>cbv
 refine .sub fun ba bj=>?_
 conv=>cbv
 have hnd:=XjH (d:=(⟨Ae,Ag,Ah,Af,Aj,Ai⟩:Aa)) ad a8
 generalize ab:A6 aw 1 ba=bb
 refine .dd hP (Dr ab) ?_
 cases bb
 simp only[A6,decide_eq_true_eq,decide_eq_false_iff_not]at ab
 conv=>cbv
 refine .go2 (by kernel_rfl) ?_
 conv=>cbv
 have e:false=Bw (⟨Ae,Ag,Ah,Af,Aj,Ai⟩:Aa):=(by exact D6 fun h=>by rw[diskOk_iff]at h;have h3:=h.2.2.1;rw[←Kg (d:=(⟨Ae,Ag,Ah,Af,Aj,Ai⟩:Aa)) ad (by unfold E7;rw[decide_eq_false_iff_not,hnd];simp only[];omega)]at h3;cases h3)
 rw[hr]at e
 subst e
 exact hQ _ _ (.b rfl rfl)
 simp only[A6,decide_eq_true_eq,decide_eq_false_iff_not]at ab
 conv=>cbv
 refine .gtr (fun h12=>?_) fun h12=>?_
 conv=>cbv
 refine .sub fun ai ao=>?_
 conv=>cbv
 refine .go ai.toNat Ak fun ar ⟨bc,a2,a6⟩ ax=>?_
 conv=>cbv
 have hpd:=XjH (d:=(⟨Ae,Ag,Ah,Af,Aj,Ai⟩:Aa)) ar ax
 rw[show ai.toNat=i3.toNat - 1 by omega]at hpd
 refine .geq (fun h15=>?_) fun h15=>?_
 conv=>cbv
 refine .go2 (by kernel_rfl) ?_
 conv=>cbv
 have e:false=Bw (⟨Ae,Ag,Ah,Af,Aj,Ai⟩:Aa):=(by exact D6 fun h=>by rw[diskOk_iff]at h;have h3:=h.2.2.1;rw[←Kg (d:=(⟨Ae,Ag,Ah,Af,Aj,Ai⟩:Aa)) ad (by unfold E7;rw[decide_eq_false_iff_not,hnd];simp only[];rw[hpd];simp only[];omega)]at h3;cases h3)
 rw[hr]at e
 subst e
 exact hQ _ _ (.b rfl rfl)
 conv=>cbv
 refine .go fun au ay=>?_
 conv=>cbv
 generalize aj:A6 ah 0 au=bd
 refine .dd hP (Dr aj) ?_
 cases bd
 simp only[A6,decide_eq_true_eq,decide_eq_false_iff_not]at aj
 conv=>cbv
 refine .go2 (by kernel_rfl) ?_
 conv=>cbv
 have e:false=Bw (⟨Ae,Ag,Ah,Af,Aj,Ai⟩:Aa):=(by exact D6 fun h=>by rw[diskOk_iff]at h;have h3:=h.2.2.1;rw[←Kg (d:=(⟨Ae,Ag,Ah,Af,Aj,Ai⟩:Aa)) ad (by unfold E7;rw[decide_eq_false_iff_not,hnd];simp only[];omega)]at h3;cases h3)
 rw[hr]at e
 subst e
 exact hQ _ _ (.b rfl rfl)
 simp only[A6,decide_eq_true_eq,decide_eq_false_iff_not]at aj
 conv=>cbv
 refine .go2 (by kernel_rfl) ?_
 conv=>cbv
 refine .add fun be bk=>?_
 conv=>cbv
 exact .go [] (be) (hJ _ ⟨by omega,by omega,fun j h=>if e:j=i3.toNat then by subst e;unfold E7;rw[decide_eq_true_eq,hnd,hpd];simp only[];omega else hb j (by omega)⟩ mlt)
 conv=>cbv
 refine .go fun ai ao=>?_
 conv=>cbv
 generalize ak:A6 ah 0 ai=bf
 refine .dd hP (Dr ak) ?_
 cases bf
 simp only[A6,decide_eq_true_eq,decide_eq_false_iff_not]at ak
 conv=>cbv
 refine .go2 (by kernel_rfl) ?_
 conv=>cbv
 have e:false=Bw (⟨Ae,Ag,Ah,Af,Aj,Ai⟩:Aa):=(by exact D6 fun h=>by rw[diskOk_iff]at h;have h3:=h.2.2.1;rw[←Kg (d:=(⟨Ae,Ag,Ah,Af,Aj,Ai⟩:Aa)) ad (by unfold E7;rw[decide_eq_false_iff_not,hnd];simp only[];omega)]at h3;cases h3)
 rw[hr]at e
 subst e
 exact hQ _ _ (.b rfl rfl)
 simp only[A6,decide_eq_true_eq,decide_eq_false_iff_not]at ak
 conv=>cbv
 refine .go2 (by kernel_rfl) ?_
 conv=>cbv
 refine .add fun an az=>?_
 conv=>cbv
 exact .go [] (an) (hJ _ ⟨by omega,by omega,fun j h=>if e:j=i3.toNat then by subst e;unfold E7;rw[decide_eq_true_eq,hnd];simp only[];omega else hb j (by omega)⟩ mlt)
 conv=>cbv
 refine LoopW.lp (κ:=Int) Om hP [] [1] (fun i5=>[(5,I i5)]) (fun i5=>[])
  (fun i5=>0≤i5∧i5≤Af.length+1∧(i5≤Af.length→Xkz (⟨Ae,Ag,Ah,Af,Aj,Ai⟩:Aa) i5.toNat)∧(i5=Af.length+1→Fu (⟨Ae,Ag,Ah,Af,Aj,Ai⟩:Aa) Ah Af=true))
  (fun i5=>(Af.length+1 - i5).toNat) (0) ⟨by omega,by omega,fun _=>Xgo ac,fun h=>by omega⟩ ⟨rfl,trivial⟩ rfl ?_
 rintro i5 J1 ⟨k0,k1,hQk,hQe⟩ a1
 conv=>cbv
 refine .go An fun v9 bo=>?_
 conv=>cbv
 refine .leq (fun h10=>?_) fun h10=>?_
 conv=>cbv
 have hq:=hQk (by omega)
 have hS0:=Xco (old:=Ah) (steps:=Af) (k:=i5) (by omega) (by omega)
 rcases ab:E3 Ah Af i5 with⟨aa,ap⟩
 generalize ae:aa.map Ac=bg
 refine .dd hP (W0 Ao An (by omega) (by omega) ac.2.2 ab ae) ?_
 conv=>cbv
 have hS:C4 Ah (Af.take i5.toNat)=(aa,ap):=hS0.symm.trans ab
 have hul:okL aa:=by have:=hq.2.1;simp only[]at this;rw[hS]at this;exact this
 have hun:aa.length≤1000000000:=by have:=hq.2.2;simp only[]at this;rw[hS]at this;exact this
 cases ap
 conv=>cbv
 have e:false=Bw (⟨Ae,Ag,Ah,Af,Aj,Ai⟩:Aa):=(by exact D6 fun h=>by rw[diskOk_iff]at h;have hk:=h.2.2.2.2;simp only[]at hk;rw[hq.1]at hk;unfold XbD at hk;simp only[]at hk;rw[hS]at hk;cases hk)
 rw[hr]at e
 subst e
 exact hQ _ _ (.b rfl rfl)
 conv=>cbv
 generalize al:H2 (⟨Ae,Ag,Ah,Af,Aj,Ai⟩:Aa) aa=bh
 refine .dd hP (XaZ Ak Al Ao An ae ac.1 hul (by omega) al) ?_
 cases bh
 conv=>cbv
 have e:false=Bw (⟨Ae,Ag,Ah,Af,Aj,Ai⟩:Aa):=(by exact D6 fun h=>by rw[diskOk_iff]at h;have hk:=h.2.2.2.2;simp only[]at hk;rw[hq.1]at hk;unfold XbD at hk;simp only[]at hk;rw[hS]at hk;rw[if_pos rfl,Xj (show Bi _ aa=false from al)]at hk;cases hk)
 rw[hr]at e
 subst e
 exact hQ _ _ (.b rfl rfl)
 conv=>cbv
 have hre:Bi (⟨Ae,Ag,Ah,Af,Aj,Ai⟩:Aa) aa=true:=al
 refine .go An fun ai ao=>?_
 conv=>cbv
 refine .eql (fun h14=>?_) fun h14=>?_
 conv=>cbv
 generalize am:Lp aa Ag=bi
 refine .dd hP (Xio ae Al (by omega) am) ?_
 cases bi
 conv=>cbv
 have e:false=Bw (⟨Ae,Ag,Ah,Af,Aj,Ai⟩:Aa):=(by exact D6 fun h=>by rw[diskOk_iff]at h;have hk:=h.2.2.2.2;simp only[]at hk;rw[hq.1]at hk;unfold XbD at hk;simp only[]at hk;rw[hS]at hk;rw[if_pos rfl,List.drop_of_length_le (by omega)]at hk;unfold Fu at hk;rw[show Gf aa _=false from am,Bool.and_false]at hk;cases hk)
 rw[hr]at e
 subst e
 exact hQ _ _ (.b rfl rfl)
 conv=>cbv
 refine .add fun au ay=>?_
 conv=>cbv
 exact .go [] (au) (a1 _ ⟨by omega,by omega,fun h=>by omega,fun _=>by have:=hq.1;simp only[]at this;rw[this];unfold XbD;simp only[];rw[hS,List.drop_of_length_le (by omega),if_pos rfl];show(Bi _ aa&&Gf aa Ag)=true;rw[hre,show Gf aa Ag=true from am];rfl⟩ mlt)
 conv=>cbv
 refine .add fun an az=>?_
 conv=>cbv
 exact .go [] (an) (a1 _ ⟨by omega,by omega,fun h=>by rw[show an.toNat=i5.toNat+1 by omega];exact XgI ac hq (by simp only[];omega) hS hre,fun h=>by omega⟩ mlt)
 conv=>cbv
 have e:true=Bw (⟨Ae,Ag,Ah,Af,Aj,Ai⟩:Aa):=(by symm;rw[diskOk_iff];exact⟨af,ag,(Uv (d:=(⟨Ae,Ag,Ah,Af,Aj,Ai⟩:Aa)) (fun j hj=>hb j (by simp only[]at hj;omega)) (by symm;rw[decide_eq_true_eq];simp only[];omega)).symm,by rw[aq];exact h6,hQe (by omega)⟩)
 rw[hr]at e
 subst e
 exact hQ _ _ (.b rfl rfl)
end
section
open Go Go.Proofs
set_option maxRecDepth 20000
set_option maxHeartbeats 4000000
def XaP:List (Nat×TyRow):=[ty3,Xg9,XaB,Xmq]
theorem XbZ:Cb Tryz.prog XaP:=Cb.of (by kernel_rfl)
theorem Sd:Setup Tryz.prog XaP:=⟨XbZ,mixed⟩
def E9(x:Be)(used:List Int):Bool:=!decide (x.id_∈used)
variable {used:List Int} {l:List Be} {xl:List (List D)} {nl:Nat}
theorem P6{xid:Int}{xtex:ByteArray}{xsur:Int}{o:Bool}(hr:E9 (⟨xid,xtex,xsur⟩:Be) used=o):Fn Tryz.prog 329 [.agg [I xid,S xtex,I xsur],.ptr 0 0 0] [.box 256 [.ptr 1 0 0],.map used] ⟨B o,[],[]⟩:=by
 refine Fn.goR Sd Tryz.func329 fun P hP Q hQ=>?_
 conv=>cbv
 refine .go hP Tryz.underlying256 (by kernel_rfl) (by kernel_rfl) (by kernel_rfl) fun b1 aa=>?_
 conv=>cbv
 cases b1
 conv=>cbv
 have e:true=E9 (⟨xid,xtex,xsur⟩:Be) used:=(by unfold E9;simp[←aa])
 rw[hr]at e
 subst e
 exact hQ _ _ (.of [] (.inl rfl) rfl rfl rfl rfl)
 conv=>cbv
 have e:false=E9 (⟨xid,xtex,xsur⟩:Be) used:=(by unfold E9;simp[←aa])
 rw[hr]at e
 subst e
 exact hQ _ _ (.of [] (.inl rfl) rfl rfl rfl rfl)
def Gm(l:List Be)(used:List Int):Int:=Vr (fun x=>E9 x used) l
theorem Qu{o:Int}(hl:l.map A8=xl)(hnl:nl=l.length)(hn:l.length<2^40)(hr:Gm l used=o):Fn Tryz.prog 302 [.ref 0 0 nl,.clo 329 [.ptr 1 0 0]] [.row 3 false xl,.box 256 [.ptr 2 0 0],.map used] ⟨I o,[],[]⟩:=by
 refine Fn.goR Sd Tryz.func302 fun P hP Q hQ=>?_
 conv=>cbv
 refine .go fun v1 ai=>?_
 conv=>cbv
 refine LoopW.lp (κ:=Int) Sd hP [] [0,1,7] (fun i8=>[(8,I i8)]) (fun i8=>[])
  (fun i8=>0≤i8∧i8≤l.length∧∀(j:Nat) (hj:j<l.length),j<i8.toNat→E9 l[j] used=false)
  (fun i8=>(l.length - i8).toNat) (0) ⟨by omega,by omega,fun j _ h=>by simp at h⟩ ⟨rfl,trivial⟩ rfl ?_
 rintro i8 J ⟨h0,h1,hb⟩ hJ
 conv=>cbv
 refine .lss (fun h2=>?_) fun h2=>?_
 conv=>cbv
 refine .go i8.toNat fun p3 af ag=>?_
 conv=>cbv
 refine .go hl fun ah ⟨ad,aa,ab⟩ ae=>?_
 conv=>cbv
 subst af
 generalize ac:E9 (⟨ad,aa,ab⟩:Be) used=r5
 refine .bx [1,2] [2] hP (P6 ac) rfl rfl rfl rfl ?_
 cases r5
 conv=>cbv
 refine .add fun v6 aj=>?_
 conv=>cbv
 exact .go [] (v6) (hJ _ ⟨by omega,by omega,fun j hj h=>if e:j=i8.toNat then by subst e;rw[←ae];exact ac else hb j hj (by omega)⟩ mlt)
 conv=>cbv
 have e:i8=Gm l used:=(by exact Mw (p:=fun x=>E9 x used) h0 (by omega) (by rw[←ae];exact ac) hb)
 rw[hr]at e
 subst e
 exact hQ _ _ (.of [] (.inl rfl) rfl rfl rfl rfl)
 conv=>cbv
 have e:(-1)=Gm l used:=(by exact Ik (p:=fun x=>E9 x used) fun j hj=>hb j hj (by omega))
 rw[hr]at e
 subst e
 exact hQ _ _ (.of [] (.inl rfl) rfl rfl rfl rfl)
def Gd(l:List Be)(used:List Int):List Be:=l.filter (fun x=>!E9 x used)
theorem Pv{o:List Be}{xf:List (List D)}{no:Nat}(hl:l.map A8=xl)(hnl:nl=l.length)(hn:l.length<2^40)(hr:Gd l used=o)(hf:(o++List.replicate (l.length - o.length) (⟨0,tx [],0⟩:Be)).map A8=xf)(hno:no=o.length):Fn Tryz.prog 328 [.ref 0 0 nl,.clo 329 [.ptr 1 0 0]] [.row 3 false xl,.box 256 [.ptr 2 0 0],.map used] ⟨.ref 0 0 no,[],[(0,.row 3 false xf)]⟩:=by
 refine Fn.goR Sd Tryz.func328 fun P hP Q hQ=>?_
 conv=>cbv
 generalize af:Gm l used=r1
 refine .bx [0,1,2] [2] hP (Qu hl (by first|rfl|omega|(simp;omega)) hn af) rfl rfl rfl rfl ?_
 conv=>cbv
 refine .eql (fun h2=>?_) fun h2=>?_
 conv=>cbv
 have e:l=o:=by rw[←hr];unfold Gd;symm;rw[List.filter_eq_self];intro x hx;rw[XdW (p:=fun x=>E9 x used) af (by omega) x hx];rfl
 subst e
 obtain rfl:xl=xf:=by rw[←hl,←hf];simp
 obtain rfl:nl=no:=by omega
 exact hQ _ _ (.of [] (.inl rfl) rfl rfl rfl rfl)
 conv=>cbv
 have hd:=XhC (p:=fun x=>E9 x used) af h2
 refine .add fun v3 am=>?_
 conv=>cbv
 refine LoopW.lp (κ:=Int×Int×(List (List D))) Sd hP [] [0,1] (fun(i5,i6,aa)=>[(5,I i5),(6,I i6)]) (fun(i5,i6,aa)=>[(0,.row 3 false aa)])
  (fun(i5,i6,aa)=>∃(w0:List Be),w0.map A8=aa∧(0≤i5∧i5<i6∧i6≤l.length)∧w0.length=l.length∧w0.take i5.toNat=(l.take i6.toNat).filter (fun x=>!E9 x used)∧w0.drop i6.toNat=l.drop i6.toNat)
  (fun(i5,i6,aa)=>(l.length - i6).toNat) (r1,v3,xl) ⟨l,hl,by omega,rfl,by rw[hd.2.2,am],rfl⟩ ⟨rfl,rfl,trivial⟩ rfl ?_
 rintro⟨i5,i6,aa⟩ J ⟨w0,ae,hb,hwl,hwt,hwd⟩ hJ
 conv=>cbv
 refine .go fun v4 az=>?_
 conv=>cbv
 refine .lss (fun h5=>?_) fun h5=>?_
 conv=>cbv
 refine .go i6.toNat fun p6 an au=>?_
 conv=>cbv
 refine .go ae fun aj ⟨ad,ab,ac⟩ ao=>?_
 conv=>cbv
 subst an
 have ag:(⟨ad,ab,ac⟩:Be)=l[i6.toNat]:=ao.trans (Xl7 aj (by omega) hwd)
 generalize ah:E9 (⟨ad,ab,ac⟩:Be) used=r8
 refine .bx [1,2] [2] hP (P6 ah) rfl rfl rfl rfl ?_
 cases r8
 conv=>cbv
 refine .go i5.toNat fun p9 ap aw=>?_
 conv=>cbv
 refine .all ((⟨ad,ab,ac⟩:Be)) ae rfl fun aq ak=>?_
 conv=>cbv
 refine .add fun al ax=>?_
 conv=>cbv
 refine .add fun ai ay=>?_
 conv=>cbv
 have hk:=Xiv (i:=i5.toNat) (p:=fun x=>E9 x used) (show i6.toNat<l.length by omega) (by omega) hwl hwt hwd (by rw[←ag];exact ah)
 rw[←ag]at hk
 subst ap
 exact .go [] (al,ai,aq) (hJ _ ⟨_,ak,by omega,by rw[List.length_set];exact hwl,by rw[show al.toNat=i5.toNat+1 by omega,show ai.toNat=i6.toNat+1 by omega];exact hk.1,by rw[show ai.toNat=i6.toNat+1 by omega];exact hk.2⟩ mlt)
 conv=>cbv
 refine .add fun v9 a1=>?_
 conv=>cbv
 have hk:=Xir (p:=fun x=>E9 x used) (show i6.toNat<l.length by omega) hwt hwd (by rw[←ag];exact ah)
 exact .go [] (i5,v9,aa) (hJ _ ⟨_,ae,by omega,hwl,by rw[show v9.toNat=i6.toNat+1 by omega];exact hk.1,by rw[show v9.toNat=i6.toNat+1 by omega];exact hk.2⟩ mlt)
 conv=>cbv
 refine .lo fun on6 n6 hon6 a2=>?_
 conv=>cbv
 refine .goN (zz:=[(.int .i64 0,0),(.string ⟨#[]⟩,0),(.int .i64 0,0)]) (⟨0,tx [],0⟩:Be) hP ae Tryz.underlying37 (by kernel_rfl) rfl rfl (by decide) fun z7 ar=>?_
 conv=>cbv
 refine .hi fun on8 n8 hon8 a6=>?_
 conv=>cbv
 have e:w0.take on6=o:=by rw[hon6,Nat.zero_add,hwt,List.take_of_length_le (by omega),←hr];rfl
 obtain⟨e1,e2⟩:=XkW (by omega) (by omega) e ar
 rw[hwl,hf]at e2
 subst e2
 obtain rfl:n8=no:=by omega
 subst hon8
 exact hQ _ _ (.of [] (.inl rfl) rfl rfl rfl rfl)
end
section
open Go Go.Proofs
set_option maxRecDepth 20000
set_option maxHeartbeats 4000000
def Xbh:List (Nat×TyRow):=[ty3,ty9,X1,Xg9,XaK,W8,Xc,Xmq]
theorem Xch:Cb Tryz.prog Xbh:=Cb.of (by kernel_rfl)
theorem Xaz:Setup Tryz.prog Xbh:=⟨Xch,mixed⟩
def Rr:List Ad→List ByteArray→Int→Bool
 |now,[],id=>now.any fun e=>decide (e.id_=id)
 |now,s::ss,id=>(now.any fun e=>decide (e.id_=id))||Rr (At now s).1 ss id
def Nr(nodes:List Be)(old:List Ad)(steps:List ByteArray):List Be:=nodes.filter fun x=>Rr old steps x.id_
theorem XfB{l:List Ad}{k:Nat}{id:Int}(hk:k<l.length):(l.take (k+1)).any (fun e=>decide (e.id_=id))=((l.take k).any (fun e=>decide (e.id_=id))||decide (l[k].id_=id)):=by
 rw[List.take_succ_eq_append_getElem hk,List.any_append]
 simp
theorem XgF{ks:List Int}{n id:Int}:id∈P2 ks n↔id∈ks∨n=id:=by
 unfold P2
 split
 ·constructor
  ·exact .inl
  ·rintro(h|rfl)
   ·exact h
   ·assumption
 ·rw[List.mem_append,List.mem_singleton]
  constructor
  ·rintro(h|rfl)
   ·exact .inl h
   ·exact .inr rfl
  ·rintro(h|rfl)
   ·exact .inl h
   ·exact .inr rfl
theorem T4{Ae:List Be}{A3:List (List D)}{Ag:List Ad}{A2:List (List D)}{Ah:List Ad}{A1:List (List D)}{Af:List ByteArray}{A4:List (List D)}{Aj:Int}{Ai:Int}{ndnod:Nat}{ndste:Nat}{o:List Be}{no:Nat}{xf:List (List D)}(Ak:Ae.map A8=A3)(Al:Ag.map Ac=A2)(Ao:Ah.map Ac=A1)(An:Af.map cS=A4)(hndnod:ndnod=Ae.length)(hndste:ndste=Af.length)(hn:Ae.length<2^40)(hol:Ah.length≤1000000000)(hsl:Af.length≤1000000000)(hss:okS Af)(hr:Nr Ae Ah Af=o)(hno:no=o.length)(hf:(o++List.replicate (Ae.length - o.length) (⟨0,tx [],0⟩:Be)).map A8=xf):Fn Tryz.prog 297 [.ptr 0 0 0] [.box 40 [.ref 1 0 ndnod,.d (.row 2 A2),.d (.row 2 A1),.ref 2 0 ndste,I Aj,I Ai],.row 3 false A3,.row 1 false A4] ⟨.tup [],[],[(0,.box 40 [.ref 1 0 no,.d (.row 2 A2),.d (.row 2 A1),.ref 2 0 ndste,I Aj,I Ai]),(1,.row 3 false xf)]⟩:=by
 refine Fn.goR Xaz Tryz.func297 fun P hP Q hQ=>?_
 conv=>cbv
 refine LoopW.lp (κ:=(List (List D))×Int×(List Int)) Xaz hP [] [0,2] (fun(ab,i4,ks3)=>[(3,.d (.row 2 ab)),(4,I i4)]) (fun(ab,i4,ks3)=>[(3,.map ks3)])
  (fun(ab,i4,ks3)=>∃(u3:List Ad),u3.map Ac=ab∧0≤i4∧i4≤Af.length∧u3.length≤Ah.length+i4∧∀id,(id∈ks3∨Rr u3 (Af.drop i4.toNat) id=true)↔Rr Ah Af id=true)
  (fun(ab,i4,ks3)=>(Af.length - i4).toNat) (A1,0,[]) ⟨Ah,Ao,by omega,by omega,by omega,fun id=>by simp⟩ ⟨rfl,rfl,trivial⟩ rfl ?_
 rintro⟨ab,i4,ks3⟩ J ⟨u3,ae,h0,h1,hun,hio⟩ hJ
 conv=>cbv
 refine .go ae fun v1 aw=>?_
 conv=>cbv
 refine LoopW.lp (κ:=Int×(List Int)) Xaz hP [] [0,2,3,4,14,15] (fun(aa,ks3p)=>[(16,I aa)]) (fun(aa,ks3p)=>[(3,.map ks3p)])
  (fun(aa,ks3p)=>0≤aa∧aa≤u3.length∧∀id,id∈ks3p↔id∈ks3∨((u3.take aa.toNat).any fun e=>decide (e.id_=id))=true)
  (fun(aa,ks3p)=>(u3.length - aa).toNat) (0,ks3) ⟨by omega,by omega,fun id=>by simp⟩ ⟨rfl,trivial⟩ rfl ?_
 rintro⟨aa,ks3p⟩ J1 ⟨k0,k1,hi⟩ al
 conv=>cbv
 refine .lss (fun h2=>?_) fun h2=>?_
 conv=>cbv
 refine .go aa.toNat ae fun ag ⟨am,ar⟩ an=>?_
 conv=>cbv
 refine .go hP Tryz.underlying256 (by kernel_rfl) fun ks4 hks4=>?_
 conv=>cbv
 refine .add fun v5 ax=>?_
 conv=>cbv
 exact .go [] (v5,ks4) (al _ ⟨by omega,by omega,fun id=>by rw[hks4,XgF,hi id,show v5.toNat=aa.toNat+1 by omega,XfB ag,←an,Bool.or_eq_true,or_assoc,decide_eq_true_eq]⟩ mlt)
 conv=>cbv
 refine .go fun v3 ay=>?_
 conv=>cbv
 refine .eql (fun h4=>?_) fun h4=>?_
 conv=>cbv
 have hks:∀id,id∈ks3p↔Rr Ah Af id=true:=fun id=>by rw[hi,←hio id,List.take_of_length_le (show u3.length≤aa.toNat by omega),List.drop_of_length_le (show Af.length≤i4.toNat by omega)];show _↔_∨(u3.any fun e=>decide (e.id_=id))=true;exact Iff.rfl
 generalize ah:Gd Ae ks3p=l5
 generalize ai:(l5++List.replicate (Ae.length - l5.length) (⟨0,tx [],0⟩:Be)).map A8=ao
 obtain⟨nl5,hnl5⟩:∃m,m=l5.length:=⟨_,rfl⟩
 refine .bx [1,4,3] [3] hP (Pv Ak (by first|rfl|omega|(simp;omega)) hn ah ai hnl5) rfl rfl rfl rfl ?_
 conv=>cbv
 have e:l5=o:=by rw[←ah,←hr];unfold Gd E9 Nr;congr 1;funext x;simp only[Bool.not_not,hks x.id_,Bool.decide_eq_true]
 subst e
 obtain rfl:ao=xf:=by rw[←ai,←hf]
 obtain rfl:nl5=no:=by omega
 exact hQ _ _ (.of [] (.inr rfl) rfl rfl rfl rfl)
 conv=>cbv
 refine .go i4.toNat fun p5 ap au=>?_
 conv=>cbv
 refine .go An fun ac e6 aj=>?_
 conv=>cbv
 have az:e6.size≤1000000000:=aj▸hss _ (List.getElem_mem ac)
 subst ap
 have hdc:Af.drop i4.toNat=e6::Af.drop (i4.toNat+1):=by rw[List.drop_eq_getElem_cons ac,←aj]
 rcases af:At u3 e6 with⟨aq,a1⟩
 have hsl7:=Q4 af
 generalize ad:aq.map Ac=ak
 refine .dd hP (S6 ae (by omega) (by omega) af ad) ?_
 conv=>cbv
 refine .add fun v8 a2=>?_
 conv=>cbv
 exact .go [] (ak,v8,ks3p) (hJ _ ⟨_,ad,by omega,by omega,by omega,fun id=>by rw[←hio id,hi id,show v8.toNat=i4.toNat+1 by omega,hdc,List.take_of_length_le (show u3.length≤aa.toNat by omega)];show _↔_∨((u3.any fun e=>decide (e.id_=id))||Rr (At u3 e6).1 (Af.drop (i4.toNat+1)) id)=true;rw[af,Bool.or_eq_true,or_assoc]⟩ mlt)
end
section
open Go Go.Proofs
set_option maxRecDepth 20000
set_option maxHeartbeats 4000000
def Xcv:List (Nat×TyRow):=[ty9,X1,XaK,W8,ty255]
theorem Xcq:Cb Tryz.prog Xcv:=Cb.of (by kernel_rfl)
theorem XkB:Setup Tryz.prog Xcv:=⟨Xcq,mixed⟩
theorem Rk{l:List ByteArray}{s:ByteArray}(h:okS l)(hs:s.size≤1000000000):okS (l++[s]):=fun t ht=>by
 rcases List.mem_append.1 ht with ht|ht
 ·exact h t ht
 ·rw[List.mem_singleton.1 ht];exact hs
theorem Qn{Ae:List Be}{A3:List (List D)}{Ag:List Ad}{A2:List (List D)}{Ah:List Ad}{A1:List (List D)}{Af:List ByteArray}{A4:List (List D)}{Aj:Int}{Ai:Int}{ndnod:Nat}{ndste:Nat}{step:ByteArray}{xe:List (List D)}{o:List Be}{no:Nat}{xf xs:List (List D)}{ns:Nat}(Ak:Ae.map A8=A3)(Al:Ag.map Ac=A2)(Ao:Ah.map Ac=A1)(An:Af.map cS=A4)(hndnod:ndnod=Ae.length)(hndste:ndste=Af.length)(hn:Ae.length<2^40)(hel:Ag.length≤4000000000)(hss0:step.size≤1000000000)(hol:Ah.length≤1000000000)(hsl:Af.length<1000000000)(hss:okS Af)(he:(At Ag step).1.map Ac=xe)(hr:Nr Ae Ah (Af++[step])=o)(hno:no=o.length)(hf:(o++List.replicate (Ae.length - o.length) (⟨0,tx [],0⟩:Be)).map A8=xf)(hs:(Af++[step]).map cS=xs)(hns:ns=(Af++[step]).length):Fn Tryz.prog 295 [.ptr 0 0 0,S step] [.box 40 [.ref 1 0 ndnod,.d (.row 2 A2),.d (.row 2 A1),.ref 2 0 ndste,I Aj,I Ai],.row 3 false A3,.row 1 false A4] ⟨.tup [],[.row 1 false xs],[(0,.box 40 [.ref 1 0 no,.d (.row 2 xe),.d (.row 2 A1),.ref 3 0 ns,I Aj,I Ai]),(1,.row 3 false xf),(2,.dead)]⟩:=by
 refine Fn.goR XkB Tryz.func295 fun P hP Q hQ=>?_
 conv=>cbv
 refine .one step An rfl fun ai z1 ad ae=>?_
 conv=>cbv
 rcases af:At Ag step with⟨aj,am⟩
 generalize aa:aj.map Ac=ag
 refine .dd hP (S6 Al hel hss0 af aa) ?_
 conv=>cbv
 generalize ah:Nr Ae Ah (Af++[step])=o4
 obtain⟨ak,ab⟩:∃m,m=o4.length:=⟨_,rfl⟩
 generalize ac:(o4++List.replicate (Ae.length - o4.length) (⟨0,tx [],0⟩:Be)).map A8=al
 refine .bx [0,1,4] [1,4] hP (T4 Ak aa Ao ae (by first|assumption|omega) (by first|assumption|omega|rfl|(simp at*;omega)) hn hol (by rw[List.length_append];simp;omega) (Rk hss hss0) ah ab ac) rfl rfl rfl rfl ?_
 conv=>cbv
 obtain rfl:ag=xe:=by rw[←aa,←he,af]
 obtain rfl:z1=xs:=by rw[←ae,←hs]
 obtain rfl:ai=ns:=by rw[hns,ad,List.length_append];rfl
 obtain rfl:o4=o:=by rw[←ah,←hr]
 obtain rfl:ak=no:=by rw[hno,ab]
 obtain rfl:al=xf:=by rw[←ac,←hf]
 exact hQ _ _ (.of [4] (.inr rfl) rfl rfl rfl rfl)
end
section
open Go Go.Proofs
set_option maxRecDepth 20000
set_option maxHeartbeats 4000000
def XbA:List (Nat×TyRow):=[X1,Xg9,XaK,W8]
theorem XbX:Cb Tryz.prog XbA:=Cb.of (by kernel_rfl)
theorem Xe2:Setup Tryz.prog XbA:=⟨XbX,mixed⟩
variable {Ae:List Be} {A3 A2 A1 A4:List (List D)} {Ag Ah:List Ad} {Af:List ByteArray} {Aj Ai:Int}
theorem Iz{nn ns:Nat}(Ak:Ae.map A8=A3)(Al:Ag.map Ac=A2)(Ao:Ah.map Ac=A1)(An:Af.map cS=A4)(hn:Ae.length≤4000000000)(he:Ag.length≤4000000000)(ho:Ah.length≤4000000000)(hs:Af.length≤4000000000)(hnn:nn=Ae.length)(hns:ns=Af.length):Fn Tryz.prog 106 [.agg [.d (.row 3 A3),.d (.row 2 A2),.d (.row 2 A1),.d (.row 1 A4),I Aj,I Ai]] [] ⟨.agg [.ref 0 0 nn,.d (.row 2 A2),.d (.row 2 A1),.ref 1 0 ns,I Aj,I Ai],[.row 3 false A3,.row 1 false A4],[]⟩:=by
 refine Fn.goR Xe2 Tryz.func106 fun P hP Q hQ=>?_
 conv=>cbv
 generalize ac:Eg Ae=l1
 generalize aa:l1.map A8=ai
 obtain⟨nl1,hnl1⟩:∃m,m=l1.length:=⟨_,rfl⟩
 refine .ddA hP (Ly Ak (by omega) ac aa hnl1) rfl rfl rfl (aa▸Pi (fun _=>rfl) l1) ?_
 conv=>cbv
 generalize ad:Eg Ag=l2
 generalize ae:l2.map Ac=aj
 refine .dd hP (C8 Al (by omega) ad ae) ?_
 conv=>cbv
 generalize af:Eg Ah=l3
 generalize ag:l3.map Ac=ak
 refine .dd hP (C8 Ao (by omega) af ag) ?_
 conv=>cbv
 generalize ah:Eg Af=l4
 generalize ab:l4.map cS=al
 obtain⟨nl4,hnl4⟩:∃m,m=l4.length:=⟨_,rfl⟩
 refine .ddA hP (Jx An (by omega) ah ab hnl4) rfl rfl rfl (ab▸Pi (fun _=>rfl) l4) ?_
 conv=>cbv
 obtain rfl:l1=Ae:=ac.symm
 obtain rfl:l2=Ag:=ad.symm
 obtain rfl:l3=Ah:=af.symm
 obtain rfl:l4=Af:=ah.symm
 obtain rfl:nl1=nn:=by rw[hnn,hnl1]
 obtain rfl:nl4=ns:=by rw[hns,hnl4]
 obtain rfl:ai=A3:=by rw[←aa,Ak]
 obtain rfl:aj=A2:=by rw[←ae,Al]
 obtain rfl:ak=A1:=by rw[←ag,Ao]
 obtain rfl:al=A4:=by rw[←ab,An]
 exact hQ _ _ (.of [6,7] (.inl rfl) rfl rfl rfl rfl)
theorem Xdt(Ak:Ae.map A8=A3)(Al:Ag.map Ac=A2)(Ao:Ah.map Ac=A1)(An:Af.map cS=A4)(hn:Ae.length≤4000000000)(he:Ag.length≤4000000000)(ho:Ah.length≤4000000000)(hs:Af.length≤4000000000):Fn Tryz.prog 106 [.agg [.d (.row 3 A3),.d (.row 2 A2),.d (.row 2 A1),.d (.row 1 A4),I Aj,I Ai]] [] ⟨.agg [.d (.row 3 A3),.d (.row 2 A2),.d (.row 2 A1),.d (.row 1 A4),I Aj,I Ai],[],[]⟩:=by
 refine Fn.go Xe2 Tryz.func106 fun P hP Q hQ=>?_
 conv=>cbv
 generalize aa:Eg Ae=l1
 generalize ab:l1.map A8=ai
 refine .dd hP (Mh Ak (by omega) aa ab) ?_
 conv=>cbv
 generalize ac:Eg Ag=l2
 generalize ad:l2.map Ac=aj
 refine .dd hP (C8 Al (by omega) ac ad) ?_
 conv=>cbv
 generalize ae:Eg Ah=l3
 generalize af:l3.map Ac=ak
 refine .dd hP (C8 Ao (by omega) ae af) ?_
 conv=>cbv
 generalize ag:Eg Af=l4
 generalize ah:l4.map cS=al
 refine .dd hP (Ka An (by omega) ag ah) ?_
 conv=>cbv
 obtain rfl:l1=Ae:=aa.symm
 obtain rfl:l2=Ag:=ac.symm
 obtain rfl:l3=Ah:=ae.symm
 obtain rfl:l4=Af:=ag.symm
 obtain rfl:ai=A3:=by rw[←ab,Ak]
 obtain rfl:aj=A2:=by rw[←ad,Al]
 obtain rfl:ak=A1:=by rw[←af,Ao]
 obtain rfl:al=A4:=by rw[←ah,An]
 exact hQ _ _ (.one (.inl rfl) rfl (.agg (.d rfl rfl (.d rfl rfl (.d rfl rfl (.d rfl rfl (.d rfl rfl (.d rfl rfl .nil)))))) .nil))
end
section
open Go Go.Proofs
set_option maxRecDepth 20000
set_option maxHeartbeats 4000000
def Xb4:List (Nat×TyRow):=[ty3,ty9,XaK,W8]
theorem XcO:Cb Tryz.prog Xb4:=Cb.of (by kernel_rfl)
theorem XjP:Setup Tryz.prog Xb4:=⟨XcO,mixed⟩
def Mr(d:Aa)(s:ByteArray):Aa:=⟨Nr d.nodes_ d.old_ (d.steps_++[s]),(At d.entries_ s).1,d.old_,d.steps_++[s],d.room_,d.next_⟩
def Da(d:Aa)(name:ByteArray):Aa×Int:=if Bw d=false∨Au d.entries_ name<0 then(d,3)else(Mr d (tx [45]++name),0)
theorem Xbm{Ae:List Be}{A3:List (List D)}{Ag:List Ad}{A2:List (List D)}{Ah:List Ad}{A1:List (List D)}{Af:List ByteArray}{A4:List (List D)}{Aj:Int}{Ai:Int}{name:ByteArray}{Gz:List Be}{Eb:List (List D)}{Gv:List Ad}{Ed:List (List D)}{Gx:List Ad}{Ec:List (List D)}{Gy:List ByteArray}{Ee:List (List D)}{Gt:Int}{Gu:Int}{ob:Int}(Ak:Ae.map A8=A3)(Al:Ag.map Ac=A2)(Ao:Ah.map Ac=A1)(An:Af.map cS=A4)(hn:Ae.length≤1000000000)(he:Ag.length≤1000000000)(ho:Ah.length≤1000000000)(hs:Af.length<1000000000)(hss:okS Af)(ak:La (⟨Ae,Ag,Ah,Af,Aj,Ai⟩:Aa))(hm:name.size<1000000000)(hr:Da (⟨Ae,Ag,Ah,Af,Aj,Ai⟩:Aa) name=(⟨Gz,Gv,Gx,Gy,Gt,Gu⟩,ob))(B4:Gz.map A8=Eb)(B8:Gv.map Ac=Ed)(B5:Gx.map Ac=Ec)(B6:Gy.map cS=Ee):Fn Tryz.prog 274 [.agg [.d (.row 3 A3),.d (.row 2 A2),.d (.row 2 A1),.d (.row 1 A4),I Aj,I Ai],S name] [] ⟨.tup [.agg [.d (.row 3 Eb),.d (.row 2 Ed),.d (.row 2 Ec),.d (.row 1 Ee),I Gt,I Gu],I ob],[],[]⟩:=by
 refine Fn.go XjP Tryz.func274 fun P hP Q hQ=>?_
 conv=>cbv
 obtain⟨n2,al⟩:∃m,m=Ae.length:=⟨_,rfl⟩
 obtain⟨n3,am⟩:∃m,m=Af.length:=⟨_,rfl⟩
 refine .ddN hP (Iz Ak Al Ao An (by omega) (by omega) (by omega) (by omega) al am) rfl ?_
 conv=>cbv
 generalize ag:Bw (⟨Ae,Ag,Ah,Af,Aj,Ai⟩:Aa)=r4
 refine .dd hP (O7 Ak Al Ao An ak ag) ?_
 cases r4
 conv=>cbv
 have e:((⟨Ae,Ag,Ah,Af,Aj,Ai⟩:Aa),3)=Da (⟨Ae,Ag,Ah,Af,Aj,Ai⟩:Aa) name:=(by unfold Da;rw[if_pos (.inl ag)])
 rw[hr]at e
 simp only[Prod.mk.injEq,Aa.mk.injEq]at e
 obtain⟨⟨rfl,rfl,rfl,rfl,rfl,rfl⟩,rfl⟩:=e
 refine hQ _ _ ?_
 exact .many (.inl rfl) rfl rfl (.agg (.ref rfl (Am Ak) (Bn Ak B4) (.d rfl (Bf Al B8) (.d rfl (Bf Ao B5) (.ref rfl (Am An) (Bn An B6) (.d rfl rfl (.d rfl rfl (.nil))))))) (.d rfl rfl (.nil)))
 conv=>cbv
 generalize ai:Au Ag name=r5
 refine .dd hP (K5 Al (by omega) ai) ?_
 conv=>cbv
 refine .lss (fun h6=>?_) fun h6=>?_
 conv=>cbv
 have e:((⟨Ae,Ag,Ah,Af,Aj,Ai⟩:Aa),3)=Da (⟨Ae,Ag,Ah,Af,Aj,Ai⟩:Aa) name:=(by unfold Da;rw[if_pos (.inr (by rw[ai];exact h6))])
 rw[hr]at e
 simp only[Prod.mk.injEq,Aa.mk.injEq]at e
 obtain⟨⟨rfl,rfl,rfl,rfl,rfl,rfl⟩,rfl⟩:=e
 refine hQ _ _ ?_
 exact .many (.inl rfl) rfl rfl (.agg (.ref rfl (Am Ak) (Bn Ak B4) (.d rfl (Bf Al B8) (.d rfl (Bf Ao B5) (.ref rfl (Am An) (Bn An B6) (.d rfl rfl (.d rfl rfl (.nil))))))) (.d rfl rfl (.nil)))
 conv=>cbv
 refine .litL 1 fun s7 an ar=>?_
 conv=>cbv
 generalize ab:(At Ag s7).1=ae
 generalize ac:ae.map Ac=ao
 generalize aj:Nr Ae Ah (Af++[s7])=o9
 obtain⟨au,af⟩:∃m,m=o9.length:=⟨_,rfl⟩
 generalize aa:(o9++List.replicate (Ae.length - o9.length) (⟨0,tx [],0⟩:Be)).map A8=ap
 generalize ad:(Af++[s7]).map cS=aw
 obtain⟨aq,ah⟩:∃m,m=(Af++[s7]).length:=⟨_,rfl⟩
 refine .bx [12,6,7] [6,7] hP (Qn Ak Al Ao An (by first|assumption|omega|(simp;omega)) (by first|assumption|omega|(simp;omega)) (by omega) (by omega) (by omega) (by omega) (by omega) hss ((congrArg (List.map Ac) ab).trans ac) aj af aa ad ah) rfl rfl rfl rfl ?_
 conv=>cbv
 have e:((⟨o9,ae,Ah,Af++[s7],Aj,Ai⟩:Aa),0)=Da (⟨Ae,Ag,Ah,Af,Aj,Ai⟩:Aa) name:=(by unfold Da;rw[if_neg (by rintro(h|h);rw[ag]at h;cases h;dsimp only at h;omega)];unfold Mr;dsimp only;rw[show tx [45]++name=s7 from an.symm,aj,ab])
 rw[hr]at e
 simp only[Prod.mk.injEq,Aa.mk.injEq]at e
 obtain⟨⟨rfl,rfl,rfl,rfl,rfl,rfl⟩,rfl⟩:=e
 refine hQ _ _ ?_
 exact .many (.inl rfl) rfl rfl (.agg (.sub rfl (by rw[←aa,List.length_map,List.length_append];omega) (by rw[←aa,←B4,af,List.drop_zero,List.map_append,List.take_left' (by rw[List.length_map])]) (.d rfl (Bf ac B8) (.d rfl (Bf Ao B5) (.ref rfl (Am ad) (Bn ad B6) (.d rfl rfl (.d rfl rfl (.nil))))))) (.d rfl rfl (.nil)))
end
section
open Go Go.Proofs
set_option maxRecDepth 20000
set_option maxHeartbeats 4000000
def Xb5:List (Nat×TyRow):=[ty3,ty9,XaK,W8]
theorem Xbd:Cb Tryz.prog Xb5:=Cb.of (by kernel_rfl)
theorem Xki:Setup Tryz.prog Xb5:=⟨Xbd,mixed⟩
def Cd(d:Aa)(from_ to_:ByteArray):Aa×Int:=if Bw d=false∨Au d.entries_ from_<0 then(d,3)else if Bl to_=false∨from_=to_ then(d,1)else(Mr d (tx [62]++from_++tx [58]++to_),0)
theorem Xc3{Ae:List Be}{A3:List (List D)}{Ag:List Ad}{A2:List (List D)}{Ah:List Ad}{A1:List (List D)}{Af:List ByteArray}{A4:List (List D)}{Aj:Int}{Ai:Int}{from_:ByteArray}{to_:ByteArray}{Gz:List Be}{Eb:List (List D)}{Gv:List Ad}{Ed:List (List D)}{Gx:List Ad}{Ec:List (List D)}{Gy:List ByteArray}{Ee:List (List D)}{Gt:Int}{Gu:Int}{ob:Int}(Ak:Ae.map A8=A3)(Al:Ag.map Ac=A2)(Ao:Ah.map Ac=A1)(An:Af.map cS=A4)(hn:Ae.length≤1000000000)(he:Ag.length≤1000000000)(ho:Ah.length≤1000000000)(hs:Af.length<1000000000)(hss:okS Af)(ap:La (⟨Ae,Ag,Ah,Af,Aj,Ai⟩:Aa))(hm:from_.size+to_.size<999999999)(hr:Cd (⟨Ae,Ag,Ah,Af,Aj,Ai⟩:Aa) from_ to_=(⟨Gz,Gv,Gx,Gy,Gt,Gu⟩,ob))(B4:Gz.map A8=Eb)(B8:Gv.map Ac=Ed)(B5:Gx.map Ac=Ec)(B6:Gy.map cS=Ee):Fn Tryz.prog 275 [.agg [.d (.row 3 A3),.d (.row 2 A2),.d (.row 2 A1),.d (.row 1 A4),I Aj,I Ai],S from_,S to_] [] ⟨.tup [.agg [.d (.row 3 Eb),.d (.row 2 Ed),.d (.row 2 Ec),.d (.row 1 Ee),I Gt,I Gu],I ob],[],[]⟩:=by
 refine Fn.go Xki Tryz.func275 fun P hP Q hQ=>?_
 conv=>cbv
 obtain⟨n2,aq⟩:∃m,m=Ae.length:=⟨_,rfl⟩
 obtain⟨n3,ar⟩:∃m,m=Af.length:=⟨_,rfl⟩
 refine .ddN hP (Iz Ak Al Ao An (by omega) (by omega) (by omega) (by omega) aq ar) rfl ?_
 conv=>cbv
 generalize ac:Bw (⟨Ae,Ag,Ah,Af,Aj,Ai⟩:Aa)=r4
 refine .dd hP (O7 Ak Al Ao An ap ac) ?_
 cases r4
 conv=>cbv
 have e:((⟨Ae,Ag,Ah,Af,Aj,Ai⟩:Aa),3)=Cd (⟨Ae,Ag,Ah,Af,Aj,Ai⟩:Aa) from_ to_:=(by unfold Cd;rw[if_pos (.inl ac)])
 rw[hr]at e
 simp only[Prod.mk.injEq,Aa.mk.injEq]at e
 obtain⟨⟨rfl,rfl,rfl,rfl,rfl,rfl⟩,rfl⟩:=e
 refine hQ _ _ ?_
 exact .many (.inl rfl) rfl rfl (.agg (.ref rfl (Am Ak) (Bn Ak B4) (.d rfl (Bf Al B8) (.d rfl (Bf Ao B5) (.ref rfl (Am An) (Bn An B6) (.d rfl rfl (.d rfl rfl (.nil))))))) (.d rfl rfl (.nil)))
 conv=>cbv
 generalize am:Au Ag from_=r5
 refine .dd hP (K5 Al (by omega) am) ?_
 conv=>cbv
 refine .lss (fun h6=>?_) fun h6=>?_
 conv=>cbv
 have e:((⟨Ae,Ag,Ah,Af,Aj,Ai⟩:Aa),3)=Cd (⟨Ae,Ag,Ah,Af,Aj,Ai⟩:Aa) from_ to_:=(by unfold Cd;rw[if_pos (.inr (by rw[am];exact h6))])
 rw[hr]at e
 simp only[Prod.mk.injEq,Aa.mk.injEq]at e
 obtain⟨⟨rfl,rfl,rfl,rfl,rfl,rfl⟩,rfl⟩:=e
 refine hQ _ _ ?_
 exact .many (.inl rfl) rfl rfl (.agg (.ref rfl (Am Ak) (Bn Ak B4) (.d rfl (Bf Al B8) (.d rfl (Bf Ao B5) (.ref rfl (Am An) (Bn An B6) (.d rfl rfl (.d rfl rfl (.nil))))))) (.d rfl rfl (.nil)))
 conv=>cbv
 generalize ak:Bl to_=r7
 refine .dd hP (Nd (by omega) ak) ?_
 cases r7
 conv=>cbv
 have e:((⟨Ae,Ag,Ah,Af,Aj,Ai⟩:Aa),1)=Cd (⟨Ae,Ag,Ah,Af,Aj,Ai⟩:Aa) from_ to_:=(by unfold Cd;rw[if_neg (by rintro(h|h);rw[ac]at h;cases h;dsimp only at h;omega),if_pos (.inl ak)])
 rw[hr]at e
 simp only[Prod.mk.injEq,Aa.mk.injEq]at e
 obtain⟨⟨rfl,rfl,rfl,rfl,rfl,rfl⟩,rfl⟩:=e
 refine hQ _ _ ?_
 exact .many (.inl rfl) rfl rfl (.agg (.ref rfl (Am Ak) (Bn Ak B4) (.d rfl (Bf Al B8) (.d rfl (Bf Ao B5) (.ref rfl (Am An) (Bn An B6) (.d rfl rfl (.d rfl rfl (.nil))))))) (.d rfl rfl (.nil)))
 conv=>cbv
 refine .eql (fun h8=>?_) fun h8=>?_
 conv=>cbv
 have e:((⟨Ae,Ag,Ah,Af,Aj,Ai⟩:Aa),1)=Cd (⟨Ae,Ag,Ah,Af,Aj,Ai⟩:Aa) from_ to_:=(by unfold Cd;rw[if_neg (by rintro(h|h);rw[ac]at h;cases h;dsimp only at h;omega),if_pos (.inr h8)])
 rw[hr]at e
 simp only[Prod.mk.injEq,Aa.mk.injEq]at e
 obtain⟨⟨rfl,rfl,rfl,rfl,rfl,rfl⟩,rfl⟩:=e
 refine hQ _ _ ?_
 exact .many (.inl rfl) rfl rfl (.agg (.ref rfl (Am Ak) (Bn Ak B4) (.d rfl (Bf Al B8) (.d rfl (Bf Ao B5) (.ref rfl (Am An) (Bn An B6) (.d rfl rfl (.d rfl rfl (.nil))))))) (.d rfl rfl (.nil)))
 conv=>cbv
 refine .litL 1 fun s9 au a6=>?_
 conv=>cbv
 refine .litR 1 fun a7 an aw=>?_
 conv=>cbv
 refine .go fun ab ao ax=>?_
 conv=>cbv
 generalize ad:(At Ag ab).1=ai
 generalize ae:ai.map Ac=ay
 generalize aj:Nr Ae Ah (Af++[ab])=ah
 obtain⟨az,af⟩:∃m,m=ah.length:=⟨_,rfl⟩
 generalize aa:(ah++List.replicate (Ae.length - ah.length) (⟨0,tx [],0⟩:Be)).map A8=a1
 generalize ag:(Af++[ab]).map cS=a8
 obtain⟨a2,al⟩:∃m,m=(Af++[ab]).length:=⟨_,rfl⟩
 refine .bx [12,6,7] [6,7] hP (Qn Ak Al Ao An (by first|assumption|omega|(simp;omega)) (by first|assumption|omega|(simp;omega)) (by omega) (by omega) (by omega) (by omega) (by omega) hss ((congrArg (List.map Ac) ad).trans ae) aj af aa ag al) rfl rfl rfl rfl ?_
 conv=>cbv
 have e:((⟨ah,ai,Ah,Af++[ab],Aj,Ai⟩:Aa),0)=Cd (⟨Ae,Ag,Ah,Af,Aj,Ai⟩:Aa) from_ to_:=(by unfold Cd;rw[if_neg (by rintro(h|h);rw[ac]at h;cases h;dsimp only at h;omega),if_neg (by rintro(h|h);rw[ak]at h;cases h;exact h8 h)];unfold Mr;dsimp only;rw[show tx [62]++from_++tx [58]++to_=ab from by rw[ao,an,au];rfl,aj,ad])
 rw[hr]at e
 simp only[Prod.mk.injEq,Aa.mk.injEq]at e
 obtain⟨⟨rfl,rfl,rfl,rfl,rfl,rfl⟩,rfl⟩:=e
 refine hQ _ _ ?_
 exact .many (.inl rfl) rfl rfl (.agg (.sub rfl (by rw[←aa,List.length_map,List.length_append];omega) (by rw[←aa,←B4,af,List.drop_zero,List.map_append,List.take_left' (by rw[List.length_map])]) (.d rfl (Bf ae B8) (.d rfl (Bf Ao B5) (.ref rfl (Am ag) (Bn ag B6) (.d rfl rfl (.d rfl rfl (.nil))))))) (.d rfl rfl (.nil)))
end
section
open Go Go.Proofs
set_option maxRecDepth 20000
set_option maxHeartbeats 4000000
def XaX:List (Nat×TyRow):=[ty3,ty9,Xg9,W8,XaB]
theorem Xc0:Cb Tryz.prog XaX:=Cb.of (by kernel_rfl)
theorem Xka:Setup Tryz.prog XaX:=⟨Xc0,mixed⟩
def Ds(d:Aa)(name:ByteArray):Aa×Int:=if Bw d=false∨De d name<0 then(d,3)else
 (⟨d.nodes_.set (De d name).toNat ⟨(d.nodes_.getD (De d name).toNat ⟨0,tx [],0⟩).id_,(d.nodes_.getD (De d name).toNat ⟨0,tx [],0⟩).text_,((d.nodes_.getD (De d name).toNat ⟨0,tx [],0⟩).text_.size:Int)⟩,d.entries_,d.old_,d.steps_,d.room_,d.next_⟩,0)
theorem Xgb{Ae:List Be}{A3:List (List D)}{Ag:List Ad}{A2:List (List D)}{Ah:List Ad}{A1:List (List D)}{Af:List ByteArray}{A4:List (List D)}{Aj:Int}{Ai:Int}{name:ByteArray}{Gz:List Be}{Eb:List (List D)}{Gv:List Ad}{Ed:List (List D)}{Gx:List Ad}{Ec:List (List D)}{Gy:List ByteArray}{Ee:List (List D)}{Gt:Int}{Gu:Int}{ob:Int}(Ak:Ae.map A8=A3)(Al:Ag.map Ac=A2)(Ao:Ah.map Ac=A1)(An:Af.map cS=A4)(hn:Ae.length≤1000000000)(he:Ag.length≤1000000000)(ho:Ah.length≤1000000000)(hs:Af.length<1000000000)(hss:okS Af)(af:La (⟨Ae,Ag,Ah,Af,Aj,Ai⟩:Aa))(hr:Ds (⟨Ae,Ag,Ah,Af,Aj,Ai⟩:Aa) name=(⟨Gz,Gv,Gx,Gy,Gt,Gu⟩,ob))(B4:Gz.map A8=Eb)(B8:Gv.map Ac=Ed)(B5:Gx.map Ac=Ec)(B6:Gy.map cS=Ee):Fn Tryz.prog 236 [.agg [.d (.row 3 A3),.d (.row 2 A2),.d (.row 2 A1),.d (.row 1 A4),I Aj,I Ai],S name] [] ⟨.tup [.agg [.d (.row 3 Eb),.d (.row 2 Ed),.d (.row 2 Ec),.d (.row 1 Ee),I Gt,I Gu],I ob],[],[]⟩:=by
 refine Fn.go Xka Tryz.func236 fun P hP Q hQ=>?_
 conv=>cbv
 obtain⟨n2,ah⟩:∃m,m=Ae.length:=⟨_,rfl⟩
 obtain⟨n3,ai⟩:∃m,m=Af.length:=⟨_,rfl⟩
 refine .ddN hP (Iz Ak Al Ao An (by omega) (by omega) (by omega) (by omega) ah ai) rfl ?_
 conv=>cbv
 generalize ab:De (⟨Ae,Ag,Ah,Af,Aj,Ai⟩:Aa) name=r4
 refine .dd hP (Mv Ak Al Ao An af.1 ab) ?_
 conv=>cbv
 have hb:=Ic ab
 simp only[]at hb
 generalize ad:Bw (⟨Ae,Ag,Ah,Af,Aj,Ai⟩:Aa)=r5
 refine .dd hP (O7 Ak Al Ao An af ad) ?_
 cases r5
 conv=>cbv
 have e:((⟨Ae,Ag,Ah,Af,Aj,Ai⟩:Aa),3)=Ds (⟨Ae,Ag,Ah,Af,Aj,Ai⟩:Aa) name:=(by unfold Ds;rw[if_pos (.inl ad)])
 rw[hr]at e
 simp only[Prod.mk.injEq,Aa.mk.injEq]at e
 obtain⟨⟨rfl,rfl,rfl,rfl,rfl,rfl⟩,rfl⟩:=e
 refine hQ _ _ ?_
 exact .many (.inl rfl) rfl rfl (.agg (.ref rfl (Am Ak) (Bn Ak B4) (.d rfl (Bf Al B8) (.d rfl (Bf Ao B5) (.ref rfl (Am An) (Bn An B6) (.d rfl rfl (.d rfl rfl (.nil))))))) (.d rfl rfl (.nil)))
 conv=>cbv
 refine .lss (fun h6=>?_) fun h6=>?_
 conv=>cbv
 have e:((⟨Ae,Ag,Ah,Af,Aj,Ai⟩:Aa),3)=Ds (⟨Ae,Ag,Ah,Af,Aj,Ai⟩:Aa) name:=(by unfold Ds;rw[if_pos (.inr (by rw[ab];exact h6))])
 rw[hr]at e
 simp only[Prod.mk.injEq,Aa.mk.injEq]at e
 obtain⟨⟨rfl,rfl,rfl,rfl,rfl,rfl⟩,rfl⟩:=e
 refine hQ _ _ ?_
 exact .many (.inl rfl) rfl rfl (.agg (.ref rfl (Am Ak) (Bn Ak B4) (.d rfl (Bf Al B8) (.d rfl (Bf Ao B5) (.ref rfl (Am An) (Bn An B6) (.d rfl rfl (.d rfl rfl (.nil))))))) (.d rfl rfl (.nil)))
 conv=>cbv
 refine .go r4.toNat fun p7 aq an=>?_
 conv=>cbv
 refine .go Ak fun ao ⟨ap,ae,aj⟩ ak=>?_
 conv=>cbv
 refine .go fun v9 al=>?_
 conv=>cbv
 refine .go r4.toNat fun aa ag am=>?_
 conv=>cbv
 refine .go (⟨(Ae.getD aa ⟨0,tx [],0⟩).id_,(Ae.getD aa ⟨0,tx [],0⟩).text_,v9⟩:Be) Ak (by omega) (by rw[←gD (show aa<Ae.length by omega)];rfl) (Nat.le_refl 3) fun ar ac=>?_
 conv=>cbv
 have e:((⟨Ae.set aa (⟨(Ae.getD aa ⟨0,tx [],0⟩).id_,(Ae.getD aa ⟨0,tx [],0⟩).text_,v9⟩:Be),Ag,Ah,Af,Aj,Ai⟩:Aa),0)=Ds (⟨Ae,Ag,Ah,Af,Aj,Ai⟩:Aa) name:=(by unfold Ds;rw[if_neg (by rintro(h|h);rw[ad]at h;cases h;rw[ab]at h;omega),ab];dsimp only;have e9:ae=(Ae.getD aa ⟨0,tx [],0⟩).text_:=(by have h9:p7=aa:=(by omega);subst h9;rw[←gD (show p7<Ae.length by omega),←ak]);rw[al,e9,←ag])
 rw[hr]at e
 simp only[Prod.mk.injEq,Aa.mk.injEq]at e
 obtain⟨⟨rfl,rfl,rfl,rfl,rfl,rfl⟩,rfl⟩:=e
 refine hQ _ _ ?_
 exact .many (.inl rfl) rfl rfl (.agg (.ref rfl (Am ac) (Bn ac B4) (.d rfl (Bf Al B8) (.d rfl (Bf Ao B5) (.ref rfl (Am An) (Bn An B6) (.d rfl rfl (.d rfl rfl (.nil))))))) (.d rfl rfl (.nil)))
end
end Go.Proofs.YtgdmjbcllgmepaaGreatDoor.Ab
