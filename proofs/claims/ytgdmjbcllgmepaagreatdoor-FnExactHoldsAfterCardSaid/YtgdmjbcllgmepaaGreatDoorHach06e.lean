/- What functions of the program come to, for all arguments in the given bounds. -/
import Derived.Test.YtgdmjbcllgmepaaGreatDoorHach01d
import Derived.Test.YtgdmjbcllgmepaaGreatDoorHaZ9
set_option linter.unusedVariables false
set_option linter.unusedSimpArgs false
namespace Go.Proofs.YtgdmjbcllgmepaaGreatDoor.Ab
section
open Go Go.Proofs
set_option maxRecDepth 20000
set_option maxHeartbeats 4000000
def Q9:List (Nat×TyRow):=[ty3,ty9,Xff,XdV,XcZ,XbO,Yh]
theorem X6:Ca Tryz.prog Q9:=Ca.of (by kernel_rfl)
theorem Hf:Setup Tryz.prog Q9:=⟨X6,mixed⟩
theorem Jt:∀a b:List UInt8,Op.bytesLess a b=true→Op.bytesLess b a=false
 |_,[],h=>by simp[Op.bytesLess]at h
 |[],_::_,_=>by simp[Op.bytesLess]
 |a::x,b::y,h=>by
  simp only[Op.bytesLess,Bool.or_eq_true,decide_eq_true_eq,Bool.and_eq_true,beq_iff_eq]at h
  simp only[Op.bytesLess,Bool.or_eq_false_iff,decide_eq_false_iff_not,Bool.and_eq_false_iff,beq_eq_false_iff_ne]
  rcases h with h|⟨h1,h2⟩
  ·exact⟨fun h3=>absurd (UInt8.lt_trans h h3) (UInt8.lt_irrefl _),.inl fun e=>by subst e;exact UInt8.lt_irrefl _ h⟩
  ·subst h1
   exact⟨UInt8.lt_irrefl _,.inr (Jt x y h2)⟩
theorem Rg:∀a b:List UInt8,Op.bytesLess a b=false→a≠b→Op.bytesLess b a=true
 |[],[],_,h=>absurd rfl h
 |[],_::_,h,_=>by simp[Op.bytesLess]at h
 |_::_,[],_,_=>by simp[Op.bytesLess]
 |a::x,b::y,h,hn=>by
  simp only[Op.bytesLess,Bool.or_eq_false_iff,decide_eq_false_iff_not,Bool.and_eq_false_iff,beq_eq_false_iff_ne]at h
  simp only[Op.bytesLess,Bool.or_eq_true,decide_eq_true_eq,Bool.and_eq_true,beq_iff_eq]
  by_cases e:a=b
  ·subst e
   right
   refine⟨rfl,Rg x y (h.2.resolve_left fun h=>h rfl) fun e=>hn (by rw[e])⟩
  ·left
   exact(UInt8.lt_or_lt_of_ne e).resolve_left h.1
theorem Zr(a b:ByteArray):(!(ltB a b))=(ltB b a||decide (b=a)):=by
 unfold ltB
 cases h:Op.bytesLess a.toList b.toList with
 |true=>
  rw[Jt _ _ h]
  have:¬b=a:=by
   rintro rfl
   have:=Jt _ _ h
   rw[h]at this
   cases this
  rw[decide_eq_false this];rfl
 |false=>
  by_cases e:b=a
  ·rw[decide_eq_true e,Bool.or_true];rfl
  ·rw[Rg _ _ h fun e2=>e (Ku e2.symm),decide_eq_false e];rfl
def Fx(d:Ad)(l:List Aa):Bool:=A2 d l
def Ip(a b:List Aa):Bool:=Ek a b
def Dl(l:List Aa)(name:ByteArray):List Aa:=l.filter fun x=>!decide (x.name_=name)
def O7(e:Aa):List Aa→Bool→List Aa
 |[],done=>if done=true then[]else[e]
 |x::l,done=>(if done=false∧ltB x.name_ e.name_=false then[e]else[])++((if x.name_=e.name_ then[]else[x])++O7 e l (done|| !(ltB x.name_ e.name_)))
def Ea(l:List Aa)(e:Aa):List Aa:=O7 e l false
theorem Lk{e x:Aa}{l:List Aa}{i:Nat}{b:Bool}{w:List Aa}{r:List Aa}(hi:i<l.length)(hx:x=l[i])(h:w++O7 e (l.drop i) b=r):
  w++((if b=false∧ltB x.name_ e.name_=false then[e]else[])++((if x.name_=e.name_ then[]else[x])++O7 e (l.drop (i+1)) (b|| !(ltB x.name_ e.name_))))=r:=by
 rw[List.drop_eq_getElem_cons hi,←hx]at h
 exact h
variable {A4:List Bb} {Cl Co Cr Cq xl xo:List (List D)} {Bd A9 l:List Aa} {A7:List ByteArray} {Bh Bg:Int} {o:Bool}
theorem XeF{o:Int}(B4:A4.map Ce=Cl)(Ck:Bd.map Ac=Co)(Cn:A9.map Ac=Cr)(Cd:A7.map cS=Cq)(hd:okD ⟨A4,Bd,A9,A7,Bh,Bg⟩)(hr:G5 (⟨A4,Bd,A9,A7,Bh,Bg⟩:Ad)=o):Fn Tryz.prog 170 [.agg [.d (.row 3 Cl),.d (.row 2 Co),.d (.row 2 Cr),.d (.row 1 Cq),I Bh,I Bg]] [] ⟨I o,[],[]⟩:=by
 refine Fn.go Hf Tryz.func170 fun P hP Q hQ=>?_
 conv=>cbv
 refine LoopW.lp (κ:=Int×Int) Hf hP [] [1] (fun(i3,i4)=>[(3,I i3),(4,I i4)]) (fun(i3,i4)=>[])
  (fun(i3,i4)=>0≤i4∧i4≤A4.length∧i3=Xgo (fun n:Bb=>(n.text_.size:Int)) (A4.take i4.toNat)∧0≤i3∧i3≤1000000000*i4)
  (fun(i3,i4)=>(A4.length - i4).toNat) (0,0) ⟨by omega,by omega,rfl,by omega,by omega⟩ ⟨rfl,rfl,trivial⟩ rfl ?_
 rintro⟨i3,i4⟩ J ⟨h0,h1,hx,hx0,hx1⟩ hJ
 have ag:A4.length≤1000000000:=hd.1
 have ac:∀n∈A4,n.text_.size≤1000000000:=hd.2.1
 conv=>cbv
 refine .go B4 fun v1 ah=>?_
 conv=>cbv
 refine .lss (fun h2=>?_) fun h2=>?_
 conv=>cbv
 refine .go i4.toNat B4 fun aa ⟨af,ad,ae⟩ ab=>?_
 conv=>cbv
 have hz:=ac _ (List.getElem_mem aa)
 rw[←ab]at hz
 simp only[]at hz
 refine .go fun v4 ai=>?_
 conv=>cbv
 refine .add fun v5 aj=>?_
 conv=>cbv
 refine .add fun v6 ak=>?_
 conv=>cbv
 exact .go [] (v5,v6) (hJ _ ⟨by omega,by omega,by rw[show v6.toNat=i4.toNat+1 by omega,V1 aa,←hx,←ab];simp only[];omega,by omega,by omega⟩ mlt)
 conv=>cbv
 have e:i3=G5 (⟨A4,Bd,A9,A7,Bh,Bg⟩:Ad):=(by unfold G5;rw[hx,List.take_of_length_le (by omega)])
 rw[hr]at e
 subst e
 exact hQ _ _ (.i rfl rfl)
theorem Ke:Setup Tryz.prog ((3000004,Eh Tryz.prog 3000004)::Q9):=(Setup.mark 3000004 Hf)
theorem Wu{list:List Aa}{xlist:List (List D)}(B4:A4.map Ce=Cl)(Ck:Bd.map Ac=Co)(Cn:A9.map Ac=Cr)(Cd:A7.map cS=Cq)(hlist:list.map Ac=xlist)(hd:okD ⟨A4,Bd,A9,A7,Bh,Bg⟩)(hl:okL list)(hln:list.length≤1000000000)(hr:Fx (⟨A4,Bd,A9,A7,Bh,Bg⟩:Ad) list=o):Fn Tryz.prog 171 [.agg [.d (.row 3 Cl),.d (.row 2 Co),.d (.row 2 Cr),.d (.row 1 Cq),I Bh,I Bg],.d (.row 2 xlist)] [] ⟨B o,[],[]⟩:=by
 refine Fn.go Ke Tryz.func171 fun P hP Q hQ=>?_
 conv=>cbv
 refine LoopW.lp (κ:=Int) Ke hP [] [1,2] (fun i5=>[(5,I i5)]) (fun i5=>[])
  (fun i5=>0≤i5∧i5≤list.length∧∀j:Nat,j<i5.toNat→Ef (⟨A4,Bd,A9,A7,Bh,Bg⟩:Ad) list j=true)
  (fun i5=>(list.length - i5).toNat) (0) ⟨by omega,by omega,fun j h=>by simp at h⟩ ⟨rfl,trivial⟩ rfl ?_
 rintro i5 J ⟨h0,h1,hb⟩ hJ
 conv=>cbv
 refine .go hlist fun v1 a1=>?_
 conv=>cbv
 refine .lss (fun h2=>?_) fun h2=>?_
 conv=>cbv
 refine .go i5.toNat hlist fun aa ⟨ab,am⟩ aj=>?_
 conv=>cbv
 have hnd:=Yo aa aj
 have hzn:ab.size≤1000000000:=by have:=hl _ (List.getElem_mem aa);rw[←aj]at this;exact this
 generalize ag:Bo ab=r4
 refine .dd hP (Nq (by omega) ag) ?_
 cases r4
 conv=>cbv
 refine .go2 (by kernel_rfl) ?_
 conv=>cbv
 have e:false=Fx (⟨A4,Bd,A9,A7,Bh,Bg⟩:Ad) list:=(by exact K2 (d:=(⟨A4,Bd,A9,A7,Bh,Bg⟩:Ad)) aa (by unfold Ef;rw[hnd];simp only[];rw[ag,Bool.and_false];rfl))
 rw[hr]at e
 subst e
 exact hQ _ _ (.b rfl rfl)
 conv=>cbv
 refine .go i5.toNat hlist fun az ⟨ae,ac⟩ an=>?_
 conv=>cbv
 generalize ao:Ij (⟨A4,Bd,A9,A7,Bh,Bg⟩:Ad) ac=r6
 refine .dd hP (Wl B4 Ck Cn Cd (by have:=hd.1;simp only[]at this;omega) ao) ?_
 conv=>cbv
 obtain⟨rfl,rfl⟩:ae=ab∧ac=am:=by have:=an.trans aj.symm;rw[Aa.mk.injEq]at this;exact this
 have af:G4 (⟨A4,Bd,A9,A7,Bh,Bg⟩:Ad) ac=r6:=ao
 refine .lss (fun h7=>?_) fun h7=>?_
 conv=>cbv
 refine .go2 (by kernel_rfl) ?_
 conv=>cbv
 have e:false=Fx (⟨A4,Bd,A9,A7,Bh,Bg⟩:Ad) list:=(by exact K2 (d:=(⟨A4,Bd,A9,A7,Bh,Bg⟩:Ad)) aa (by unfold Ef;rw[hnd];simp only[];rw[af,decide_eq_false (show¬0≤r6 by omega),Bool.and_false]))
 rw[hr]at e
 subst e
 exact hQ _ _ (.b rfl rfl)
 conv=>cbv
 refine .gtr (fun h8=>?_) fun h8=>?_
 conv=>cbv
 refine .sub fun v9 ar=>?_
 conv=>cbv
 refine .go v9.toNat hlist fun ak ⟨ah,au⟩ ap=>?_
 conv=>cbv
 refine .go i5.toNat hlist fun aw ⟨ad,al⟩ aq=>?_
 conv=>cbv
 obtain⟨rfl,rfl⟩:ad=ae∧al=ac:=by have:=aq.trans an.symm;rw[Aa.mk.injEq]at this;exact this
 have hpd:=Yo ak ap
 rw[show v9.toNat=i5.toNat - 1 by omega]at hpd
 have hgq:=(Zr ah ad).symm
 refine .geq fun ax ai=>?_
 conv=>cbv
 refine .go2 (by kernel_rfl) ?_
 conv=>cbv
 cases ax
 conv=>cbv
 refine .add fun ay a0=>?_
 conv=>cbv
 exact .go [] (ay) (hJ _ ⟨by omega,by omega,fun j h=>if e:j=i5.toNat then by subst e;unfold Ef;rw[hnd,hpd];simp only[];rw[hgq,←ai,ag,af,decide_eq_true (show 0≤r6 by omega),decide_eq_false (show¬i5.toNat=0 by omega)];rfl else hb j (by omega)⟩ mlt)
 conv=>cbv
 have e:false=Fx (⟨A4,Bd,A9,A7,Bh,Bg⟩:Ad) list:=(by exact K2 (d:=(⟨A4,Bd,A9,A7,Bh,Bg⟩:Ad)) aa (by unfold Ef;rw[hnd];simp only[];rw[hpd];simp only[];rw[hgq,←ai,decide_eq_false (show¬i5.toNat=0 by omega)];rfl))
 rw[hr]at e
 subst e
 exact hQ _ _ (.b rfl rfl)
 conv=>cbv
 refine .go2 (by kernel_rfl) ?_
 conv=>cbv
 refine .add fun v9 ar=>?_
 conv=>cbv
 exact .go [] (v9) (hJ _ ⟨by omega,by omega,fun j h=>if e:j=i5.toNat then by subst e;unfold Ef;rw[hnd];simp only[];rw[ag,af,decide_eq_true (show 0≤r6 by omega),decide_eq_true (show i5.toNat=0 by omega)];rfl else hb j (by omega)⟩ mlt)
 conv=>cbv
 refine .go hlist fun v3 a2=>?_
 conv=>cbv
 refine .leq (fun h4=>?_) fun h4=>?_
 conv=>cbv
 have e:true=Fx (⟨A4,Bd,A9,A7,Bh,Bg⟩:Ad) list:=(by exact Ph (l:=list) (fun j hj=>hb j (by omega)) (by symm;rw[decide_eq_true_eq];omega))
 rw[hr]at e
 subst e
 exact hQ _ _ (.b rfl rfl)
 conv=>cbv
 have e:false=Fx (⟨A4,Bd,A9,A7,Bh,Bg⟩:Ad) list:=(by exact Ph (l:=list) (fun j hj=>hb j (by omega)) (by symm;rw[decide_eq_false_iff_not];omega))
 rw[hr]at e
 subst e
 exact hQ _ _ (.b rfl rfl)
theorem XdY{a:List Aa}{xa:List (List D)}{b:List Aa}{xb:List (List D)}(ha:a.map Ac=xa)(hb:b.map Ac=xb)(ai:a.length<2^40)(hr:Ip a b=o):Fn Tryz.prog 172 [.d (.row 2 xa),.d (.row 2 xb)] [] ⟨B o,[],[]⟩:=by
 refine Fn.go Hf Tryz.func172 fun P hP Q hQ=>?_
 conv=>cbv
 refine .go ha fun v1 aj=>?_
 conv=>cbv
 refine .go hb fun v2 ak=>?_
 conv=>cbv
 refine .neq (fun h3=>?_) fun h3=>?_
 conv=>cbv
 have e:false=Ip a b:=(by unfold Ip Ek;symm;rw[decide_eq_false_iff_not];intro h;subst h;omega)
 rw[hr]at e
 subst e
 exact hQ _ _ (.b rfl rfl)
 conv=>cbv
 refine LoopW.lp (κ:=Int) Hf hP [] [0,1] (fun i5=>[(5,I i5)]) (fun i5=>[])
  (fun i5=>0≤i5∧i5≤a.length∧∀(j:Nat) (p:j<a.length) (q:j<b.length),j<i5.toNat→a[j]=b[j])
  (fun i5=>(a.length - i5).toNat) (0) ⟨by omega,by omega,fun j p q h=>by simp at h⟩ ⟨rfl,trivial⟩ rfl ?_
 rintro i5 J ⟨h0,h1,hs⟩ hJ
 conv=>cbv
 refine .go ha fun v4 al=>?_
 conv=>cbv
 refine .lss (fun h5=>?_) fun h5=>?_
 conv=>cbv
 refine .go i5.toNat ha fun ae ⟨ac,af⟩ aa=>?_
 conv=>cbv
 refine .go i5.toNat hb fun ag ⟨ad,ah⟩ ab=>?_
 conv=>cbv
 refine .eSI (fun h8=>?_) fun h8=>?_
 conv=>cbv
 refine .add fun v9 am=>?_
 conv=>cbv
 exact .go [] (v9) (hJ _ ⟨by omega,by omega,fun j p q h=>if e:j=i5.toNat then by subst e;rw[←aa,←ab,Aa.mk.injEq];exact h8 else hs j p q (by omega)⟩ mlt)
 conv=>cbv
 have e:false=Ip a b:=(by unfold Ip Ek;symm;rw[decide_eq_false_iff_not];intro h;subst h;have:=aa.trans ab.symm;rw[Aa.mk.injEq]at this;exact h8 this)
 rw[hr]at e
 subst e
 exact hQ _ _ (.b rfl rfl)
 conv=>cbv
 have e:true=Ip a b:=(by unfold Ip Ek;symm;rw[decide_eq_true_eq];exact List.ext_getElem (show a.length=b.length by omega) fun j p q=>hs j p q (by omega))
 rw[hr]at e
 subst e
 exact hQ _ _ (.b rfl rfl)
theorem Nr{name:ByteArray}{o:List Aa}(hl:l.map Ac=xl)(hn:l.length≤4000000000)(hr:Dl l name=o)(ho:o.map Ac=xo):Fn Tryz.prog 243 [.d (.row 2 xl),S name] [] ⟨.d (.row 2 xo),[],[]⟩:=by
 refine Fn.go Hf Tryz.func243 fun P hP Q hQ=>?_
 conv=>cbv
 refine LoopW.lp (κ:=Int×(List (List D))×Nat) Hf hP [1] [0,1] (fun(i6,aa,ab)=>[(5,.ref 2 0 ab),(6,I i6)]) (fun(i6,aa,ab)=>[(2,.row 2 false aa)])
  (fun(i6,aa,ab)=>∃(w2:List Aa),w2.map Ac=aa∧ab=w2.length∧0≤i6∧i6≤l.length∧w2=(l.take i6.toNat).filter (fun x=>!decide (x.name_=name))∧w2.length≤i6)
  (fun(i6,aa,ab)=>(l.length - i6).toNat) (0,[],0) ⟨[],rfl,rfl,by omega,by omega,rfl,by simp⟩ ⟨rfl,rfl,trivial⟩ rfl ?_
 rintro⟨i6,aa,ab⟩ J ⟨w2,ac,al,h0,h1,hx,hxl⟩ hJ
 conv=>cbv
 refine .go hl fun v1 ap=>?_
 conv=>cbv
 refine .lss (fun h2=>?_) fun h2=>?_
 conv=>cbv
 refine .go i6.toNat hl fun ad ⟨ah,am⟩ ae=>?_
 conv=>cbv
 refine .neq (fun h4=>?_) fun h4=>?_
 conv=>cbv
 refine .go i6.toNat hl fun an ⟨af,ag⟩ ai=>?_
 conv=>cbv
 refine .one (⟨af,ag⟩:Aa) ac rfl fun aj z6 ao ak=>?_
 conv=>cbv
 refine .add fun v7 aq=>?_
 conv=>cbv
 exact .go [4] (v7,z6,aj) (hJ _ ⟨_,ak,N8,by omega,by omega,by rw[show v7.toNat=i6.toNat+1 by omega,Fw ad,←hx,←ae];simp only[];rw[decide_eq_false h4,ai,←ae];rfl,by rw[List.length_append,List.length_singleton];omega⟩ mlt)
 conv=>cbv
 refine .add fun v5 ar=>?_
 conv=>cbv
 exact .go [2] (v5,aa,ab) (hJ _ ⟨_,ac,N8,by omega,by omega,by rw[show v5.toNat=i6.toNat+1 by omega,Fw ad,←hx,←ae];simp only[];rw[decide_eq_true h4];simp,by omega⟩ mlt)
 conv=>cbv
 have e:w2=Dl l name:=(by unfold Dl;rw[hx,List.take_of_length_le (by omega)])
 rw[hr]at e
 subst e
 exact hQ _ _ (.r rfl rfl (by rw[←ac,List.length_map];first|omega|(simp;omega)) (by rw[←ac,←ho]))
theorem Ik{enam:ByteArray}{eid:Int}{o:List Aa}(hl:l.map Ac=xl)(hn:l.length≤4000000000)(hr:Ea l (⟨enam,eid⟩:Aa)=o)(ho:o.map Ac=xo):Fn Tryz.prog 244 [.d (.row 2 xl),.agg [S enam,I eid]] [] ⟨.d (.row 2 xo),[],[]⟩:=by
 refine Fn.go Hf Tryz.func244 fun P hP Q hQ=>?_
 conv=>cbv
 refine LoopW.lp (κ:=Bool×Int×(List (List D))×Nat) Hf hP [2] [0,3] (fun(b6,i7,ad,ae)=>[(5,.ref 3 0 ae),(6,B b6),(7,I i7)]) (fun(b6,i7,ad,ae)=>[(3,.row 2 false ad)])
  (fun(b6,i7,ad,ae)=>∃(w3:List Aa),w3.map Ac=ad∧ae=w3.length∧0≤i7∧i7≤l.length∧w3++O7 (⟨enam,eid⟩:Aa) (l.drop i7.toNat) b6=Ea l (⟨enam,eid⟩:Aa)∧w3.length≤2*i7)
  (fun(b6,i7,ad,ae)=>(l.length - i7).toNat) (false,0,[],0) ⟨[],rfl,rfl,by omega,by omega,rfl,by simp⟩ ⟨rfl,rfl,rfl,trivial⟩ rfl ?_
 rintro⟨b6,i7,ad,ae⟩ J ⟨w3,af,a9,h0,h1,hx,hxl⟩ hJ
 conv=>cbv
 refine .go hl fun v1 bj=>?_
 conv=>cbv
 refine .lss (fun h2=>?_) fun h2=>?_
 conv=>cbv
 cases b6
 conv=>cbv
 refine .go i7.toNat hl fun aq ⟨ac,ak⟩ ab=>?_
 conv=>cbv
 refine .geq fun b4 al=>?_
 conv=>cbv
 cases b4
 conv=>cbv
 refine .go i7.toNat hl fun ar ⟨aa,ag⟩ am=>?_
 conv=>cbv
 obtain⟨rfl,rfl⟩:aa=ac∧ag=ak:=by have:=am.trans ab.symm;rw[Aa.mk.injEq]at this;exact this
 refine .neq (fun h6=>?_) fun h6=>?_
 conv=>cbv
 refine .go i7.toNat hl fun ba ⟨ah,an⟩ az=>?_
 conv=>cbv
 obtain⟨rfl,rfl⟩:ah=aa∧an=ag:=by have:=az.trans am.symm;rw[Aa.mk.injEq]at this;exact this
 refine .one (⟨ah,an⟩:Aa) af rfl fun a0 z8 bb a1=>?_
 conv=>cbv
 refine .add fun v9 bk=>?_
 conv=>cbv
 have hlt:ltB ah enam=true:=by simpa using al
 have hps:=Lk (show i7.toNat<l.length by omega) ab hx
 simp only[]at hps
 rw[hlt,if_neg (by simp),if_neg h6,List.nil_append,←List.append_assoc]at hps
 exact .go [5] (false,v9,z8,a0) (hJ _ ⟨_,a1,N8,by omega,by omega,by rw[show v9.toNat=i7.toNat+1 by omega];exact hps,by first|omega|(simp;omega)⟩ mlt)
 conv=>cbv
 refine .add fun v7 a2=>?_
 conv=>cbv
 have hlt:ltB aa enam=true:=by simpa using al
 have hps:=Lk (show i7.toNat<l.length by omega) ab hx
 simp only[]at hps
 rw[hlt,if_neg (by simp),if_pos h6,List.nil_append,List.nil_append]at hps
 exact .go [3] (false,v7,ad,ae) (hJ _ ⟨_,af,N8,by omega,by omega,by rw[show v7.toNat=i7.toNat+1 by omega];exact hps,by first|omega|(simp;omega)⟩ mlt)
 conv=>cbv
 refine .one (⟨enam,eid⟩:Aa) af rfl fun a3 z5 bc au=>?_
 conv=>cbv
 refine .go i7.toNat hl fun bd ⟨ai,ao⟩ aw=>?_
 conv=>cbv
 obtain⟨rfl,rfl⟩:ai=ac∧ao=ak:=by have:=aw.trans ab.symm;rw[Aa.mk.injEq]at this;exact this
 refine .neq (fun h7=>?_) fun h7=>?_
 conv=>cbv
 refine .go i7.toNat hl fun be ⟨aj,ap⟩ a4=>?_
 conv=>cbv
 obtain⟨rfl,rfl⟩:aj=ai∧ap=ao:=by have:=a4.trans aw.symm;rw[Aa.mk.injEq]at this;exact this
 refine .one (⟨aj,ap⟩:Aa) au rfl fun a5 z9 bf a6=>?_
 conv=>cbv
 refine .add fun ax bg=>?_
 conv=>cbv
 have hlt:ltB aj enam=false:=by simpa using al
 have hps:=Lk (show i7.toNat<l.length by omega) ab hx
 simp only[]at hps
 rw[hlt,if_pos (by simp),if_neg h7,←List.append_assoc,←List.append_assoc]at hps
 exact .go [7] (true,ax,z9,a5) (hJ _ ⟨_,a6,N8,by omega,by omega,by rw[show ax.toNat=i7.toNat+1 by omega];exact hps,by first|omega|(simp;omega)⟩ mlt)
 conv=>cbv
 refine .add fun v8 bl=>?_
 conv=>cbv
 have hlt:ltB ai enam=false:=by simpa using al
 have hps:=Lk (show i7.toNat<l.length by omega) ab hx
 simp only[]at hps
 rw[hlt,if_pos (by simp),if_pos h7,List.nil_append,←List.append_assoc]at hps
 exact .go [5] (true,v8,z5,a3) (hJ _ ⟨_,au,N8,by omega,by omega,by rw[show v8.toNat=i7.toNat+1 by omega];exact hps,by first|omega|(simp;omega)⟩ mlt)
 conv=>cbv
 refine .go i7.toNat hl fun aq ⟨ac,ak⟩ ab=>?_
 conv=>cbv
 refine .neq (fun h4=>?_) fun h4=>?_
 conv=>cbv
 refine .go i7.toNat hl fun ar ⟨aa,ag⟩ am=>?_
 conv=>cbv
 obtain⟨rfl,rfl⟩:aa=ac∧ag=ak:=by have:=am.trans ab.symm;rw[Aa.mk.injEq]at this;exact this
 refine .one (⟨aa,ag⟩:Aa) af rfl fun a7 z6 bh a8=>?_
 conv=>cbv
 refine .add fun v7 a2=>?_
 conv=>cbv
 have hps:=Lk (show i7.toNat<l.length by omega) ab hx
 simp only[]at hps
 rw[if_neg (by simp),if_neg h4,List.nil_append,←List.append_assoc]at hps
 exact .go [5] (true,v7,z6,a7) (hJ _ ⟨_,a8,N8,by omega,by omega,by rw[show v7.toNat=i7.toNat+1 by omega];exact hps,by first|omega|(simp;omega)⟩ mlt)
 conv=>cbv
 refine .add fun v5 bm=>?_
 conv=>cbv
 have hps:=Lk (show i7.toNat<l.length by omega) ab hx
 simp only[]at hps
 rw[if_neg (by simp),if_pos h4,List.nil_append,List.nil_append]at hps
 exact .go [3] (true,v5,ad,ae) (hJ _ ⟨_,af,N8,by omega,by omega,by rw[show v5.toNat=i7.toNat+1 by omega];exact hps,by first|omega|(simp;omega)⟩ mlt)
 conv=>cbv
 cases b6
 conv=>cbv
 refine .one (⟨enam,eid⟩:Aa) af rfl fun bn z3 bi ay=>?_
 conv=>cbv
 have e:(w3++[(⟨enam,eid⟩:Aa)])=Ea l (⟨enam,eid⟩:Aa):=(by rw[List.drop_of_length_le (by omega)]at hx;exact hx)
 rw[hr]at e
 subst e
 exact hQ _ _ (.r rfl rfl (by rw[←ay,List.length_map];first|omega|(simp;omega)) (by rw[←ay,←ho]))
 conv=>cbv
 have e:w3=Ea l (⟨enam,eid⟩:Aa):=(by rw[List.drop_of_length_le (by omega)]at hx;simpa[O7]using hx)
 rw[hr]at e
 subst e
 exact hQ _ _ (.r rfl rfl (by rw[←af,List.length_map];first|omega|(simp;omega)) (by rw[←af,←ho]))
end
section
open Go Go.Proofs
set_option maxRecDepth 20000
set_option maxHeartbeats 4000000
def Qv:List (Nat×TyRow):=[ty3,ty9,XcJ,XdV,XcZ]
theorem V9:Ca Tryz.prog Qv:=Ca.of (by kernel_rfl)
theorem Uq:Setup Tryz.prog Qv:=⟨V9,mixed⟩
theorem diskOk_iff{d:Ad}:B5 d=true↔(0≤d.room_∧d.room_≤1000000000)∧(1≤d.next_∧d.next_≤1000000000)∧Df d=true∧G5 d≤d.room_∧Dn d d.old_ d.steps_=true:=by
 unfold B5 Be Bm
 simp only[Bool.and_eq_true,decide_eq_true_eq,and_assoc]
theorem C8{d:Ad}(h:¬B5 d=true):false=B5 d:=by
 symm
 rw[Bool.eq_false_iff]
 exact h
theorem Sv{d:Ad}{now:List Aa}{l:List ByteArray}(h:A2 d now=false):Dn d now l=false:=by
 cases l with
 |nil=>unfold Dn;rw[h];rfl
 |cons=>unfold Dn;rw[h];rfl
def Gn:List Aa→List ByteArray→List Aa×Bool
 |now,[]=>(now,true)
 |now,s::ss=>if(At now s).2=false then([],false)else Gn (At now s).1 ss
def Cj(old:List Aa)(steps:List ByteArray)(n:Int):List Aa×Bool:=Gn old (steps.take (B8 n 0 steps.length).toNat)
theorem Oq:Setup Tryz.prog ((3000001,Eh Tryz.prog 3000001)::Qv):=(Setup.mark 3000001 Uq)
theorem Xew{A4:List Bb}{Cl:List (List D)}{Bd:List Aa}{Co:List (List D)}{A9:List Aa}{Cr:List (List D)}{A7:List ByteArray}{Cq:List (List D)}{Bh:Int}{Bg:Int}{o:Bool}(B4:A4.map Ce=Cl)(Ck:Bd.map Ac=Co)(Cn:A9.map Ac=Cr)(Cd:A7.map cS=Cq)(ab:Xbf ⟨A4,Bd,A9,A7,Bh,Bg⟩)(hr:B5 (⟨A4,Bd,A9,A7,Bh,Bg⟩:Ad)=o):Fn Tryz.prog 87 [.agg [.d (.row 3 Cl),.d (.row 2 Co),.d (.row 2 Cr),.d (.row 1 Cq),I Bh,I Bg]] [] ⟨B o,[],[]⟩:=by
 refine Fn.go Oq Tryz.func87 fun P hP Q hQ=>?_
 conv=>cbv
 generalize ad:Be Bh=r1
 refine .dd hP (Fh ad) ?_
 cases r1
 simp only[Be,decide_eq_true_eq,decide_eq_false_iff_not]at ad
 conv=>cbv
 refine .go2 (by kernel_rfl) ?_
 conv=>cbv
 have e:false=B5 (⟨A4,Bd,A9,A7,Bh,Bg⟩:Ad):=(by exact C8 fun h=>by rw[diskOk_iff]at h;exact ad h.1)
 rw[hr]at e
 subst e
 exact hQ _ _ (.b rfl rfl)
 simp only[Be,decide_eq_true_eq,decide_eq_false_iff_not]at ad
 conv=>cbv
 generalize ae:Bm Bg 1 1000000000=r2
 refine .dd hP (E5 ae) ?_
 cases r2
 simp only[Bm,decide_eq_true_eq,decide_eq_false_iff_not]at ae
 conv=>cbv
 refine .go2 (by kernel_rfl) ?_
 conv=>cbv
 have e:false=B5 (⟨A4,Bd,A9,A7,Bh,Bg⟩:Ad):=(by exact C8 fun h=>by rw[diskOk_iff]at h;exact ae h.2.1)
 rw[hr]at e
 subst e
 exact hQ _ _ (.b rfl rfl)
 simp only[Bm,decide_eq_true_eq,decide_eq_false_iff_not]at ae
 conv=>cbv
 generalize am:Df (⟨A4,Bd,A9,A7,Bh,Bg⟩:Ad)=r3
 refine .dd hP (Qx B4 Ck Cn Cd ab.1 (by omega) am) ?_
 cases r3
 conv=>cbv
 refine .go2 (by kernel_rfl) ?_
 conv=>cbv
 have e:false=B5 (⟨A4,Bd,A9,A7,Bh,Bg⟩:Ad):=(by exact C8 fun h=>by rw[diskOk_iff]at h;have:=h.2.2.1;rw[am]at this;cases this)
 rw[hr]at e
 subst e
 exact hQ _ _ (.b rfl rfl)
 conv=>cbv
 generalize an:G5 (⟨A4,Bd,A9,A7,Bh,Bg⟩:Ad)=r4
 refine .dd hP (Xeg B4 Ck Cn Cd ab.1 an) ?_
 conv=>cbv
 refine .gtr (fun h5=>?_) fun h5=>?_
 conv=>cbv
 refine .go2 (by kernel_rfl) ?_
 conv=>cbv
 have e:false=B5 (⟨A4,Bd,A9,A7,Bh,Bg⟩:Ad):=(by exact C8 fun h=>by rw[diskOk_iff]at h;have:=h.2.2.2.1;rw[an]at this;simp only[]at this;omega)
 rw[hr]at e
 subst e
 exact hQ _ _ (.b rfl rfl)
 conv=>cbv
 refine .go2 (by kernel_rfl) ?_
 conv=>cbv
 have hdo:A9.length≤1000000000:=ab.1.2.2.2.2.1
 have hds:A7.length≤1000000000:=ab.1.2.2.2.2.2
 generalize aq:E4 A9=l6
 generalize ar:l6.map Ac=az
 refine .dd hP (Cg Cn (by omega) aq ar) ?_
 conv=>cbv
 have af:l6=A9:=aq.symm
 refine LoopW.lp (κ:=(List (List D))×Int) Oq hP [] [1] (fun(ac,i4)=>[(3,.d (.row 2 ac)),(4,I i4)]) (fun(ac,i4)=>[])
  (fun(ac,i4)=>∃(u3:List Aa),u3.map Ac=ac∧0≤i4∧i4≤A7.length∧Dn (⟨A4,Bd,A9,A7,Bh,Bg⟩:Ad) A9 A7=Dn (⟨A4,Bd,A9,A7,Bh,Bg⟩:Ad) u3 (A7.drop i4.toNat)∧okL u3∧u3.length≤1000000000)
  (fun(ac,i4)=>(A7.length - i4).toNat) (az,0) ⟨l6,ar,by omega,by omega,by rw[af];rfl,by rw[af];exact ab.2.1,by rw[af];omega⟩ ⟨rfl,rfl,trivial⟩ rfl ?_
 rintro⟨ac,i4⟩ J ⟨u3,ao,h0,h1,hio,hul,hun⟩ hJ
 conv=>cbv
 generalize ag:A2 (⟨A4,Bd,A9,A7,Bh,Bg⟩:Ad) u3=r7
 refine .dd hP (Oe B4 Ck Cn Cd ao ab.1 hul (by omega) ag) ?_
 cases r7
 conv=>cbv
 have e:false=B5 (⟨A4,Bd,A9,A7,Bh,Bg⟩:Ad):=(by exact C8 fun h=>by rw[diskOk_iff]at h;have hk:=h.2.2.2.2;simp only[]at hk;rw[hio]at hk;rw[Sv ag]at hk;cases hk)
 rw[hr]at e
 subst e
 exact hQ _ _ (.b rfl rfl)
 conv=>cbv
 have a1:=U8 ag
 refine .go Cd fun v8 a3=>?_
 conv=>cbv
 refine .eql (fun h9=>?_) fun h9=>?_
 conv=>cbv
 generalize ah:Ek u3 Bd=a0
 refine .dd hP (Ib ao Ck (by omega) ah) ?_
 cases a0
 conv=>cbv
 have e:false=B5 (⟨A4,Bd,A9,A7,Bh,Bg⟩:Ad):=(by exact C8 fun h=>by rw[diskOk_iff]at h;have hk:=h.2.2.2.2;simp only[]at hk;rw[hio]at hk;rw[List.drop_of_length_le (by omega)]at hk;unfold Dn at hk;rw[ah,Bool.and_false]at hk;cases hk)
 rw[hr]at e
 subst e
 exact hQ _ _ (.b rfl rfl)
 conv=>cbv
 have e:true=B5 (⟨A4,Bd,A9,A7,Bh,Bg⟩:Ad):=(by symm;rw[diskOk_iff];refine⟨ad,ae,am,by rw[an];exact h5,?_⟩;simp only[];rw[hio,List.drop_of_length_le (by omega)];unfold Dn;rw[ag,ah];rfl)
 rw[hr]at e
 subst e
 exact hQ _ _ (.b rfl rfl)
 conv=>cbv
 refine .go i4.toNat Cd fun ai aj al=>?_
 conv=>cbv
 have au:aj.size≤1000000000:=al▸ab.2.2 _ (List.getElem_mem ai)
 have hdc:A7.drop i4.toNat=aj::A7.drop (i4.toNat+1):=by rw[List.drop_eq_getElem_cons ai,←al]
 rw[hdc]at hio
 rcases aa:At u3 aj with⟨aw,ax⟩
 generalize ak:aw.map Ac=ap
 refine .dd hP (S1 ao (by omega) (by omega) aa ak) ?_
 conv=>cbv
 have hsl:=Mw aa
 have hso:=Xba hul au aa
 cases ax
 conv=>cbv
 have e:false=B5 (⟨A4,Bd,A9,A7,Bh,Bg⟩:Ad):=(by exact C8 fun h=>by rw[diskOk_iff]at h;have hk:=h.2.2.2.2;simp only[]at hk;rw[hio]at hk;unfold Dn at hk;rw[aa,Bool.and_false]at hk;cases hk)
 rw[hr]at e
 subst e
 exact hQ _ _ (.b rfl rfl)
 conv=>cbv
 refine .add fun ay a2=>?_
 conv=>cbv
 exact .go [] (ap,ay) (hJ _ ⟨_,ak,by omega,by omega,by rw[hio,show ay.toNat=i4.toNat+1 by omega];show(A2 _ _&&(At u3 aj).2&&Dn _ (At u3 aj).1 _)=_;rw[ag,aa];rfl,hso,by omega⟩ mlt)
theorem Zv{old:List Aa}{xold:List (List D)}{steps:List ByteArray}{xsteps:List (List D)}{n:Int}{oa:List Aa}{xoa:List (List D)}{ob:Bool}(hold:old.map Ac=xold)(hsteps:steps.map cS=xsteps)(hol:old.length≤1000000000)(hsl:steps.length≤1000000000)(hss:okS steps)(hr:Cj old steps n=(oa,ob))(hoa:oa.map Ac=xoa):Fn Tryz.prog 245 [.d (.row 2 xold),.d (.row 1 xsteps),I n] [] ⟨.tup [.d (.row 2 xoa),B ob],[],[]⟩:=by
 refine Fn.go Uq Tryz.func245 fun P hP Q hQ=>?_
 conv=>cbv
 generalize ah:E4 old=l1
 generalize ai:l1.map Ac=am
 refine .dd hP (Cg hold (by omega) ah ai) ?_
 conv=>cbv
 refine .go hsteps fun v2 an=>?_
 conv=>cbv
 generalize ag:B8 n 0 v2=r3
 refine .dd hP (We ag) ?_
 conv=>cbv
 have hbr:0≤r3∧r3≤steps.length:=by rw[←ag];unfold B8;split<;>(try split)<;>omega
 refine .hi hsteps fun x4 hx4=>?_
 conv=>cbv
 refine .go hx4 fun v5 aq=>?_
 conv=>cbv
 have ad:l1=old:=ah.symm
 refine LoopW.lp (κ:=(List (List D))×Int) Uq hP [] [20,21] (fun(ab,aa)=>[(8,.d (.row 2 ab)),(22,I aa)]) (fun(ab,aa)=>[])
  (fun(ab,aa)=>∃(u8:List Aa),u8.map Ac=ab∧0≤aa∧aa≤(steps.take r3.toNat).length∧Cj old steps n=Gn u8 ((steps.take r3.toNat).drop aa.toNat)∧u8.length≤old.length+aa)
  (fun(ab,aa)=>((steps.take r3.toNat).length - aa).toNat) (am,0) ⟨l1,ai,by omega,by omega,by unfold Cj;rw[←an,ag,ad];rfl,by rw[ad];omega⟩ ⟨rfl,rfl,trivial⟩ rfl ?_
 rintro⟨ab,aa⟩ J ⟨u8,aj,h0,h1,hio,hun⟩ hJ
 have htl:(steps.take r3.toNat).length≤steps.length:=by rw[List.length_take];omega
 conv=>cbv
 refine .lss (fun h6=>?_) fun h6=>?_
 conv=>cbv
 refine .go aa.toNat hx4 fun ae e7 ak=>?_
 conv=>cbv
 have ar:e7.size≤1000000000:=by have hm:e7∈steps.take r3.toNat:=ak▸List.getElem_mem ae;exact hss _ (List.mem_of_mem_take hm)
 have hdc:(steps.take r3.toNat).drop aa.toNat=e7::(steps.take r3.toNat).drop (aa.toNat+1):=by rw[List.drop_eq_getElem_cons ae,←ak]
 rw[hdc]at hio
 rcases ac:At u8 e7 with⟨ao,ap⟩
 generalize af:ao.map Ac=al
 refine .dd hP (S1 aj (by omega) (by omega) ac af) ?_
 conv=>cbv
 have hsl8:=Mw ac
 cases ap
 conv=>cbv
 have e:([],false)=Cj old steps n:=(by rw[hio];show _=(if(At u8 e7).2=false then _ else _);rw[ac];rfl)
 rw[hr]at e
 simp only[Prod.mk.injEq]at e
 obtain⟨rfl,rfl⟩:=e
 refine hQ _ _ ?_
 exact .many (.inl rfl) rfl rfl (.ref rfl rfl (by rw[←hoa];rfl) (.d rfl rfl (.nil)))
 conv=>cbv
 refine .add fun v9 au=>?_
 conv=>cbv
 exact .go [] (al,v9) (hJ _ ⟨_,af,by omega,by omega,by rw[hio,show v9.toNat=aa.toNat+1 by omega];show(if(At u8 e7).2=false then _ else _)=_;rw[ac];rfl,by omega⟩ mlt)
 conv=>cbv
 have e:(u8,true)=Cj old steps n:=(by rw[hio,List.drop_of_length_le (by omega)];rfl)
 rw[hr]at e
 simp only[Prod.mk.injEq]at e
 obtain⟨rfl,rfl⟩:=e
 refine hQ _ _ ?_
 exact .many (.inl rfl) rfl rfl (.d rfl (Mh aj hoa) (.d rfl rfl (.nil)))
end
section
open Go Go.Proofs
set_option maxRecDepth 20000
set_option maxHeartbeats 4000000
def Q2:List (Nat×TyRow):=[ty3,ty5,ty9]
theorem X1:Ca Tryz.prog Q2:=Ca.of (by kernel_rfl)
theorem Xey:Setup Tryz.prog Q2:=⟨X1,mixed⟩
theorem U2{a b:ByteArray}(h:a.data.toList=b.data.toList):a=b:=ByteArray.ext (Array.toList_inj.1 h)
theorem D9(s:ByteArray)(a b:Nat):(s.extract a b).data.toList=(s.data.toList.take b).drop a:=by
 rw[ByteArray.data_extract,Array.toList_extract,List.extract_eq_take_drop,List.drop_take]
theorem Ol{c:UInt8}:∀(l:List UInt8) (k:Nat),l[k]? =some c→(∀j,j<k→∀x,l[j]? =some x→x≠c)→Lib.indexByte l c=k
 |[],k,h,_=>by simp at h
 |b::l,0,h,_=>by
  simp at h
  simp[Lib.indexByte,h]
 |b::l,k+1,h,hb=>by
  have h0:=hb 0 (by omega) b rfl
  have ih:=Ol l k (by simpa using h) (fun j hj x hx=>hb (j+1) (by omega) x (by simpa using hx))
  unfold Lib.indexByte
  rw[if_neg (by simpa using h0),ih,if_neg (by simp)]
  omega
theorem Oy{c:UInt8}:∀(l:List UInt8),(∀(j:Nat) x,l[j]? =some x→x≠c)→Lib.indexByte l c= -1
 |[],_=>rfl
 |b::l,hb=>by
  have h0:=hb 0 b rfl
  have ih:=Oy l (fun j x hx=>hb (j+1) x (by simpa using hx))
  unfold Lib.indexByte
  rw[if_neg (by simpa using h0),ih,if_pos (by rfl)]
theorem u8_58{x:UInt8}:x≠58↔x.toNat≠58:=⟨fun h e=>h (UInt8.toNat_inj.1 e),fun h e=>h (by rw[e];rfl)⟩
theorem XaE{s:ByteArray}{j:Nat}{x:UInt8}(h:(s.extract 1 s.size).data.toList[j]? =some x):∃hj:j+1<s.size,s[j+1]=x:=by
 rw[D9,List.getElem?_drop,List.take_of_length_le (by rw[Array.length_toList];exact Nat.le_refl _)]at h
 have hl:1+j<s.size:=by
  have:=(List.getElem?_eq_some_iff.1 h).1
  rwa[Array.length_toList]at this
 refine⟨by omega,?_⟩
 rw[show 1+j=j+1 by omega,J8 (show j+1<s.size by omega)]at h
 exact Option.some.inj h
theorem Nw{s:ByteArray}{i:Nat}(h1:1≤i)(hi:i<s.size)(h:(s[i]).toNat=58)(hb:∀j,1≤j→j<i→∀hj:j<s.size,(s[j]).toNat≠58):I7 (s.extract 1 s.size)=(s.extract 1 i,s.extract (i+1) s.size,true):=by
 obtain⟨k,rfl⟩:∃k,i=k+1:=⟨i - 1,by omega⟩
 have hsz:(s.extract 1 s.size).size=s.size - 1:=by rw[ByteArray.size_extract];omega
 have e:I0 (s.extract 1 s.size)=(k:Int):=by
  refine Ol _ k ?_ ?_
  ·rw[D9,List.getElem?_drop,List.take_of_length_le (by rw[Array.length_toList];exact Nat.le_refl _),show 1+k=k+1 by omega,J8 hi]
   exact congrArg some (UInt8.toNat_inj.1 h)
  ·intro j hj x hx
   obtain⟨aa,rfl⟩:=XaE hx
   exact u8_58.2 (hb (j+1) (by omega) (by omega) aa)
 unfold I7
 rw[e,if_pos (by omega),Int.toNat_natCast,hsz]
 have a1:(s.extract 1 s.size).extract 0 k=s.extract 1 (k+1):=by
  apply U2
  rw[D9,D9,D9,List.drop_zero,List.take_of_length_le (l:=s.data.toList) (by rw[Array.length_toList];exact Nat.le_refl _),List.drop_take,Nat.add_sub_cancel]
 have a2:(s.extract 1 s.size).extract (k+1) (s.size - 1)=s.extract (k+1+1) s.size:=by
  apply U2
  rw[D9,D9,D9,List.take_of_length_le (l:=s.data.toList) (by rw[Array.length_toList];exact Nat.le_refl _),List.take_of_length_le (by rw[List.length_drop,Array.length_toList];exact Nat.le_refl _),List.drop_drop]
  congr 1
  omega
 rw[a1,a2]
theorem XeQ{s:ByteArray}(hb:∀j,1≤j→∀hj:j<s.size,(s[j]).toNat≠58):(I7 (s.extract 1 s.size)).2.2=false:=by
 have e:I0 (s.extract 1 s.size)= -1:=by
  refine Oy _ ?_
  intro j x hx
  obtain⟨aa,rfl⟩:=XaE hx
  exact u8_58.2 (hb (j+1) (by omega) aa)
 unfold I7
 rw[e,if_neg (by omega)]
def Bf(s:ByteArray):ByteArray×ByteArray×Int×Bool:=
 if s.size<2∨(s.data.toList.head?≠some 43∧s.data.toList.head?≠some 45∧s.data.toList.head?≠some 62)then(tx [],tx [],0,false)
 else if s.data.toList.head?=some 45 then(s.extract 1 s.size,tx [],0,true)
 else if(I7 (s.extract 1 s.size)).2.2=false then(tx [],tx [],0,false)
 else if s.data.toList.head?=some 62 then((I7 (s.extract 1 s.size)).1,(I7 (s.extract 1 s.size)).2.1,0,Bo (I7 (s.extract 1 s.size)).2.1&& !decide ((I7 (s.extract 1 s.size)).1=(I7 (s.extract 1 s.size)).2.1))
 else((I7 (s.extract 1 s.size)).1,tx [],(A3 (I7 (s.extract 1 s.size)).2.1).1,(A3 (I7 (s.extract 1 s.size)).2.1).2&&Bo (I7 (s.extract 1 s.size)).1)
theorem H3{s:ByteArray}{v:Int}{n:Nat}(h0:0<s.size)(hv:v=((s[0]).toNat:Int))(h:v≠(n:Int))(hn:n<256):s.data.toList.head?≠some (UInt8.ofNat n):=by
 rw[Il h0]
 intro e
 exact XeZ hv h hn (Option.some.inj e)
theorem Iw{s:ByteArray}{v:Int}{n:Nat}(h0:0<s.size)(hv:v=((s[0]).toNat:Int))(h:v=(n:Int))(hn:n<256):s.data.toList.head?=some (UInt8.ofNat n):=(Il h0).trans (congrArg some (XeH hv h hn))
section
variable {s a b:ByteArray}
theorem S6(h:s.size<2∨(s.data.toList.head?≠some 43∧s.data.toList.head?≠some 45∧s.data.toList.head?≠some 62)):(tx [],tx [],0,false)=Bf s:=by unfold Bf;rw[if_pos h]
theorem Xh(h2:2≤s.size)(h:s.data.toList.head?=some 45):(s.extract 1 s.size,tx [],0,true)=Bf s:=by
 unfold Bf
 rw[if_neg (by rw[h];rintro(h|h);omega;exact h.2.1 rfl),if_pos h]
theorem Tu(h2:2≤s.size)(hh:s.data.toList.head?=some 43∨s.data.toList.head?=some 45∨s.data.toList.head?=some 62)(h45:s.data.toList.head?≠some 45)(hc:(I7 (s.extract 1 s.size)).2.2=false):(tx [],tx [],0,false)=Bf s:=by
 unfold Bf
 rw[if_neg (by rintro(h|⟨k1,k2,k3⟩);omega;rcases hh with h|h|h;exact k1 h;exact k2 h;exact k3 h),if_neg h45,if_pos hc]
theorem Pk(h2:2≤s.size)(h:s.data.toList.head?=some 62)(hc:I7 (s.extract 1 s.size)=(a,b,true)):Bf s=(a,b,0,Bo b&& !decide (a=b)):=by
 unfold Bf
 rw[if_neg (by rw[h];rintro(h|h);omega;exact h.2.2 rfl),if_neg (by rw[h];decide),hc,if_neg (by simp),if_pos h]
theorem Pi(h2:2≤s.size)(h:s.data.toList.head?=some 43)(hc:I7 (s.extract 1 s.size)=(a,b,true)):Bf s=(a,tx [],(A3 b).1,(A3 b).2&&Bo a):=by
 unfold Bf
 rw[if_neg (by rw[h];rintro(h|h);omega;exact h.1 rfl),if_neg (by rw[h];decide),hc,if_neg (by simp),if_neg (by rw[h];decide)]
end
theorem Jy:Setup Tryz.prog ((3000009,Eh Tryz.prog 3000009)::((3000012,Eh Tryz.prog 3000012)::((1000026,Eh Tryz.prog 1000026)::Q2))):=(Setup.mark 3000009 (Setup.mark 3000012 (Setup.mark 1000026 Xey)))
theorem XcO{step:ByteArray}{oa:ByteArray}{ob:ByteArray}{oc:Int}{od:Bool}(hs:step.size≤1000000000)(hr:Bf step=(oa,ob,oc,od)):Fn Tryz.prog 241 [S step] [] ⟨.tup [S oa,S ob,I oc,B od],[],[]⟩:=by
 refine Fn.go Jy Tryz.func241 fun P hP Q hQ=>?_
 conv=>cbv
 refine JoinW.jn (κ:=Unit) Jy hP [] [0] (fun()=>[]) (fun()=>[])
  (fun()=>2≤step.size∧(step.data.toList.head?=some 43∨step.data.toList.head?=some 45∨step.data.toList.head?=some 62)) (fun Jj hJj=>?_) ?_
 conv=>cbv
 refine .go fun v1 an=>?_
 conv=>cbv
 refine .lss (fun h2=>?_) fun h2=>?_
 conv=>cbv
 have e:((tx []),(tx []),0,false)=Bf step:=(by exact S6 (.inl (by omega)))
 rw[hr]at e
 simp only[Prod.mk.injEq]at e
 obtain⟨rfl,rfl,rfl,rfl⟩:=e
 refine hQ _ _ ?_
 exact .many (.inl rfl) rfl rfl (.d rfl rfl (.d rfl rfl (.d rfl rfl (.d rfl rfl (.nil)))))
 conv=>cbv
 refine .go 0 fun hjv3 v3 aw bv3=>?_
 conv=>cbv
 refine .neq (fun h4=>?_) fun h4=>?_
 conv=>cbv
 refine .go 0 fun hjv5 v5 ax bv5=>?_
 conv=>cbv
 refine .neq (fun h6=>?_) fun h6=>?_
 conv=>cbv
 refine .go 0 fun hjv7 v7 ac bv7=>?_
 conv=>cbv
 refine .neq (fun h8=>?_) fun h8=>?_
 conv=>cbv
 have e:((tx []),(tx []),0,false)=Bf step:=(by exact S6 (.inr ⟨(H3 (n:=43) (show 0<step.size by omega) aw (by omega) (by decide)),(H3 (n:=45) (show 0<step.size by omega) ax (by omega) (by decide)),(H3 (n:=62) (show 0<step.size by omega) ac (by omega) (by decide))⟩))
 rw[hr]at e
 simp only[Prod.mk.injEq]at e
 obtain⟨rfl,rfl,rfl,rfl⟩:=e
 refine hQ _ _ ?_
 exact .many (.inl rfl) rfl rfl (.d rfl rfl (.d rfl rfl (.d rfl rfl (.d rfl rfl (.nil)))))
 conv=>cbv
 exact .go [] (()) (hJj _ ⟨by omega,.inr (.inr (Iw (n:=62) (show 0<step.size by omega) ac (by omega) (by decide)))⟩)
 conv=>cbv
 exact .go [] (()) (hJj _ ⟨by omega,.inr (.inl (Iw (n:=45) (show 0<step.size by omega) ax (by omega) (by decide)))⟩)
 conv=>cbv
 exact .go [] (()) (hJj _ ⟨by omega,.inl (Iw (n:=43) (show 0<step.size by omega) aw (by omega) (by decide))⟩)
 rintro⟨⟩ ⟨ag,hh0⟩
 conv=>cbv
 refine .go 0 fun hjv1 v1 an bv1=>?_
 conv=>cbv
 refine .eql (fun h2=>?_) fun h2=>?_
 conv=>cbv
 refine .lo fun s3 be=>?_
 conv=>cbv
 have e:(s3,(tx []),0,true)=Bf step:=(by rw[be];exact Xh ag (Iw (n:=45) (show 0<step.size by omega) an (by omega) (by decide)))
 rw[hr]at e
 simp only[Prod.mk.injEq]at e
 obtain⟨rfl,rfl,rfl,rfl⟩:=e
 refine hQ _ _ ?_
 exact .many (.inl rfl) rfl rfl (.d rfl rfl (.d rfl rfl (.d rfl rfl (.d rfl rfl (.nil)))))
 conv=>cbv
 refine LoopW.lp (κ:=Int) Jy hP [] [0] (fun i6=>[(6,I i6)]) (fun i6=>[])
  (fun i6=>1≤i6∧i6≤step.size∧∀j,1≤j→j<i6.toNat→∀hj:j<step.size,(step[j]).toNat≠58)
  (fun i6=>(step.size - i6).toNat) (1) ⟨by omega,by omega,fun j h1 h2=>by omega⟩ ⟨rfl,trivial⟩ rfl ?_
 rintro i6 J1 ⟨h0,h1,hb⟩ bf
 conv=>cbv
 refine .go fun v3 aw=>?_
 conv=>cbv
 refine .lss (fun h4=>?_) fun h4=>?_
 conv=>cbv
 refine .go i6.toNat fun hjv5 v5 ax bv5=>?_
 conv=>cbv
 refine .eql (fun h6=>?_) fun h6=>?_
 conv=>cbv
 refine .go 0 fun hjv7 v7 ac bv7=>?_
 conv=>cbv
 refine .eql (fun h8=>?_) fun h8=>?_
 conv=>cbv
 refine .lohi fun s9 ay=>?_
 conv=>cbv
 refine .add fun az bh=>?_
 conv=>cbv
 refine .lo fun a0 ao=>?_
 conv=>cbv
 refine .add fun a1 bi=>?_
 conv=>cbv
 refine .lo fun ah ad=>?_
 conv=>cbv
 have a6:ah.size≤step.size:=by rw[ad,ByteArray.size_extract];omega
 generalize aa:Bo ah=a2
 refine .dd hP (Nq (by omega) aa) ?_
 cases a2
 conv=>cbv
 refine .go2 (by kernel_rfl) ?_
 conv=>cbv
 have e:(s9,a0,0,false)=Bf step:=(by have hm:=Pk ag (Iw (n:=62) (show 0<step.size by omega) ac (by omega) (by decide)) (Nw (s:=step) (i:=i6.toNat) (by omega) (by omega) (by omega) hb);have ai:ah=step.extract (i6.toNat+1) step.size:=(by rw[ad,show a1.toNat=i6.toNat+1 by omega]);rw[ai]at aa;rw[hm,ay,ao,aa,show az.toNat=i6.toNat+1 by omega];rfl)
 rw[hr]at e
 simp only[Prod.mk.injEq]at e
 obtain⟨rfl,rfl,rfl,rfl⟩:=e
 refine hQ _ _ ?_
 exact .many (.inl rfl) rfl rfl (.d rfl rfl (.d rfl rfl (.d rfl rfl (.d rfl rfl (.nil)))))
 conv=>cbv
 refine .lohi fun a3 ae=>?_
 conv=>cbv
 refine .add fun a7 bj=>?_
 conv=>cbv
 refine .lo fun bo au=>?_
 conv=>cbv
 refine .neq (fun h18=>?_) fun h18=>?_
 conv=>cbv
 refine .go2 (by kernel_rfl) ?_
 conv=>cbv
 have e:(s9,a0,0,true)=Bf step:=(by have hm:=Pk ag (Iw (n:=62) (show 0<step.size by omega) ac (by omega) (by decide)) (Nw (s:=step) (i:=i6.toNat) (by omega) (by omega) (by omega) hb);have ai:ah=step.extract (i6.toNat+1) step.size:=(by rw[ad,show a1.toNat=i6.toNat+1 by omega]);rw[ai]at aa;rw[hm,ay,ao,aa,show az.toNat=i6.toNat+1 by omega,decide_eq_false (show¬step.extract 1 i6.toNat=step.extract (i6.toNat+1) step.size from fun e=>h18 (by rw[ae,au,show a7.toNat=i6.toNat+1 by omega];exact e))];rfl)
 rw[hr]at e
 simp only[Prod.mk.injEq]at e
 obtain⟨rfl,rfl,rfl,rfl⟩:=e
 refine hQ _ _ ?_
 exact .many (.inl rfl) rfl rfl (.d rfl rfl (.d rfl rfl (.d rfl rfl (.d rfl rfl (.nil)))))
 conv=>cbv
 refine .go2 (by kernel_rfl) ?_
 conv=>cbv
 have e:(s9,a0,0,false)=Bf step:=(by have hm:=Pk ag (Iw (n:=62) (show 0<step.size by omega) ac (by omega) (by decide)) (Nw (s:=step) (i:=i6.toNat) (by omega) (by omega) (by omega) hb);have ai:ah=step.extract (i6.toNat+1) step.size:=(by rw[ad,show a1.toNat=i6.toNat+1 by omega]);rw[ai]at aa;rw[hm,ay,ao,aa,show az.toNat=i6.toNat+1 by omega,decide_eq_true (show step.extract 1 i6.toNat=step.extract (i6.toNat+1) step.size from by rw[ae,au,show a7.toNat=i6.toNat+1 by omega]at h18;exact h18)];rfl)
 rw[hr]at e
 simp only[Prod.mk.injEq]at e
 obtain⟨rfl,rfl,rfl,rfl⟩:=e
 refine hQ _ _ ?_
 exact .many (.inl rfl) rfl rfl (.d rfl rfl (.d rfl rfl (.d rfl rfl (.d rfl rfl (.nil)))))
 conv=>cbv
 refine .go i6.toNat fun hjv9 v9 a8 bv9=>?_
 conv=>cbv
 refine .eql (fun h10=>?_) fun h10=>?_
 conv=>cbv
 refine .add fun a4 bk=>?_
 conv=>cbv
 refine .lo fun af aj=>?_
 conv=>cbv
 have bl:af.size≤step.size:=by rw[aj,ByteArray.size_extract];omega
 rcases ab:A3 af with⟨ap,a9⟩
 refine .dd hP (Nd (by omega) ab) ?_
 conv=>cbv
 refine .lohi fun a5 aq=>?_
 conv=>cbv
 cases a9
 conv=>cbv
 refine .go2 (by kernel_rfl) ?_
 conv=>cbv
 have e:(a5,(tx []),ap,false)=Bf step:=(by have hm:=Pi ag (hh0.elim id fun h=>h.elim (fun h=>absurd h (H3 (n:=45) (show 0<step.size by omega) an (by omega) (by decide))) fun h=>absurd h (H3 (n:=62) (show 0<step.size by omega) ac (by omega) (by decide))) (Nw (s:=step) (i:=i6.toNat) (by omega) (by omega) (by omega) hb);have ak:af=step.extract (i6.toNat+1) step.size:=(by rw[aj,show a4.toNat=i6.toNat+1 by omega]);rw[ak]at ab;rw[hm,aq,ab];rfl)
 rw[hr]at e
 simp only[Prod.mk.injEq]at e
 obtain⟨rfl,rfl,rfl,rfl⟩:=e
 refine hQ _ _ ?_
 exact .many (.inl rfl) rfl rfl (.d rfl rfl (.d rfl rfl (.d rfl rfl (.d rfl rfl (.nil)))))
 conv=>cbv
 refine .lohi fun a3 ae=>?_
 conv=>cbv
 have bm:a3.size≤step.size:=by rw[ae,ByteArray.size_extract];omega
 generalize al:Bo a3=bg
 refine .dd hP (Nq (by omega) al) ?_
 cases bg
 conv=>cbv
 refine .go2 (by kernel_rfl) ?_
 conv=>cbv
 have e:(a5,(tx []),ap,false)=Bf step:=(by have hm:=Pi ag (hh0.elim id fun h=>h.elim (fun h=>absurd h (H3 (n:=45) (show 0<step.size by omega) an (by omega) (by decide))) fun h=>absurd h (H3 (n:=62) (show 0<step.size by omega) ac (by omega) (by decide))) (Nw (s:=step) (i:=i6.toNat) (by omega) (by omega) (by omega) hb);have ak:af=step.extract (i6.toNat+1) step.size:=(by rw[aj,show a4.toNat=i6.toNat+1 by omega]);rw[ak]at ab;rw[ae]at al;have am:=(show Bo (step.extract 1 i6.toNat)=_ from al);rw[hm,aq,ab,am];rfl)
 rw[hr]at e
 simp only[Prod.mk.injEq]at e
 obtain⟨rfl,rfl,rfl,rfl⟩:=e
 refine hQ _ _ ?_
 exact .many (.inl rfl) rfl rfl (.d rfl rfl (.d rfl rfl (.d rfl rfl (.d rfl rfl (.nil)))))
 conv=>cbv
 refine .go2 (by kernel_rfl) ?_
 conv=>cbv
 have e:(a5,(tx []),ap,true)=Bf step:=(by have hm:=Pi ag (hh0.elim id fun h=>h.elim (fun h=>absurd h (H3 (n:=45) (show 0<step.size by omega) an (by omega) (by decide))) fun h=>absurd h (H3 (n:=62) (show 0<step.size by omega) ac (by omega) (by decide))) (Nw (s:=step) (i:=i6.toNat) (by omega) (by omega) (by omega) hb);have ak:af=step.extract (i6.toNat+1) step.size:=(by rw[aj,show a4.toNat=i6.toNat+1 by omega]);rw[ak]at ab;rw[ae]at al;have am:=(show Bo (step.extract 1 i6.toNat)=_ from al);rw[hm,aq,ab,am];rfl)
 rw[hr]at e
 simp only[Prod.mk.injEq]at e
 obtain⟨rfl,rfl,rfl,rfl⟩:=e
 refine hQ _ _ ?_
 exact .many (.inl rfl) rfl rfl (.d rfl rfl (.d rfl rfl (.d rfl rfl (.d rfl rfl (.nil)))))
 exfalso;omega
 conv=>cbv
 refine .go i6.toNat fun hjv7 v7 ac bv7=>?_
 conv=>cbv
 refine .eql (fun h8=>?_) fun h8=>?_
 conv=>cbv
 refine .add fun v9 a8=>?_
 conv=>cbv
 refine .lo fun ba bb=>?_
 conv=>cbv
 have bn:ba.size≤step.size:=by rw[bb,ByteArray.size_extract];omega
 rcases bc:A3 ba with⟨ar,bd⟩
 refine .dd hP (Nd (by omega) bc) ?_
 conv=>cbv
 refine .lohi fun af aj=>?_
 conv=>cbv
 cases bd
 conv=>cbv
 refine .go2 (by kernel_rfl) ?_
 conv=>cbv
 have e:(af,(tx []),ar,false)=Bf step:=(by exfalso;omega)
 rw[hr]at e
 simp only[Prod.mk.injEq]at e
 obtain⟨rfl,rfl,rfl,rfl⟩:=e
 refine hQ _ _ ?_
 exact .many (.inl rfl) rfl rfl (.d rfl rfl (.d rfl rfl (.d rfl rfl (.d rfl rfl (.nil)))))
 conv=>cbv
 refine .lohi fun ah ad=>?_
 conv=>cbv
 have a6:ah.size≤step.size:=by rw[ad,ByteArray.size_extract];omega
 generalize aa:Bo ah=a2
 refine .dd hP (Nq (by omega) aa) ?_
 cases a2
 conv=>cbv
 refine .go2 (by kernel_rfl) ?_
 conv=>cbv
 have e:(af,(tx []),ar,false)=Bf step:=(by exfalso;omega)
 rw[hr]at e
 simp only[Prod.mk.injEq]at e
 obtain⟨rfl,rfl,rfl,rfl⟩:=e
 refine hQ _ _ ?_
 exact .many (.inl rfl) rfl rfl (.d rfl rfl (.d rfl rfl (.d rfl rfl (.d rfl rfl (.nil)))))
 conv=>cbv
 refine .go2 (by kernel_rfl) ?_
 conv=>cbv
 have e:(af,(tx []),ar,true)=Bf step:=(by exfalso;omega)
 rw[hr]at e
 simp only[Prod.mk.injEq]at e
 obtain⟨rfl,rfl,rfl,rfl⟩:=e
 refine hQ _ _ ?_
 exact .many (.inl rfl) rfl rfl (.d rfl rfl (.d rfl rfl (.d rfl rfl (.d rfl rfl (.nil)))))
 conv=>cbv
 refine .add fun v9 a8=>?_
 conv=>cbv
 exact .go [] (v9) (bf _ ⟨by omega,by omega,fun j k1 k2 hj=>if e:j=i6.toNat then by subst e;omega else hb j k1 (by omega) hj⟩ mlt)
 conv=>cbv
 have e:((tx []),(tx []),0,false)=Bf step:=(by exact Tu ag hh0 (H3 (n:=45) (show 0<step.size by omega) an (by omega) (by decide)) (XeQ fun j k1 hj=>hb j k1 (by omega) hj))
 rw[hr]at e
 simp only[Prod.mk.injEq]at e
 obtain⟨rfl,rfl,rfl,rfl⟩:=e
 refine hQ _ _ ?_
 exact .many (.inl rfl) rfl rfl (.d rfl rfl (.d rfl rfl (.d rfl rfl (.d rfl rfl (.nil)))))
end
section
open Go Go.Proofs
set_option maxRecDepth 20000
set_option maxHeartbeats 4000000
def Vz:List (Nat×TyRow):=[ty3,ty5,ty9,XcJ,XdV,Yh]
theorem Wq:Ca Tryz.prog Vz:=Ca.of (by kernel_rfl)
theorem XaJ:Setup Tryz.prog Vz:=⟨Wq,mixed⟩
def Dq(l:List Aa)(s:ByteArray):List Aa×Bool:=
 if(Bf s).2.2.2=false∨Bo (Bf s).1=false∨(s.data.toList.head?≠some 43∧E7 l (Bf s).1=false)then([],false)
 else if s.data.toList.head?=some 43 then(Ea l ⟨(Bf s).1,(Bf s).2.2.1⟩,true)
 else if s.data.toList.head?=some 62 then(Ea (Dl l (Bf s).1) ⟨(Bf s).2.1,Cu l (Bf s).1⟩,true)
 else(Dl l (Bf s).1,true)
def B0:List Aa→List ByteArray→List Aa×Bool
 |now,[]=>(now,true)
 |now,s::ss=>if(Dq now s).2=false then([],false)else B0 (Dq now s).1 ss
def C9(old:List Aa)(steps:List ByteArray)(n:Int):List Aa×Bool:=B0 old (steps.take (B8 n 0 steps.length).toNat)
theorem XdK{s a b:ByteArray}{c:Int}{d:Bool}(e:Bf s=(a,b,c,d)):(a.size≤s.size∧b.size≤s.size)∧(d=true→2≤s.size∧(s.data.toList.head?=some 43∨s.data.toList.head?=some 45∨s.data.toList.head?=some 62)):=by
 have hz:(s.extract 1 s.size).size≤s.size:=by rw[ByteArray.size_extract];omega
 obtain⟨x,y,z,hc⟩:∃x y z,I7 (s.extract 1 s.size)=(x,y,z):=⟨_,_,_,rfl⟩
 have hcb:=Xdf hc
 have h0:(tx []).size≤s.size:=by rw[Dw];exact Nat.zero_le _
 unfold Bf at e
 rw[hc]at e
 by_cases h1:s.size<2∨(s.data.toList.head?≠some 43∧s.data.toList.head?≠some 45∧s.data.toList.head?≠some 62)
 ·rw[if_pos h1]at e
  simp only[Prod.mk.injEq]at e
  obtain⟨rfl,rfl,rfl,rfl⟩:=e
  exact⟨⟨h0,h0⟩,fun h=>by cases h⟩
 ·rw[if_neg h1]at e
  have hd:2≤s.size∧(s.data.toList.head?=some 43∨s.data.toList.head?=some 45∨s.data.toList.head?=some 62):=by
   refine⟨by omega,?_⟩
   by_cases k1:s.data.toList.head?=some 43
   ·exact .inl k1
   ·by_cases k2:s.data.toList.head?=some 45
    ·exact .inr (.inl k2)
    ·by_cases k3:s.data.toList.head?=some 62
     ·exact .inr (.inr k3)
     ·exact absurd (.inr ⟨k1,k2,k3⟩) h1
  refine⟨?_,fun _=>hd⟩
  split at e
  ·simp only[Prod.mk.injEq]at e
   obtain⟨rfl,rfl,_⟩:=e
   exact⟨hz,h0⟩
  ·split at e
   ·simp only[Prod.mk.injEq]at e
    obtain⟨rfl,rfl,_⟩:=e
    exact⟨h0,h0⟩
   ·split at e
    ·simp only[Prod.mk.injEq]at e
     obtain⟨rfl,rfl,_⟩:=e
     exact⟨by omega,by omega⟩
    ·simp only[Prod.mk.injEq]at e
     obtain⟨rfl,rfl,_⟩:=e
     exact⟨by omega,h0⟩
theorem W5(e:Aa):∀(l:List Aa) (b:Bool),(O7 e l b).length≤l.length+(if b=true then 0 else 1)
 |[],b=>by cases b<;>simp[O7]
 |x::l,b=>by
  have ih:=W5 e l (b|| !(ltB x.name_ e.name_))
  unfold O7
  rw[List.length_append,List.length_append,List.length_cons]
  cases b<;>cases h:ltB x.name_ e.name_<;>simp only[h,Bool.not_true,Bool.not_false,Bool.or_true,Bool.or_false,Bool.true_or,if_true,Bool.false_eq_true,if_false,true_and,false_and,reduceCtorEq]at ih⊢<;>split<;>simp<;>omega
theorem Ey{l o:List Aa}{e:Aa}(h:Ea l e=o):o.length≤l.length+1:=by
 rw[←h]
 exact W5 e l false
theorem H2{l o:List Aa}{n:ByteArray}(h:Dl l n=o):o.length≤l.length:=by
 rw[←h]
 exact List.length_filter_le _ _
theorem u8_h{s:ByteArray}{n:Nat}(h:0<s.size)(e:s.data.toList.head?=some (UInt8.ofNat n))(hn:n<256):(s[0]).toNat=n:=by
 rw[Il h]at e
 rw[Option.some.inj e,UInt8.toNat_ofNat',Nat.mod_eq_of_lt (by omega)]
section
variable {l:List Aa} {s a b:ByteArray} {c:Int} {d:Bool}
theorem D3(e:Bf s=(a,b,c,d))(h:d=false∨Bo a=false∨(s.data.toList.head?≠some 43∧E7 l a=false)):Dq l s=([],false):=by
 unfold Dq
 rw[e,if_pos h]
theorem Tn(e:Bf s=(a,b,c,true))(hn:Bo a=true)(h:s.data.toList.head?=some 43):Dq l s=(Ea l ⟨a,c⟩,true):=by
 unfold Dq
 rw[e,if_neg (by rw[hn,h];simp),if_pos h]
theorem S7(e:Bf s=(a,b,c,true))(hn:Bo a=true)(hh:E7 l a=true)(h:s.data.toList.head?=some 62):Dq l s=(Ea (Dl l a) ⟨b,Cu l a⟩,true):=by
 unfold Dq
 rw[e,if_neg (by rw[hn,hh];simp),if_neg (by rw[h];decide),if_pos h]
theorem P4(e:Bf s=(a,b,c,true))(hn:Bo a=true)(hh:E7 l a=true)(h:s.data.toList.head?=some 45):Dq l s=(Dl l a,true):=by
 unfold Dq
 rw[e,if_neg (by rw[hn,hh];simp),if_neg (by rw[h];decide),if_neg (by rw[h];decide)]
end
theorem Mm{old:List Aa}{xold:List (List D)}{steps:List ByteArray}{xsteps:List (List D)}{n:Int}{oa:List Aa}{xoa:List (List D)}{ob:Bool}(hold:old.map Ac=xold)(hsteps:steps.map cS=xsteps)(hol:old.length≤1000000000)(hsl:steps.length≤1000000000)(hss:okS steps)(hr:C9 old steps n=(oa,ob))(hoa:oa.map Ac=xoa):Fn Tryz.prog 163 [.d (.row 2 xold),.d (.row 1 xsteps),I n] [] ⟨.tup [.d (.row 2 xoa),B ob],[],[]⟩:=by
 refine Fn.go XaJ Tryz.func163 fun P hP Q hQ=>?_
 conv=>cbv
 refine .row0 hold fun c8 z1 c0 bq=>?_
 conv=>cbv
 refine .go hsteps fun v2 cf=>?_
 conv=>cbv
 generalize bn:B8 n 0 v2=r3
 refine .dd hP (V5 bn) ?_
 conv=>cbv
 have hbr:0≤r3∧r3≤steps.length:=by rw[←bn];unfold B8;split<;>(try split)<;>omega
 refine .frz 2 [8] rfl rfl (by rw[←bq,List.length_map];first|omega|(simp;omega)) ?_
 refine LoopW.lp (κ:=(List (List D))×Int) XaJ hP [] [1,2] (fun(aj,i9)=>[(8,.d (.row 2 aj)),(9,I i9)]) (fun(aj,i9)=>[])
  (fun(aj,i9)=>∃(u8:List Aa),u8.map Ac=aj∧0≤i9∧i9≤r3∧C9 old steps n=B0 u8 ((steps.take r3.toNat).drop i9.toNat)∧u8.length≤old.length+i9)
  (fun(aj,i9)=>(r3 - i9).toNat) (z1,0) ⟨old,bq,by omega,by omega,by unfold C9;rw[←cf,bn];rfl,by omega⟩ ⟨rfl,rfl,trivial⟩ rfl ?_
 rintro⟨aj,i9⟩ J ⟨u8,ab,h0,h1,hio,hun⟩ hJ
 conv=>cbv
 refine .lss (fun h4=>?_) fun h4=>?_
 conv=>cbv
 refine .go i9.toNat hsteps fun bs e5 aa=>?_
 conv=>cbv
 have c9:e5.size≤1000000000:=aa▸hss _ (List.getElem_mem bs)
 have hdc:(steps.take r3.toNat).drop i9.toNat=e5::(steps.take r3.toNat).drop (i9.toNat+1):=by rw[List.drop_eq_getElem_cons (by rw[List.length_take];omega),List.getElem_take,←aa]
 rw[hdc]at hio
 rcases am:Bf e5 with⟨ag,bf,bg,cg⟩
 refine .dd hP (XcO (by omega) am) ?_
 conv=>cbv
 have hlf:=XdK am
 cases cg
 conv=>cbv
 have e:([],false)=C9 old steps n:=(by rw[hio];show _=(if(Dq u8 e5).2=false then _ else _);rw[D3 am (.inl rfl)];rfl)
 rw[hr]at e
 simp only[Prod.mk.injEq]at e
 obtain⟨rfl,rfl⟩:=e
 refine hQ _ _ ?_
 exact .many (.inl rfl) rfl rfl (.ref rfl rfl (by rw[←hoa];rfl) (.d rfl rfl (.nil)))
 conv=>cbv
 obtain⟨h2z,hh0⟩:=hlf.2 rfl
 have h00:0<e5.size:=by omega
 have hh1:(e5[0]).toNat=43∨(e5[0]).toNat=45∨(e5[0]).toNat=62:=hh0.imp (fun h=>u8_h h00 h (by decide)) fun h=>h.imp (fun h=>u8_h h00 h (by decide)) fun h=>u8_h h00 h (by decide)
 generalize az:Bo ag=r7
 refine .dd hP (Nq (by omega) az) ?_
 cases r7
 conv=>cbv
 have e:([],false)=C9 old steps n:=(by rw[hio];show _=(if(Dq u8 e5).2=false then _ else _);rw[D3 am (.inr (.inl az))];rfl)
 rw[hr]at e
 simp only[Prod.mk.injEq]at e
 obtain⟨rfl,rfl⟩:=e
 refine hQ _ _ ?_
 exact .many (.inl rfl) rfl rfl (.ref rfl rfl (by rw[←hoa];rfl) (.d rfl rfl (.nil)))
 conv=>cbv
 refine .go i9.toNat hsteps fun c1 e8 ch=>?_
 conv=>cbv
 obtain rfl:e5=e8:=aa.trans ch.symm
 refine .go 0 fun hjv9 v9 bt bv9=>?_
 conv=>cbv
 refine .neq (fun h10=>?_) fun h10=>?_
 conv=>cbv
 generalize aw:E7 u8 ag=ci
 refine .dd hP (Xas ab (by omega) aw) ?_
 cases ci
 conv=>cbv
 have e:([],false)=C9 old steps n:=(by rw[hio];show _=(if(Dq u8 e5).2=false then _ else _);rw[D3 am (.inr (.inr ⟨(H3 (n:=43) h00 bt (by omega) (by decide)),aw⟩))];rfl)
 rw[hr]at e
 simp only[Prod.mk.injEq]at e
 obtain⟨rfl,rfl⟩:=e
 refine hQ _ _ ?_
 exact .many (.inl rfl) rfl rfl (.ref rfl rfl (by rw[←hoa];rfl) (.d rfl rfl (.nil)))
 conv=>cbv
 refine .go i9.toNat hsteps fun cj ck bu=>?_
 conv=>cbv
 obtain rfl:e5=ck:=aa.trans bu.symm
 refine .go 0 fun hjv13 da bv bv13=>?_
 conv=>cbv
 refine .eql (fun h14=>?_) fun h14=>?_
 conv=>cbv
 generalize bi:Cu u8 ag=bw
 refine .dd hP (Ra ab (by omega) bi) ?_
 conv=>cbv
 refine .go i9.toNat hsteps fun cm cn bz=>?_
 conv=>cbv
 obtain rfl:e5=cn:=aa.trans bz.symm
 refine .go 0 fun hjv17 db c2 bv17=>?_
 conv=>cbv
 refine .neq (fun h18=>?_) fun h18=>?_
 conv=>cbv
 generalize a0:Dl u8 ag=b0
 have hln19:=H2 a0
 generalize a1:b0.map Ac=b1
 refine .dd hP (Nr ab (by omega) a0 a1) ?_
 conv=>cbv
 refine .go i9.toNat hsteps fun co cp b2=>?_
 conv=>cbv
 obtain rfl:e5=cp:=aa.trans b2.symm
 refine .go 0 fun hjv21 al ax bv21=>?_
 conv=>cbv
 refine .neq (fun h22=>?_) fun h22=>?_
 conv=>cbv
 generalize a2:Ea b0 (⟨bf,bw⟩:Aa)=cq
 have hln23:=Ey a2
 generalize bj:cq.map Ac=b3
 refine .dd hP (Ik a1 (by omega) a2 bj) ?_
 conv=>cbv
 refine .add fun b4 c3=>?_
 conv=>cbv
 exact .go [] (b3,b4) (hJ _ ⟨_,bj,by omega,by omega,by rw[hio,show b4.toNat=i9.toNat+1 by omega];show(if(Dq u8 e5).2=false then _ else _)=_;rw[S7 am az aw (Iw (n:=62) h00 bv (by omega) (by decide)),a0,bi,a2];rfl,by omega⟩ mlt)
 conv=>cbv
 refine .add fun au a3=>?_
 conv=>cbv
 exact .go [] (b1,au) (hJ _ ⟨_,a1,by omega,by omega,by exfalso;omega,by exfalso;omega⟩ mlt)
 conv=>cbv
 refine .go i9.toNat hsteps fun a4 a5 an=>?_
 conv=>cbv
 obtain rfl:e5=a5:=aa.trans an.symm
 refine .go 0 fun hjv20 bh ay bv20=>?_
 conv=>cbv
 refine .neq (fun h21=>?_) fun h21=>?_
 conv=>cbv
 generalize ac:Ea u8 (⟨ag,bw⟩:Aa)=a6
 have hln22:=Ey ac
 generalize ad:a6.map Ac=ao
 refine .dd hP (Ik ab (by omega) ac ad) ?_
 conv=>cbv
 refine .add fun au a3=>?_
 conv=>cbv
 exact .go [] (ao,au) (hJ _ ⟨_,ad,by omega,by omega,by exfalso;omega,by exfalso;omega⟩ mlt)
 conv=>cbv
 refine .add fun ah ap=>?_
 conv=>cbv
 exact .go [] (aj,ah) (hJ _ ⟨_,ab,by omega,by omega,by exfalso;omega,by exfalso;omega⟩ mlt)
 conv=>cbv
 refine .go i9.toNat hsteps fun bo bp a7=>?_
 conv=>cbv
 obtain rfl:e5=bp:=aa.trans a7.symm
 refine .go 0 fun hjv16 cr b5 bv16=>?_
 conv=>cbv
 refine .neq (fun h17=>?_) fun h17=>?_
 conv=>cbv
 generalize ak:Dl u8 ag=a8
 have hln18:=H2 ak
 generalize ai:a8.map Ac=a9
 refine .dd hP (Nr ab (by omega) ak ai) ?_
 conv=>cbv
 refine .go i9.toNat hsteps fun a4 a5 an=>?_
 conv=>cbv
 obtain rfl:e5=a5:=aa.trans an.symm
 refine .go 0 fun hjv20 bh ay bv20=>?_
 conv=>cbv
 refine .neq (fun h21=>?_) fun h21=>?_
 conv=>cbv
 generalize ac:Ea a8 (⟨bf,bg⟩:Aa)=a6
 have hln22:=Ey ac
 generalize ad:a6.map Ac=ao
 refine .dd hP (Ik ai (by omega) ac ad) ?_
 conv=>cbv
 refine .add fun au a3=>?_
 conv=>cbv
 exact .go [] (ao,au) (hJ _ ⟨_,ad,by omega,by omega,by exfalso;omega,by exfalso;omega⟩ mlt)
 conv=>cbv
 refine .add fun ah ap=>?_
 conv=>cbv
 exact .go [] (a9,ah) (hJ _ ⟨_,ai,by omega,by omega,by rw[hio,show ah.toNat=i9.toNat+1 by omega];show(if(Dq u8 e5).2=false then _ else _)=_;rw[P4 am az aw (Iw (n:=45) h00 ay (by omega) (by decide)),ak];rfl,by omega⟩ mlt)
 conv=>cbv
 refine .go i9.toNat hsteps fun ba bb aq=>?_
 conv=>cbv
 obtain rfl:e5=bb:=aa.trans aq.symm
 refine .go 0 fun hjv19 b6 bk bv19=>?_
 conv=>cbv
 refine .neq (fun h20=>?_) fun h20=>?_
 conv=>cbv
 generalize ae:Ea u8 (⟨ag,bg⟩:Aa)=bc
 have hln21:=Ey ae
 generalize af:bc.map Ac=ar
 refine .dd hP (Ik ab (by omega) ae af) ?_
 conv=>cbv
 refine .add fun ah ap=>?_
 conv=>cbv
 exact .go [] (ar,ah) (hJ _ ⟨_,af,by omega,by omega,by exfalso;omega,by exfalso;omega⟩ mlt)
 conv=>cbv
 refine .add fun al ax=>?_
 conv=>cbv
 exact .go [] (aj,al) (hJ _ ⟨_,ab,by omega,by omega,by exfalso;omega,by exfalso;omega⟩ mlt)
 conv=>cbv
 refine .go i9.toNat hsteps fun ct cu b7=>?_
 conv=>cbv
 obtain rfl:e5=cu:=aa.trans b7.symm
 refine .go 0 fun hjv12 dc c4 bv12=>?_
 conv=>cbv
 refine .eql (fun h13=>?_) fun h13=>?_
 conv=>cbv
 generalize b8:Cu u8 ag=b9
 refine .dd hP (Ra ab (by omega) b8) ?_
 conv=>cbv
 refine .go i9.toNat hsteps fun bo bp a7=>?_
 conv=>cbv
 obtain rfl:e5=bp:=aa.trans a7.symm
 refine .go 0 fun hjv16 cr b5 bv16=>?_
 conv=>cbv
 refine .neq (fun h17=>?_) fun h17=>?_
 conv=>cbv
 generalize ak:Dl u8 ag=a8
 have hln18:=H2 ak
 generalize ai:a8.map Ac=a9
 refine .dd hP (Nr ab (by omega) ak ai) ?_
 conv=>cbv
 refine .go i9.toNat hsteps fun a4 a5 an=>?_
 conv=>cbv
 obtain rfl:e5=a5:=aa.trans an.symm
 refine .go 0 fun hjv20 bh ay bv20=>?_
 conv=>cbv
 refine .neq (fun h21=>?_) fun h21=>?_
 conv=>cbv
 generalize ac:Ea a8 (⟨bf,b9⟩:Aa)=a6
 have hln22:=Ey ac
 generalize ad:a6.map Ac=ao
 refine .dd hP (Ik ai (by omega) ac ad) ?_
 conv=>cbv
 refine .add fun au a3=>?_
 conv=>cbv
 exact .go [] (ao,au) (hJ _ ⟨_,ad,by omega,by omega,by exfalso;omega,by exfalso;omega⟩ mlt)
 conv=>cbv
 refine .add fun ah ap=>?_
 conv=>cbv
 exact .go [] (a9,ah) (hJ _ ⟨_,ai,by omega,by omega,by exfalso;omega,by exfalso;omega⟩ mlt)
 conv=>cbv
 refine .go i9.toNat hsteps fun ba bb aq=>?_
 conv=>cbv
 obtain rfl:e5=bb:=aa.trans aq.symm
 refine .go 0 fun hjv19 b6 bk bv19=>?_
 conv=>cbv
 refine .neq (fun h20=>?_) fun h20=>?_
 conv=>cbv
 generalize ae:Ea u8 (⟨ag,b9⟩:Aa)=bc
 have hln21:=Ey ae
 generalize af:bc.map Ac=ar
 refine .dd hP (Ik ab (by omega) ae af) ?_
 conv=>cbv
 refine .add fun ah ap=>?_
 conv=>cbv
 exact .go [] (ar,ah) (hJ _ ⟨_,af,by omega,by omega,by exfalso;omega,by exfalso;omega⟩ mlt)
 conv=>cbv
 refine .add fun al ax=>?_
 conv=>cbv
 exact .go [] (aj,al) (hJ _ ⟨_,ab,by omega,by omega,by exfalso;omega,by exfalso;omega⟩ mlt)
 conv=>cbv
 refine .go i9.toNat hsteps fun cv cw ca=>?_
 conv=>cbv
 obtain rfl:e5=cw:=aa.trans ca.symm
 refine .go 0 fun hjv15 de c6 bv15=>?_
 conv=>cbv
 refine .neq (fun h16=>?_) fun h16=>?_
 conv=>cbv
 generalize bl:Dl u8 ag=cb
 have hln17:=H2 bl
 generalize bd:cb.map Ac=cc
 refine .dd hP (Nr ab (by omega) bl bd) ?_
 conv=>cbv
 refine .go i9.toNat hsteps fun ba bb aq=>?_
 conv=>cbv
 obtain rfl:e5=bb:=aa.trans aq.symm
 refine .go 0 fun hjv19 b6 bk bv19=>?_
 conv=>cbv
 refine .neq (fun h20=>?_) fun h20=>?_
 conv=>cbv
 generalize ae:Ea cb (⟨bf,bg⟩:Aa)=bc
 have hln21:=Ey ae
 generalize af:bc.map Ac=ar
 refine .dd hP (Ik bd (by omega) ae af) ?_
 conv=>cbv
 refine .add fun ah ap=>?_
 conv=>cbv
 exact .go [] (ar,ah) (hJ _ ⟨_,af,by omega,by omega,by exfalso;omega,by exfalso;omega⟩ mlt)
 conv=>cbv
 refine .add fun al ax=>?_
 conv=>cbv
 exact .go [] (cc,al) (hJ _ ⟨_,bd,by omega,by omega,by exfalso;omega,by exfalso;omega⟩ mlt)
 conv=>cbv
 refine .go i9.toNat hsteps fun cx cy cd=>?_
 conv=>cbv
 obtain rfl:e5=cy:=aa.trans cd.symm
 refine .go 0 fun hjv18 df c7 bv18=>?_
 conv=>cbv
 refine .neq (fun h19=>?_) fun h19=>?_
 conv=>cbv
 generalize be:Ea u8 (⟨ag,bg⟩:Aa)=cz
 have hln20:=Ey be
 generalize bm:cz.map Ac=ce
 refine .dd hP (Ik ab (by omega) be bm) ?_
 conv=>cbv
 refine .add fun al ax=>?_
 conv=>cbv
 exact .go [] (ce,al) (hJ _ ⟨_,bm,by omega,by omega,by rw[hio,show al.toNat=i9.toNat+1 by omega];show(if(Dq u8 e5).2=false then _ else _)=_;rw[Tn am az (Iw (n:=43) h00 bt (by omega) (by decide)),be];rfl,by omega⟩ mlt)
 conv=>cbv
 refine .add fun bh ay=>?_
 conv=>cbv
 exact .go [] (aj,bh) (hJ _ ⟨_,ab,by omega,by omega,by exfalso;omega,by exfalso;omega⟩ mlt)
 conv=>cbv
 have e:(u8,true)=C9 old steps n:=(by rw[hio,List.drop_of_length_le (by rw[List.length_take];omega)];rfl)
 rw[hr]at e
 simp only[Prod.mk.injEq]at e
 obtain⟨rfl,rfl⟩:=e
 refine hQ _ _ ?_
 exact .many (.inl rfl) rfl rfl (.d rfl (Mh ab hoa) (.d rfl rfl (.nil)))
end
section
open Go Go.Proofs
set_option maxRecDepth 20000
set_option maxHeartbeats 4000000
def Pp:List (Nat×TyRow):=[ty3,ty9,XcJ,Xff,XdV,XcZ,XbO]
theorem Vi:Ca Tryz.prog Pp:=Ca.of (by kernel_rfl)
theorem Xed:Setup Tryz.prog Pp:=⟨Vi,mixed⟩
theorem X2(a:List UInt8):Op.bytesLess a a=false:=by
 cases h:Op.bytesLess a a with
 |false=>rfl
 |true=>have:=Jt a a h;rw[h]at this;cases this
theorem Rb:∀a b c:List UInt8,Op.bytesLess a b=true→Op.bytesLess b c=true→Op.bytesLess a c=true
 |_,[],_,h,_=>by simp[Op.bytesLess]at h
 |_,_::_,[],_,h=>by simp[Op.bytesLess]at h
 |[],_::_,_::_,_,_=>by simp[Op.bytesLess]
 |a::x,b::y,c::z,h1,h2=>by
  simp only[Op.bytesLess,Bool.or_eq_true,decide_eq_true_eq,Bool.and_eq_true,beq_iff_eq]at h1 h2⊢
  rcases h1 with h1|⟨rfl,h1⟩
  ·rcases h2 with h2|⟨rfl,h2⟩
   ·exact .inl (UInt8.lt_trans h1 h2)
   ·exact .inl h1
  ·rcases h2 with h2|⟨rfl,h2⟩
   ·exact .inl h2
   ·exact .inr ⟨rfl,Rb x y z h1 h2⟩
theorem Sw(a:ByteArray):ltB a a=false:=X2 _
theorem Vp{a b c:ByteArray}(h:ltB a b=true)(k:ltB b c=true):ltB a c=true:=Rb _ _ _ h k
theorem Xcs{a b:ByteArray}(h:ltB a b=true):a≠b:=by
 rintro rfl
 rw[Sw]at h
 cases h
theorem Xfz{a b:ByteArray}(h:ltB a b=false)(hn:a≠b):ltB b a=true:=by
 have:=Zr a b
 rw[h]at this
 simp only[Bool.not_false,Bool.true_eq,Bool.or_eq_true,decide_eq_true_eq]at this
 exact this.resolve_right fun e=>hn e.symm
def srt(l:List Aa):Prop:=l.Pairwise fun a b=>ltB a.name_ b.name_=true
theorem Vl{α:Type}{p:α→Bool}{x:α}{l:List α}:S2 p (x::l)=if p x=true then 0 else if S2 p l<0 then -1 else S2 p l+1:=by
 unfold S2
 rw[List.findIdx_cons]
 cases hp:p x with
 |true=>simp
 |false=>
  simp only[List.length_cons,cond_false,Bool.false_eq_true,if_false]
  by_cases h:l.findIdx p<l.length
  ·rw[if_pos (show l.findIdx p+1<l.length+1 by omega),if_pos h,if_neg (show¬(l.findIdx p:Int)<0 by omega)]
   omega
  ·rw[if_neg (show¬l.findIdx p+1<l.length+1 by omega),if_neg h,if_pos (by decide)]
theorem Lg{x:Aa}{l:List Aa}{n:ByteArray}:A5 (x::l) n=if x.name_=n then 0 else if A5 l n<0 then -1 else A5 l n+1:=by
 show S2 (fun e=>B1 e n) (x::l)=_
 rw[Vl]
 unfold B1
 simp only[decide_eq_true_eq]
 rfl
theorem T1{l:List Aa}{n:ByteArray}: -1≤A5 l n:=(Gm rfl).1
theorem Xe8{l:List Aa}{n:ByteArray}(h:∀x∈l,x.name_≠n):A5 l n<0:=by
 have hb:=T1 (l:=l) (n:=n)
 rcases Int.lt_or_le (A5 l n) 0 with k|k
 ·exact k
 ·obtain⟨hi,hp⟩:=Zz (p:=fun e=>B1 e n) (rfl:A5 l n=_) k
  unfold B1 at hp
  rw[decide_eq_true_eq]at hp
  exact absurd hp (h _ (List.getElem_mem hi))
theorem Vc{l:List Aa}{n:ByteArray}{i k:Int}(h:A5 l n=k)(hk:0≤k):Rr l n i=l.set k.toNat ⟨(l.getD k.toNat ⟨tx [],0⟩).name_,i⟩:=by
 subst h
 exact if_pos hk
theorem M9{l:List Aa}{n:ByteArray}{i k:Int}(h:A5 l n<0)(hk:Bv l n=k):Rr l n i=Gk l (if k<0 then l.length else k) [⟨n,i⟩]:=by
 subst hk
 exact if_neg (by omega)
theorem Xcu{x:Aa}{l:List Aa}{n:ByteArray}{i:Int}:Rr (x::l) n i=if x.name_=n then⟨n,i⟩::l else if A5 l n<0∧H4 x n=true then⟨n,i⟩::x::l else x::Rr l n i:=by
 have hb:=T1 (l:=l) (n:=n)
 by_cases hx:x.name_=n
 ·rw[if_pos hx,Vc (k:=0) (by rw[Lg,if_pos hx]) (by decide)]
  simp[hx]
 ·rw[if_neg hx]
  by_cases hp:A5 l n<0
  ·have hpc:A5 (x::l) n<0:=by rw[Lg,if_neg hx,if_pos hp];decide
   have hc:Bv (x::l) n=if H4 x n=true then 0 else if Bv l n<0 then -1 else Bv l n+1:=Vl (p:=fun e=>H4 e n)
   by_cases h1:H4 x n=true
   ·rw[if_pos ⟨hp,h1⟩,M9 hpc (k:=0) (by rw[hc,if_pos h1]),if_neg (by decide)]
    simp[Gk]
   ·rw[if_neg (fun h=>h1 h.2)]
    by_cases h2:Bv l n<0
    ·rw[M9 hpc (k:=-1) (by rw[hc,if_neg h1,if_pos h2]),if_pos (by decide),M9 hp rfl,if_pos h2]
     simp[Gk]
    ·rw[M9 hpc (by rw[hc,if_neg h1,if_neg h2]),if_neg (by omega),M9 hp rfl,if_neg h2]
     unfold Gk
     rw[show(Bv l n+1).toNat=(Bv l n).toNat+1 by omega]
     simp
  ·rw[if_neg (fun h=>hp h.1),Vc (k:=A5 l n+1) (by rw[Lg,if_neg hx,if_neg hp]) (by omega),Vc (l:=l) rfl (by omega),show(A5 l n+1).toNat=(A5 l n).toNat+1 by omega]
   simp
theorem Oa{e:Aa}:∀{l:List Aa},(∀x∈l,x.name_≠e.name_)→O7 e l true=l
 |[],_=>rfl
 |x::l,h=>by
  unfold O7
  rw[if_neg (by simp),if_neg (h x List.mem_cons_self),Bool.true_or,Oa fun y hy=>h y (List.mem_cons_of_mem _ hy)]
  rfl
theorem Xc0{n:ByteArray}{i:Int}:∀{l:List Aa},srt l→Ea l ⟨n,i⟩=Rr l n i
 |[],_=>rfl
 |x::l,h=>by
  have hs:=List.pairwise_cons.1 h
  have ih:=Xc0 (n:=n) (i:=i) hs.2
  unfold Ea at ih⊢
  rw[Xcu]
  unfold O7
  by_cases hx:x.name_=n
  ·rw[if_pos hx,hx,Sw,if_pos ⟨rfl,rfl⟩,if_pos rfl,Bool.not_false,Bool.or_true,Oa (fun y hy e=>by
    have:=hs.1 y hy
    rw[hx]at this
    exact Xcs this e.symm)]
   rfl
  ·rw[if_neg hx,if_neg hx]
   cases hl:ltB x.name_ n with
   |true=>
    rw[if_neg (by simp),if_neg (by unfold H4;rw[hl];simp),Bool.not_true,Bool.or_false,ih]
    rfl
   |false=>
    have hg:=Xfz hl hx
    have hne:∀y∈l,y.name_≠n:=fun y hy e=>Xcs (Vp hg (hs.1 y hy)) e.symm
    rw[if_pos ⟨rfl,rfl⟩,if_pos ⟨Xe8 hne,by unfold H4;rw[hl,decide_eq_false hx];rfl⟩,Bool.not_false,Bool.or_true,Oa hne]
    rfl
theorem Zg{n:ByteArray}:∀{l:List Aa},srt l→0≤A5 l n→Dl l n=l.eraseIdx (A5 l n).toNat
 |[],_,h=>by
  exfalso
  have:A5 [] n= -1:=rfl
  omega
 |x::l,h,hp=>by
  have hs:=List.pairwise_cons.1 h
  have hb:=T1 (l:=l) (n:=n)
  rw[Lg]at hp⊢
  unfold Dl
  rw[List.filter_cons]
  by_cases hx:x.name_=n
  ·rw[if_pos hx,decide_eq_true hx]
   have:l.filter (fun x=>!decide (x.name_=n))=l:=by
    rw[List.filter_eq_self]
    intro y hy
    rw[decide_eq_false]
    ·rfl
    ·rintro rfl
     exact Xcs (hs.1 y hy) hx
   simp[this]
  ·rw[if_neg hx]at hp⊢
   rw[decide_eq_false hx]
   by_cases h2:A5 l n<0
   ·rw[if_pos h2]at hp;omega
   ·rw[if_neg h2,show(A5 l n+1).toNat=(A5 l n).toNat+1 by omega,List.eraseIdx_cons_succ,←Zg hs.2 (by omega)]
    rfl
theorem Xcd{d:Ad}{l:List Aa}(h:A2 d l=true){i:Nat}(hi:i<l.length):Ef d l i=true:=by
 unfold A2 at h
 rw[Bool.and_eq_true]at h
 exact List.all_eq_true.1 h.1 i (List.mem_range.2 hi)
theorem Xdd{d:Ad}{l:List Aa}(h:A2 d l=true){i:Nat}(hi:i+1<l.length):ltB l[i].name_ l[i+1].name_=true:=by
 have h1:=Xcd h hi
 unfold Ef at h1
 rw[Yo hi rfl,show i+1 - 1=i by omega,Yo (show i<l.length by omega) rfl,decide_eq_false (show¬i+1=0 by omega),Bool.false_or,←Zr]at h1
 simp only[Bool.not_not,Bool.and_eq_true]at h1
 exact h1.1.1
theorem Xfs{d:Ad}{l:List Aa}(h:A2 d l=true):srt l:=by
 have key:∀(k i:Nat) (hk:i+1+k<l.length),ltB l[i].name_ l[i+1+k].name_=true:=by
  intro k
  induction k with
  |zero=>intro i hk;exact Xdd h hk
  |succ k ih=>intro i hk;exact Vp (ih i (by omega)) (Xdd h (i:=i+1+k) (by omega))
 refine List.pairwise_iff_getElem.2 fun i j hi hj hij=>?_
 have:=key (j - i - 1) i (by omega)
 simpa only[show i+1+(j - i - 1)=j by omega]using this
theorem Xeb{l:List Aa}{n:ByteArray}(h:srt l):srt (Dl l n):=List.Pairwise.filter _ h
theorem Rf{l:List Aa}{s:ByteArray}(h:srt l):Dq l s=At l s:=by
 by_cases hne:s=tx []
 ·subst hne
  rw[Xaa rfl]
  exact D3 (a:=tx []) (b:=tx []) (c:=0) (d:=false) rfl (.inl rfl)
 have hp:=Xav hne
 have hhd:=Il hp
 obtain⟨a,b,c,hc⟩:∃a b c,I7 (s.extract 1 s.size)=(a,b,c):=⟨_,_,_,rfl⟩
 have hlt2:c=true→2≤s.size:=by
  rintro rfl
  unfold I7 at hc
  split at hc
  ·rename_i h0
   have:=(S9 (rfl:I0 (s.extract 1 s.size)=_)).2
   rw[ByteArray.size_extract]at this
   omega
  ·simp at hc
 by_cases h43:s.data.toList.head?=some 43
 ·rw[Ko hne h43 hc]
  cases c with
  |false=>
   rw[if_pos (.inl rfl)]
   by_cases aa:s.size<2
   ·exact D3 (S6 (.inl aa)).symm (.inl rfl)
   ·exact D3 (Tu (by omega) (.inl h43) (by rw[h43];decide) (by rw[hc])).symm (.inl rfl)
  |true=>
   have hm:=Pi (hlt2 rfl) h43 hc
   cases hr:(A3 b).2 with
   |false=>rw[if_pos (.inr (.inl rfl))];exact D3 hm (.inl (by rw[hr];rfl))
   |true=>
    cases hn:Bo a with
    |false=>rw[if_pos (.inr (.inr rfl))];exact D3 hm (.inr (.inl hn))
    |true=>
     rw[if_neg (by simp)]
     rw[hr,hn]at hm
     rw[Tn hm hn h43,Xc0 h]
 ·by_cases h45:s.data.toList.head?=some 45
  ·rw[S8 hne h45]
   by_cases aa:s.size<2
   ·have e:s.extract 1 s.size=tx []:=by
     apply U2
     rw[D9,List.drop_of_length_le (by rw[List.length_take,Array.length_toList];show min _ s.size≤1;omega)]
     rfl
    rw[D3 (S6 (.inl aa)).symm (.inl rfl),e]
    unfold F6
    rw[if_pos (.inr (by decide))]
   ·have hm:=(Xh (by omega) h45).symm
    unfold F6
    by_cases hpl:A5 l (s.extract 1 s.size)<0
    ·rw[if_pos (.inl hpl)]
     exact D3 hm (.inr (.inr ⟨h43,by unfold E7;rw[decide_eq_false_iff_not];omega⟩))
    ·cases hn:Bo (s.extract 1 s.size)with
     |false=>rw[if_pos (.inr rfl)];exact D3 hm (.inr (.inl hn))
     |true=>
      rw[if_neg (by rintro(k|k);exact hpl k;cases k),P4 hm hn (by unfold E7;rw[decide_eq_true_eq];omega) h45,Zg h (by omega)]
      rfl
  ·by_cases h62:s.data.toList.head?=some 62
   ·rw[I5 hne h62 hc]
    cases c with
    |false=>
     rw[if_pos (.inl rfl)]
     by_cases aa:s.size<2
     ·exact D3 (S6 (.inl aa)).symm (.inl rfl)
     ·exact D3 (Tu (by omega) (.inr (.inr h62)) h45 (by rw[hc])).symm (.inl rfl)
    |true=>
     have hm:=Pk (hlt2 rfl) h62 hc
     cases hnb:Bo b with
     |false=>rw[if_pos (.inr (.inr (.inl rfl)))];exact D3 hm (.inl (by rw[hnb];rfl))
     |true=>
      by_cases hab:a=b
      ·rw[if_pos (.inr (.inr (.inr hab)))];exact D3 hm (.inl (by rw[hnb,decide_eq_true hab];rfl))
      ·rw[hnb,decide_eq_false hab]at hm
       by_cases hpl:A5 l a<0
       ·have hd:F6 l a=([],false):=by unfold F6;rw[if_pos (.inl hpl)]
        rw[hd,if_pos (.inr (.inl rfl))]
        exact D3 hm (.inr (.inr ⟨h43,by unfold E7;rw[decide_eq_false_iff_not];omega⟩))
       ·cases hn:Bo a with
        |false=>
         have hd:F6 l a=([],false):=by unfold F6;rw[if_pos (.inr hn)]
         rw[hd,if_pos (.inr (.inl rfl))]
         exact D3 hm (.inr (.inl hn))
        |true=>
         have hd:F6 l a=(Dl l a,true):=by unfold F6;rw[if_neg (by rw[hn];rintro(k|k);exact hpl k;cases k),Zg h (by omega)];rfl
         rw[hd,if_neg (by simp;exact hab),S7 hm hn (by unfold E7;rw[decide_eq_true_eq];omega) h62,Xc0 (Xeb h)]
   ·rw[Wn hne hhd (fun e=>h43 (by rw[hhd,e])) (fun e=>h45 (by rw[hhd,e])) (fun e=>h62 (by rw[hhd,e]))]
    exact D3 (S6 (.inr ⟨h43,h45,h62⟩)).symm (.inl rfl)
def Wa(d:Ad)(k:Nat):Bool:=if(B0 d.old_ (d.steps_.take k)).2=true then Dn d (B0 d.old_ (d.steps_.take k)).1 (d.steps_.drop k)else false
theorem Xaf{s:ByteArray}:∀(l:List ByteArray) (now:List Aa),B0 now (l++[s])=if(B0 now l).2=true then(if(Dq (B0 now l).1 s).2=false then([],false)else Dq (B0 now l).1 s)else([],false)
 |[],now=>by
  show(if(Dq now s).2=false then _ else B0 (Dq now s).1 [])=if true=true then _ else _
  rw[if_pos rfl]
  cases h:Dq now s with
  |mk x b=>cases b<;>simp[B0,h]
 |y::l,now=>by
  show(if(Dq now y).2=false then _ else B0 (Dq now y).1 (l++[s]))=if(if(Dq now y).2=false then _ else B0 (Dq now y).1 l).2=true then _ else _
  by_cases h:(Dq now y).2=false
  ·rw[if_pos h,if_pos h,if_neg (by decide)]
  ·rw[if_neg h,if_neg h,Xaf l]
   have e:B0 now (y::l)=B0 (Dq now y).1 l:=if_neg h
   rw[e]
theorem Xa2{d:Ad}{k:Nat}{x:List Aa}(hk:k<d.steps_.length)(h:B0 d.old_ (d.steps_.take k)=(x,true))(hr:A2 d x=true):B0 d.old_ (d.steps_.take (k+1))=if(At x d.steps_[k]).2=false then([],false)else At x d.steps_[k]:=by
 rw[List.take_succ_eq_append_getElem hk,Xaf,h,if_pos rfl,Rf (Xfs hr)]
theorem XbM{d:Ad}{k:Nat}{x:List Aa}(hk:k<d.steps_.length)(h:B0 d.old_ (d.steps_.take k)=(x,true))(hr:A2 d x=true):Wa d (k+1)=Wa d k:=by
 obtain⟨y,b,hy⟩:∃y b,At x d.steps_[k]=(y,b):=⟨_,_,rfl⟩
 unfold Wa
 rw[Xa2 hk h hr,h,if_pos (show(x,true).2=true from rfl),List.drop_eq_getElem_cons hk]
 show _=(A2 d x&&(At x d.steps_[k]).2&&Dn d (At x d.steps_[k]).1 _)
 rw[hr,hy]
 cases b<;>rfl
theorem Vv{old:List Aa}{steps:List ByteArray}{k:Int}(h0:0≤k)(h1:k≤steps.length):C9 old steps k=B0 old (steps.take k.toNat):=by
 unfold C9
 rw[show B8 k 0 steps.length=k from by unfold B8;split<;>(try split)<;>(try split)<;>omega]
def Xfc(d:Ad)(k:Nat):Prop:=Dn d d.old_ d.steps_=Wa d k∧okL (B0 d.old_ (d.steps_.take k)).1∧(B0 d.old_ (d.steps_.take k)).1.length≤1000000000
theorem XbQ{d:Ad}(hd:Xbf d):Xfc d 0:=⟨rfl,hd.2.1,hd.1.2.2.2.2.1⟩
theorem XbX{d:Ad}(hd:Xbf d){k:Nat}{x:List Aa}(hq:Xfc d k)(hk:k<d.steps_.length)(h:B0 d.old_ (d.steps_.take k)=(x,true))(hr:A2 d x=true):Xfc d (k+1):=by
 obtain⟨h1,h2,h3⟩:=hq
 have hx:=U8 hr
 rw[h]at h2 h3
 refine⟨by rw[h1,XbM hk h hr],?_⟩
 rw[Xa2 hk h hr]
 obtain⟨y,b,hy⟩:∃y b,At x d.steps_[k]=(y,b):=⟨_,_,rfl⟩
 have hl:=Mw hy
 have ho:=Xba h2 (hd.2.2 _ (List.getElem_mem hk)) hy
 rw[hy]
 cases b
 ·exact⟨fun e he=>(by cases he),Nat.zero_le _⟩
 ·exact⟨ho,by show y.length≤_;omega⟩
theorem La:Setup Tryz.prog ((3000007,Eh Tryz.prog 3000007)::((3000001,Eh Tryz.prog 3000001)::Pp)):=(Setup.mark 3000007 (Setup.mark 3000001 Xed))
theorem Xeu{A4:List Bb}{Cl:List (List D)}{Bd:List Aa}{Co:List (List D)}{A9:List Aa}{Cr:List (List D)}{A7:List ByteArray}{Cq:List (List D)}{Bh:Int}{Bg:Int}{o:Bool}(B4:A4.map Ce=Cl)(Ck:Bd.map Ac=Co)(Cn:A9.map Ac=Cr)(Cd:A7.map cS=Cq)(ac:Xbf ⟨A4,Bd,A9,A7,Bh,Bg⟩)(hr:B5 (⟨A4,Bd,A9,A7,Bh,Bg⟩:Ad)=o):Fn Tryz.prog 84 [.agg [.d (.row 3 Cl),.d (.row 2 Co),.d (.row 2 Cr),.d (.row 1 Cq),I Bh,I Bg]] [] ⟨B o,[],[]⟩:=by
 refine Fn.go La Tryz.func84 fun P hP Q hQ=>?_
 conv=>cbv
 refine .go B4 fun v1 bg=>?_
 conv=>cbv
 have hdo:A9.length≤1000000000:=ac.1.2.2.2.2.1
 have hds:A7.length≤1000000000:=ac.1.2.2.2.2.2
 refine .gtr (fun h2=>?_) fun h2=>?_
 conv=>cbv
 refine .go2 (by kernel_rfl) ?_
 conv=>cbv
 have e:false=B5 (⟨A4,Bd,A9,A7,Bh,Bg⟩:Ad):=(by exact C8 fun h=>by rw[diskOk_iff]at h;have:=h.2.2.1;unfold Df at this;rw[decide_eq_false (by simp only[];omega),Bool.and_false]at this;cases this)
 rw[hr]at e
 subst e
 exact hQ _ _ (.b rfl rfl)
 conv=>cbv
 generalize af:A6 Bh 0 1000000000=r3
 refine .dd hP (Dg af) ?_
 cases r3
 simp only[A6,decide_eq_true_eq,decide_eq_false_iff_not]at af
 conv=>cbv
 refine .go2 (by kernel_rfl) ?_
 conv=>cbv
 have e:false=B5 (⟨A4,Bd,A9,A7,Bh,Bg⟩:Ad):=(by exact C8 fun h=>by rw[diskOk_iff]at h;exact af h.1)
 rw[hr]at e
 subst e
 exact hQ _ _ (.b rfl rfl)
 simp only[A6,decide_eq_true_eq,decide_eq_false_iff_not]at af
 conv=>cbv
 generalize ag:A6 Bg 1 1000000000=r4
 refine .dd hP (Dg ag) ?_
 cases r4
 simp only[A6,decide_eq_true_eq,decide_eq_false_iff_not]at ag
 conv=>cbv
 refine .go2 (by kernel_rfl) ?_
 conv=>cbv
 have e:false=B5 (⟨A4,Bd,A9,A7,Bh,Bg⟩:Ad):=(by exact C8 fun h=>by rw[diskOk_iff]at h;exact ag h.2.1)
 rw[hr]at e
 subst e
 exact hQ _ _ (.b rfl rfl)
 simp only[A6,decide_eq_true_eq,decide_eq_false_iff_not]at ag
 conv=>cbv
 generalize aq:G5 (⟨A4,Bd,A9,A7,Bh,Bg⟩:Ad)=r5
 refine .dd hP (XeF B4 Ck Cn Cd ac.1 aq) ?_
 conv=>cbv
 refine .gtr (fun h6=>?_) fun h6=>?_
 conv=>cbv
 refine .go2 (by kernel_rfl) ?_
 conv=>cbv
 have e:false=B5 (⟨A4,Bd,A9,A7,Bh,Bg⟩:Ad):=(by exact C8 fun h=>by rw[diskOk_iff]at h;have:=h.2.2.2.1;rw[aq]at this;simp only[]at this;omega)
 rw[hr]at e
 subst e
 exact hQ _ _ (.b rfl rfl)
 conv=>cbv
 refine .go2 (by kernel_rfl) ?_
 conv=>cbv
 refine LoopW.lp (κ:=Int) La hP [] [1] (fun i3=>[(3,I i3)]) (fun i3=>[])
  (fun i3=>0≤i3∧i3≤A4.length∧∀j:Nat,j<i3.toNat→Dm (⟨A4,Bd,A9,A7,Bh,Bg⟩:Ad) j=true)
  (fun i3=>(A4.length - i3).toNat) (0) ⟨by omega,by omega,fun j h=>by simp at h⟩ ⟨rfl,trivial⟩ rfl ?_
 rintro i3 J ⟨h0,h1,hb⟩ hJ
 have bh:A4.length≤1000000000:=ac.1.1
 conv=>cbv
 refine .go B4 fun v7 bi=>?_
 conv=>cbv
 refine .lss (fun h8=>?_) fun h8=>?_
 conv=>cbv
 refine .go i3.toNat B4 fun ad ⟨aw,a3,ah⟩ a4=>?_
 conv=>cbv
 refine .sub fun a5 be=>?_
 conv=>cbv
 have hnd:=XdU (d:=(⟨A4,Bd,A9,A7,Bh,Bg⟩:Ad)) ad a4
 generalize ab:A6 aw 1 a5=a6
 refine .dd hP (Dg ab) ?_
 cases a6
 simp only[A6,decide_eq_true_eq,decide_eq_false_iff_not]at ab
 conv=>cbv
 refine .go2 (by kernel_rfl) ?_
 conv=>cbv
 have e:false=B5 (⟨A4,Bd,A9,A7,Bh,Bg⟩:Ad):=(by exact C8 fun h=>by rw[diskOk_iff]at h;have h3:=h.2.2.1;rw[←Ho (d:=(⟨A4,Bd,A9,A7,Bh,Bg⟩:Ad)) ad (by unfold Dm;rw[decide_eq_false_iff_not,hnd];simp only[];omega)]at h3;cases h3)
 rw[hr]at e
 subst e
 exact hQ _ _ (.b rfl rfl)
 simp only[A6,decide_eq_true_eq,decide_eq_false_iff_not]at ab
 conv=>cbv
 refine .gtr (fun h12=>?_) fun h12=>?_
 conv=>cbv
 refine .sub fun ai ao=>?_
 conv=>cbv
 refine .go ai.toNat B4 fun ar ⟨a7,a1,a2⟩ ax=>?_
 conv=>cbv
 have hpd:=XdU (d:=(⟨A4,Bd,A9,A7,Bh,Bg⟩:Ad)) ar ax
 rw[show ai.toNat=i3.toNat - 1 by omega]at hpd
 refine .geq (fun h15=>?_) fun h15=>?_
 conv=>cbv
 refine .go2 (by kernel_rfl) ?_
 conv=>cbv
 have e:false=B5 (⟨A4,Bd,A9,A7,Bh,Bg⟩:Ad):=(by exact C8 fun h=>by rw[diskOk_iff]at h;have h3:=h.2.2.1;rw[←Ho (d:=(⟨A4,Bd,A9,A7,Bh,Bg⟩:Ad)) ad (by unfold Dm;rw[decide_eq_false_iff_not,hnd];simp only[];rw[hpd];simp only[];omega)]at h3;cases h3)
 rw[hr]at e
 subst e
 exact hQ _ _ (.b rfl rfl)
 conv=>cbv
 refine .go fun au ay=>?_
 conv=>cbv
 generalize aj:A6 ah 0 au=a8
 refine .dd hP (Dg aj) ?_
 cases a8
 simp only[A6,decide_eq_true_eq,decide_eq_false_iff_not]at aj
 conv=>cbv
 refine .go2 (by kernel_rfl) ?_
 conv=>cbv
 have e:false=B5 (⟨A4,Bd,A9,A7,Bh,Bg⟩:Ad):=(by exact C8 fun h=>by rw[diskOk_iff]at h;have h3:=h.2.2.1;rw[←Ho (d:=(⟨A4,Bd,A9,A7,Bh,Bg⟩:Ad)) ad (by unfold Dm;rw[decide_eq_false_iff_not,hnd];simp only[];omega)]at h3;cases h3)
 rw[hr]at e
 subst e
 exact hQ _ _ (.b rfl rfl)
 simp only[A6,decide_eq_true_eq,decide_eq_false_iff_not]at aj
 conv=>cbv
 refine .go2 (by kernel_rfl) ?_
 conv=>cbv
 refine .add fun a9 bf=>?_
 conv=>cbv
 exact .go [] (a9) (hJ _ ⟨by omega,by omega,fun j h=>if e:j=i3.toNat then by subst e;unfold Dm;rw[decide_eq_true_eq,hnd,hpd];simp only[];omega else hb j (by omega)⟩ mlt)
 conv=>cbv
 refine .go fun ai ao=>?_
 conv=>cbv
 generalize ak:A6 ah 0 ai=ba
 refine .dd hP (Dg ak) ?_
 cases ba
 simp only[A6,decide_eq_true_eq,decide_eq_false_iff_not]at ak
 conv=>cbv
 refine .go2 (by kernel_rfl) ?_
 conv=>cbv
 have e:false=B5 (⟨A4,Bd,A9,A7,Bh,Bg⟩:Ad):=(by exact C8 fun h=>by rw[diskOk_iff]at h;have h3:=h.2.2.1;rw[←Ho (d:=(⟨A4,Bd,A9,A7,Bh,Bg⟩:Ad)) ad (by unfold Dm;rw[decide_eq_false_iff_not,hnd];simp only[];omega)]at h3;cases h3)
 rw[hr]at e
 subst e
 exact hQ _ _ (.b rfl rfl)
 simp only[A6,decide_eq_true_eq,decide_eq_false_iff_not]at ak
 conv=>cbv
 refine .go2 (by kernel_rfl) ?_
 conv=>cbv
 refine .add fun an az=>?_
 conv=>cbv
 exact .go [] (an) (hJ _ ⟨by omega,by omega,fun j h=>if e:j=i3.toNat then by subst e;unfold Dm;rw[decide_eq_true_eq,hnd];simp only[];omega else hb j (by omega)⟩ mlt)
 conv=>cbv
 refine LoopW.lp (κ:=Int) La hP [] [1] (fun i5=>[(5,I i5)]) (fun i5=>[])
  (fun i5=>0≤i5∧i5≤A7.length+1∧(i5≤A7.length→Xfc (⟨A4,Bd,A9,A7,Bh,Bg⟩:Ad) i5.toNat)∧(i5=A7.length+1→Dn (⟨A4,Bd,A9,A7,Bh,Bg⟩:Ad) A9 A7=true))
  (fun i5=>(A7.length+1 - i5).toNat) (0) ⟨by omega,by omega,fun _=>XbQ ac,fun h=>by omega⟩ ⟨rfl,trivial⟩ rfl ?_
 rintro i5 J1 ⟨k0,k1,hQk,hQe⟩ a0
 conv=>cbv
 refine .go Cd fun v9 bj=>?_
 conv=>cbv
 refine .leq (fun h10=>?_) fun h10=>?_
 conv=>cbv
 have hq:=hQk (by omega)
 have hS0:=Vv (old:=A9) (steps:=A7) (k:=i5) (by omega) (by omega)
 rcases ab:C9 A9 A7 i5 with⟨aa,ap⟩
 generalize ae:aa.map Ac=bb
 refine .dd hP (Mm Cn Cd (by omega) (by omega) ac.2.2 ab ae) ?_
 conv=>cbv
 have hS:B0 A9 (A7.take i5.toNat)=(aa,ap):=hS0.symm.trans ab
 have hul:okL aa:=by have:=hq.2.1;simp only[]at this;rw[hS]at this;exact this
 have hun:aa.length≤1000000000:=by have:=hq.2.2;simp only[]at this;rw[hS]at this;exact this
 cases ap
 conv=>cbv
 have e:false=B5 (⟨A4,Bd,A9,A7,Bh,Bg⟩:Ad):=(by exact C8 fun h=>by rw[diskOk_iff]at h;have hk:=h.2.2.2.2;simp only[]at hk;rw[hq.1]at hk;unfold Wa at hk;simp only[]at hk;rw[hS]at hk;cases hk)
 rw[hr]at e
 subst e
 exact hQ _ _ (.b rfl rfl)
 conv=>cbv
 generalize al:Fx (⟨A4,Bd,A9,A7,Bh,Bg⟩:Ad) aa=bc
 refine .dd hP (Wu B4 Ck Cn Cd ae ac.1 hul (by omega) al) ?_
 cases bc
 conv=>cbv
 have e:false=B5 (⟨A4,Bd,A9,A7,Bh,Bg⟩:Ad):=(by exact C8 fun h=>by rw[diskOk_iff]at h;have hk:=h.2.2.2.2;simp only[]at hk;rw[hq.1]at hk;unfold Wa at hk;simp only[]at hk;rw[hS]at hk;rw[if_pos rfl,Sv (show A2 _ aa=false from al)]at hk;cases hk)
 rw[hr]at e
 subst e
 exact hQ _ _ (.b rfl rfl)
 conv=>cbv
 have hre:A2 (⟨A4,Bd,A9,A7,Bh,Bg⟩:Ad) aa=true:=al
 refine .go Cd fun ai ao=>?_
 conv=>cbv
 refine .eql (fun h14=>?_) fun h14=>?_
 conv=>cbv
 generalize am:Ip aa Bd=bd
 refine .dd hP (XdY ae Ck (by omega) am) ?_
 cases bd
 conv=>cbv
 have e:false=B5 (⟨A4,Bd,A9,A7,Bh,Bg⟩:Ad):=(by exact C8 fun h=>by rw[diskOk_iff]at h;have hk:=h.2.2.2.2;simp only[]at hk;rw[hq.1]at hk;unfold Wa at hk;simp only[]at hk;rw[hS]at hk;rw[if_pos rfl,List.drop_of_length_le (by omega)]at hk;unfold Dn at hk;rw[show Ek aa _=false from am,Bool.and_false]at hk;cases hk)
 rw[hr]at e
 subst e
 exact hQ _ _ (.b rfl rfl)
 conv=>cbv
 refine .add fun au ay=>?_
 conv=>cbv
 exact .go [] (au) (a0 _ ⟨by omega,by omega,fun h=>by omega,fun _=>by have:=hq.1;simp only[]at this;rw[this];unfold Wa;simp only[];rw[hS,List.drop_of_length_le (by omega),if_pos rfl];show(A2 _ aa&&Ek aa Bd)=true;rw[hre,show Ek aa Bd=true from am];rfl⟩ mlt)
 conv=>cbv
 refine .add fun an az=>?_
 conv=>cbv
 exact .go [] (an) (a0 _ ⟨by omega,by omega,fun h=>by rw[show an.toNat=i5.toNat+1 by omega];exact XbX ac hq (by simp only[];omega) hS hre,fun h=>by omega⟩ mlt)
 conv=>cbv
 have e:true=B5 (⟨A4,Bd,A9,A7,Bh,Bg⟩:Ad):=(by symm;rw[diskOk_iff];exact⟨af,ag,(Re (d:=(⟨A4,Bd,A9,A7,Bh,Bg⟩:Ad)) (fun j hj=>hb j (by simp only[]at hj;omega)) (by symm;rw[decide_eq_true_eq];simp only[];omega)).symm,by rw[aq];exact h6,hQe (by omega)⟩)
 rw[hr]at e
 subst e
 exact hQ _ _ (.b rfl rfl)
end
section
open Go Go.Proofs
set_option maxRecDepth 20000
set_option maxHeartbeats 4000000
end
section
open Go Go.Proofs
set_option maxRecDepth 20000
set_option maxHeartbeats 4000000
def Xfg:List Aa→List ByteArray→Int→Bool
 |now,[],id=>now.any fun e=>decide (e.id_=id)
 |now,s::ss,id=>(now.any fun e=>decide (e.id_=id))||Xfg (At now s).1 ss id
def Xfy(nodes:List Bb)(old:List Aa)(steps:List ByteArray):List Bb:=nodes.filter fun x=>Xfg old steps x.id_
theorem XeM{l:List Aa}{k:Nat}{id:Int}(hk:k<l.length):(l.take (k+1)).any (fun e=>decide (e.id_=id))=((l.take k).any (fun e=>decide (e.id_=id))||decide (l[k].id_=id)):=by
 rw[List.take_succ_eq_append_getElem hk,List.any_append]
 simp
end
section
open Go Go.Proofs
set_option maxRecDepth 20000
set_option maxHeartbeats 4000000
end
section
open Go Go.Proofs
set_option maxRecDepth 20000
set_option maxHeartbeats 4000000
def Xd:List (Nat×TyRow):=[XcJ,Xff,XdV,XcZ]
theorem Wh:Ca Tryz.prog Xd:=Ca.of (by kernel_rfl)
theorem Xec:Setup Tryz.prog Xd:=⟨Wh,mixed⟩
theorem Y6{A4:List Bb}{Cl:List (List D)}{Bd:List Aa}{Co:List (List D)}{A9:List Aa}{Cr:List (List D)}{A7:List ByteArray}{Cq:List (List D)}{Bh:Int}{Bg:Int}(B4:A4.map Ce=Cl)(Ck:Bd.map Ac=Co)(Cn:A9.map Ac=Cr)(Cd:A7.map cS=Cq)(hn:A4.length≤4000000000)(he:Bd.length≤4000000000)(ho:A9.length≤4000000000)(hs:A7.length≤4000000000):Fn Tryz.prog 106 [.agg [.d (.row 3 Cl),.d (.row 2 Co),.d (.row 2 Cr),.d (.row 1 Cq),I Bh,I Bg]] [] ⟨.agg [.d (.row 3 Cl),.d (.row 2 Co),.d (.row 2 Cr),.d (.row 1 Cq),I Bh,I Bg],[],[]⟩:=by
 refine Fn.go Xec Tryz.func106 fun P hP Q hQ=>?_
 conv=>cbv
 generalize aa:E4 A4=l1
 generalize ab:l1.map Ce=ai
 refine .dd hP (Je B4 (by omega) aa ab) ?_
 conv=>cbv
 generalize ac:E4 Bd=l2
 generalize ad:l2.map Ac=aj
 refine .dd hP (Cg Ck (by omega) ac ad) ?_
 conv=>cbv
 generalize ae:E4 A9=l3
 generalize af:l3.map Ac=ak
 refine .dd hP (Cg Cn (by omega) ae af) ?_
 conv=>cbv
 generalize ag:E4 A7=l4
 generalize ah:l4.map cS=al
 refine .dd hP (Hh Cd (by omega) ag ah) ?_
 conv=>cbv
 obtain rfl:l1=A4:=aa.symm
 obtain rfl:l2=Bd:=ac.symm
 obtain rfl:l3=A9:=ae.symm
 obtain rfl:l4=A7:=ag.symm
 obtain rfl:ai=Cl:=by rw[←ab,B4]
 obtain rfl:aj=Co:=by rw[←ad,Ck]
 obtain rfl:ak=Cr:=by rw[←af,Cn]
 obtain rfl:al=Cq:=by rw[←ah,Cd]
 exact hQ _ _ (.one (.inl rfl) rfl (.agg (.d rfl rfl (.d rfl rfl (.d rfl rfl (.d rfl rfl (.d rfl rfl (.d rfl rfl .nil)))))) .nil))
end
section
open Go Go.Proofs
set_option maxRecDepth 20000
set_option maxHeartbeats 4000000
def Xg2(d:Ad)(s:ByteArray):Ad:=⟨Xfy d.nodes_ d.old_ (d.steps_++[s]),(At d.entries_ s).1,d.old_,d.steps_++[s],d.room_,d.next_⟩
end
section
open Go Go.Proofs
set_option maxRecDepth 20000
set_option maxHeartbeats 4000000
end
section
open Go Go.Proofs
set_option maxRecDepth 20000
set_option maxHeartbeats 4000000
def XdL(d:Ad)(name:ByteArray):Ad×Int:=if B5 d=false∨Dx d name<0 then(d,3)else
 (⟨d.nodes_.set (Dx d name).toNat ⟨(d.nodes_.getD (Dx d name).toNat ⟨0,tx [],0⟩).id_,(d.nodes_.getD (Dx d name).toNat ⟨0,tx [],0⟩).text_,((d.nodes_.getD (Dx d name).toNat ⟨0,tx [],0⟩).text_.size:Int)⟩,d.entries_,d.old_,d.steps_,d.room_,d.next_⟩,0)
end
section
open Go Go.Proofs
set_option maxRecDepth 20000
set_option maxHeartbeats 4000000
def gN(d:Ad)(i:Int):Bb:=d.nodes_.getD i.toNat ⟨0,tx [],0⟩
def setN(d:Ad)(i:Int)(x:Bb):Ad:=⟨d.nodes_.set i.toNat x,d.entries_,d.old_,d.steps_,d.room_,d.next_⟩
def J0(d:Ad)(name text:ByteArray):Ad×Int:=if B5 d=false∨Dx d name<0 then(d,3)else
 (setN d (Dx d name) ⟨(gN d (Dx d name)).id_,(gN d (Dx d name)).text_++text.extract 0 (min (text.size:Int) (d.room_ - G5 d)).toNat,(gN d (Dx d name)).sure_⟩,if d.room_ - G5 d<text.size then 5 else 0)
def F0(d:Ad)(name:ByteArray):Ad×Int:=if B5 d=false then(d,3)else if Bo name=false then(d,1)else if 0≤A5 d.entries_ name then(d,2)else if 16≤d.entries_.length∨64≤d.nodes_.length∨1000000000≤d.next_ then(d,4)else
 (Xg2 ⟨d.nodes_++[⟨d.next_,tx [],0⟩],d.entries_,d.old_,d.steps_,d.room_,d.next_+1⟩ (tx [43]++name++tx [58]++C4 d.next_),0)
def Xbj(d:Ad):Ad:=if B5 d=false then d else⟨Xfy d.nodes_ d.entries_ [],d.entries_,d.entries_,[],d.room_,d.next_⟩
end
section
open Go Go.Proofs
set_option maxRecDepth 20000
set_option maxHeartbeats 4000000
def Xbv:List Aa→List ByteArray→Prop
 |_,[]=>True
 |now,s::ss=>srt now∧(At now s).2=true∧Xbv (At now s).1 ss
theorem Kq{now:List Aa}{s:ByteArray}{ss:List ByteArray}(h:(At now s).2=true):Gn now (s::ss)=Gn (At now s).1 ss:=if_neg (by rw[h];decide)
theorem XaV{d:Ad}:∀{l:List ByteArray} {now:List Aa},Dn d now l=true→Xbv now l∧Gn now l=(d.entries_,true)∧A2 d d.entries_=true
 |[],now,h=>by
  unfold Dn at h
  rw[Bool.and_eq_true]at h
  have e:now=d.entries_:=by
   have:=h.2
   unfold Ek at this
   exact of_decide_eq_true this
  refine⟨trivial,by rw[←e];rfl,by rw[←e];exact h.1⟩
 |s::ss,now,h=>by
  unfold Dn at h
  rw[Bool.and_eq_true,Bool.and_eq_true]at h
  obtain⟨a,b,c⟩:=XaV (now:=(At now s).1) h.2
  exact⟨⟨Xfs h.1.1,h.1.2,a⟩,by rw[Kq h.1.2,b],c⟩
theorem Sa:∀{l:List ByteArray} {now:List Aa} (k:Nat),Xbv now l→Xbv now (l.take k)
 |[],_,k,_=>by rw[List.take_nil];trivial
 |_::_,_,0,_=>trivial
 |_::_,_,k+1,h=>⟨h.1,h.2.1,Sa k h.2.2⟩
theorem Xap:∀{l:List ByteArray} {now:List Aa},Xbv now l→B0 now l=Gn now l∧(Gn now l).2=true
 |[],now,_=>⟨rfl,rfl⟩
 |s::ss,now,h=>by
  obtain⟨a,b⟩:=Xap (now:=(At now s).1) h.2.2
  have e2:B0 now (s::ss)=B0 (Dq now s).1 ss:=if_neg (by rw[Rf h.1,h.2.1];decide)
  rw[Kq h.2.1,e2,Rf h.1,a]
  exact⟨rfl,b⟩
def K9(l:List Aa)(id:Int):Bool:=l.any fun e=>decide (e.id_=id)
def XbI(old:List Aa)(steps:List ByteArray)(id:Int):Bool:=(List.range (steps.length+1)).any fun k=>K9 (B0 old (steps.take k)).1 id
def Jd(d:Ad):Ad:=⟨d.nodes_.filter (fun x=>XbI d.old_ d.steps_ x.id_),d.entries_,d.old_,d.steps_,d.room_,d.next_⟩
theorem Xeq{d:Ad}(h:B5 d=true):Xbv d.old_ d.steps_∧Gn d.old_ d.steps_=(d.entries_,true)∧A2 d d.entries_=true:=XaV (diskOk_iff.1 h).2.2.2.2
theorem Ru{p:Nat→Bool}{k:Nat}:(List.range (k+1)).any p=((List.range k).any p||p k):=by
 rw[List.range_succ,List.any_append]
 simp
theorem Sf{old:List Aa}{steps:List ByteArray}{id:Int}{k:Nat}(hk:k≤steps.length+1)(h:true=(List.range k).any fun k=>K9 (B0 old (steps.take k)).1 id):XbI old steps id=true:=by
 obtain⟨j,hj,h1⟩:=List.any_eq_true.1 h.symm
 exact List.any_eq_true.2 ⟨j,List.mem_range.2 (by have:=List.mem_range.1 hj;omega),h1⟩
theorem N1{l:List Aa}{k:Nat}{id:Int}(hk:k<l.length):K9 (l.take (k+1)) id=(K9 (l.take k) id||decide (l[k].id_=id)):=XeM hk
theorem Xbx(l:List Aa)(s:ByteArray):(Dq l s).1.length≤l.length+1:=by
 unfold Dq
 split
 ·simp
 ·split
  ·exact Ey rfl
  ·have h1:=H2 (rfl:Dl l (Bf s).1=_)
   split
   ·have h2:=Ey (rfl:Ea (Dl l (Bf s).1) ⟨(Bf s).2.1,Cu l (Bf s).1⟩=_)
    show(Ea _ _).length≤_
    omega
   ·show(Dl _ _).length≤_
    omega
theorem Xco:∀(l:List ByteArray) (now:List Aa),(B0 now l).1.length≤now.length+l.length
 |[],_=>Nat.le_refl _
 |s::l,now=>by
  have h1:=Xbx now s
  have h2:=Xco l (Dq now s).1
  unfold B0
  split
  ·exact Nat.zero_le _
  ·rw[List.length_cons]
   omega
end
section
open Go Go.Proofs
set_option maxRecDepth 20000
set_option maxHeartbeats 4000000
def Xi:List (Nat×TyRow):=[ty3,ty9,XcJ,Xff,XdV,XcZ,XbO,Yh]
theorem Ve:Ca Tryz.prog Xi:=Ca.of (by kernel_rfl)
theorem Nn:Setup Tryz.prog Xi:=⟨Ve,mixed⟩
variable {A4:List Bb} {Cl Co Cr Cq:List (List D)} {Bd A9:List Aa} {A7:List ByteArray} {Bh Bg:Int}
theorem Xcf{nn ne no ns:Nat}(B4:A4.map Ce=Cl)(Ck:Bd.map Ac=Co)(Cn:A9.map Ac=Cr)(Cd:A7.map cS=Cq)(hn:A4.length≤4000000000)(he:Bd.length≤4000000000)(ho:A9.length≤4000000000)(hs:A7.length≤4000000000)(hnn:nn=A4.length)(hne:ne=Bd.length)(hno:no=A9.length)(hns:ns=A7.length):Fn Tryz.prog 97 [.agg [.d (.row 3 Cl),.d (.row 2 Co),.d (.row 2 Cr),.d (.row 1 Cq),I Bh,I Bg]] [] ⟨.agg [.ref 0 0 nn,.ref 1 0 ne,.ref 2 0 no,.ref 3 0 ns,I Bh,I Bg],[.row 3 false Cl,.row 2 false Co,.row 2 false Cr,.row 1 false Cq],[]⟩:=by
 refine Fn.goR Nn Tryz.func97 fun P hP Q hQ=>?_
 conv=>cbv
 refine .row0 B4 fun aa z1 ai ab=>?_
 conv=>cbv
 refine .row0 Ck fun ac z2 aj ad=>?_
 conv=>cbv
 refine .row0 Cn fun ae z3 ak af=>?_
 conv=>cbv
 refine .row0 Cd fun ag z4 al ah=>?_
 conv=>cbv
 obtain rfl:z1=Cl:=by rw[←ab,B4]
 obtain rfl:z2=Co:=by rw[←ad,Ck]
 obtain rfl:z3=Cr:=by rw[←af,Cn]
 obtain rfl:z4=Cq:=by rw[←ah,Cd]
 obtain rfl:aa=nn:=by omega
 obtain rfl:ac=ne:=by omega
 obtain rfl:ae=no:=by omega
 obtain rfl:ag=ns:=by omega
 exact hQ _ _ (.of [7,9,11,13] (.inl rfl) rfl rfl rfl rfl)
theorem Xbr{onod:List Bb}{Ya:List (List D)}{oent:List Aa}{Yc:List (List D)}{oold:List Aa}{Ye:List (List D)}{oste:List ByteArray}{Yn:List (List D)}{oroo:Int}{onex:Int}(B4:A4.map Ce=Cl)(Ck:Bd.map Ac=Co)(Cn:A9.map Ac=Cr)(Cd:A7.map cS=Cq)(hn:A4.length≤2000000000)(hol:A9.length≤1000000000)(hsl:A7.length≤1000000000)(hss:okS A7)(hr:Jd (⟨A4,Bd,A9,A7,Bh,Bg⟩:Ad)=⟨onod,oent,oold,oste,oroo,onex⟩)(Zp:onod.map Ce=Ya)(Yq:oent.map Ac=Yc)(Y3:oold.map Ac=Ye)(Zn:oste.map cS=Yn):Fn Tryz.prog 165 [.agg [.d (.row 3 Cl),.d (.row 2 Co),.d (.row 2 Cr),.d (.row 1 Cq),I Bh,I Bg]] [] ⟨.agg [.d (.row 3 Ya),.d (.row 2 Yc),.d (.row 2 Ye),.d (.row 1 Yn),I oroo,I onex],[],[]⟩:=by
 refine Fn.go Nn Tryz.func165 fun P hP Q hQ=>?_
 conv=>cbv
 refine LoopW.lp (κ:=Int×(List (List D))×Nat) Nn hP [6] [1,2] (fun(i4,ad,ae)=>[(3,.ref 7 0 ae),(4,I i4)]) (fun(i4,ad,ae)=>[(7,.row 3 false ad)])
  (fun(i4,ad,ae)=>∃(w7:List Bb),w7.map Ce=ad∧ae=w7.length∧0≤i4∧i4≤A4.length∧w7=(A4.take i4.toNat).filter (fun x=>XbI A9 A7 x.id_)∧w7.length≤i4)
  (fun(i4,ad,ae)=>(A4.length - i4).toNat) (0,[],0) ⟨[],rfl,rfl,by omega,by omega,by simp,by simp⟩ ⟨rfl,rfl,trivial⟩ rfl ?_
 rintro⟨i4,ad,ae⟩ J ⟨w7,ah,a6,h0,h1,hx,hxl⟩ hJ
 conv=>cbv
 refine .go B4 fun v1 a9=>?_
 conv=>cbv
 refine .lss (fun h2=>?_) fun h2=>?_
 conv=>cbv
 refine LoopW.lp (κ:=Bool×Int) Nn hP [] [1,2,3,4] (fun(b5,i6)=>[(5,B b5),(6,I i6)]) (fun(b5,i6)=>[])
  (fun(b5,i6)=>0≤i6∧i6≤A7.length+1∧b5=(List.range i6.toNat).any (fun k=>K9 (B0 A9 (A7.take k)).1 (A4.getD i4.toNat ⟨0,tx [],0⟩).id_))
  (fun(b5,i6)=>(A7.length+1 - i6).toNat) (false,0) ⟨by omega,by omega,rfl⟩ ⟨rfl,rfl,trivial⟩ rfl ?_
 rintro⟨b5,i6⟩ J1 ⟨k0,k1,hu⟩ ay
 conv=>cbv
 refine .go Cd fun v3 ba=>?_
 conv=>cbv
 refine .leq (fun h4=>?_) fun h4=>?_
 conv=>cbv
 cases b5
 conv=>cbv
 rcases ap:C9 A9 A7 i6 with⟨aa,az⟩
 generalize ai:aa.map Ac=a7
 have hS:B0 A9 (A7.take i6.toNat)=(aa,az):=by rw[←Vv (by omega) (by omega)];exact ap
 have bb:aa.length≤2000000000:=by
  have:=Xco (A7.take i6.toNat) A9
  rw[hS,List.length_take]at this
  simp only[]at this
  omega
 refine .dd hP (Mm Cn Cd hol hsl hss ap ai) ?_
 conv=>cbv
 refine LoopW.lp (κ:=Bool×Int) Nn hP [] [1,2,3,4,6,7,24,25] (fun(b5,i9)=>[(5,B b5),(9,I i9)]) (fun(b5,i9)=>[])
  (fun(b5,i9)=>0≤i9∧i9≤aa.length∧b5=K9 (aa.take i9.toNat) (A4.getD i4.toNat ⟨0,tx [],0⟩).id_)
  (fun(b5,i9)=>(aa.length - i9).toNat) (false,0) ⟨by omega,by omega,rfl⟩ ⟨rfl,rfl,trivial⟩ rfl ?_
 rintro⟨b5,i9⟩ J2 ⟨m0,m1,hb⟩ am
 conv=>cbv
 refine .go ai fun v6 bc=>?_
 conv=>cbv
 refine .lss (fun h7=>?_) fun h7=>?_
 conv=>cbv
 cases b5
 conv=>cbv
 refine .go i9.toNat ai fun al ⟨a0,a8⟩ aq=>?_
 conv=>cbv
 refine .go i4.toNat B4 fun ar ⟨au,a1,a2⟩ a3=>?_
 conv=>cbv
 have hide:(A4.getD i4.toNat ⟨0,tx [],0⟩).id_=au:=by rw[←gD ar,←a3]
 refine .eql (fun h10=>?_) fun h10=>?_
 conv=>cbv
 refine .add fun aj aw=>?_
 conv=>cbv
 exact .go [] (true,aj) (am _ ⟨by omega,by omega,by rw[show aj.toNat=i9.toNat+1 by omega,N1 al,←aq,hide];simp only[];rw[decide_eq_true h10,Bool.or_true]⟩ mlt)
 conv=>cbv
 refine .add fun aj aw=>?_
 conv=>cbv
 exact .go [] (false,aj) (am _ ⟨by omega,by omega,by rw[show aj.toNat=i9.toNat+1 by omega,N1 al,←aq,←hb,hide];simp only[];rw[decide_eq_false h10];rfl⟩ mlt)
 conv=>cbv
 refine .add fun v8 a4=>?_
 conv=>cbv
 exact .go [] (true,v8) (am _ ⟨by omega,by omega,by rw[show v8.toNat=i9.toNat+1 by omega,N1 (show i9.toNat<aa.length by omega),←hb];rfl⟩ mlt)
 conv=>cbv
 refine .add fun v8 a4=>?_
 conv=>cbv
 exact .go [] (b5,v8) (ay _ ⟨by omega,by omega,by rw[show v8.toNat=i6.toNat+1 by omega,Ru,←hu,Bool.false_or,hS];show _=K9 aa _;rw[hb,List.take_of_length_le (by omega)]⟩ mlt)
 conv=>cbv
 refine .go i4.toNat B4 fun ab ⟨ac,af,ag⟩ ak=>?_
 conv=>cbv
 refine .one (⟨ac,af,ag⟩:Bb) ah rfl fun an z6 ax ao=>?_
 conv=>cbv
 refine .add fun v7 a5=>?_
 conv=>cbv
 have hid:(A4.getD i4.toNat ⟨0,tx [],0⟩).id_=ac:=by rw[←gD ab,←ak]
 have hus:=Sf (show i6.toNat≤A7.length+1 by omega) hu
 rw[hid]at hus
 exact .go [9] (v7,z6,an) (hJ _ ⟨_,ao,N8,by omega,by omega,by rw[show v7.toNat=i4.toNat+1 by omega,Fw ab,←hx,←ak];simp only[];rw[hus];rfl,by rw[List.length_append,List.length_singleton];omega⟩ mlt)
 conv=>cbv
 cases b5
 conv=>cbv
 refine .add fun v5 bd=>?_
 conv=>cbv
 have hj:i4.toNat<A4.length:=by omega
 have hus:XbI A9 A7 A4[i4.toNat].id_=false:=by rw[gD hj (d:=⟨0,tx [],0⟩)];unfold XbI;rw[show A7.length+1=i6.toNat by omega];exact hu.symm
 exact .go [7] (v5,ad,ae) (hJ _ ⟨_,ah,N8,by omega,by omega,by rw[show v5.toNat=i4.toNat+1 by omega,Fw hj,←hx,hus];simp,by omega⟩ mlt)
 conv=>cbv
 refine .go i4.toNat B4 fun ab ⟨ac,af,ag⟩ ak=>?_
 conv=>cbv
 refine .one (⟨ac,af,ag⟩:Bb) ah rfl fun an z6 ax ao=>?_
 conv=>cbv
 refine .add fun v7 a5=>?_
 conv=>cbv
 have hid:(A4.getD i4.toNat ⟨0,tx [],0⟩).id_=ac:=by rw[←gD ab,←ak]
 have hus:=Sf (show i6.toNat≤A7.length+1 by omega) hu
 rw[hid]at hus
 exact .go [9] (v7,z6,an) (hJ _ ⟨_,ao,N8,by omega,by omega,by rw[show v7.toNat=i4.toNat+1 by omega,Fw ab,←hx,←ak];simp only[];rw[hus];rfl,by rw[List.length_append,List.length_singleton];omega⟩ mlt)
 conv=>cbv
 have e:(⟨w7,Bd,A9,A7,Bh,Bg⟩:Ad)=Jd (⟨A4,Bd,A9,A7,Bh,Bg⟩:Ad):=(by unfold Jd;dsimp only;rw[hx,List.take_of_length_le (by omega)])
 rw[hr]at e
 simp only[Ad.mk.injEq]at e
 obtain⟨rfl,rfl,rfl,rfl,rfl,rfl⟩:=e
 exact hQ _ _ (.one (.inl rfl) rfl (.agg (.ref rfl (In ah) (XbJ ah Zp) (.d rfl (Mh Ck Yq) (.d rfl (Mh Cn Y3) (.d rfl (Mh Cd Zn) (.d rfl rfl (.d rfl rfl (.nil))))))) .nil))
end
section
open Go Go.Proofs
set_option maxRecDepth 20000
set_option maxHeartbeats 4000000
section
variable {d:Ad} {name text a b:ByteArray}
end
end
end Go.Proofs.YtgdmjbcllgmepaaGreatDoor.Ab
