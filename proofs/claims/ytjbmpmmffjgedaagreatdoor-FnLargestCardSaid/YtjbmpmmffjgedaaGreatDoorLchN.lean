/- What functions of the program come to, for all arguments in the given bounds. -/
import Derived.Test.YtjbmpmmffjgedaaGreatDoorLch06s
import Derived.Test.YtjbmpmmffjgedaaGreatDoorLZ10
set_option linter.unusedVariables false
set_option linter.unusedSimpArgs false
namespace Go.Proofs.YtjbmpmmffjgedaaGreatDoor.Ab
section
open Go Go.Proofs
set_option maxRecDepth 20000
set_option maxHeartbeats 4000000
def XeL:List (Nat×TyRow):=[ty3,ty5,ty9,Xg4,XgU,Xax,Xbj,XcB,Xc0]
theorem XcQ:B3 Tryz.prog XeL:=B3.of (by kernel_rfl)
theorem Ia:Setup Tryz.prog XeL:=⟨XcQ,mixed⟩
variable {l o An Ao Fy F3:List Ag} {xl xo Bk Bh Bg Bi Co Cn Cm Cp:List (List D)} {name:ByteArray} {no noanod noaent noaold noaste:Nat} {ob As Aq G8 G9:Int} {Aj F2:List B5} {Al Fz:List ByteArray}
theorem It(hl:l.map Ad=xl)(hn:l.length≤4000000000)(hr:Ck l name=o)(ho:o.map Ad=xo)(hno:no=o.length):Fn Tryz.prog 266 [.d (.row 2 xl),S name] [] ⟨.ref 0 0 no,[.row 2 false xo],[]⟩:=by
 refine Fn.goR Ia Tryz.func266 fun P hP Q hQ=>?_
 conv=>cbv
 refine LoopW.lp (κ:=Int×(List (List D))×Nat) Ia hP [1] [0,1] (fun(i6,aa,ab)=>[(5,.ref 2 0 ab),(6,I i6)]) (fun(i6,aa,ab)=>[(2,.row 2 false aa)])
  (fun(i6,aa,ab)=>∃(w2:List Ag),w2.map Ad=aa∧ab=w2.length∧0≤i6∧i6≤l.length∧w2=(l.take i6.toNat).filter (fun x=>!decide (x.name_=name))∧w2.length≤i6)
  (fun(i6,aa,ab)=>(l.length - i6).toNat) (0,[],0) ⟨[],rfl,rfl,by omega,by omega,rfl,by simp⟩ ⟨rfl,rfl,trivial⟩ rfl ?_
 rintro⟨i6,aa,ab⟩ J ⟨w2,ad,al,h0,h1,hx,hxl⟩ hJ
 conv=>cbv
 refine .go hl fun v1 ap=>?_
 conv=>cbv
 refine .lss (fun h2=>?_) fun h2=>?_
 conv=>cbv
 refine .go i6.toNat hl fun ac ⟨ah,am⟩ ae=>?_
 conv=>cbv
 refine .neq (fun h4=>?_) fun h4=>?_
 conv=>cbv
 refine .go i6.toNat hl fun an ⟨af,ag⟩ ai=>?_
 conv=>cbv
 refine .one (⟨af,ag⟩:Ag) ad rfl fun aj z6 ao ak=>?_
 conv=>cbv
 refine .add fun v7 aq=>?_
 conv=>cbv
 exact .go [4] (v7,z6,aj) (hJ _ ⟨_,ak,Em,by omega,by omega,by rw[show v7.toNat=i6.toNat+1 by omega,Ey ac,←hx,←ae];simp only[];rw[decide_eq_false h4,ai,←ae];rfl,by rw[List.length_append,List.length_singleton];omega⟩ mlt)
 conv=>cbv
 refine .add fun v5 ar=>?_
 conv=>cbv
 exact .go [2] (v5,aa,ab) (hJ _ ⟨_,ad,Em,by omega,by omega,by rw[show v5.toNat=i6.toNat+1 by omega,Ey ac,←hx,←ae];simp only[];rw[decide_eq_true h4];simp,by omega⟩ mlt)
 conv=>cbv
 have e:w2=Ck l name:=(by unfold Ck;rw[hx,List.take_of_length_le (by omega)])
 rw[hr]at e
 obtain rfl:=e
 obtain rfl:aa=xo:=by rw[←ad,←ho]
 obtain rfl:ab=no:=by first|omega|(rw[hno];simp;done)|(rw[hno];simp;omega)
 exact hQ _ _ (.of [2] (.inl rfl) rfl rfl rfl rfl)
theorem F5{enam:ByteArray}{eid:Int}(hl:l.map Ad=xl)(hn:l.length≤4000000000)(hr:Ci l (⟨enam,eid⟩:Ag)=o)(ho:o.map Ad=xo)(hno:no=o.length):Fn Tryz.prog 267 [.d (.row 2 xl),.agg [S enam,I eid]] [] ⟨.ref 0 0 no,[.row 2 false xo],[]⟩:=by
 refine Fn.goR Ia Tryz.func267 fun P hP Q hQ=>?_
 conv=>cbv
 refine LoopW.lp (κ:=Bool×Int×(List (List D))×Nat) Ia hP [2] [0,3] (fun(b6,i7,ac,ad)=>[(5,.ref 3 0 ad),(6,B b6),(7,I i7)]) (fun(b6,i7,ac,ad)=>[(3,.row 2 false ac)])
  (fun(b6,i7,ac,ad)=>∃(w3:List Ag),w3.map Ad=ac∧ad=w3.length∧0≤i7∧i7≤l.length∧w3++Ou (⟨enam,eid⟩:Ag) (l.drop i7.toNat) b6=Ci l (⟨enam,eid⟩:Ag)∧w3.length≤2*i7)
  (fun(b6,i7,ac,ad)=>(l.length - i7).toNat) (false,0,[],0) ⟨[],rfl,rfl,by omega,by omega,rfl,by simp⟩ ⟨rfl,rfl,rfl,trivial⟩ rfl ?_
 rintro⟨b6,i7,ac,ad⟩ J ⟨w3,ag,ba,h0,h1,hx,hxl⟩ hJ
 conv=>cbv
 refine .go hl fun v1 bk=>?_
 conv=>cbv
 refine .lss (fun h2=>?_) fun h2=>?_
 conv=>cbv
 cases b6
 conv=>cbv
 refine .go i7.toNat hl fun aq ⟨ae,ak⟩ ab=>?_
 conv=>cbv
 refine .geq fun b4 al=>?_
 conv=>cbv
 cases b4
 conv=>cbv
 refine .go i7.toNat hl fun ar ⟨aa,af⟩ am=>?_
 conv=>cbv
 obtain⟨rfl,rfl⟩:aa=ae∧af=ak:=by have:=am.trans ab.symm;rw[Ag.mk.injEq]at this;exact this
 refine .neq (fun h6=>?_) fun h6=>?_
 conv=>cbv
 refine .go i7.toNat hl fun bb ⟨ah,an⟩ ay=>?_
 conv=>cbv
 obtain⟨rfl,rfl⟩:ah=aa∧an=af:=by have:=ay.trans am.symm;rw[Ag.mk.injEq]at this;exact this
 refine .one (⟨ah,an⟩:Ag) ag rfl fun az z8 bc a0=>?_
 conv=>cbv
 refine .add fun v9 bl=>?_
 conv=>cbv
 have hlt:ltB ah enam=true:=by simpa using al
 have hps:=Ge (show i7.toNat<l.length by omega) ab hx
 simp only[]at hps
 rw[hlt,if_neg (by simp),if_neg h6,List.nil_append,←List.append_assoc]at hps
 exact .go [5] (false,v9,z8,az) (hJ _ ⟨_,a0,Em,by omega,by omega,by rw[show v9.toNat=i7.toNat+1 by omega];exact hps,by first|omega|(simp;omega)⟩ mlt)
 conv=>cbv
 refine .add fun v7 a1=>?_
 conv=>cbv
 have hlt:ltB aa enam=true:=by simpa using al
 have hps:=Ge (show i7.toNat<l.length by omega) ab hx
 simp only[]at hps
 rw[hlt,if_neg (by simp),if_pos h6,List.nil_append,List.nil_append]at hps
 exact .go [3] (false,v7,ac,ad) (hJ _ ⟨_,ag,Em,by omega,by omega,by rw[show v7.toNat=i7.toNat+1 by omega];exact hps,by first|omega|(simp;omega)⟩ mlt)
 conv=>cbv
 refine .one (⟨enam,eid⟩:Ag) ag rfl fun a2 z5 bd au=>?_
 conv=>cbv
 refine .go i7.toNat hl fun be ⟨ai,ao⟩ aw=>?_
 conv=>cbv
 obtain⟨rfl,rfl⟩:ai=ae∧ao=ak:=by have:=aw.trans ab.symm;rw[Ag.mk.injEq]at this;exact this
 refine .neq (fun h7=>?_) fun h7=>?_
 conv=>cbv
 refine .go i7.toNat hl fun bf ⟨aj,ap⟩ a3=>?_
 conv=>cbv
 obtain⟨rfl,rfl⟩:aj=ai∧ap=ao:=by have:=a3.trans aw.symm;rw[Ag.mk.injEq]at this;exact this
 refine .one (⟨aj,ap⟩:Ag) au rfl fun a4 z9 bg a5=>?_
 conv=>cbv
 refine .add fun ax bh=>?_
 conv=>cbv
 have hlt:ltB aj enam=false:=by simpa using al
 have hps:=Ge (show i7.toNat<l.length by omega) ab hx
 simp only[]at hps
 rw[hlt,if_pos (by simp),if_neg h7,←List.append_assoc,←List.append_assoc]at hps
 exact .go [7] (true,ax,z9,a4) (hJ _ ⟨_,a5,Em,by omega,by omega,by rw[show ax.toNat=i7.toNat+1 by omega];exact hps,by first|omega|(simp;omega)⟩ mlt)
 conv=>cbv
 refine .add fun v8 bm=>?_
 conv=>cbv
 have hlt:ltB ai enam=false:=by simpa using al
 have hps:=Ge (show i7.toNat<l.length by omega) ab hx
 simp only[]at hps
 rw[hlt,if_pos (by simp),if_pos h7,List.nil_append,←List.append_assoc]at hps
 exact .go [5] (true,v8,z5,a2) (hJ _ ⟨_,au,Em,by omega,by omega,by rw[show v8.toNat=i7.toNat+1 by omega];exact hps,by first|omega|(simp;omega)⟩ mlt)
 conv=>cbv
 refine .go i7.toNat hl fun aq ⟨ae,ak⟩ ab=>?_
 conv=>cbv
 refine .neq (fun h4=>?_) fun h4=>?_
 conv=>cbv
 refine .go i7.toNat hl fun ar ⟨aa,af⟩ am=>?_
 conv=>cbv
 obtain⟨rfl,rfl⟩:aa=ae∧af=ak:=by have:=am.trans ab.symm;rw[Ag.mk.injEq]at this;exact this
 refine .one (⟨aa,af⟩:Ag) ag rfl fun a6 z6 bi a7=>?_
 conv=>cbv
 refine .add fun v7 a1=>?_
 conv=>cbv
 have hps:=Ge (show i7.toNat<l.length by omega) ab hx
 simp only[]at hps
 rw[if_neg (by simp),if_neg h4,List.nil_append,←List.append_assoc]at hps
 exact .go [5] (true,v7,z6,a6) (hJ _ ⟨_,a7,Em,by omega,by omega,by rw[show v7.toNat=i7.toNat+1 by omega];exact hps,by first|omega|(simp;omega)⟩ mlt)
 conv=>cbv
 refine .add fun v5 bn=>?_
 conv=>cbv
 have hps:=Ge (show i7.toNat<l.length by omega) ab hx
 simp only[]at hps
 rw[if_neg (by simp),if_pos h4,List.nil_append,List.nil_append]at hps
 exact .go [3] (true,v5,ac,ad) (hJ _ ⟨_,ag,Em,by omega,by omega,by rw[show v5.toNat=i7.toNat+1 by omega];exact hps,by first|omega|(simp;omega)⟩ mlt)
 conv=>cbv
 cases b6
 conv=>cbv
 refine .one (⟨enam,eid⟩:Ag) ag rfl fun a8 z3 bj a9=>?_
 conv=>cbv
 have e:(w3++[(⟨enam,eid⟩:Ag)])=Ci l (⟨enam,eid⟩:Ag):=(by rw[List.drop_of_length_le (by omega)]at hx;exact hx)
 rw[hr]at e
 obtain rfl:=e
 obtain rfl:z3=xo:=by rw[←a9,←ho]
 obtain rfl:a8=no:=by first|omega|(rw[hno];simp;done)|(rw[hno];simp;omega)
 exact hQ _ _ (.of [5] (.inl rfl) rfl rfl rfl rfl)
 conv=>cbv
 have e:w3=Ci l (⟨enam,eid⟩:Ag):=(by rw[List.drop_of_length_le (by omega)]at hx;simpa[Ou]using hx)
 rw[hr]at e
 obtain rfl:=e
 obtain rfl:ac=xo:=by rw[←ag,←ho]
 obtain rfl:ad=no:=by first|omega|(rw[hno];simp;done)|(rw[hno];simp;omega)
 exact hQ _ _ (.of [3] (.inl rfl) rfl rfl rfl rfl)
theorem X7{old:List Ag}{xold:List (List D)}{steps:List ByteArray}{xsteps:List (List D)}{n:Int}{oa:List Ag}{xoa:List (List D)}{ob:Bool}{noa:Nat}(hold:old.map Ad=xold)(hsteps:steps.map cS=xsteps)(hol:old.length≤1000000000)(hsl:steps.length≤1000000000)(hss:okS steps)(hr:Cf old steps n=(oa,ob))(hoa:oa.map Ad=xoa)(hnoa:noa=oa.length):Fn Tryz.prog 212 [.d (.row 2 xold),.d (.row 1 xsteps),I n] [] ⟨.tup [.ref 0 0 noa,B ob],[.row 2 false xoa],[]⟩:=by
 refine Fn.goR Ia Tryz.func212 fun P hP Q hQ=>?_
 conv=>cbv
 refine .row0 hold fun ck z1 c5 cm=>?_
 conv=>cbv
 refine .go hsteps fun v2 cn=>?_
 conv=>cbv
 generalize bo:E4 n 0 v2=r3
 refine .dd hP (Z4 bo) ?_
 conv=>cbv
 have hbr:0≤r3∧r3≤steps.length:=by rw[←bo];unfold E4;split<;>(try split)<;>omega
 refine LoopW.lp (κ:=Int×(List (List D))×Nat) Ia hP [2] [1,2] (fun(i9,aj,ak)=>[(8,.ref 3 0 ak),(9,I i9)]) (fun(i9,aj,ak)=>[(3,.row 2 false aj)])
  (fun(i9,aj,ak)=>∃(w3:List Ag),w3.map Ad=aj∧ak=w3.length∧0≤i9∧i9≤r3∧Cf old steps n=B0 w3 ((steps.take r3.toNat).drop i9.toNat)∧w3.length≤old.length+i9)
  (fun(i9,aj,ak)=>(r3 - i9).toNat) (0,z1,ck) ⟨old,cm,(by first|omega|(simp;omega)),by omega,by omega,by unfold Cf;rw[←cn,bo];rfl,by omega⟩ ⟨rfl,rfl,trivial⟩ rfl ?_
 rintro⟨i9,aj,ak⟩ J ⟨w3,aa,c6,h0,h1,hio,hun⟩ hJ
 conv=>cbv
 refine .lss (fun h4=>?_) fun h4=>?_
 conv=>cbv
 refine .go i9.toNat hsteps fun bu e5 ab=>?_
 conv=>cbv
 have de:e5.size≤1000000000:=ab▸hss _ (List.getElem_mem bu)
 have hdc:(steps.take r3.toNat).drop i9.toNat=e5::(steps.take r3.toNat).drop (i9.toNat+1):=by rw[List.drop_eq_getElem_cons (by rw[List.length_take];omega),List.getElem_take,←ab]
 rw[hdc]at hio
 rcases an:Be e5 with⟨ah,bi,bj,co⟩
 refine .dd hP (Y8 (by omega) an) ?_
 conv=>cbv
 have hlf:=Z1 an
 cases co
 conv=>cbv
 have e:([],false)=Cf old steps n:=(by rw[hio];show _=(if(Do w3 e5).2=false then _ else _);rw[Dz an (.inl rfl)];rfl)
 rw[hr]at e
 simp only[Prod.mk.injEq]at e
 obtain⟨rfl,rfl⟩:=e
 obtain rfl:[]=xoa:=by first|(rw[←hoa];done)|(rw[←hoa];rfl)
 obtain rfl:0=noa:=by first|omega|(rw[hnoa];simp;done)|(rw[hnoa];simp;omega)
 exact hQ _ _ (.of [4] (.inl rfl) rfl rfl rfl rfl)
 conv=>cbv
 obtain⟨h2z,hh0⟩:=hlf.2 rfl
 have h00:0<e5.size:=by omega
 have hh1:(e5[0]).toNat=43∨(e5[0]).toNat=45∨(e5[0]).toNat=62:=hh0.imp (fun h=>XhV h00 h (by decide)) fun h=>h.imp (fun h=>XhV h00 h (by decide)) fun h=>XhV h00 h (by decide)
 generalize a5:Bl ah=r7
 refine .dd hP (Ii (by omega) a5) ?_
 cases r7
 conv=>cbv
 have e:([],false)=Cf old steps n:=(by rw[hio];show _=(if(Do w3 e5).2=false then _ else _);rw[Dz an (.inr (.inl a5))];rfl)
 rw[hr]at e
 simp only[Prod.mk.injEq]at e
 obtain⟨rfl,rfl⟩:=e
 obtain rfl:[]=xoa:=by first|(rw[←hoa];done)|(rw[←hoa];rfl)
 obtain rfl:0=noa:=by first|omega|(rw[hnoa];simp;done)|(rw[hnoa];simp;omega)
 exact hQ _ _ (.of [4] (.inl rfl) rfl rfl rfl rfl)
 conv=>cbv
 refine .go i9.toNat hsteps fun c7 e8 cp=>?_
 conv=>cbv
 obtain rfl:e5=e8:=ab.trans cp.symm
 refine .go 0 fun hjv9 v9 bv bv9=>?_
 conv=>cbv
 refine .neq (fun h10=>?_) fun h10=>?_
 conv=>cbv
 generalize a2:Dg w3 ah=cq
 refine .lnt hP (Gy aa (by omega) a2) (.ref rfl (Ae aa) (.d rfl .nil)) ?_
 cases cq
 conv=>cbv
 have e:([],false)=Cf old steps n:=(by rw[hio];show _=(if(Do w3 e5).2=false then _ else _);rw[Dz an (.inr (.inr ⟨(H3 (n:=43) h00 bv (by omega) (by decide)),a2⟩))];rfl)
 rw[hr]at e
 simp only[Prod.mk.injEq]at e
 obtain⟨rfl,rfl⟩:=e
 obtain rfl:[]=xoa:=by first|(rw[←hoa];done)|(rw[←hoa];rfl)
 obtain rfl:0=noa:=by first|omega|(rw[hnoa];simp;done)|(rw[hnoa];simp;omega)
 exact hQ _ _ (.of [4] (.inl rfl) rfl rfl rfl rfl)
 conv=>cbv
 refine .go i9.toNat hsteps fun cr ct bw=>?_
 conv=>cbv
 obtain rfl:e5=ct:=ab.trans bw.symm
 refine .go 0 fun hjv13 df bz bv13=>?_
 conv=>cbv
 refine .eql (fun h14=>?_) fun h14=>?_
 conv=>cbv
 generalize bl:B6 w3 ah=b0
 refine .lnt hP (Ga aa (by omega) bl) (.ref rfl (Ae aa) (.d rfl .nil)) ?_
 conv=>cbv
 refine .go i9.toNat hsteps fun cu cv b1=>?_
 conv=>cbv
 obtain rfl:e5=cv:=ab.trans b1.symm
 refine .go 0 fun hjv17 dg c8 bv17=>?_
 conv=>cbv
 refine .neq (fun h18=>?_) fun h18=>?_
 conv=>cbv
 generalize a6:Ck w3 ah=bp
 have hln19:=Ew a6
 generalize ao:bp.map Ad=b2
 obtain⟨nl19,hnl19⟩:∃m,m=bp.length:=⟨_,rfl⟩
 refine .lntN hP (It aa (by omega) a6 ao hnl19) (.ref rfl (Ae aa) (.d rfl .nil)) rfl rfl rfl (by simp only[List.all_cons,List.all_nil,Bool.and_self,Az (fun _=>rfl) ao]) ?_
 conv=>cbv
 refine .go i9.toNat hsteps fun cw cx b3=>?_
 conv=>cbv
 obtain rfl:e5=cx:=ab.trans b3.symm
 refine .go 0 fun hjv21 am a3 bv21=>?_
 conv=>cbv
 refine .neq (fun h22=>?_) fun h22=>?_
 conv=>cbv
 generalize a7:Ci bp (⟨bi,b0⟩:Ag)=b4
 have hln23:=C4 a7
 generalize a8:b4.map Ad=b5
 obtain⟨nl23,hnl23⟩:∃m,m=b4.length:=⟨_,rfl⟩
 refine .lntN hP (F5 ao (by omega) a7 a8 hnl23) (.ref rfl (Ae ao) (.agg (.d rfl (.d rfl .nil)) .nil)) rfl rfl rfl (by simp only[List.all_cons,List.all_nil,Bool.and_self,Az (fun _=>rfl) a8]) ?_
 conv=>cbv
 refine .add fun b6 c9=>?_
 conv=>cbv
 exact .go [5] (b6,b5,nl23) (hJ _ ⟨_,a8,Em,by omega,by omega,by rw[hio,show b6.toNat=i9.toNat+1 by omega];show(if(Do w3 e5).2=false then _ else _)=_;rw[Pi an a5 a2 (Hd (n:=62) h00 bz (by omega) (by decide)),a6,bl,a7];rfl,by omega⟩ mlt)
 conv=>cbv
 refine .add fun a0 a9=>?_
 conv=>cbv
 exact .go [4] (a0,b2,nl19) (hJ _ ⟨_,ao,Em,by omega,by omega,by exfalso;omega,by exfalso;omega⟩ mlt)
 conv=>cbv
 refine .go i9.toNat hsteps fun ba bb ap=>?_
 conv=>cbv
 obtain rfl:e5=bb:=ab.trans ap.symm
 refine .go 0 fun hjv20 bk a4 bv20=>?_
 conv=>cbv
 refine .neq (fun h21=>?_) fun h21=>?_
 conv=>cbv
 generalize af:Ci w3 (⟨ah,b0⟩:Ag)=aq
 have hln22:=C4 af
 generalize ac:aq.map Ad=ar
 obtain⟨nl22,hnl22⟩:∃m,m=aq.length:=⟨_,rfl⟩
 refine .lntN hP (F5 aa (by omega) af ac hnl22) (.ref rfl (Ae aa) (.agg (.d rfl (.d rfl .nil)) .nil)) rfl rfl rfl (by simp only[List.all_cons,List.all_nil,Bool.and_self,Az (fun _=>rfl) ac]) ?_
 conv=>cbv
 refine .add fun a0 a9=>?_
 conv=>cbv
 exact .go [4] (a0,ar,nl22) (hJ _ ⟨_,ac,Em,by omega,by omega,by exfalso;omega,by exfalso;omega⟩ mlt)
 conv=>cbv
 refine .add fun ai au=>?_
 conv=>cbv
 exact .go [3] (ai,aj,ak) (hJ _ ⟨_,aa,Em,by omega,by omega,by exfalso;omega,by exfalso;omega⟩ mlt)
 conv=>cbv
 refine .go i9.toNat hsteps fun bq bs bc=>?_
 conv=>cbv
 obtain rfl:e5=bs:=ab.trans bc.symm
 refine .go 0 fun hjv16 cy b7 bv16=>?_
 conv=>cbv
 refine .neq (fun h17=>?_) fun h17=>?_
 conv=>cbv
 generalize al:Ck w3 ah=a1
 have hln18:=Ew al
 generalize ad:a1.map Ad=bd
 obtain⟨nl18,hnl18⟩:∃m,m=a1.length:=⟨_,rfl⟩
 refine .lntN hP (It aa (by omega) al ad hnl18) (.ref rfl (Ae aa) (.d rfl .nil)) rfl rfl rfl (by simp only[List.all_cons,List.all_nil,Bool.and_self,Az (fun _=>rfl) ad]) ?_
 conv=>cbv
 refine .go i9.toNat hsteps fun ba bb ap=>?_
 conv=>cbv
 obtain rfl:e5=bb:=ab.trans ap.symm
 refine .go 0 fun hjv20 bk a4 bv20=>?_
 conv=>cbv
 refine .neq (fun h21=>?_) fun h21=>?_
 conv=>cbv
 generalize af:Ci a1 (⟨bi,bj⟩:Ag)=aq
 have hln22:=C4 af
 generalize ac:aq.map Ad=ar
 obtain⟨nl22,hnl22⟩:∃m,m=aq.length:=⟨_,rfl⟩
 refine .lntN hP (F5 ad (by omega) af ac hnl22) (.ref rfl (Ae ad) (.agg (.d rfl (.d rfl .nil)) .nil)) rfl rfl rfl (by simp only[List.all_cons,List.all_nil,Bool.and_self,Az (fun _=>rfl) ac]) ?_
 conv=>cbv
 refine .add fun a0 a9=>?_
 conv=>cbv
 exact .go [5] (a0,ar,nl22) (hJ _ ⟨_,ac,Em,by omega,by omega,by exfalso;omega,by exfalso;omega⟩ mlt)
 conv=>cbv
 refine .add fun ai au=>?_
 conv=>cbv
 exact .go [4] (ai,bd,nl18) (hJ _ ⟨_,ad,Em,by omega,by omega,by rw[hio,show ai.toNat=i9.toNat+1 by omega];show(if(Do w3 e5).2=false then _ else _)=_;rw[Ni an a5 a2 (Hd (n:=45) h00 a4 (by omega) (by decide)),al];rfl,by omega⟩ mlt)
 conv=>cbv
 refine .go i9.toNat hsteps fun be bf aw=>?_
 conv=>cbv
 obtain rfl:e5=bf:=ab.trans aw.symm
 refine .go 0 fun hjv19 b8 bm bv19=>?_
 conv=>cbv
 refine .neq (fun h20=>?_) fun h20=>?_
 conv=>cbv
 generalize ag:Ci w3 (⟨ah,bj⟩:Ag)=ax
 have hln21:=C4 ag
 generalize ae:ax.map Ad=ay
 obtain⟨nl21,hnl21⟩:∃m,m=ax.length:=⟨_,rfl⟩
 refine .lntN hP (F5 aa (by omega) ag ae hnl21) (.ref rfl (Ae aa) (.agg (.d rfl (.d rfl .nil)) .nil)) rfl rfl rfl (by simp only[List.all_cons,List.all_nil,Bool.and_self,Az (fun _=>rfl) ae]) ?_
 conv=>cbv
 refine .add fun ai au=>?_
 conv=>cbv
 exact .go [4] (ai,ay,nl21) (hJ _ ⟨_,ae,Em,by omega,by omega,by exfalso;omega,by exfalso;omega⟩ mlt)
 conv=>cbv
 refine .add fun am a3=>?_
 conv=>cbv
 exact .go [3] (am,aj,ak) (hJ _ ⟨_,aa,Em,by omega,by omega,by exfalso;omega,by exfalso;omega⟩ mlt)
 conv=>cbv
 refine .go i9.toNat hsteps fun cz c0 b9=>?_
 conv=>cbv
 obtain rfl:e5=c0:=ab.trans b9.symm
 refine .go 0 fun hjv12 dh da bv12=>?_
 conv=>cbv
 refine .eql (fun h13=>?_) fun h13=>?_
 conv=>cbv
 generalize ca:B6 w3 ah=cc
 refine .lnt hP (Ga aa (by omega) ca) (.ref rfl (Ae aa) (.d rfl .nil)) ?_
 conv=>cbv
 refine .go i9.toNat hsteps fun bq bs bc=>?_
 conv=>cbv
 obtain rfl:e5=bs:=ab.trans bc.symm
 refine .go 0 fun hjv16 cy b7 bv16=>?_
 conv=>cbv
 refine .neq (fun h17=>?_) fun h17=>?_
 conv=>cbv
 generalize al:Ck w3 ah=a1
 have hln18:=Ew al
 generalize ad:a1.map Ad=bd
 obtain⟨nl18,hnl18⟩:∃m,m=a1.length:=⟨_,rfl⟩
 refine .lntN hP (It aa (by omega) al ad hnl18) (.ref rfl (Ae aa) (.d rfl .nil)) rfl rfl rfl (by simp only[List.all_cons,List.all_nil,Bool.and_self,Az (fun _=>rfl) ad]) ?_
 conv=>cbv
 refine .go i9.toNat hsteps fun ba bb ap=>?_
 conv=>cbv
 obtain rfl:e5=bb:=ab.trans ap.symm
 refine .go 0 fun hjv20 bk a4 bv20=>?_
 conv=>cbv
 refine .neq (fun h21=>?_) fun h21=>?_
 conv=>cbv
 generalize af:Ci a1 (⟨bi,cc⟩:Ag)=aq
 have hln22:=C4 af
 generalize ac:aq.map Ad=ar
 obtain⟨nl22,hnl22⟩:∃m,m=aq.length:=⟨_,rfl⟩
 refine .lntN hP (F5 ad (by omega) af ac hnl22) (.ref rfl (Ae ad) (.agg (.d rfl (.d rfl .nil)) .nil)) rfl rfl rfl (by simp only[List.all_cons,List.all_nil,Bool.and_self,Az (fun _=>rfl) ac]) ?_
 conv=>cbv
 refine .add fun a0 a9=>?_
 conv=>cbv
 exact .go [5] (a0,ar,nl22) (hJ _ ⟨_,ac,Em,by omega,by omega,by exfalso;omega,by exfalso;omega⟩ mlt)
 conv=>cbv
 refine .add fun ai au=>?_
 conv=>cbv
 exact .go [4] (ai,bd,nl18) (hJ _ ⟨_,ad,Em,by omega,by omega,by exfalso;omega,by exfalso;omega⟩ mlt)
 conv=>cbv
 refine .go i9.toNat hsteps fun be bf aw=>?_
 conv=>cbv
 obtain rfl:e5=bf:=ab.trans aw.symm
 refine .go 0 fun hjv19 b8 bm bv19=>?_
 conv=>cbv
 refine .neq (fun h20=>?_) fun h20=>?_
 conv=>cbv
 generalize ag:Ci w3 (⟨ah,cc⟩:Ag)=ax
 have hln21:=C4 ag
 generalize ae:ax.map Ad=ay
 obtain⟨nl21,hnl21⟩:∃m,m=ax.length:=⟨_,rfl⟩
 refine .lntN hP (F5 aa (by omega) ag ae hnl21) (.ref rfl (Ae aa) (.agg (.d rfl (.d rfl .nil)) .nil)) rfl rfl rfl (by simp only[List.all_cons,List.all_nil,Bool.and_self,Az (fun _=>rfl) ae]) ?_
 conv=>cbv
 refine .add fun ai au=>?_
 conv=>cbv
 exact .go [4] (ai,ay,nl21) (hJ _ ⟨_,ae,Em,by omega,by omega,by exfalso;omega,by exfalso;omega⟩ mlt)
 conv=>cbv
 refine .add fun am a3=>?_
 conv=>cbv
 exact .go [3] (am,aj,ak) (hJ _ ⟨_,aa,Em,by omega,by omega,by exfalso;omega,by exfalso;omega⟩ mlt)
 conv=>cbv
 refine .go i9.toNat hsteps fun c1 c2 cd=>?_
 conv=>cbv
 obtain rfl:e5=c2:=ab.trans cd.symm
 refine .go 0 fun hjv15 di db bv15=>?_
 conv=>cbv
 refine .neq (fun h16=>?_) fun h16=>?_
 conv=>cbv
 generalize bn:Ck w3 ah=bt
 have hln17:=Ew bn
 generalize az:bt.map Ad=ce
 obtain⟨nl17,hnl17⟩:∃m,m=bt.length:=⟨_,rfl⟩
 refine .lntN hP (It aa (by omega) bn az hnl17) (.ref rfl (Ae aa) (.d rfl .nil)) rfl rfl rfl (by simp only[List.all_cons,List.all_nil,Bool.and_self,Az (fun _=>rfl) az]) ?_
 conv=>cbv
 refine .go i9.toNat hsteps fun be bf aw=>?_
 conv=>cbv
 obtain rfl:e5=bf:=ab.trans aw.symm
 refine .go 0 fun hjv19 b8 bm bv19=>?_
 conv=>cbv
 refine .neq (fun h20=>?_) fun h20=>?_
 conv=>cbv
 generalize ag:Ci bt (⟨bi,bj⟩:Ag)=ax
 have hln21:=C4 ag
 generalize ae:ax.map Ad=ay
 obtain⟨nl21,hnl21⟩:∃m,m=ax.length:=⟨_,rfl⟩
 refine .lntN hP (F5 az (by omega) ag ae hnl21) (.ref rfl (Ae az) (.agg (.d rfl (.d rfl .nil)) .nil)) rfl rfl rfl (by simp only[List.all_cons,List.all_nil,Bool.and_self,Az (fun _=>rfl) ae]) ?_
 conv=>cbv
 refine .add fun ai au=>?_
 conv=>cbv
 exact .go [5] (ai,ay,nl21) (hJ _ ⟨_,ae,Em,by omega,by omega,by exfalso;omega,by exfalso;omega⟩ mlt)
 conv=>cbv
 refine .add fun am a3=>?_
 conv=>cbv
 exact .go [4] (am,ce,nl17) (hJ _ ⟨_,az,Em,by omega,by omega,by exfalso;omega,by exfalso;omega⟩ mlt)
 conv=>cbv
 refine .go i9.toNat hsteps fun c3 c4 cf=>?_
 conv=>cbv
 obtain rfl:e5=c4:=ab.trans cf.symm
 refine .go 0 fun hjv18 dj dc bv18=>?_
 conv=>cbv
 refine .neq (fun h19=>?_) fun h19=>?_
 conv=>cbv
 generalize bg:Ci w3 (⟨ah,bj⟩:Ag)=cg
 have hln20:=C4 bg
 generalize bh:cg.map Ad=cj
 obtain⟨nl20,hnl20⟩:∃m,m=cg.length:=⟨_,rfl⟩
 refine .lntN hP (F5 aa (by omega) bg bh hnl20) (.ref rfl (Ae aa) (.agg (.d rfl (.d rfl .nil)) .nil)) rfl rfl rfl (by simp only[List.all_cons,List.all_nil,Bool.and_self,Az (fun _=>rfl) bh]) ?_
 conv=>cbv
 refine .add fun am a3=>?_
 conv=>cbv
 exact .go [4] (am,cj,nl20) (hJ _ ⟨_,bh,Em,by omega,by omega,by rw[hio,show am.toNat=i9.toNat+1 by omega];show(if(Do w3 e5).2=false then _ else _)=_;rw[Pg an a5 (Hd (n:=43) h00 bv (by omega) (by decide)),bg];rfl,by omega⟩ mlt)
 conv=>cbv
 refine .add fun bk a4=>?_
 conv=>cbv
 exact .go [3] (bk,aj,ak) (hJ _ ⟨_,aa,Em,by omega,by omega,by exfalso;omega,by exfalso;omega⟩ mlt)
 conv=>cbv
 have e:(w3,true)=Cf old steps n:=(by rw[hio,List.drop_of_length_le (by rw[List.length_take];omega)];rfl)
 rw[hr]at e
 simp only[Prod.mk.injEq]at e
 obtain⟨rfl,rfl⟩:=e
 obtain rfl:aj=xoa:=by rw[←aa,←hoa]
 obtain rfl:ak=noa:=by first|omega|(rw[hnoa];simp;done)|(rw[hnoa];simp;omega)
 exact hQ _ _ (.of [3] (.inl rfl) rfl rfl rfl rfl)
theorem Kt{ndnod:Nat}{ndent:Nat}{ndold:Nat}{ndste:Nat}{o:List B5}(Av:Aj.map A5=Bk)(At:An.map Ad=Bh)(Ax:Ao.map Ad=Bg)(Ay:Al.map cS=Bi)(hndnod:ndnod=Aj.length)(hndent:ndent=An.length)(hndold:ndold=Ao.length)(hndste:ndste=Al.length)(hn:Aj.length≤2000000000)(hol:Ao.length≤1000000000)(hsl:Al.length≤1000000000)(hss:okS Al)(hr:(C9 ⟨Aj,An,Ao,Al,As,Aq⟩).nodes_=o)(ho:o.map A5=xo)(hno:no=o.length):Fn Tryz.prog 213 [.agg [.ref 0 0 ndnod,.ref 1 0 ndent,.ref 2 0 ndold,.ref 3 0 ndste,I As,I Aq]] [.row 3 false Bk,.row 2 false Bh,.row 2 false Bg,.row 1 false Bi] ⟨.agg [.ref 4 0 no,.ref 1 0 ndent,.ref 2 0 ndold,.ref 3 0 ndste,I As,I Aq],[.row 3 false xo],[]⟩:=by
 refine Fn.goR Ia Tryz.func213 fun P hP Q hQ=>?_
 conv=>cbv
 refine LoopW.lp (κ:=Int×(List (List D))×Nat) Ia hP [10] [1,2] (fun(i4,aa,ab)=>[(3,.ref 11 0 ab),(4,I i4)]) (fun(i4,aa,ab)=>[(11,.row 3 false aa)])
  (fun(i4,aa,ab)=>∃(ai:List B5),ai.map A5=aa∧ab=ai.length∧0≤i4∧i4≤Aj.length∧ai=(Aj.take i4.toNat).filter (fun x=>T2 Ao Al x.id_)∧ai.length≤i4)
  (fun(i4,aa,ab)=>(Aj.length - i4).toNat) (0,[],0) ⟨[],rfl,rfl,by omega,by omega,by simp,by simp⟩ ⟨rfl,rfl,trivial⟩ rfl ?_
 rintro⟨i4,aa,ab⟩ J ⟨ai,ah,a6,h0,h1,hx,hxl⟩ hJ
 conv=>cbv
 refine .go fun v1 bf=>?_
 conv=>cbv
 refine .lss (fun h2=>?_) fun h2=>?_
 conv=>cbv
 refine LoopW.lp (κ:=Bool×Int) Ia hP [] [1,2,3,4] (fun(b5,i6)=>[(5,B b5),(6,I i6)]) (fun(b5,i6)=>[])
  (fun(b5,i6)=>0≤i6∧i6≤Al.length+1∧b5=(List.range i6.toNat).any (fun k=>Qu (B0 Ao (Al.take k)).1 (Aj.getD i4.toNat ⟨0,tx [],0⟩).id_))
  (fun(b5,i6)=>(Al.length+1 - i6).toNat) (false,0) ⟨by omega,by omega,rfl⟩ ⟨rfl,rfl,trivial⟩ rfl ?_
 rintro⟨b5,i6⟩ J1 ⟨k0,k1,hu⟩ a7
 conv=>cbv
 refine .go fun v3 bg=>?_
 conv=>cbv
 refine .leq (fun h4=>?_) fun h4=>?_
 conv=>cbv
 cases b5
 conv=>cbv
 rcases ax:Cf Ao Al i6 with⟨ac,a8⟩
 generalize aj:ac.map Ad=bc
 obtain⟨nr5a,hnr5a⟩:∃m,m=ac.length:=⟨_,rfl⟩
 have hS:B0 Ao (Al.take i6.toNat)=(ac,a8):=by rw[←R7 (by omega) (by omega)];exact ax
 have bh:ac.length≤2000000000:=by
  have:=Xan (Al.take i6.toNat) Ao
  rw[hS,List.length_take]at this
  simp only[]at this
  omega
 refine .lntN hP (X7 Ax Ay hol hsl hss ax aj hnr5a) (.ref rfl (Ae Ax) (.ref rfl (Ae Ay) (.d rfl .nil))) rfl rfl rfl (by simp only[List.all_cons,List.all_nil,Bool.and_self,Az (fun _=>rfl) aj]) ?_
 conv=>cbv
 refine LoopW.lp (κ:=Bool×Int) Ia hP [] [1,2,3,4,6,7,24,25] (fun(b5,i9)=>[(5,B b5),(9,I i9)]) (fun(b5,i9)=>[])
  (fun(b5,i9)=>0≤i9∧i9≤ac.length∧b5=Qu (ac.take i9.toNat) (Aj.getD i4.toNat ⟨0,tx [],0⟩).id_)
  (fun(b5,i9)=>(ac.length - i9).toNat) (false,0) ⟨by omega,by omega,rfl⟩ ⟨rfl,rfl,trivial⟩ rfl ?_
 rintro⟨b5,i9⟩ J2 ⟨m0,m1,hb⟩ an
 conv=>cbv
 refine .go fun v6 bi=>?_
 conv=>cbv
 refine .lss (fun h7=>?_) fun h7=>?_
 conv=>cbv
 cases b5
 conv=>cbv
 refine .go i9.toNat fun p8 a9 bd=>?_
 conv=>cbv
 refine .go aj fun am ⟨ba,be⟩ ay=>?_
 conv=>cbv
 refine .go i4.toNat fun bj az bb=>?_
 conv=>cbv
 refine .go Av fun ao ⟨ap,a4,a5⟩ a0=>?_
 conv=>cbv
 subst a9 az
 have hide:(Aj.getD i4.toNat ⟨0,tx [],0⟩).id_=ap:=by rw[←gD ao,←a0]
 refine .eql (fun h12=>?_) fun h12=>?_
 conv=>cbv
 refine .add fun ak a1=>?_
 conv=>cbv
 exact .go [] (true,ak) (an _ ⟨by omega,by omega,by rw[show ak.toNat=i9.toNat+1 by omega,Ir am,←ay,hide];simp only[];rw[decide_eq_true h12,Bool.or_true]⟩ mlt)
 conv=>cbv
 refine .add fun ak a1=>?_
 conv=>cbv
 exact .go [] (false,ak) (an _ ⟨by omega,by omega,by rw[show ak.toNat=i9.toNat+1 by omega,Ir am,←ay,←hb,hide];simp only[];rw[decide_eq_false h12];rfl⟩ mlt)
 conv=>cbv
 refine .add fun v8 aq=>?_
 conv=>cbv
 exact .go [] (true,v8) (an _ ⟨by omega,by omega,by rw[show v8.toNat=i9.toNat+1 by omega,Ir (show i9.toNat<ac.length by omega),←hb];rfl⟩ mlt)
 conv=>cbv
 refine .add fun v8 aq=>?_
 conv=>cbv
 exact .go [] (b5,v8) (a7 _ ⟨by omega,by omega,by rw[show v8.toNat=i6.toNat+1 by omega,My,←hu,Bool.false_or,hS];show _=Qu ac _;rw[hb,List.take_of_length_le (by omega)]⟩ mlt)
 conv=>cbv
 refine .go i4.toNat fun p5 ar a2=>?_
 conv=>cbv
 refine .go Av fun ad ⟨ae,af,ag⟩ al=>?_
 conv=>cbv
 refine .one (⟨ae,af,ag⟩:B5) ah rfl fun au z7 a3 aw=>?_
 conv=>cbv
 refine .add fun v8 aq=>?_
 conv=>cbv
 subst ar
 have hid:(Aj.getD i4.toNat ⟨0,tx [],0⟩).id_=ae:=by rw[←gD ad,←al]
 have hus:=Mq (show i6.toNat≤Al.length+1 by omega) hu
 rw[hid]at hus
 exact .go [13] (v8,z7,au) (hJ _ ⟨_,aw,Em,by omega,by omega,by rw[show v8.toNat=i4.toNat+1 by omega,Ey ad,←hx,←al];simp only[];rw[hus];rfl,by rw[List.length_append,List.length_singleton];omega⟩ mlt)
 conv=>cbv
 cases b5
 conv=>cbv
 refine .add fun v5 bk=>?_
 conv=>cbv
 have hj:i4.toNat<Aj.length:=by omega
 have hus:T2 Ao Al Aj[i4.toNat].id_=false:=by rw[gD hj (d:=⟨0,tx [],0⟩)];unfold T2;rw[show Al.length+1=i6.toNat by omega];exact hu.symm
 exact .go [11] (v5,aa,ab) (hJ _ ⟨_,ah,Em,by omega,by omega,by rw[show v5.toNat=i4.toNat+1 by omega,Ey hj,←hx,hus];simp,by omega⟩ mlt)
 conv=>cbv
 refine .go i4.toNat fun p5 ar a2=>?_
 conv=>cbv
 refine .go Av fun ad ⟨ae,af,ag⟩ al=>?_
 conv=>cbv
 refine .one (⟨ae,af,ag⟩:B5) ah rfl fun au z7 a3 aw=>?_
 conv=>cbv
 refine .add fun v8 aq=>?_
 conv=>cbv
 subst ar
 have hid:(Aj.getD i4.toNat ⟨0,tx [],0⟩).id_=ae:=by rw[←gD ad,←al]
 have hus:=Mq (show i6.toNat≤Al.length+1 by omega) hu
 rw[hid]at hus
 exact .go [13] (v8,z7,au) (hJ _ ⟨_,aw,Em,by omega,by omega,by rw[show v8.toNat=i4.toNat+1 by omega,Ey ad,←hx,←al];simp only[];rw[hus];rfl,by rw[List.length_append,List.length_singleton];omega⟩ mlt)
 conv=>cbv
 obtain rfl:ai=o:=by rw[hx,List.take_of_length_le (by omega),←hr];rfl
 obtain rfl:aa=xo:=by rw[←ah,←ho]
 obtain rfl:ab=no:=by omega
 exact hQ _ _ (.of [11] (.inl rfl) rfl rfl rfl rfl)
theorem In(Av:Aj.map A5=Bk)(At:An.map Ad=Bh)(Ax:Ao.map Ad=Bg)(Ay:Al.map cS=Bi)(hn:Aj.length≤1000000000)(he:An.length≤1000000000)(ho:Ao.length≤1000000000)(hs:Al.length<1000000000)(hss:okS Al)(ay:Hz (⟨Aj,An,Ao,Al,As,Aq⟩:Aa))(hm:name.size≤1000000000)(hr:Ap (⟨Aj,An,Ao,Al,As,Aq⟩:Aa) name=(⟨F2,Fy,F3,Fz,G8,G9⟩,ob))(A7:F2.map A5=Co)(A9:Fy.map Ad=Cn)(A8:F3.map Ad=Cm)(Ba:Fz.map cS=Cp)(hnoanod:noanod=F2.length)(hnoaent:noaent=Fy.length)(hnoaold:noaold=F3.length)(hnoaste:noaste=Fz.length):Fn Tryz.prog 223 [.agg [.d (.row 3 Bk),.d (.row 2 Bh),.d (.row 2 Bg),.d (.row 1 Bi),I As,I Aq],S name] [] ⟨.tup [.agg [.ref 0 0 noanod,.ref 1 0 noaent,.ref 2 0 noaold,.ref 3 0 noaste,I G8,I G9],I ob],[.row 3 false Co,.row 2 false Cn,.row 2 false Cm,.row 1 false Cp],[]⟩:=by
 refine Fn.goR Ia Tryz.func223 fun P hP Q hQ=>?_
 conv=>cbv
 obtain⟨n2,az⟩:∃m,m=Aj.length:=⟨_,rfl⟩
 obtain⟨n3,a0⟩:∃m,m=An.length:=⟨_,rfl⟩
 obtain⟨n4,a1⟩:∃m,m=Ao.length:=⟨_,rfl⟩
 obtain⟨n5,a2⟩:∃m,m=Al.length:=⟨_,rfl⟩
 refine .ddN hP (F9 Av At Ax Ay (by omega) (by omega) (by omega) (by omega) az a0 a1 a2) rfl ?_
 conv=>cbv
 generalize ab:Bp (⟨Aj,An,Ao,Al,As,Aq⟩:Aa)=r6
 refine .lnt hP (Hn Av At Ax Ay ay ab) (.agg (.ref rfl (Ae Av) (.ref rfl (Ae At) (.ref rfl (Ae Ax) (.ref rfl (Ae Ay) (.d rfl (.d rfl .nil)))))) .nil) ?_
 cases r6
 conv=>cbv
 have e:((⟨Aj,An,Ao,Al,As,Aq⟩:Aa),3)=Ap (⟨Aj,An,Ao,Al,As,Aq⟩:Aa) name:=(by unfold Ap;rw[if_pos ab])
 rw[hr]at e
 simp only[Prod.mk.injEq,Aa.mk.injEq]at e
 obtain⟨⟨rfl,rfl,rfl,rfl,rfl,rfl⟩,rfl⟩:=e
 obtain rfl:Bk=Co:=by rw[←Av,←A7]
 obtain rfl:n2=noanod:=by first|omega|(rw[hnoanod];simp;done)|(rw[hnoanod];simp;omega)
 obtain rfl:Bh=Cn:=by rw[←At,←A9]
 obtain rfl:n3=noaent:=by first|omega|(rw[hnoaent];simp;done)|(rw[hnoaent];simp;omega)
 obtain rfl:Bg=Cm:=by rw[←Ax,←A8]
 obtain rfl:n4=noaold:=by first|omega|(rw[hnoaold];simp;done)|(rw[hnoaold];simp;omega)
 obtain rfl:Bi=Cp:=by rw[←Ay,←Ba]
 obtain rfl:n5=noaste:=by first|omega|(rw[hnoaste];simp;done)|(rw[hnoaste];simp;omega)
 exact hQ _ _ (.of [6,7,8,9] (.inl rfl) rfl rfl rfl rfl)
 conv=>cbv
 generalize ac:Bl name=r7
 refine .dd hP (Ii (by omega) ac) ?_
 cases r7
 conv=>cbv
 have e:((⟨Aj,An,Ao,Al,As,Aq⟩:Aa),1)=Ap (⟨Aj,An,Ao,Al,As,Aq⟩:Aa) name:=(by unfold Ap;rw[if_neg (by rw[ab];decide),if_pos ac])
 rw[hr]at e
 simp only[Prod.mk.injEq,Aa.mk.injEq]at e
 obtain⟨⟨rfl,rfl,rfl,rfl,rfl,rfl⟩,rfl⟩:=e
 obtain rfl:Bk=Co:=by rw[←Av,←A7]
 obtain rfl:n2=noanod:=by first|omega|(rw[hnoanod];simp;done)|(rw[hnoanod];simp;omega)
 obtain rfl:Bh=Cn:=by rw[←At,←A9]
 obtain rfl:n3=noaent:=by first|omega|(rw[hnoaent];simp;done)|(rw[hnoaent];simp;omega)
 obtain rfl:Bg=Cm:=by rw[←Ax,←A8]
 obtain rfl:n4=noaold:=by first|omega|(rw[hnoaold];simp;done)|(rw[hnoaold];simp;omega)
 obtain rfl:Bi=Cp:=by rw[←Ay,←Ba]
 obtain rfl:n5=noaste:=by first|omega|(rw[hnoaste];simp;done)|(rw[hnoaste];simp;omega)
 exact hQ _ _ (.of [6,7,8,9] (.inl rfl) rfl rfl rfl rfl)
 conv=>cbv
 generalize ae:Dg An name=r8
 refine .lnt hP (Gy At (by omega) ae) (.ref rfl (Ae At) (.d rfl .nil)) ?_
 cases r8
 conv=>cbv
 refine .go fun v9 bb=>?_
 conv=>cbv
 refine .geq (fun h10=>?_) fun h10=>?_
 conv=>cbv
 have e:((⟨Aj,An,Ao,Al,As,Aq⟩:Aa),4)=Ap (⟨Aj,An,Ao,Al,As,Aq⟩:Aa) name:=(by unfold Ap;rw[if_neg (by rw[ab];decide),if_neg (by rw[ac];decide),if_neg (by have:=Ny ae;dsimp only;omega),if_pos (by dsimp only;omega)])
 rw[hr]at e
 simp only[Prod.mk.injEq,Aa.mk.injEq]at e
 obtain⟨⟨rfl,rfl,rfl,rfl,rfl,rfl⟩,rfl⟩:=e
 obtain rfl:Bk=Co:=by rw[←Av,←A7]
 obtain rfl:n2=noanod:=by first|omega|(rw[hnoanod];simp;done)|(rw[hnoanod];simp;omega)
 obtain rfl:Bh=Cn:=by rw[←At,←A9]
 obtain rfl:n3=noaent:=by first|omega|(rw[hnoaent];simp;done)|(rw[hnoaent];simp;omega)
 obtain rfl:Bg=Cm:=by rw[←Ax,←A8]
 obtain rfl:n4=noaold:=by first|omega|(rw[hnoaold];simp;done)|(rw[hnoaold];simp;omega)
 obtain rfl:Bi=Cp:=by rw[←Ay,←Ba]
 obtain rfl:n5=noaste:=by first|omega|(rw[hnoaste];simp;done)|(rw[hnoaste];simp;omega)
 exact hQ _ _ (.of [6,7,8,9] (.inl rfl) rfl rfl rfl rfl)
 conv=>cbv
 refine .go fun bc a6=>?_
 conv=>cbv
 refine .geq (fun h12=>?_) fun h12=>?_
 conv=>cbv
 have e:((⟨Aj,An,Ao,Al,As,Aq⟩:Aa),4)=Ap (⟨Aj,An,Ao,Al,As,Aq⟩:Aa) name:=(by unfold Ap;rw[if_neg (by rw[ab];decide),if_neg (by rw[ac];decide),if_neg (by have:=Ny ae;dsimp only;omega),if_pos (by dsimp only;omega)])
 rw[hr]at e
 simp only[Prod.mk.injEq,Aa.mk.injEq]at e
 obtain⟨⟨rfl,rfl,rfl,rfl,rfl,rfl⟩,rfl⟩:=e
 obtain rfl:Bk=Co:=by rw[←Av,←A7]
 obtain rfl:n2=noanod:=by first|omega|(rw[hnoanod];simp;done)|(rw[hnoanod];simp;omega)
 obtain rfl:Bh=Cn:=by rw[←At,←A9]
 obtain rfl:n3=noaent:=by first|omega|(rw[hnoaent];simp;done)|(rw[hnoaent];simp;omega)
 obtain rfl:Bg=Cm:=by rw[←Ax,←A8]
 obtain rfl:n4=noaold:=by first|omega|(rw[hnoaold];simp;done)|(rw[hnoaold];simp;omega)
 obtain rfl:Bi=Cp:=by rw[←Ay,←Ba]
 obtain rfl:n5=noaste:=by first|omega|(rw[hnoaste];simp;done)|(rw[hnoaste];simp;omega)
 exact hQ _ _ (.of [6,7,8,9] (.inl rfl) rfl rfl rfl rfl)
 conv=>cbv
 refine .geq (fun h13=>?_) fun h13=>?_
 conv=>cbv
 have e:((⟨Aj,An,Ao,Al,As,Aq⟩:Aa),4)=Ap (⟨Aj,An,Ao,Al,As,Aq⟩:Aa) name:=(by unfold Ap;rw[if_neg (by rw[ab];decide),if_neg (by rw[ac];decide),if_neg (by have:=Ny ae;dsimp only;omega),if_pos (by dsimp only;omega)])
 rw[hr]at e
 simp only[Prod.mk.injEq,Aa.mk.injEq]at e
 obtain⟨⟨rfl,rfl,rfl,rfl,rfl,rfl⟩,rfl⟩:=e
 obtain rfl:Bk=Co:=by rw[←Av,←A7]
 obtain rfl:n2=noanod:=by first|omega|(rw[hnoanod];simp;done)|(rw[hnoanod];simp;omega)
 obtain rfl:Bh=Cn:=by rw[←At,←A9]
 obtain rfl:n3=noaent:=by first|omega|(rw[hnoaent];simp;done)|(rw[hnoaent];simp;omega)
 obtain rfl:Bg=Cm:=by rw[←Ax,←A8]
 obtain rfl:n4=noaold:=by first|omega|(rw[hnoaold];simp;done)|(rw[hnoaold];simp;omega)
 obtain rfl:Bi=Cp:=by rw[←Ay,←Ba]
 obtain rfl:n5=noaste:=by first|omega|(rw[hnoaste];simp;done)|(rw[hnoaste];simp;omega)
 exact hQ _ _ (.of [6,7,8,9] (.inl rfl) rfl rfl rfl rfl)
 conv=>cbv
 have hri:=Hg ab
 simp only[]at hri
 refine .one (⟨Aq,tx [],0⟩:B5) Av rfl fun a7 bd a3 an=>?_
 conv=>cbv
 generalize ak:Ci An (⟨name,Aq⟩:Ag)=af
 generalize ad:af.map Ad=ao
 obtain⟨nl15,hnl15⟩:∃m,m=af.length:=⟨_,rfl⟩
 refine .lntN hP (F5 At (by omega) ak ad hnl15) (.ref rfl (Ae At) (.agg (.d rfl (.d rfl .nil)) .nil)) rfl rfl rfl (by simp only[List.all_cons,List.all_nil,Bool.and_self,Az (fun _=>rfl) ad]) ?_
 conv=>cbv
 have hnz:=Rz ac
 refine .litL 1 fun be ap a8=>?_
 conv=>cbv
 refine .litR 1 fun bf aq a9=>?_
 conv=>cbv
 generalize ah:Cr Aq=bg
 refine .dd hP (Ss (by unfold XbA;omega) ah) ?_
 conv=>cbv
 have zr18:=Pd ah (by unfold XbA;omega)
 refine .go fun ag ar ba=>?_
 conv=>cbv
 refine .one ag Ay rfl fun au a4 a5 al=>?_
 conv=>cbv
 refine .add fun aj aw=>?_
 conv=>cbv
 generalize am:(C9 (⟨(Aj++[(⟨Aq,tx [],0⟩:B5)]),af,Ao,(Al++[ag]),As,aj⟩:Aa)).nodes_=aa
 generalize hx22:aa.map A5=ai
 obtain⟨nr22nod,hnr22nod⟩:∃m,m=aa.length:=⟨_,rfl⟩
 have ax:C9 (⟨(Aj++[(⟨Aq,tx [],0⟩:B5)]),af,Ao,(Al++[ag]),As,aj⟩:Aa)=⟨aa,af,Ao,(Al++[ag]),As,aj⟩:=by rw[←am];rfl
 refine .bx [11,12,8,14] [] hP (Kt an ad Ax al (by first|rfl|omega|(simp;omega)) (by first|rfl|omega|(simp;omega)) (by first|rfl|omega|(simp;omega)) (by first|rfl|omega|(simp;omega)) (by rw[List.length_append,List.length_singleton];omega) (by omega) (by rw[List.length_append,List.length_singleton];omega) (N9 hss (by omega)) am hx22 hnr22nod) rfl rfl rfl rfl ?_
 conv=>cbv
 have e:((⟨aa,af,Ao,Al++[ag],As,aj⟩:Aa),0)=Ap (⟨Aj,An,Ao,Al,As,Aq⟩:Aa) name:=(by unfold Ap;rw[if_neg (by rw[ab];decide),if_neg (by rw[ac];decide),if_neg (by have:=Ny ae;dsimp only;omega),if_neg (by dsimp only;omega)];exact congrArg (fun x:Aa=>(x,(0:Int))) (ax.symm.trans (by rw[←ak,aw,show ag=tx [43]++name++tx [58]++Cr Aq from(by rw[ar,aq,ap,ah];rfl)];exact Sa ab ac)))
 rw[hr]at e
 simp only[Prod.mk.injEq,Aa.mk.injEq]at e
 obtain⟨⟨rfl,rfl,rfl,rfl,rfl,rfl⟩,rfl⟩:=e
 obtain rfl:ai=Co:=by rw[←hx22,←A7]
 obtain rfl:nr22nod=noanod:=by first|omega|(rw[hnoanod];simp;done)|(rw[hnoanod];simp;omega)
 obtain rfl:ao=Cn:=by rw[←ad,←A9]
 obtain rfl:nl15=noaent:=by first|omega|(rw[hnoaent];simp;done)|(rw[hnoaent];simp;omega)
 obtain rfl:Bg=Cm:=by rw[←Ax,←A8]
 obtain rfl:n4=noaold:=by first|omega|(rw[hnoaold];simp;done)|(rw[hnoaold];simp;omega)
 obtain rfl:a4=Cp:=by rw[←al,←Ba]
 obtain rfl:au=noaste:=by first|omega|(rw[hnoaste];simp;done)|(rw[hnoaste];simp;omega)
 exact hQ _ _ (.of [15,12,8,14] (.inl rfl) rfl rfl rfl rfl)
 conv=>cbv
 have e:((⟨Aj,An,Ao,Al,As,Aq⟩:Aa),2)=Ap (⟨Aj,An,Ao,Al,As,Aq⟩:Aa) name:=(by unfold Ap;rw[if_neg (by rw[ab];decide),if_neg (by rw[ac];decide),if_pos (Qt ae)])
 rw[hr]at e
 simp only[Prod.mk.injEq,Aa.mk.injEq]at e
 obtain⟨⟨rfl,rfl,rfl,rfl,rfl,rfl⟩,rfl⟩:=e
 obtain rfl:Bk=Co:=by rw[←Av,←A7]
 obtain rfl:n2=noanod:=by first|omega|(rw[hnoanod];simp;done)|(rw[hnoanod];simp;omega)
 obtain rfl:Bh=Cn:=by rw[←At,←A9]
 obtain rfl:n3=noaent:=by first|omega|(rw[hnoaent];simp;done)|(rw[hnoaent];simp;omega)
 obtain rfl:Bg=Cm:=by rw[←Ax,←A8]
 obtain rfl:n4=noaold:=by first|omega|(rw[hnoaold];simp;done)|(rw[hnoaold];simp;omega)
 obtain rfl:Bi=Cp:=by rw[←Ay,←Ba]
 obtain rfl:n5=noaste:=by first|omega|(rw[hnoaste];simp;done)|(rw[hnoaste];simp;omega)
 exact hQ _ _ (.of [6,7,8,9] (.inl rfl) rfl rfl rfl rfl)
theorem Oy{text:ByteArray}(Av:Aj.map A5=Bk)(At:An.map Ad=Bh)(Ax:Ao.map Ad=Bg)(Ay:Al.map cS=Bi)(hn:Aj.length≤1000000000)(he:An.length≤1000000000)(ho:Ao.length≤1000000000)(hs:Al.length<1000000000)(hss:okS Al)(aj:Hz (⟨Aj,An,Ao,Al,As,Aq⟩:Aa))(ht:text.size≤1000000000)(hr:Ai (⟨Aj,An,Ao,Al,As,Aq⟩:Aa) name text=(⟨F2,Fy,F3,Fz,G8,G9⟩,ob))(A7:F2.map A5=Co)(A9:Fy.map Ad=Cn)(A8:F3.map Ad=Cm)(Ba:Fz.map cS=Cp)(hnoanod:noanod=F2.length)(hnoaent:noaent=Fy.length)(hnoaold:noaold=F3.length)(hnoaste:noaste=Fz.length):Fn Tryz.prog 145 [.agg [.d (.row 3 Bk),.d (.row 2 Bh),.d (.row 2 Bg),.d (.row 1 Bi),I As,I Aq],S name,S text] [] ⟨.tup [.agg [.ref 0 0 noanod,.ref 1 0 noaent,.ref 2 0 noaold,.ref 3 0 noaste,I G8,I G9],I ob],[.row 3 false Co,.row 2 false Cn,.row 2 false Cm,.row 1 false Cp],[]⟩:=by
 refine Fn.goR Ia Tryz.func145 fun P hP Q hQ=>?_
 conv=>cbv
 obtain⟨n2,a4⟩:∃m,m=Aj.length:=⟨_,rfl⟩
 obtain⟨n3,a5⟩:∃m,m=An.length:=⟨_,rfl⟩
 obtain⟨n4,a6⟩:∃m,m=Ao.length:=⟨_,rfl⟩
 obtain⟨n5,a7⟩:∃m,m=Al.length:=⟨_,rfl⟩
 refine .ddN hP (F9 Av At Ax Ay (by omega) (by omega) (by omega) (by omega) a4 a5 a6 a7) rfl ?_
 conv=>cbv
 generalize ah:Bp (⟨Aj,An,Ao,Al,As,Aq⟩:Aa)=r6
 refine .lnt hP (Hn Av At Ax Ay aj ah) (.agg (.ref rfl (Ae Av) (.ref rfl (Ae At) (.ref rfl (Ae Ax) (.ref rfl (Ae Ay) (.d rfl (.d rfl .nil)))))) .nil) ?_
 cases r6
 conv=>cbv
 have e:((⟨Aj,An,Ao,Al,As,Aq⟩:Aa),3)=Ai (⟨Aj,An,Ao,Al,As,Aq⟩:Aa) name text:=(by unfold Ai;rw[if_pos (.inl ah)])
 rw[hr]at e
 simp only[Prod.mk.injEq,Aa.mk.injEq]at e
 obtain⟨⟨rfl,rfl,rfl,rfl,rfl,rfl⟩,rfl⟩:=e
 obtain rfl:Bk=Co:=by rw[←Av,←A7]
 obtain rfl:n2=noanod:=by first|omega|(rw[hnoanod];simp;done)|(rw[hnoanod];simp;omega)
 obtain rfl:Bh=Cn:=by rw[←At,←A9]
 obtain rfl:n3=noaent:=by first|omega|(rw[hnoaent];simp;done)|(rw[hnoaent];simp;omega)
 obtain rfl:Bg=Cm:=by rw[←Ax,←A8]
 obtain rfl:n4=noaold:=by first|omega|(rw[hnoaold];simp;done)|(rw[hnoaold];simp;omega)
 obtain rfl:Bi=Cp:=by rw[←Ay,←Ba]
 obtain rfl:n5=noaste:=by first|omega|(rw[hnoaste];simp;done)|(rw[hnoaste];simp;omega)
 exact hQ _ _ (.of [6,7,8,9] (.inl rfl) rfl rfl rfl rfl)
 conv=>cbv
 generalize am:Dg An name=r7
 refine .lnt hP (Gy At (by omega) am) (.ref rfl (Ae At) (.d rfl .nil)) ?_
 cases r7
 conv=>cbv
 have e:((⟨Aj,An,Ao,Al,As,Aq⟩:Aa),3)=Ai (⟨Aj,An,Ao,Al,As,Aq⟩:Aa) name text:=(by unfold Ai;rw[if_pos (.inr (L9 (Ny am)))])
 rw[hr]at e
 simp only[Prod.mk.injEq,Aa.mk.injEq]at e
 obtain⟨⟨rfl,rfl,rfl,rfl,rfl,rfl⟩,rfl⟩:=e
 obtain rfl:Bk=Co:=by rw[←Av,←A7]
 obtain rfl:n2=noanod:=by first|omega|(rw[hnoanod];simp;done)|(rw[hnoanod];simp;omega)
 obtain rfl:Bh=Cn:=by rw[←At,←A9]
 obtain rfl:n3=noaent:=by first|omega|(rw[hnoaent];simp;done)|(rw[hnoaent];simp;omega)
 obtain rfl:Bg=Cm:=by rw[←Ax,←A8]
 obtain rfl:n4=noaold:=by first|omega|(rw[hnoaold];simp;done)|(rw[hnoaold];simp;omega)
 obtain rfl:Bi=Cp:=by rw[←Ay,←Ba]
 obtain rfl:n5=noaste:=by first|omega|(rw[hnoaste];simp;done)|(rw[hnoaste];simp;omega)
 exact hQ _ _ (.of [6,7,8,9] (.inl rfl) rfl rfl rfl rfl)
 conv=>cbv
 generalize ap:B6 An name=r8
 refine .lnt hP (Ga At (by omega) ap) (.ref rfl (Ae At) (.d rfl .nil)) ?_
 conv=>cbv
 generalize aq:Ez (⟨Aj,An,Ao,Al,As,Aq⟩:Aa) r8=r9
 refine .lnt hP (Kb Av At Ax Ay (by omega) aq) (.agg (.ref rfl (Ae Av) (.ref rfl (Ae At) (.ref rfl (Ae Ax) (.ref rfl (Ae Ay) (.d rfl (.d rfl .nil)))))) (.d rfl .nil)) ?_
 conv=>cbv
 have hpl:=Qt am
 have hk:Cj (⟨Aj,An,Ao,Al,As,Aq⟩:Aa) name=r9:=by rw[←Md (d:=(⟨Aj,An,Ao,Al,As,Aq⟩:Aa)) hpl];show Ez _ (B6 An name)=r9;rw[ap,aq]
 have hb:=Gr hk
 have a8:=(Ue ah hpl).2
 rw[hk]at a8
 simp only[]at hb
 generalize af:Gf (⟨Aj,An,Ao,Al,As,Aq⟩:Aa)=ar
 refine .lnt hP (Wy Av At Ax Ay aj.1 af) (.agg (.ref rfl (Ae Av) (.ref rfl (Ae At) (.ref rfl (Ae Ax) (.ref rfl (Ae Ay) (.d rfl (.d rfl .nil)))))) .nil) ?_
 conv=>cbv
 have hri:=Hg ah
 simp only[af]at hri
 refine .sub fun bh au=>?_
 conv=>cbv
 refine .go fun bi bd=>?_
 conv=>cbv
 refine .gtr (fun h13=>?_) fun h13=>?_
 conv=>cbv
 refine .go r9.toNat fun ai aw an=>?_
 conv=>cbv
 refine .go Av fun ae ⟨ao,aa,ak⟩ ab=>?_
 conv=>cbv
 have ax:aa.size≤1000000000:=by have h9:=aj.1.2.1 _ (List.getElem_mem ae);rw[←ab]at h9;exact h9
 refine .hi fun al ag=>?_
 conv=>cbv
 have be:al.size≤text.size:=by rw[ag,ByteArray.size_extract];omega
 refine .go fun ay az bf=>?_
 conv=>cbv
 refine .go r9.toNat fun ac a0 a9=>?_
 conv=>cbv
 refine .go (⟨(Aj.getD ac ⟨0,tx [],0⟩).id_,ay,(Aj.getD ac ⟨0,tx [],0⟩).sure_⟩:B5) Av (by omega) (by rw[←gD (show ac<Aj.length by omega)];rfl) (show 1+1≤3 by decide) fun ba a1=>?_
 conv=>cbv
 have e:((⟨Aj.set ac (⟨(Aj.getD ac ⟨0,tx [],0⟩).id_,ay,(Aj.getD ac ⟨0,tx [],0⟩).sure_⟩:B5),An,Ao,Al,As,Aq⟩:Aa),5)=Ai (⟨Aj,An,Ao,Al,As,Aq⟩:Aa) name text:=(by unfold Ai;rw[if_neg (by rintro(h|h);rw[ah]at h;cases h;rw[hk]at h;omega),hk,af];dsimp only;rw[if_pos (by omega)];unfold XhW gN;dsimp only;have e9:aa=(Aj.getD ac ⟨0,tx [],0⟩).text_:=(by have h9:ai=ac:=(by omega);subst h9;rw[←gD (show ai<Aj.length by omega),←ab]);rw[←a0,az,e9,ag,au,show min (text.size:Int) (As - ar)=As - ar by omega])
 rw[hr]at e
 simp only[Prod.mk.injEq,Aa.mk.injEq]at e
 obtain⟨⟨rfl,rfl,rfl,rfl,rfl,rfl⟩,rfl⟩:=e
 obtain rfl:ba=Co:=by rw[←a1,←A7]
 obtain rfl:n2=noanod:=by first|omega|(rw[hnoanod];simp;done)|(rw[hnoanod];simp;omega)
 obtain rfl:Bh=Cn:=by rw[←At,←A9]
 obtain rfl:n3=noaent:=by first|omega|(rw[hnoaent];simp;done)|(rw[hnoaent];simp;omega)
 obtain rfl:Bg=Cm:=by rw[←Ax,←A8]
 obtain rfl:n4=noaold:=by first|omega|(rw[hnoaold];simp;done)|(rw[hnoaold];simp;omega)
 obtain rfl:Bi=Cp:=by rw[←Ay,←Ba]
 obtain rfl:n5=noaste:=by first|omega|(rw[hnoaste];simp;done)|(rw[hnoaste];simp;omega)
 exact hQ _ _ (.of [6,7,8,9] (.inl rfl) rfl rfl rfl rfl)
 conv=>cbv
 refine .go r9.toNat fun ai aw an=>?_
 conv=>cbv
 refine .go Av fun ae ⟨ao,aa,ak⟩ ab=>?_
 conv=>cbv
 have ax:aa.size≤1000000000:=by have h9:=aj.1.2.1 _ (List.getElem_mem ae);rw[←ab]at h9;exact h9
 refine .go fun al ag bg=>?_
 conv=>cbv
 refine .go r9.toNat fun ad a2 bb=>?_
 conv=>cbv
 refine .go (⟨(Aj.getD ad ⟨0,tx [],0⟩).id_,al,(Aj.getD ad ⟨0,tx [],0⟩).sure_⟩:B5) Av (by omega) (by rw[←gD (show ad<Aj.length by omega)];rfl) (show 1+1≤3 by decide) fun bc a3=>?_
 conv=>cbv
 have e:((⟨Aj.set ad (⟨(Aj.getD ad ⟨0,tx [],0⟩).id_,al,(Aj.getD ad ⟨0,tx [],0⟩).sure_⟩:B5),An,Ao,Al,As,Aq⟩:Aa),0)=Ai (⟨Aj,An,Ao,Al,As,Aq⟩:Aa) name text:=(by unfold Ai;rw[if_neg (by rintro(h|h);rw[ah]at h;cases h;rw[hk]at h;omega),hk,af];dsimp only;rw[if_neg (by omega)];unfold XhW gN;dsimp only;have e9:aa=(Aj.getD ad ⟨0,tx [],0⟩).text_:=(by have h9:ai=ad:=(by omega);subst h9;rw[←gD (show ai<Aj.length by omega),←ab]);rw[←a2,ag,e9,Oh (t:=text) (by omega)])
 rw[hr]at e
 simp only[Prod.mk.injEq,Aa.mk.injEq]at e
 obtain⟨⟨rfl,rfl,rfl,rfl,rfl,rfl⟩,rfl⟩:=e
 obtain rfl:bc=Co:=by rw[←a3,←A7]
 obtain rfl:n2=noanod:=by first|omega|(rw[hnoanod];simp;done)|(rw[hnoanod];simp;omega)
 obtain rfl:Bh=Cn:=by rw[←At,←A9]
 obtain rfl:n3=noaent:=by first|omega|(rw[hnoaent];simp;done)|(rw[hnoaent];simp;omega)
 obtain rfl:Bg=Cm:=by rw[←Ax,←A8]
 obtain rfl:n4=noaold:=by first|omega|(rw[hnoaold];simp;done)|(rw[hnoaold];simp;omega)
 obtain rfl:Bi=Cp:=by rw[←Ay,←Ba]
 obtain rfl:n5=noaste:=by first|omega|(rw[hnoaste];simp;done)|(rw[hnoaste];simp;omega)
 exact hQ _ _ (.of [6,7,8,9] (.inl rfl) rfl rfl rfl rfl)
theorem Rl(Av:Aj.map A5=Bk)(At:An.map Ad=Bh)(Ax:Ao.map Ad=Bg)(Ay:Al.map cS=Bi)(hn:Aj.length≤1000000000)(he:An.length≤1000000000)(ho:Ao.length≤1000000000)(hs:Al.length<1000000000)(hss:okS Al)(an:Hz (⟨Aj,An,Ao,Al,As,Aq⟩:Aa))(hr:By (⟨Aj,An,Ao,Al,As,Aq⟩:Aa) name=(⟨F2,Fy,F3,Fz,G8,G9⟩,ob))(A7:F2.map A5=Co)(A9:Fy.map Ad=Cn)(A8:F3.map Ad=Cm)(Ba:Fz.map cS=Cp)(hnoanod:noanod=F2.length)(hnoaent:noaent=Fy.length)(hnoaold:noaold=F3.length)(hnoaste:noaste=Fz.length):Fn Tryz.prog 222 [.agg [.d (.row 3 Bk),.d (.row 2 Bh),.d (.row 2 Bg),.d (.row 1 Bi),I As,I Aq],S name] [] ⟨.tup [.agg [.ref 0 0 noanod,.ref 1 0 noaent,.ref 2 0 noaold,.ref 3 0 noaste,I G8,I G9],I ob],[.row 3 false Co,.row 2 false Cn,.row 2 false Cm,.row 1 false Cp],[]⟩:=by
 refine Fn.goR Ia Tryz.func222 fun P hP Q hQ=>?_
 conv=>cbv
 obtain⟨n2,ao⟩:∃m,m=Aj.length:=⟨_,rfl⟩
 obtain⟨n3,ap⟩:∃m,m=An.length:=⟨_,rfl⟩
 obtain⟨n4,aq⟩:∃m,m=Ao.length:=⟨_,rfl⟩
 obtain⟨n5,ar⟩:∃m,m=Al.length:=⟨_,rfl⟩
 refine .ddN hP (F9 Av At Ax Ay (by omega) (by omega) (by omega) (by omega) ao ap aq ar) rfl ?_
 conv=>cbv
 generalize ab:Bp (⟨Aj,An,Ao,Al,As,Aq⟩:Aa)=r6
 refine .lnt hP (Hn Av At Ax Ay an ab) (.agg (.ref rfl (Ae Av) (.ref rfl (Ae At) (.ref rfl (Ae Ax) (.ref rfl (Ae Ay) (.d rfl (.d rfl .nil)))))) .nil) ?_
 cases r6
 conv=>cbv
 have e:((⟨Aj,An,Ao,Al,As,Aq⟩:Aa),3)=By (⟨Aj,An,Ao,Al,As,Aq⟩:Aa) name:=(by unfold By;rw[if_pos (.inl ab)])
 rw[hr]at e
 simp only[Prod.mk.injEq,Aa.mk.injEq]at e
 obtain⟨⟨rfl,rfl,rfl,rfl,rfl,rfl⟩,rfl⟩:=e
 obtain rfl:Bk=Co:=by rw[←Av,←A7]
 obtain rfl:n2=noanod:=by first|omega|(rw[hnoanod];simp;done)|(rw[hnoanod];simp;omega)
 obtain rfl:Bh=Cn:=by rw[←At,←A9]
 obtain rfl:n3=noaent:=by first|omega|(rw[hnoaent];simp;done)|(rw[hnoaent];simp;omega)
 obtain rfl:Bg=Cm:=by rw[←Ax,←A8]
 obtain rfl:n4=noaold:=by first|omega|(rw[hnoaold];simp;done)|(rw[hnoaold];simp;omega)
 obtain rfl:Bi=Cp:=by rw[←Ay,←Ba]
 obtain rfl:n5=noaste:=by first|omega|(rw[hnoaste];simp;done)|(rw[hnoaste];simp;omega)
 exact hQ _ _ (.of [6,7,8,9] (.inl rfl) rfl rfl rfl rfl)
 conv=>cbv
 generalize ad:Dg An name=r7
 refine .lnt hP (Gy At (by omega) ad) (.ref rfl (Ae At) (.d rfl .nil)) ?_
 cases r7
 conv=>cbv
 have e:((⟨Aj,An,Ao,Al,As,Aq⟩:Aa),3)=By (⟨Aj,An,Ao,Al,As,Aq⟩:Aa) name:=(by unfold By;rw[if_pos (.inr (L9 (Ny ad)))])
 rw[hr]at e
 simp only[Prod.mk.injEq,Aa.mk.injEq]at e
 obtain⟨⟨rfl,rfl,rfl,rfl,rfl,rfl⟩,rfl⟩:=e
 obtain rfl:Bk=Co:=by rw[←Av,←A7]
 obtain rfl:n2=noanod:=by first|omega|(rw[hnoanod];simp;done)|(rw[hnoanod];simp;omega)
 obtain rfl:Bh=Cn:=by rw[←At,←A9]
 obtain rfl:n3=noaent:=by first|omega|(rw[hnoaent];simp;done)|(rw[hnoaent];simp;omega)
 obtain rfl:Bg=Cm:=by rw[←Ax,←A8]
 obtain rfl:n4=noaold:=by first|omega|(rw[hnoaold];simp;done)|(rw[hnoaold];simp;omega)
 obtain rfl:Bi=Cp:=by rw[←Ay,←Ba]
 obtain rfl:n5=noaste:=by first|omega|(rw[hnoaste];simp;done)|(rw[hnoaste];simp;omega)
 exact hQ _ _ (.of [6,7,8,9] (.inl rfl) rfl rfl rfl rfl)
 conv=>cbv
 generalize ae:B6 An name=r8
 refine .lnt hP (Ga At (by omega) ae) (.ref rfl (Ae At) (.d rfl .nil)) ?_
 conv=>cbv
 generalize af:Ez (⟨Aj,An,Ao,Al,As,Aq⟩:Aa) r8=r9
 refine .lnt hP (Kb Av At Ax Ay (by omega) af) (.agg (.ref rfl (Ae Av) (.ref rfl (Ae At) (.ref rfl (Ae Ax) (.ref rfl (Ae Ay) (.d rfl (.d rfl .nil)))))) (.d rfl .nil)) ?_
 conv=>cbv
 have hpl:=Qt ad
 have hk:Cj (⟨Aj,An,Ao,Al,As,Aq⟩:Aa) name=r9:=by rw[←Md (d:=(⟨Aj,An,Ao,Al,As,Aq⟩:Aa)) hpl];show Ez _ (B6 An name)=r9;rw[ae,af]
 have hb:=Gr hk
 have au:=(Ue ab hpl).2
 rw[hk]at au
 simp only[]at hb
 refine .go r9.toNat fun ag a1 aw=>?_
 conv=>cbv
 refine .go Av fun ax ⟨ay,ac,am⟩ ah=>?_
 conv=>cbv
 refine .go fun ai aj=>?_
 conv=>cbv
 refine .go r9.toNat fun aa ak az=>?_
 conv=>cbv
 refine .go (⟨(Aj.getD aa ⟨0,tx [],0⟩).id_,(Aj.getD aa ⟨0,tx [],0⟩).text_,ai⟩:B5) Av (by omega) (by rw[←gD (show aa<Aj.length by omega)];rfl) (show 2+1≤3 by decide) fun a0 al=>?_
 conv=>cbv
 have e:((⟨Aj.set aa (⟨(Aj.getD aa ⟨0,tx [],0⟩).id_,(Aj.getD aa ⟨0,tx [],0⟩).text_,ai⟩:B5),An,Ao,Al,As,Aq⟩:Aa),0)=By (⟨Aj,An,Ao,Al,As,Aq⟩:Aa) name:=(by unfold By;rw[if_neg (by rintro(h|h);rw[ab]at h;cases h;rw[hk]at h;omega),hk];dsimp only;have e9:ac=(Aj.getD aa ⟨0,tx [],0⟩).text_:=(by have h9:ag=aa:=(by omega);subst h9;rw[←gD (show ag<Aj.length by omega),←ah]);rw[aj,e9,←ak])
 rw[hr]at e
 simp only[Prod.mk.injEq,Aa.mk.injEq]at e
 obtain⟨⟨rfl,rfl,rfl,rfl,rfl,rfl⟩,rfl⟩:=e
 obtain rfl:a0=Co:=by rw[←al,←A7]
 obtain rfl:n2=noanod:=by first|omega|(rw[hnoanod];simp;done)|(rw[hnoanod];simp;omega)
 obtain rfl:Bh=Cn:=by rw[←At,←A9]
 obtain rfl:n3=noaent:=by first|omega|(rw[hnoaent];simp;done)|(rw[hnoaent];simp;omega)
 obtain rfl:Bg=Cm:=by rw[←Ax,←A8]
 obtain rfl:n4=noaold:=by first|omega|(rw[hnoaold];simp;done)|(rw[hnoaold];simp;omega)
 obtain rfl:Bi=Cp:=by rw[←Ay,←Ba]
 obtain rfl:n5=noaste:=by first|omega|(rw[hnoaste];simp;done)|(rw[hnoaste];simp;omega)
 exact hQ _ _ (.of [6,7,8,9] (.inl rfl) rfl rfl rfl rfl)
theorem V0{from_:ByteArray}{to_:ByteArray}(Av:Aj.map A5=Bk)(At:An.map Ad=Bh)(Ax:Ao.map Ad=Bg)(Ay:Al.map cS=Bi)(hn:Aj.length≤1000000000)(he:An.length≤1000000000)(ho:Ao.length≤1000000000)(hs:Al.length<1000000000)(hss:okS Al)(ay:Hz (⟨Aj,An,Ao,Al,As,Aq⟩:Aa))(hm:from_.size+to_.size<999999999)(hr:Cu (⟨Aj,An,Ao,Al,As,Aq⟩:Aa) from_ to_=(⟨F2,Fy,F3,Fz,G8,G9⟩,ob))(A7:F2.map A5=Co)(A9:Fy.map Ad=Cn)(A8:F3.map Ad=Cm)(Ba:Fz.map cS=Cp)(hnoanod:noanod=F2.length)(hnoaent:noaent=Fy.length)(hnoaold:noaold=F3.length)(hnoaste:noaste=Fz.length):Fn Tryz.prog 238 [.agg [.d (.row 3 Bk),.d (.row 2 Bh),.d (.row 2 Bg),.d (.row 1 Bi),I As,I Aq],S from_,S to_] [] ⟨.tup [.agg [.ref 0 0 noanod,.ref 1 0 noaent,.ref 2 0 noaold,.ref 3 0 noaste,I G8,I G9],I ob],[.row 3 false Co,.row 2 false Cn,.row 2 false Cm,.row 1 false Cp],[]⟩:=by
 refine Fn.goR Ia Tryz.func238 fun P hP Q hQ=>?_
 conv=>cbv
 obtain⟨n2,az⟩:∃m,m=Aj.length:=⟨_,rfl⟩
 obtain⟨n3,a0⟩:∃m,m=An.length:=⟨_,rfl⟩
 obtain⟨n4,a1⟩:∃m,m=Ao.length:=⟨_,rfl⟩
 obtain⟨n5,a2⟩:∃m,m=Al.length:=⟨_,rfl⟩
 refine .ddN hP (F9 Av At Ax Ay (by omega) (by omega) (by omega) (by omega) az a0 a1 a2) rfl ?_
 conv=>cbv
 generalize ad:Bp (⟨Aj,An,Ao,Al,As,Aq⟩:Aa)=r6
 refine .lnt hP (Hn Av At Ax Ay ay ad) (.agg (.ref rfl (Ae Av) (.ref rfl (Ae At) (.ref rfl (Ae Ax) (.ref rfl (Ae Ay) (.d rfl (.d rfl .nil)))))) .nil) ?_
 cases r6
 conv=>cbv
 have e:((⟨Aj,An,Ao,Al,As,Aq⟩:Aa),3)=Cu (⟨Aj,An,Ao,Al,As,Aq⟩:Aa) from_ to_:=(by unfold Cu;rw[if_pos (.inl ad)])
 rw[hr]at e
 simp only[Prod.mk.injEq,Aa.mk.injEq]at e
 obtain⟨⟨rfl,rfl,rfl,rfl,rfl,rfl⟩,rfl⟩:=e
 obtain rfl:Bk=Co:=by rw[←Av,←A7]
 obtain rfl:n2=noanod:=by first|omega|(rw[hnoanod];simp;done)|(rw[hnoanod];simp;omega)
 obtain rfl:Bh=Cn:=by rw[←At,←A9]
 obtain rfl:n3=noaent:=by first|omega|(rw[hnoaent];simp;done)|(rw[hnoaent];simp;omega)
 obtain rfl:Bg=Cm:=by rw[←Ax,←A8]
 obtain rfl:n4=noaold:=by first|omega|(rw[hnoaold];simp;done)|(rw[hnoaold];simp;omega)
 obtain rfl:Bi=Cp:=by rw[←Ay,←Ba]
 obtain rfl:n5=noaste:=by first|omega|(rw[hnoaste];simp;done)|(rw[hnoaste];simp;omega)
 exact hQ _ _ (.of [6,7,8,9] (.inl rfl) rfl rfl rfl rfl)
 conv=>cbv
 generalize ae:Dg An from_=r7
 refine .lnt hP (Gy At (by omega) ae) (.ref rfl (Ae At) (.d rfl .nil)) ?_
 cases r7
 conv=>cbv
 have e:((⟨Aj,An,Ao,Al,As,Aq⟩:Aa),3)=Cu (⟨Aj,An,Ao,Al,As,Aq⟩:Aa) from_ to_:=(by unfold Cu;rw[if_pos (.inr (Ny ae))])
 rw[hr]at e
 simp only[Prod.mk.injEq,Aa.mk.injEq]at e
 obtain⟨⟨rfl,rfl,rfl,rfl,rfl,rfl⟩,rfl⟩:=e
 obtain rfl:Bk=Co:=by rw[←Av,←A7]
 obtain rfl:n2=noanod:=by first|omega|(rw[hnoanod];simp;done)|(rw[hnoanod];simp;omega)
 obtain rfl:Bh=Cn:=by rw[←At,←A9]
 obtain rfl:n3=noaent:=by first|omega|(rw[hnoaent];simp;done)|(rw[hnoaent];simp;omega)
 obtain rfl:Bg=Cm:=by rw[←Ax,←A8]
 obtain rfl:n4=noaold:=by first|omega|(rw[hnoaold];simp;done)|(rw[hnoaold];simp;omega)
 obtain rfl:Bi=Cp:=by rw[←Ay,←Ba]
 obtain rfl:n5=noaste:=by first|omega|(rw[hnoaste];simp;done)|(rw[hnoaste];simp;omega)
 exact hQ _ _ (.of [6,7,8,9] (.inl rfl) rfl rfl rfl rfl)
 conv=>cbv
 generalize aj:Bl to_=r8
 refine .dd hP (Ii (by omega) aj) ?_
 cases r8
 conv=>cbv
 have e:((⟨Aj,An,Ao,Al,As,Aq⟩:Aa),1)=Cu (⟨Aj,An,Ao,Al,As,Aq⟩:Aa) from_ to_:=(by unfold Cu;rw[if_neg (by rintro(h|h);rw[ad]at h;cases h;have:=Qt ae;dsimp only at h;omega),if_pos (.inl aj)])
 rw[hr]at e
 simp only[Prod.mk.injEq,Aa.mk.injEq]at e
 obtain⟨⟨rfl,rfl,rfl,rfl,rfl,rfl⟩,rfl⟩:=e
 obtain rfl:Bk=Co:=by rw[←Av,←A7]
 obtain rfl:n2=noanod:=by first|omega|(rw[hnoanod];simp;done)|(rw[hnoanod];simp;omega)
 obtain rfl:Bh=Cn:=by rw[←At,←A9]
 obtain rfl:n3=noaent:=by first|omega|(rw[hnoaent];simp;done)|(rw[hnoaent];simp;omega)
 obtain rfl:Bg=Cm:=by rw[←Ax,←A8]
 obtain rfl:n4=noaold:=by first|omega|(rw[hnoaold];simp;done)|(rw[hnoaold];simp;omega)
 obtain rfl:Bi=Cp:=by rw[←Ay,←Ba]
 obtain rfl:n5=noaste:=by first|omega|(rw[hnoaste];simp;done)|(rw[hnoaste];simp;omega)
 exact hQ _ _ (.of [6,7,8,9] (.inl rfl) rfl rfl rfl rfl)
 conv=>cbv
 refine .eql (fun h9=>?_) fun h9=>?_
 conv=>cbv
 have e:((⟨Aj,An,Ao,Al,As,Aq⟩:Aa),1)=Cu (⟨Aj,An,Ao,Al,As,Aq⟩:Aa) from_ to_:=(by unfold Cu;rw[if_neg (by rintro(h|h);rw[ad]at h;cases h;have:=Qt ae;dsimp only at h;omega),if_pos (.inr h9)])
 rw[hr]at e
 simp only[Prod.mk.injEq,Aa.mk.injEq]at e
 obtain⟨⟨rfl,rfl,rfl,rfl,rfl,rfl⟩,rfl⟩:=e
 obtain rfl:Bk=Co:=by rw[←Av,←A7]
 obtain rfl:n2=noanod:=by first|omega|(rw[hnoanod];simp;done)|(rw[hnoanod];simp;omega)
 obtain rfl:Bh=Cn:=by rw[←At,←A9]
 obtain rfl:n3=noaent:=by first|omega|(rw[hnoaent];simp;done)|(rw[hnoaent];simp;omega)
 obtain rfl:Bg=Cm:=by rw[←Ax,←A8]
 obtain rfl:n4=noaold:=by first|omega|(rw[hnoaold];simp;done)|(rw[hnoaold];simp;omega)
 obtain rfl:Bi=Cp:=by rw[←Ay,←Ba]
 obtain rfl:n5=noaste:=by first|omega|(rw[hnoaste];simp;done)|(rw[hnoaste];simp;omega)
 exact hQ _ _ (.of [6,7,8,9] (.inl rfl) rfl rfl rfl rfl)
 conv=>cbv
 generalize ak:B6 An from_=a3
 refine .lnt hP (Ga At (by omega) ak) (.ref rfl (Ae At) (.d rfl .nil)) ?_
 conv=>cbv
 generalize ah:Ck An from_=ao
 have a4:=Ew ah
 generalize ab:ao.map Ad=a7
 obtain⟨nl11,hnl11⟩:∃m,m=ao.length:=⟨_,rfl⟩
 refine .lntN hP (It At (by omega) ah ab hnl11) (.ref rfl (Ae At) (.d rfl .nil)) rfl rfl rfl (by simp only[List.all_cons,List.all_nil,Bool.and_self,Az (fun _=>rfl) ab]) ?_
 conv=>cbv
 generalize al:Ci ao (⟨to_,a3⟩:Ag)=af
 generalize ac:af.map Ad=ap
 obtain⟨nl12,hnl12⟩:∃m,m=af.length:=⟨_,rfl⟩
 refine .lntN hP (F5 ab (by omega) al ac hnl12) (.ref rfl (Ae ab) (.agg (.d rfl (.d rfl .nil)) .nil)) rfl rfl rfl (by simp only[List.all_cons,List.all_nil,Bool.and_self,Az (fun _=>rfl) ac]) ?_
 conv=>cbv
 refine .litL 1 fun bb aq a8=>?_
 conv=>cbv
 refine .litR 1 fun bc ar a9=>?_
 conv=>cbv
 refine .go fun ag au ba=>?_
 conv=>cbv
 refine .one ag Ay rfl fun aw a5 a6 am=>?_
 conv=>cbv
 generalize an:(C9 (⟨Aj,af,Ao,(Al++[ag]),As,Aq⟩:Aa)).nodes_=aa
 generalize hx17:aa.map A5=ai
 obtain⟨nr17nod,hnr17nod⟩:∃m,m=aa.length:=⟨_,rfl⟩
 have ax:C9 (⟨Aj,af,Ao,(Al++[ag]),As,Aq⟩:Aa)=⟨aa,af,Ao,(Al++[ag]),As,Aq⟩:=by rw[←an];rfl
 refine .bx [6,11,8,13] [] hP (Kt Av ac Ax am (by first|rfl|omega|(simp;omega)) (by first|rfl|omega|(simp;omega)) (by first|rfl|omega|(simp;omega)) (by first|rfl|omega|(simp;omega)) (by omega) (by omega) (by rw[List.length_append,List.length_singleton];omega) (N9 hss (by omega)) an hx17 hnr17nod) rfl rfl rfl rfl ?_
 conv=>cbv
 have e:((⟨aa,af,Ao,Al++[ag],As,Aq⟩:Aa),0)=Cu (⟨Aj,An,Ao,Al,As,Aq⟩:Aa) from_ to_:=(by unfold Cu;rw[if_neg (by rintro(h|h);rw[ad]at h;cases h;have:=Qt ae;dsimp only at h;omega),if_neg (by rintro(h|h);rw[aj]at h;cases h;exact h9 h)];exact congrArg (fun x:Aa=>(x,(0:Int))) (ax.symm.trans (by rw[←al,←ah,←ak,show ag=tx [62]++from_++tx [58]++to_ from(by rw[au,ar,aq];rfl)];exact Xaf ad (Qt ae) aj h9)))
 rw[hr]at e
 simp only[Prod.mk.injEq,Aa.mk.injEq]at e
 obtain⟨⟨rfl,rfl,rfl,rfl,rfl,rfl⟩,rfl⟩:=e
 obtain rfl:ai=Co:=by rw[←hx17,←A7]
 obtain rfl:nr17nod=noanod:=by first|omega|(rw[hnoanod];simp;done)|(rw[hnoanod];simp;omega)
 obtain rfl:ap=Cn:=by rw[←ac,←A9]
 obtain rfl:nl12=noaent:=by first|omega|(rw[hnoaent];simp;done)|(rw[hnoaent];simp;omega)
 obtain rfl:Bg=Cm:=by rw[←Ax,←A8]
 obtain rfl:n4=noaold:=by first|omega|(rw[hnoaold];simp;done)|(rw[hnoaold];simp;omega)
 obtain rfl:a5=Cp:=by rw[←am,←Ba]
 obtain rfl:aw=noaste:=by first|omega|(rw[hnoaste];simp;done)|(rw[hnoaste];simp;omega)
 exact hQ _ _ (.of [14,11,8,13] (.inl rfl) rfl rfl rfl rfl)
theorem Ov(Av:Aj.map A5=Bk)(At:An.map Ad=Bh)(Ax:Ao.map Ad=Bg)(Ay:Al.map cS=Bi)(hn:Aj.length≤1000000000)(he:An.length≤1000000000)(ho:Ao.length≤1000000000)(hs:Al.length<1000000000)(hss:okS Al)(ak:Hz (⟨Aj,An,Ao,Al,As,Aq⟩:Aa))(hm:name.size<1000000000)(hr:Ce (⟨Aj,An,Ao,Al,As,Aq⟩:Aa) name=(⟨F2,Fy,F3,Fz,G8,G9⟩,ob))(A7:F2.map A5=Co)(A9:Fy.map Ad=Cn)(A8:F3.map Ad=Cm)(Ba:Fz.map cS=Cp)(hnoanod:noanod=F2.length)(hnoaent:noaent=Fy.length)(hnoaold:noaold=F3.length)(hnoaste:noaste=Fz.length):Fn Tryz.prog 237 [.agg [.d (.row 3 Bk),.d (.row 2 Bh),.d (.row 2 Bg),.d (.row 1 Bi),I As,I Aq],S name] [] ⟨.tup [.agg [.ref 0 0 noanod,.ref 1 0 noaent,.ref 2 0 noaold,.ref 3 0 noaste,I G8,I G9],I ob],[.row 3 false Co,.row 2 false Cn,.row 2 false Cm,.row 1 false Cp],[]⟩:=by
 refine Fn.goR Ia Tryz.func237 fun P hP Q hQ=>?_
 conv=>cbv
 obtain⟨n2,al⟩:∃m,m=Aj.length:=⟨_,rfl⟩
 obtain⟨n3,am⟩:∃m,m=An.length:=⟨_,rfl⟩
 obtain⟨n4,an⟩:∃m,m=Ao.length:=⟨_,rfl⟩
 obtain⟨n5,ao⟩:∃m,m=Al.length:=⟨_,rfl⟩
 refine .ddN hP (F9 Av At Ax Ay (by omega) (by omega) (by omega) (by omega) al am an ao) rfl ?_
 conv=>cbv
 generalize ac:Bp (⟨Aj,An,Ao,Al,As,Aq⟩:Aa)=r6
 refine .lnt hP (Hn Av At Ax Ay ak ac) (.agg (.ref rfl (Ae Av) (.ref rfl (Ae At) (.ref rfl (Ae Ax) (.ref rfl (Ae Ay) (.d rfl (.d rfl .nil)))))) .nil) ?_
 cases r6
 conv=>cbv
 have e:((⟨Aj,An,Ao,Al,As,Aq⟩:Aa),3)=Ce (⟨Aj,An,Ao,Al,As,Aq⟩:Aa) name:=(by unfold Ce;rw[if_pos (.inl ac)])
 rw[hr]at e
 simp only[Prod.mk.injEq,Aa.mk.injEq]at e
 obtain⟨⟨rfl,rfl,rfl,rfl,rfl,rfl⟩,rfl⟩:=e
 obtain rfl:Bk=Co:=by rw[←Av,←A7]
 obtain rfl:n2=noanod:=by first|omega|(rw[hnoanod];simp;done)|(rw[hnoanod];simp;omega)
 obtain rfl:Bh=Cn:=by rw[←At,←A9]
 obtain rfl:n3=noaent:=by first|omega|(rw[hnoaent];simp;done)|(rw[hnoaent];simp;omega)
 obtain rfl:Bg=Cm:=by rw[←Ax,←A8]
 obtain rfl:n4=noaold:=by first|omega|(rw[hnoaold];simp;done)|(rw[hnoaold];simp;omega)
 obtain rfl:Bi=Cp:=by rw[←Ay,←Ba]
 obtain rfl:n5=noaste:=by first|omega|(rw[hnoaste];simp;done)|(rw[hnoaste];simp;omega)
 exact hQ _ _ (.of [6,7,8,9] (.inl rfl) rfl rfl rfl rfl)
 conv=>cbv
 generalize ad:Dg An name=r7
 refine .lnt hP (Gy At (by omega) ad) (.ref rfl (Ae At) (.d rfl .nil)) ?_
 cases r7
 conv=>cbv
 have e:((⟨Aj,An,Ao,Al,As,Aq⟩:Aa),3)=Ce (⟨Aj,An,Ao,Al,As,Aq⟩:Aa) name:=(by unfold Ce;rw[if_pos (.inr (Ny ad))])
 rw[hr]at e
 simp only[Prod.mk.injEq,Aa.mk.injEq]at e
 obtain⟨⟨rfl,rfl,rfl,rfl,rfl,rfl⟩,rfl⟩:=e
 obtain rfl:Bk=Co:=by rw[←Av,←A7]
 obtain rfl:n2=noanod:=by first|omega|(rw[hnoanod];simp;done)|(rw[hnoanod];simp;omega)
 obtain rfl:Bh=Cn:=by rw[←At,←A9]
 obtain rfl:n3=noaent:=by first|omega|(rw[hnoaent];simp;done)|(rw[hnoaent];simp;omega)
 obtain rfl:Bg=Cm:=by rw[←Ax,←A8]
 obtain rfl:n4=noaold:=by first|omega|(rw[hnoaold];simp;done)|(rw[hnoaold];simp;omega)
 obtain rfl:Bi=Cp:=by rw[←Ay,←Ba]
 obtain rfl:n5=noaste:=by first|omega|(rw[hnoaste];simp;done)|(rw[hnoaste];simp;omega)
 exact hQ _ _ (.of [6,7,8,9] (.inl rfl) rfl rfl rfl rfl)
 conv=>cbv
 generalize ah:Ck An name=l8
 generalize ae:l8.map Ad=ap
 obtain⟨nl8,hnl8⟩:∃m,m=l8.length:=⟨_,rfl⟩
 refine .lntN hP (It At (by omega) ah ae hnl8) (.ref rfl (Ae At) (.d rfl .nil)) rfl rfl rfl (by simp only[List.all_cons,List.all_nil,Bool.and_self,Az (fun _=>rfl) ae]) ?_
 conv=>cbv
 refine .litL 1 fun s9 aq aw=>?_
 conv=>cbv
 refine .one s9 Ay rfl fun ai ar au af=>?_
 conv=>cbv
 generalize ag:(C9 (⟨Aj,l8,Ao,(Al++[s9]),As,Aq⟩:Aa)).nodes_=aa
 generalize hx11:aa.map A5=ab
 obtain⟨nr11nod,hnr11nod⟩:∃m,m=aa.length:=⟨_,rfl⟩
 have aj:C9 (⟨Aj,l8,Ao,(Al++[s9]),As,Aq⟩:Aa)=⟨aa,l8,Ao,(Al++[s9]),As,Aq⟩:=by rw[←ag];rfl
 refine .bx [6,10,8,12] [] hP (Kt Av ae Ax af (by first|rfl|omega|(simp;omega)) (by first|rfl|omega|(simp;omega)) (by first|rfl|omega|(simp;omega)) (by first|rfl|omega|(simp;omega)) (by omega) (by omega) (by rw[List.length_append,List.length_singleton];omega) (N9 hss (by omega)) ag hx11 hnr11nod) rfl rfl rfl rfl ?_
 conv=>cbv
 have e:((⟨aa,l8,Ao,Al++[s9],As,Aq⟩:Aa),0)=Ce (⟨Aj,An,Ao,Al,As,Aq⟩:Aa) name:=(by unfold Ce;rw[if_neg (by rintro(h|h);rw[ac]at h;cases h;have:=Qt ad;dsimp only at h;omega)];exact congrArg (fun x:Aa=>(x,(0:Int))) (aj.symm.trans (by rw[←ah,aq];exact XaG ac (Qt ad))))
 rw[hr]at e
 simp only[Prod.mk.injEq,Aa.mk.injEq]at e
 obtain⟨⟨rfl,rfl,rfl,rfl,rfl,rfl⟩,rfl⟩:=e
 obtain rfl:ab=Co:=by rw[←hx11,←A7]
 obtain rfl:nr11nod=noanod:=by first|omega|(rw[hnoanod];simp;done)|(rw[hnoanod];simp;omega)
 obtain rfl:ap=Cn:=by rw[←ae,←A9]
 obtain rfl:nl8=noaent:=by first|omega|(rw[hnoaent];simp;done)|(rw[hnoaent];simp;omega)
 obtain rfl:Bg=Cm:=by rw[←Ax,←A8]
 obtain rfl:n4=noaold:=by first|omega|(rw[hnoaold];simp;done)|(rw[hnoaold];simp;omega)
 obtain rfl:ar=Cp:=by rw[←af,←Ba]
 obtain rfl:ai=noaste:=by first|omega|(rw[hnoaste];simp;done)|(rw[hnoaste];simp;omega)
 exact hQ _ _ (.of [13,10,8,12] (.inl rfl) rfl rfl rfl rfl)
theorem L4{onod:List B5}{De:List (List D)}{oent:List Ag}{Dd:List (List D)}{oold:List Ag}{Db:List (List D)}{oste:List ByteArray}{Dc:List (List D)}{oroo:Int}{onex:Int}{nonod:Nat}{noent:Nat}{noold:Nat}{noste:Nat}(Av:Aj.map A5=Bk)(At:An.map Ad=Bh)(Ax:Ao.map Ad=Bg)(Ay:Al.map cS=Bi)(hn:Aj.length≤1000000000)(he:An.length≤1000000000)(ho:Ao.length≤1000000000)(hs:Al.length<1000000000)(hss:okS Al)(af:Hz (⟨Aj,An,Ao,Al,As,Aq⟩:Aa))(hr:Cc (⟨Aj,An,Ao,Al,As,Aq⟩:Aa)=⟨onod,oent,oold,oste,oroo,onex⟩)(Eb:onod.map A5=De)(Eg:oent.map Ad=Dd)(Ed:oold.map Ad=Db)(D7:oste.map cS=Dc)(hnonod:nonod=onod.length)(hnoent:noent=oent.length)(hnoold:noold=oold.length)(hnoste:noste=oste.length):Fn Tryz.prog 224 [.agg [.d (.row 3 Bk),.d (.row 2 Bh),.d (.row 2 Bg),.d (.row 1 Bi),I As,I Aq]] [] ⟨.agg [.ref 0 0 nonod,.ref 1 0 noent,.ref 2 0 noold,.ref 3 0 noste,I oroo,I onex],[.row 3 false De,.row 2 false Dd,.row 2 false Db,.row 1 false Dc],[]⟩:=by
 refine Fn.goR Ia Tryz.func224 fun P hP Q hQ=>?_
 conv=>cbv
 obtain⟨n2,ag⟩:∃m,m=Aj.length:=⟨_,rfl⟩
 obtain⟨n3,ah⟩:∃m,m=An.length:=⟨_,rfl⟩
 obtain⟨n4,ai⟩:∃m,m=Ao.length:=⟨_,rfl⟩
 obtain⟨n5,aj⟩:∃m,m=Al.length:=⟨_,rfl⟩
 refine .ddN hP (F9 Av At Ax Ay (by omega) (by omega) (by omega) (by omega) ag ah ai aj) rfl ?_
 conv=>cbv
 generalize ac:Bp (⟨Aj,An,Ao,Al,As,Aq⟩:Aa)=r6
 refine .lnt hP (Hn Av At Ax Ay af ac) (.agg (.ref rfl (Ae Av) (.ref rfl (Ae At) (.ref rfl (Ae Ax) (.ref rfl (Ae Ay) (.d rfl (.d rfl .nil)))))) .nil) ?_
 cases r6
 conv=>cbv
 have e:(⟨Aj,An,Ao,Al,As,Aq⟩:Aa)=Cc (⟨Aj,An,Ao,Al,As,Aq⟩:Aa):=(by unfold Cc;rw[if_pos ac])
 rw[hr]at e
 simp only[Aa.mk.injEq]at e
 obtain⟨rfl,rfl,rfl,rfl,rfl,rfl⟩:=e
 obtain rfl:Bk=De:=by rw[←Av,←Eb]
 obtain rfl:n2=nonod:=by first|omega|(rw[hnonod];simp;done)|(rw[hnonod];simp;omega)
 obtain rfl:Bh=Dd:=by rw[←At,←Eg]
 obtain rfl:n3=noent:=by first|omega|(rw[hnoent];simp;done)|(rw[hnoent];simp;omega)
 obtain rfl:Bg=Db:=by rw[←Ax,←Ed]
 obtain rfl:n4=noold:=by first|omega|(rw[hnoold];simp;done)|(rw[hnoold];simp;omega)
 obtain rfl:Bi=Dc:=by rw[←Ay,←D7]
 obtain rfl:n5=noste:=by first|omega|(rw[hnoste];simp;done)|(rw[hnoste];simp;omega)
 exact hQ _ _ (.of [6,7,8,9] (.inl rfl) rfl rfl rfl rfl)
 conv=>cbv
 refine .sub0 At fun ak z7 am ad=>?_
 conv=>cbv
 generalize ae:(C9 (⟨Aj,An,An,[],As,Aq⟩:Aa)).nodes_=aa
 generalize hx8:aa.map A5=ab
 obtain⟨nr8nod,hnr8nod⟩:∃m,m=aa.length:=⟨_,rfl⟩
 have al:C9 (⟨Aj,An,An,[],As,Aq⟩:Aa)=⟨aa,An,An,[],As,Aq⟩:=by rw[←ae];rfl
 refine .bx [6,7,11,12] [] hP (Kt Av At ad (show([]:List ByteArray).map cS=[]from rfl) (by first|rfl|omega|(simp;omega)) (by first|rfl|omega|(simp;omega)) (by first|rfl|omega|(simp;omega)) (by first|rfl|omega|(simp;omega)) (by omega) (by omega) (by simp) (fun _ h=>by cases h) ae hx8 hnr8nod) rfl rfl rfl rfl ?_
 conv=>cbv
 have e:(⟨aa,An,An,[],As,Aq⟩:Aa)=Cc (⟨Aj,An,Ao,Al,As,Aq⟩:Aa):=(by unfold Cc;rw[if_neg (by rw[ac];decide)];dsimp only;rw[←al];exact Py (d:=⟨Aj,An,An,[],As,Aq⟩) trivial)
 rw[hr]at e
 simp only[Aa.mk.injEq]at e
 obtain⟨rfl,rfl,rfl,rfl,rfl,rfl⟩:=e
 obtain rfl:ab=De:=by rw[←hx8,←Eb]
 obtain rfl:nr8nod=nonod:=by first|omega|(rw[hnonod];simp;done)|(rw[hnonod];simp;omega)
 obtain rfl:Bh=Dd:=by rw[←At,←Eg]
 obtain rfl:n3=noent:=by first|omega|(rw[hnoent];simp;done)|(rw[hnoent];simp;omega)
 obtain rfl:z7=Db:=by rw[←ad,←Ed]
 obtain rfl:ak=noold:=by first|omega|(rw[hnoold];simp;done)|(rw[hnoold];simp;omega)
 obtain rfl:[]=Dc:=by first|(rw[←D7];done)|(rw[←D7];rfl)
 obtain rfl:0=noste:=by first|omega|(rw[hnoste];simp;done)|(rw[hnoste];simp;omega)
 exact hQ _ _ (.of [13,7,11,12] (.inl rfl) rfl rfl rfl rfl)
end
section
open Go Go.Proofs
set_option maxRecDepth 20000
set_option maxHeartbeats 4000000
def W6:List (Nat×TyRow):=[ty3,ty4,ty9,Xbj,XaE,XfU,ty76]
theorem Xav:B3 Tryz.prog W6:=B3.of (by kernel_rfl)
theorem Nk:Setup Tryz.prog W6:=⟨Xav,mixed⟩
def Cq(room:Int):Aa:=⟨[],[],[],[],max 0 room,1⟩
def N0(w:Ac):Bj:=⟨w.version_,w.stride_,w.base_,w.link_⟩
def Nj(w:Ac):Bj:=⟨w.version_,w.stride_,w.base_,w.link_⟩
def Xba(d:Aa)(w:Ac):Int:=if(Ai d (Af w.base_) (Cs (Nj w) w.offsets_ w.end_)).2≠0 then 2 else 0
def Zc(d:Aa)(w:Ac):Aa:=if Xba d w=0 then(By (Ai d (Af w.base_) (Cs (Nj w) w.offsets_ w.end_)).1 (Af w.base_)).1 else(Ai d (Af w.base_) (Cs (Nj w) w.offsets_ w.end_)).1
def Tu(d:Aa)(w:Ac):Ac:=if Xba d w=0 then⟨w.version_,w.stride_,w.roll_,w.base_+w.offsets_.length,Fu (Df d w.base_),[],0,false,w.code_⟩else⟨w.version_,w.stride_,w.roll_,w.base_,w.link_,w.offsets_,w.end_,w.open_,2⟩
def Cx(d:Aa)(w:Ac):Aa×Ac×Int:=if w.open_=false∨w.code_≠0 then(d,w,w.code_)else(Zc d w,Tu d w,Xba d w)
def Xf(d:Aa)(w:Ac):Int:=if(Ap d (Af w.base_)).2≠0 then 4 else if(Ai (Ap d (Af w.base_)).1 (Af w.base_) (Bf (Nj w))).2≠0 then 2 else 0
def T4(d:Aa)(w:Ac):Aa:=if(Ap d (Af w.base_)).2≠0 then(Ap d (Af w.base_)).1 else if(Ai (Ap d (Af w.base_)).1 (Af w.base_) (Bf (Nj w))).2≠0 then(Ai (Ap d (Af w.base_)).1 (Af w.base_) (Bf (Nj w))).1
 else Cc (By (Ai (Ap d (Af w.base_)).1 (Af w.base_) (Bf (Nj w))).1 (Af w.base_)).1
def XdF(d:Aa)(w:Ac):Ac:=if Xf d w=0 then⟨w.version_,w.stride_,w.roll_,w.base_,w.link_,[],24,true,w.code_⟩else⟨w.version_,w.stride_,w.roll_,w.base_,w.link_,w.offsets_,w.end_,w.open_,Xf d w⟩
def Js(w:Ac)(r:ByteArray):ByteArray:=Am w.version_ (w.base_+w.offsets_.length) r
def Po(d:Aa)(w:Ac)(r:ByteArray):Int:=if(Ai d (Af w.base_) (Js w r)).2≠0 then 2 else 0
def Zt(d:Aa)(w:Ac)(r:ByteArray):Aa:=(Ai d (Af w.base_) (Js w r)).1
def Z9(d:Aa)(w:Ac)(r:ByteArray):Ac:=if Po d w r=0 then⟨w.version_,w.stride_,w.roll_,w.base_,w.link_,w.offsets_++[w.end_],w.end_+(Js w r).size,w.open_,w.code_⟩else⟨w.version_,w.stride_,w.roll_,w.base_,w.link_,w.offsets_,w.end_,w.open_,2⟩
def Tw(d:Aa)(w:Ac):Aa×Ac:=if w.open_=true∧w.roll_≤w.offsets_.length then(Zc d w,Tu d w)else(d,w)
def appB(s:Aa×Ac):Aa×Ac:=if s.2.code_=0∧s.2.open_=false then(T4 s.1 s.2,XdF s.1 s.2)else s
def Mb(s:Aa×Ac)(r:ByteArray):Aa×Ac:=if s.2.code_=0 then(Zt s.1 s.2 r,Z9 s.1 s.2 r)else s
def Ah(d:Aa)(w:Ac)(r:ByteArray):Aa×Ac×Int:=if 60<r.size then(d,w,1)else if w.code_≠0 then(d,w,w.code_)else((Mb (appB (Tw d w)) r).1,(Mb (appB (Tw d w)) r).2,(Mb (appB (Tw d w)) r).2.code_)
def Sq(k:Nat)(w:Ac):Prop:=0≤w.base_∧w.base_+w.offsets_.length≤k∧0≤w.end_∧w.end_≤24+84*(k:Int)∧∀x∈w.offsets_,0≤x∧x≤24+84*(k:Int)
theorem Xe2{k:Nat}{w:Ac}(h:Sq k w)(hk:k≤1000000):w.offsets_.length≤1000000∧(∀x∈w.offsets_,wfI x)∧w.end_<9223372036854775808:=by
 obtain⟨h1,h2,h3,h4,h5⟩:=h
 exact⟨by omega,fun x hx=>⟨by have:=h5 x hx;omega,by have:=h5 x hx;omega⟩,by omega⟩
theorem Xb3{k:Nat}{d:Aa}{w:Ac}(h:Sq k w):Sq k (Tu d w):=by
 obtain⟨h1,h2,h3,h4,h5⟩:=h
 unfold Tu
 split
 ·exact⟨by show 0≤w.base_+_;omega,by show w.base_+_+(([]:List Int).length:Int)≤_;simp;omega,Int.le_refl _,by show(0:Int)≤_;omega,fun x hx=>by cases hx⟩
 ·exact⟨h1,h2,h3,h4,h5⟩
theorem Td{k:Nat}{d:Aa}{w:Ac}(h:Sq k w):Sq k (XdF d w):=by
 obtain⟨h1,h2,h3,h4,h5⟩:=h
 unfold XdF
 split
 ·exact⟨h1,by show w.base_+(([]:List Int).length:Int)≤_;simp;omega,by show(0:Int)≤24;omega,by show(24:Int)≤_;omega,fun x hx=>by cases hx⟩
 ·exact⟨h1,h2,h3,h4,h5⟩
theorem XhI{k:Nat}{d:Aa}{w:Ac}{r:ByteArray}(h:Sq k w):Sq (k+1) (Z9 d w r):=by
 obtain⟨h1,h2,h3,h4,h5⟩:=h
 have hf:(Js w r).size≤84:=Bz rfl
 unfold Z9
 split
 ·refine⟨h1,by show w.base_+((w.offsets_++[w.end_]).length:Int)≤_;rw[List.length_append,List.length_singleton];omega,by show 0≤w.end_+_;omega,by show w.end_+_≤_;omega,fun x hx=>?_⟩
  rcases List.mem_append.1 hx with hx|hx
  ·have:=h5 x hx
   omega
  ·rw[List.mem_singleton.1 hx]
   omega
 ·exact⟨h1,by show w.base_+(w.offsets_.length:Int)≤((k+1:Nat):Int);omega,h3,by show w.end_≤_;omega,fun x hx=>by have:=h5 x hx;omega⟩
theorem Yc(b:Int):(Af b).size≤13:=Ea rfl
theorem We{d:Aa}{w:Ac}(h:Hz d):Hz (Zc d w)∧(Zc d w).steps_.length≤d.steps_.length+2:=by
 have h1:=F7 (name:=Af w.base_) (text:=Cs (Nj w) w.offsets_ w.end_) h
 have h2:=L6 (name:=Af w.base_) h1.1
 have a:=h1.2
 have b:=h2.2
 unfold Zc
 split
 ·exact⟨h2.1,by omega⟩
 ·exact⟨h1.1,by omega⟩
theorem Tg{d:Aa}{w:Ac}(h:Hz d)(hl:d.steps_.length<1000000000):Hz (T4 d w)∧(T4 d w).steps_.length≤d.steps_.length+4:=by
 have hz:=Yc w.base_
 have h0:=Gb (name:=Af w.base_) h hl (by omega)
 have h1:=F7 (name:=Af w.base_) (text:=Bf (Nj w)) h0.1
 have h2:=L6 (name:=Af w.base_) h1.1
 have h3:=Mr h2.1
 have a:=h0.2
 have b:=h1.2
 have c:=h2.2
 have e:=h3.2
 unfold T4
 split
 ·exact⟨h0.1,by omega⟩
 ·split
  ·exact⟨h1.1,by omega⟩
  ·exact⟨h3.1,by omega⟩
theorem Xhy{d:Aa}{w:Ac}{r:ByteArray}(h:Hz d):Hz (Zt d w r)∧(Zt d w r).steps_.length≤d.steps_.length+1:=F7 h
theorem XgP{k:Nat}{d:Aa}{w:Ac}{r:ByteArray}(h:Hz d)(hl:d.steps_.length<900000000)(hw:Sq k w):Hz (Ah d w r).1∧(Ah d w r).1.steps_.length≤d.steps_.length+7∧Sq (k+1) (Ah d w r).2.1:=by
 have up:∀{w:Ac},Sq k w→Sq (k+1) w:=fun h=>⟨h.1,by have:=h.2.1;omega,h.2.2.1,by have:=h.2.2.2.1;omega,fun x hx=>by have:=h.2.2.2.2 x hx;omega⟩
 have hA:Hz (Tw d w).1∧(Tw d w).1.steps_.length≤d.steps_.length+2∧Sq k (Tw d w).2:=by
  unfold Tw
  split
  ·have:=We (w:=w) h
   exact⟨this.1,this.2,Xb3 hw⟩
  ·exact⟨h,Nat.le_add_right _ _,hw⟩
 generalize hA0:Tw d w=s at hA
 have hB:Hz (appB s).1∧(appB s).1.steps_.length≤d.steps_.length+6∧Sq k (appB s).2:=by
  unfold appB
  split
  ·have:=Tg (w:=s.2) hA.1 (by omega)
   exact⟨this.1,by have:=this.2;show(T4 s.1 s.2).steps_.length≤_;omega,Td hA.2.2⟩
  ·exact⟨hA.1,by omega,hA.2.2⟩
 generalize hB0:appB s=s2 at hB
 have hC:Hz (Mb s2 r).1∧(Mb s2 r).1.steps_.length≤d.steps_.length+7∧Sq (k+1) (Mb s2 r).2:=by
  unfold Mb
  split
  ·have:=Xhy (w:=s2.2) (r:=r) hB.1
   exact⟨this.1,by have:=this.2;show(Zt s2.1 s2.2 r).steps_.length≤_;omega,XhI hB.2.2⟩
  ·exact⟨hB.1,by omega,up hB.2.2⟩
 unfold Ah
 split
 ·exact⟨h,Nat.le_add_right _ _,up hw⟩
 ·split
  ·exact⟨h,Nat.le_add_right _ _,up hw⟩
  ·rw[hA0,hB0]
   exact hC
variable {onod Aj:List B5} {De Dd Db Dc xwoff Bk Bh Bg Bi:List (List D)} {oent oold An Ao:List Ag} {oste Al:List ByteArray} {oroo onex wver wstr wrol wbas wlin wend wcod As Aq:Int} {woff:List Int} {wope:Bool} {k:Nat}
theorem Xe0{room:Int}(hr:Cq room=⟨onod,oent,oold,oste,oroo,onex⟩)(Eb:onod.map A5=De)(Eg:oent.map Ad=Dd)(Ed:oold.map Ad=Db)(D7:oste.map cS=Dc):Fn Tryz.prog 62 [I room] [] ⟨.agg [.d (.row 3 De),.d (.row 2 Dd),.d (.row 2 Db),.d (.row 1 Dc),I oroo,I onex],[],[]⟩:=by
 refine Fn.go Nk Tryz.func62 fun P hP Q hQ=>?_
 conv=>cbv
 refine .lss (fun h1=>?_) fun h1=>?_
 conv=>cbv
 have e:(⟨[],[],[],[],0,1⟩:Aa)=Cq room:=(by unfold Cq;rw[show max 0 room=0 by omega])
 rw[hr]at e
 simp only[Aa.mk.injEq]at e
 obtain⟨rfl,rfl,rfl,rfl,rfl,rfl⟩:=e
 exact hQ _ _ (.one (.inl rfl) rfl (.agg (.ref rfl rfl (by rw[←Eb];rfl) (.ref rfl rfl (by rw[←Eg];rfl) (.ref rfl rfl (by rw[←Ed];rfl) (.ref rfl rfl (by rw[←D7];rfl) (.d rfl rfl (.d rfl rfl (.nil))))))) .nil))
 conv=>cbv
 have e:(⟨[],[],[],[],room,1⟩:Aa)=Cq room:=(by unfold Cq;rw[show max 0 room=room by omega])
 rw[hr]at e
 simp only[Aa.mk.injEq]at e
 obtain⟨rfl,rfl,rfl,rfl,rfl,rfl⟩:=e
 exact hQ _ _ (.one (.inl rfl) rfl (.agg (.ref rfl rfl (by rw[←Eb];rfl) (.ref rfl rfl (by rw[←Eg];rfl) (.ref rfl rfl (by rw[←Ed];rfl) (.ref rfl rfl (by rw[←D7];rfl) (.d rfl rfl (.d rfl rfl (.nil))))))) .nil))
theorem R4{XhL:Int}{ostr:Int}{obas:Int}{olin:Int}(hwoff:woff.map cI=xwoff)(hr:N0 (⟨wver,wstr,wrol,wbas,wlin,woff,wend,wope,wcod⟩:Ac)=⟨XhL,ostr,obas,olin⟩):Fn Tryz.prog 221 [.agg [I wver,I wstr,I wrol,I wbas,I wlin,.d (.row 1 xwoff),I wend,B wope,I wcod]] [] ⟨.agg [I XhL,I ostr,I obas,I olin],[],[]⟩:=by
 refine Fn.go Nk Tryz.func221 fun P hP Q hQ=>?_
 conv=>cbv
 have e:(⟨wver,wstr,wbas,wlin⟩:Bj)=N0 (⟨wver,wstr,wrol,wbas,wlin,woff,wend,wope,wcod⟩:Ac):=(by rfl)
 rw[hr]at e
 simp only[Bj.mk.injEq]at e
 obtain⟨rfl,rfl,rfl,rfl⟩:=e
 exact hQ _ _ (.one (.inl rfl) rfl (.agg (.d rfl rfl (.d rfl rfl (.d rfl rfl (.d rfl rfl (.nil))))) .nil))
theorem Vl(hwoff:woff.map cI=xwoff)(hn:woff.length≤4000000000):Fn Tryz.prog 142 [.agg [I wver,I wstr,I wrol,I wbas,I wlin,.d (.row 1 xwoff),I wend,B wope,I wcod]] [] ⟨.agg [I wver,I wstr,I wrol,I wbas,I wlin,.d (.row 1 xwoff),I wend,B wope,I wcod],[],[]⟩:=by
 refine Fn.go Nk Tryz.func142 fun P hP Q hQ=>?_
 conv=>cbv
 refine .row0 hwoff fun ac z1 ab aa=>?_
 conv=>cbv
 obtain rfl:z1=xwoff:=by rw[←aa,hwoff]
 exact hQ _ _ (.one (.inl rfl) rfl (.agg (.d rfl rfl (.d rfl rfl (.d rfl rfl (.d rfl rfl (.d rfl rfl (.ref rfl (Ae hwoff) rfl (.d rfl rfl (.d rfl rfl (.d rfl rfl (.nil)))))))))) .nil))
theorem XeO{nw:Nat}(hwoff:woff.map cI=xwoff)(hn:woff.length≤4000000000)(hnw:nw=woff.length):Fn Tryz.prog 142 [.agg [I wver,I wstr,I wrol,I wbas,I wlin,.d (.row 1 xwoff),I wend,B wope,I wcod]] [] ⟨.agg [I wver,I wstr,I wrol,I wbas,I wlin,.ref 0 0 nw,I wend,B wope,I wcod],[.row 1 false xwoff],[]⟩:=by
 refine Fn.goR Nk Tryz.func142 fun P hP Q hQ=>?_
 conv=>cbv
 refine .row0 hwoff fun aa z1 ac ab=>?_
 conv=>cbv
 obtain rfl:z1=xwoff:=by rw[←ab,hwoff]
 obtain rfl:aa=nw:=by omega
 exact hQ _ _ (.of [4] (.inl rfl) rfl rfl rfl rfl)
theorem W4:Setup Tryz.prog ((3000008,E7 Tryz.prog 3000008)::((3000004,E7 Tryz.prog 3000004)::W6)):=(Setup.mark 3000008 (Setup.mark 3000004 Nk))
theorem Yv{F2:List B5}{Co:List (List D)}{Fy:List Ag}{Cn:List (List D)}{F3:List Ag}{Cm:List (List D)}{Fz:List ByteArray}{Cp:List (List D)}{G8:Int}{G9:Int}{obver:Int}{obstr:Int}{obrol:Int}{obbas:Int}{oblin:Int}{oboff:List Int}{xoboff:List (List D)}{obend:Int}{obope:Bool}{obcod:Int}{oc:Int}(Av:Aj.map A5=Bk)(At:An.map Ad=Bh)(Ax:Ao.map Ad=Bg)(Ay:Al.map cS=Bi)(hwoff:woff.map cI=xwoff)(ae:Hz (⟨Aj,An,Ao,Al,As,Aq⟩:Aa))(hst:Al.length<900000000)(hw:Sq k (⟨wver,wstr,wrol,wbas,wlin,woff,wend,wope,wcod⟩:Ac))(hk:k≤1000000)(hr:Cx (⟨Aj,An,Ao,Al,As,Aq⟩:Aa) (⟨wver,wstr,wrol,wbas,wlin,woff,wend,wope,wcod⟩:Ac)=(⟨F2,Fy,F3,Fz,G8,G9⟩,⟨obver,obstr,obrol,obbas,oblin,oboff,obend,obope,obcod⟩,oc))(A7:F2.map A5=Co)(A9:Fy.map Ad=Cn)(A8:F3.map Ad=Cm)(Ba:Fz.map cS=Cp)(hoboff:oboff.map cI=xoboff):Fn Tryz.prog 143 [.agg [.d (.row 3 Bk),.d (.row 2 Bh),.d (.row 2 Bg),.d (.row 1 Bi),I As,I Aq],.agg [I wver,I wstr,I wrol,I wbas,I wlin,.d (.row 1 xwoff),I wend,B wope,I wcod]] [] ⟨.tup [.agg [.d (.row 3 Co),.d (.row 2 Cn),.d (.row 2 Cm),.d (.row 1 Cp),I G8,I G9],.agg [I obver,I obstr,I obrol,I obbas,I oblin,.d (.row 1 xoboff),I obend,B obope,I obcod],I oc],[],[]⟩:=by
 refine Fn.go W4 Tryz.func143 fun P hP Q hQ=>?_
 conv=>cbv
 have bt:Aj.length≤1000000000:=ae.1.1
 have bu:An.length≤1000000000:=ae.1.2.2.1
 have bv:Ao.length≤1000000000:=ae.1.2.2.2.2.1
 have hwf:=Xe2 hw hk
 simp only[]at hwf
 obtain⟨bk,bl,bm,bn,bw⟩:=hw
 simp only[]at bk bl bm bn
 refine .dd hP (Ve Av At Ax Ay (by omega) (by omega) (by omega) (by omega)) ?_
 conv=>cbv
 refine .dd hP (Vl hwoff (by omega)) ?_
 conv=>cbv
 cases wope
 conv=>cbv
 refine .go2 (by kernel_rfl) ?_
 conv=>cbv
 have e:((⟨Aj,An,Ao,Al,As,Aq⟩:Aa),(⟨wver,wstr,wrol,wbas,wlin,woff,wend,false,wcod⟩:Ac),wcod)=Cx (⟨Aj,An,Ao,Al,As,Aq⟩:Aa) (⟨wver,wstr,wrol,wbas,wlin,woff,wend,false,wcod⟩:Ac):=(by unfold Cx;rw[if_pos (.inl rfl)])
 rw[hr]at e
 simp only[Prod.mk.injEq,Aa.mk.injEq,Ac.mk.injEq]at e
 obtain⟨⟨rfl,rfl,rfl,rfl,rfl,rfl⟩,⟨rfl,rfl,rfl,rfl,rfl,rfl,rfl,rfl,rfl⟩,rfl⟩:=e
 refine hQ _ _ ?_
 exact .many (.inl rfl) rfl rfl (.agg (.d rfl (Aw Av A7) (.d rfl (Aw At A9) (.d rfl (Aw Ax A8) (.d rfl (Aw Ay Ba) (.d rfl rfl (.d rfl rfl (.nil))))))) (.agg (.d rfl rfl (.d rfl rfl (.d rfl rfl (.d rfl rfl (.d rfl rfl (.d rfl (Aw hwoff hoboff) (.d rfl rfl (.d rfl rfl (.d rfl rfl (.nil)))))))))) (.d rfl rfl (.nil))))
 conv=>cbv
 refine .neq (fun h3=>?_) fun h3=>?_
 conv=>cbv
 refine .go2 (by kernel_rfl) ?_
 conv=>cbv
 have e:((⟨Aj,An,Ao,Al,As,Aq⟩:Aa),(⟨wver,wstr,wrol,wbas,wlin,woff,wend,true,wcod⟩:Ac),wcod)=Cx (⟨Aj,An,Ao,Al,As,Aq⟩:Aa) (⟨wver,wstr,wrol,wbas,wlin,woff,wend,true,wcod⟩:Ac):=(by unfold Cx;rw[if_pos (.inr (by dsimp only;omega))])
 rw[hr]at e
 simp only[Prod.mk.injEq,Aa.mk.injEq,Ac.mk.injEq]at e
 obtain⟨⟨rfl,rfl,rfl,rfl,rfl,rfl⟩,⟨rfl,rfl,rfl,rfl,rfl,rfl,rfl,rfl,rfl⟩,rfl⟩:=e
 refine hQ _ _ ?_
 exact .many (.inl rfl) rfl rfl (.agg (.d rfl (Aw Av A7) (.d rfl (Aw At A9) (.d rfl (Aw Ax A8) (.d rfl (Aw Ay Ba) (.d rfl rfl (.d rfl rfl (.nil))))))) (.agg (.d rfl rfl (.d rfl rfl (.d rfl rfl (.d rfl rfl (.d rfl rfl (.d rfl (Aw hwoff hoboff) (.d rfl rfl (.d rfl rfl (.d rfl rfl (.nil)))))))))) (.d rfl rfl (.nil))))
 conv=>cbv
 generalize a0:Af wbas=r4
 refine .dd hP (B1 a0) ?_
 conv=>cbv
 generalize a1:Df (⟨Aj,An,Ao,Al,As,Aq⟩:Aa) wbas=r5
 refine .dd hP (Wv Av At Ax Ay ae.1 a1) ?_
 conv=>cbv
 have ht4:=L8 ae.1 a1
 generalize bc:Fu r5=r6
 refine .dd hP (S6 (by omega) bc) ?_
 conv=>cbv
 rcases bd:N0 (⟨wver,wstr,wrol,wbas,wlin,woff,wend,true,wcod⟩:Ac)with⟨a2,a3,a4,a5⟩
 refine .dd hP (R4 hwoff bd) ?_
 conv=>cbv
 generalize a6:Cs (⟨a2,a3,a4,a5⟩:Bj) woff wend=r8
 have zr8:=Sj a6
 refine .dd hP (Ul hwoff (by omega) hwf.2.1 (by omega) a6) ?_
 conv=>cbv
 rcases a7:Ai (⟨Aj,An,Ao,Al,As,Aq⟩:Aa) r4 r8 with⟨⟨aa,ab,ac,ad,an,ao⟩,bo⟩
 generalize af:aa.map A5=be
 generalize ag:ab.map Ad=bf
 generalize ah:ac.map Ad=bg
 generalize ai:ad.map cS=bh
 have aw:=F7 (d:=(⟨Aj,An,Ao,Al,As,Aq⟩:Aa)) (name:=r4) (text:=r8) ae
 rw[a7]at aw
 have bp:=aw.2
 simp only[]at bp
 have haq:Ai (⟨Aj,An,Ao,Al,As,Aq⟩:Aa) (Af wbas) (Cs (Nj (⟨wver,wstr,wrol,wbas,wlin,woff,wend,true,wcod⟩:Ac)) woff wend)=(⟨aa,ab,ac,ad,an,ao⟩,bo):=by rw[a0,show Nj (⟨wver,wstr,wrol,wbas,wlin,woff,wend,true,wcod⟩:Ac)=_ from bd,a6,a7]
 refine .dd hP (Dp Av At Ax Ay ae.1.1 ae.1.2.2.1 ae.1.2.2.2.2.1 (by omega) ae.2.2 ae (by omega) a7 af ag ah ai) ?_
 conv=>cbv
 refine .go2 (by kernel_rfl) ?_
 conv=>cbv
 refine .neq (fun h10=>?_) fun h10=>?_
 conv=>cbv
 have e:((⟨aa,ab,ac,ad,an,ao⟩:Aa),(⟨wver,wstr,wrol,wbas,wlin,woff,wend,true,2⟩:Ac),2)=Cx (⟨Aj,An,Ao,Al,As,Aq⟩:Aa) (⟨wver,wstr,wrol,wbas,wlin,woff,wend,true,wcod⟩:Ac):=(by have hc:Xba (⟨Aj,An,Ao,Al,As,Aq⟩:Aa) (⟨wver,wstr,wrol,wbas,wlin,woff,wend,true,wcod⟩:Ac)=2:=(by unfold Xba;dsimp only;rw[haq];exact if_pos (by dsimp only;omega));unfold Cx;rw[if_neg (by simp;omega)];unfold Zc Tu;rw[hc,if_neg (by decide),if_neg (by decide)];dsimp only;rw[haq])
 rw[hr]at e
 simp only[Prod.mk.injEq,Aa.mk.injEq,Ac.mk.injEq]at e
 obtain⟨⟨rfl,rfl,rfl,rfl,rfl,rfl⟩,⟨rfl,rfl,rfl,rfl,rfl,rfl,rfl,rfl,rfl⟩,rfl⟩:=e
 refine hQ _ _ ?_
 exact .many (.inl rfl) rfl rfl (.agg (.d rfl (Aw af A7) (.d rfl (Aw ag A9) (.d rfl (Aw ah A8) (.d rfl (Aw ai Ba) (.d rfl rfl (.d rfl rfl (.nil))))))) (.agg (.d rfl rfl (.d rfl rfl (.d rfl rfl (.d rfl rfl (.d rfl rfl (.d rfl (Aw hwoff hoboff) (.d rfl rfl (.d rfl rfl (.d rfl rfl (.nil)))))))))) (.d rfl rfl (.nil))))
 conv=>cbv
 rcases az:By (⟨aa,ab,ac,ad,an,ao⟩:Aa) r4 with⟨⟨ap,aq,ar,au,ax,ay⟩,bs⟩
 generalize aj:ap.map A5=a8
 generalize ak:aq.map Ad=a9
 generalize al:ar.map Ad=ba
 generalize am:au.map cS=bb
 refine .dd hP (Pb af ag ah ai aw.1.1.1 aw.1.1.2.2.1 aw.1.1.2.2.2.2.1 (by omega) aw.1.2.2 aw.1 az aj ak al am) ?_
 conv=>cbv
 refine .go hwoff fun bz bi=>?_
 conv=>cbv
 refine .add fun bq bj=>?_
 conv=>cbv
 have e:((⟨ap,aq,ar,au,ax,ay⟩:Aa),(⟨wver,wstr,wrol,bq,r6,[],0,false,wcod⟩:Ac),0)=Cx (⟨Aj,An,Ao,Al,As,Aq⟩:Aa) (⟨wver,wstr,wrol,wbas,wlin,woff,wend,true,wcod⟩:Ac):=(by have hc:Xba (⟨Aj,An,Ao,Al,As,Aq⟩:Aa) (⟨wver,wstr,wrol,wbas,wlin,woff,wend,true,wcod⟩:Ac)=0:=(by unfold Xba;dsimp only;rw[haq];exact if_neg (by dsimp only;omega));unfold Cx;rw[if_neg (by simp;omega)];unfold Zc Tu;rw[hc,if_pos rfl,if_pos rfl];dsimp only;rw[haq];dsimp only;rw[a0,az,a1,bc,bj,bi])
 rw[hr]at e
 simp only[Prod.mk.injEq,Aa.mk.injEq,Ac.mk.injEq]at e
 obtain⟨⟨rfl,rfl,rfl,rfl,rfl,rfl⟩,⟨rfl,rfl,rfl,rfl,rfl,rfl,rfl,rfl,rfl⟩,rfl⟩:=e
 refine hQ _ _ ?_
 exact .many (.inl rfl) rfl rfl (.agg (.d rfl (Aw aj A7) (.d rfl (Aw ak A9) (.d rfl (Aw al A8) (.d rfl (Aw am Ba) (.d rfl rfl (.d rfl rfl (.nil))))))) (.agg (.d rfl rfl (.d rfl rfl (.d rfl rfl (.d rfl rfl (.d rfl rfl (.ref rfl rfl (by rw[←hoboff];rfl) (.d rfl rfl (.d rfl rfl (.d rfl rfl (.nil)))))))))) (.d rfl rfl (.nil))))
theorem Uu(Av:Aj.map A5=Bk)(At:An.map Ad=Bh)(Ax:Ao.map Ad=Bg)(Ay:Al.map cS=Bi)(hwoff:woff.map cI=xwoff)(ak:Hz (⟨Aj,An,Ao,Al,As,Aq⟩:Aa))(hst:Al.length<900000000)(hw:Sq k (⟨wver,wstr,wrol,wbas,wlin,woff,wend,wope,wcod⟩:Ac))(hk:k≤1000000)(hc:Xf (⟨Aj,An,Ao,Al,As,Aq⟩:Aa) (⟨wver,wstr,wrol,wbas,wlin,woff,wend,wope,wcod⟩:Ac)=0)(hr:T4 (⟨Aj,An,Ao,Al,As,Aq⟩:Aa) (⟨wver,wstr,wrol,wbas,wlin,woff,wend,wope,wcod⟩:Ac)=⟨onod,oent,oold,oste,oroo,onex⟩)(Eb:onod.map A5=De)(Eg:oent.map Ad=Dd)(Ed:oold.map Ad=Db)(D7:oste.map cS=Dc):Fn Tryz.prog 144 [.agg [.d (.row 3 Bk),.d (.row 2 Bh),.d (.row 2 Bg),.d (.row 1 Bi),I As,I Aq],.agg [I wver,I wstr,I wrol,I wbas,I wlin,.d (.row 1 xwoff),I wend,B wope,I wcod]] [] ⟨.tup [.agg [.d (.row 3 De),.d (.row 2 Dd),.d (.row 2 Db),.d (.row 1 Dc),I oroo,I onex],.agg [I wver,I wstr,I wrol,I wbas,I wlin,.ref 0 0 0,I 24,B true,I wcod]],[.row 1 false []],[]⟩:=by
 refine Fn.goR Nk Tryz.func144 fun P hP Q hQ=>?_
 conv=>cbv
 have cp:Aj.length≤1000000000:=ak.1.1
 have cq:An.length≤1000000000:=ak.1.2.2.1
 have cr:Ao.length≤1000000000:=ak.1.2.2.2.2.1
 have hzs:=Yc wbas
 generalize bd:Af wbas=r1
 refine .dd hP (B1 bd) ?_
 conv=>cbv
 rcases bo:Ap (⟨Aj,An,Ao,Al,As,Aq⟩:Aa) r1 with⟨⟨aa,ab,ac,ad,ae,af⟩,cj⟩
 generalize an:aa.map A5=b2
 generalize ao:ab.map Ad=b3
 generalize ap:ac.map Ad=b4
 generalize aq:ad.map cS=b5
 rw[bd]at hzs
 refine .dd hP (P8 Av At Ax Ay ak.1.1 ak.1.2.2.1 ak.1.2.2.2.2.1 (by omega) ak.2.2 ak (by omega) bo an ao ap aq) ?_
 conv=>cbv
 have ar:=Gb (d:=(⟨Aj,An,Ao,Al,As,Aq⟩:Aa)) (name:=r1) ak (by show Al.length<_;omega) (by have:=Yc wbas;rw[bd]at this;omega)
 rw[bo]at ar
 have ck:=ar.2
 simp only[]at ck
 have hca:Ap (⟨Aj,An,Ao,Al,As,Aq⟩:Aa) (Af wbas)=((⟨aa,ab,ac,ad,ae,af⟩:Aa),cj):=by rw[bd];exact bo
 refine .neq (fun h3=>?_) fun h3=>?_
 conv=>cbv
 have bp:Xf (⟨Aj,An,Ao,Al,As,Aq⟩:Aa) (⟨wver,wstr,wrol,wbas,wlin,woff,wend,wope,wcod⟩:Ac)=4:=by unfold Xf;dsimp only;rw[hca];exact if_pos h3
 rw[bp]at hc
 cases hc
 conv=>cbv
 rcases b6:N0 (⟨wver,wstr,wrol,wbas,wlin,woff,wend,wope,wcod⟩:Ac)with⟨bq,bs,bt,bu⟩
 refine .dd hP (R4 hwoff b6) ?_
 conv=>cbv
 generalize bv:Bf (⟨bq,bs,bt,bu⟩:Bj)=r5
 have zr5:=Fr bv
 refine .dd hP (J6 bv) ?_
 conv=>cbv
 rcases bw:Ai (⟨aa,ab,ac,ad,ae,af⟩:Aa) r1 r5 with⟨⟨ag,ah,ai,aj,al,am⟩,cm⟩
 generalize au:ag.map A5=b7
 generalize aw:ah.map Ad=b8
 generalize ax:ai.map Ad=b9
 generalize ay:aj.map cS=ca
 refine .dd hP (Dp an ao ap aq ar.1.1.1 ar.1.1.2.2.1 ar.1.1.2.2.2.2.1 (by omega) ar.1.2.2 ar.1 (by omega) bw au aw ax ay) ?_
 conv=>cbv
 have az:=F7 (d:=(⟨aa,ab,ac,ad,ae,af⟩:Aa)) (name:=r1) (text:=r5) ar.1
 rw[bw]at az
 have cn:=az.2
 simp only[]at cn
 have haa:Ai (⟨aa,ab,ac,ad,ae,af⟩:Aa) (Af wbas) (Bf (Nj (⟨wver,wstr,wrol,wbas,wlin,woff,wend,wope,wcod⟩:Ac)))=((⟨ag,ah,ai,aj,al,am⟩:Aa),cm):=by rw[bd,show Nj (⟨wver,wstr,wrol,wbas,wlin,woff,wend,wope,wcod⟩:Ac)=_ from b6,bv];exact bw
 refine .neq (fun h7=>?_) fun h7=>?_
 conv=>cbv
 have bp:Xf (⟨Aj,An,Ao,Al,As,Aq⟩:Aa) (⟨wver,wstr,wrol,wbas,wlin,woff,wend,wope,wcod⟩:Ac)=2:=by unfold Xf;dsimp only;rw[hca,if_neg (by dsimp only;omega),haa];exact if_pos h7
 rw[bp]at hc
 cases hc
 conv=>cbv
 rcases bz:By (⟨ag,ah,ai,aj,al,am⟩:Aa) r1 with⟨⟨a5,a6,a7,a8,bi,bj⟩,ct⟩
 generalize a0:a5.map A5=cc
 generalize a1:a6.map Ad=cd
 generalize a2:a7.map Ad=ce
 generalize a3:a8.map cS=cf
 refine .dd hP (Pb au aw ax ay az.1.1.1 az.1.1.2.2.1 az.1.1.2.2.2.2.1 (by omega) az.1.2.2 az.1 bz a0 a1 a2 a3) ?_
 conv=>cbv
 have a4:=L6 (d:=(⟨ag,ah,ai,aj,al,am⟩:Aa)) (name:=r1) az.1
 rw[bz]at a4
 have co:=a4.2
 simp only[]at co
 rcases cg:Cc (⟨a5,a6,a7,a8,bi,bj⟩:Aa)with⟨be,bf,bg,bh,b0,b1⟩
 generalize a9:be.map A5=bk
 generalize ba:bf.map Ad=bl
 generalize bb:bg.map Ad=bm
 generalize bc:bh.map cS=bn
 refine .dd hP (S3 a0 a1 a2 a3 a4.1.1.1 a4.1.1.2.2.1 a4.1.1.2.2.2.2.1 (by omega) a4.1.2.2 a4.1 cg a9 ba bb bc) ?_
 conv=>cbv
 have e:T4 (⟨Aj,An,Ao,Al,As,Aq⟩:Aa) (⟨wver,wstr,wrol,wbas,wlin,woff,wend,wope,wcod⟩:Ac)=(⟨be,bf,bg,bh,b0,b1⟩:Aa):=(by unfold T4;dsimp only;rw[hca,if_neg (by dsimp only;omega),haa,if_neg (by dsimp only;omega)];dsimp only;rw[bd,bz];exact cg)
 rw[e]at hr
 simp only[Aa.mk.injEq]at hr
 obtain⟨rfl,rfl,rfl,rfl,rfl,rfl⟩:=hr
 obtain rfl:bk=De:=by rw[←a9,Eb]
 obtain rfl:bl=Dd:=by rw[←ba,Eg]
 obtain rfl:bm=Db:=by rw[←bb,Ed]
 obtain rfl:bn=Dc:=by rw[←bc,D7]
 exact hQ _ _ (.of [9] (.inl rfl) rfl rfl rfl rfl)
theorem Vg{c:Int}(Av:Aj.map A5=Bk)(At:An.map Ad=Bh)(Ax:Ao.map Ad=Bg)(Ay:Al.map cS=Bi)(hwoff:woff.map cI=xwoff)(ax:Hz (⟨Aj,An,Ao,Al,As,Aq⟩:Aa))(hst:Al.length<900000000)(hw:Sq k (⟨wver,wstr,wrol,wbas,wlin,woff,wend,wope,wcod⟩:Ac))(hk:k≤1000000)(hc:Xf (⟨Aj,An,Ao,Al,As,Aq⟩:Aa) (⟨wver,wstr,wrol,wbas,wlin,woff,wend,wope,wcod⟩:Ac)=c)(hne:c≠0)(hr:T4 (⟨Aj,An,Ao,Al,As,Aq⟩:Aa) (⟨wver,wstr,wrol,wbas,wlin,woff,wend,wope,wcod⟩:Ac)=⟨onod,oent,oold,oste,oroo,onex⟩)(Eb:onod.map A5=De)(Eg:oent.map Ad=Dd)(Ed:oold.map Ad=Db)(D7:oste.map cS=Dc):Fn Tryz.prog 144 [.agg [.d (.row 3 Bk),.d (.row 2 Bh),.d (.row 2 Bg),.d (.row 1 Bi),I As,I Aq],.agg [I wver,I wstr,I wrol,I wbas,I wlin,.d (.row 1 xwoff),I wend,B wope,I wcod]] [] ⟨.tup [.agg [.d (.row 3 De),.d (.row 2 Dd),.d (.row 2 Db),.d (.row 1 Dc),I oroo,I onex],.agg [I wver,I wstr,I wrol,I wbas,I wlin,.d (.row 1 xwoff),I wend,B wope,I c]],[],[]⟩:=by
 refine Fn.go Nk Tryz.func144 fun P hP Q hQ=>?_
 conv=>cbv
 have cp:Aj.length≤1000000000:=ax.1.1
 have cq:An.length≤1000000000:=ax.1.2.2.1
 have cr:Ao.length≤1000000000:=ax.1.2.2.2.2.1
 have hzs:=Yc wbas
 generalize a9:Af wbas=r1
 refine .dd hP (B1 a9) ?_
 conv=>cbv
 rcases bp:Ap (⟨Aj,An,Ao,Al,As,Aq⟩:Aa) r1 with⟨⟨aa,ab,ac,ad,ae,af⟩,ce⟩
 generalize am:aa.map A5=ba
 generalize an:ab.map Ad=bb
 generalize ao:ac.map Ad=bc
 generalize ap:ad.map cS=bd
 rw[a9]at hzs
 refine .dd hP (P8 Av At Ax Ay ax.1.1 ax.1.2.2.1 ax.1.2.2.2.2.1 (by omega) ax.2.2 ax (by omega) bp am an ao ap) ?_
 conv=>cbv
 have ay:=Gb (d:=(⟨Aj,An,Ao,Al,As,Aq⟩:Aa)) (name:=r1) ax (by show Al.length<_;omega) (by have:=Yc wbas;rw[a9]at this;omega)
 rw[bp]at ay
 have cf:=ay.2
 simp only[]at cf
 have hca:Ap (⟨Aj,An,Ao,Al,As,Aq⟩:Aa) (Af wbas)=((⟨aa,ab,ac,ad,ae,af⟩:Aa),ce):=by rw[a9];exact bp
 refine .neq (fun h3=>?_) fun h3=>?_
 conv=>cbv
 have be:Xf (⟨Aj,An,Ao,Al,As,Aq⟩:Aa) (⟨wver,wstr,wrol,wbas,wlin,woff,wend,wope,wcod⟩:Ac)=4:=by unfold Xf;dsimp only;rw[hca];exact if_pos h3
 obtain rfl:4=c:=by rw[←be,hc]
 have e:T4 (⟨Aj,An,Ao,Al,As,Aq⟩:Aa) (⟨wver,wstr,wrol,wbas,wlin,woff,wend,wope,wcod⟩:Ac)=(⟨aa,ab,ac,ad,ae,af⟩:Aa):=(by unfold T4;dsimp only;rw[hca,if_pos h3])
 rw[e]at hr
 simp only[Aa.mk.injEq]at hr
 obtain⟨rfl,rfl,rfl,rfl,rfl,rfl⟩:=hr
 obtain rfl:ba=De:=by rw[←am,Eb]
 obtain rfl:bb=Dd:=by rw[←an,Eg]
 obtain rfl:bc=Db:=by rw[←ao,Ed]
 obtain rfl:bd=Dc:=by rw[←ap,D7]
 exact hQ _ _ (.many (.inl rfl) rfl rfl (.agg (.d rfl rfl (.d rfl rfl (.d rfl rfl (.d rfl rfl (.d rfl rfl (.d rfl rfl .nil)))))) (.agg (.d rfl rfl (.d rfl rfl (.d rfl rfl (.d rfl rfl (.d rfl rfl (.d rfl rfl (.d rfl rfl (.d rfl rfl (.d rfl rfl .nil))))))))) .nil)))
 conv=>cbv
 rcases b3:N0 (⟨wver,wstr,wrol,wbas,wlin,woff,wend,wope,wcod⟩:Ac)with⟨bq,bs,bt,bu⟩
 refine .dd hP (R4 hwoff b3) ?_
 conv=>cbv
 generalize bv:Bf (⟨bq,bs,bt,bu⟩:Bj)=r5
 have zr5:=Fr bv
 refine .dd hP (J6 bv) ?_
 conv=>cbv
 rcases bw:Ai (⟨aa,ab,ac,ad,ae,af⟩:Aa) r1 r5 with⟨⟨ag,ah,ai,aj,ak,al⟩,cg⟩
 generalize aq:ag.map A5=bf
 generalize ar:ah.map Ad=bg
 generalize au:ai.map Ad=bh
 generalize aw:aj.map cS=bi
 refine .dd hP (Dp am an ao ap ay.1.1.1 ay.1.1.2.2.1 ay.1.1.2.2.2.2.1 (by omega) ay.1.2.2 ay.1 (by omega) bw aq ar au aw) ?_
 conv=>cbv
 have az:=F7 (d:=(⟨aa,ab,ac,ad,ae,af⟩:Aa)) (name:=r1) (text:=r5) ay.1
 rw[bw]at az
 have cj:=az.2
 simp only[]at cj
 have haa:Ai (⟨aa,ab,ac,ad,ae,af⟩:Aa) (Af wbas) (Bf (Nj (⟨wver,wstr,wrol,wbas,wlin,woff,wend,wope,wcod⟩:Ac)))=((⟨ag,ah,ai,aj,ak,al⟩:Aa),cg):=by rw[a9,show Nj (⟨wver,wstr,wrol,wbas,wlin,woff,wend,wope,wcod⟩:Ac)=_ from b3,bv];exact bw
 refine .neq (fun h7=>?_) fun h7=>?_
 conv=>cbv
 have be:Xf (⟨Aj,An,Ao,Al,As,Aq⟩:Aa) (⟨wver,wstr,wrol,wbas,wlin,woff,wend,wope,wcod⟩:Ac)=2:=by unfold Xf;dsimp only;rw[hca,if_neg (by dsimp only;omega),haa];exact if_pos h7
 obtain rfl:2=c:=by rw[←be,hc]
 have e:T4 (⟨Aj,An,Ao,Al,As,Aq⟩:Aa) (⟨wver,wstr,wrol,wbas,wlin,woff,wend,wope,wcod⟩:Ac)=(⟨ag,ah,ai,aj,ak,al⟩:Aa):=(by unfold T4;dsimp only;rw[hca,if_neg (by dsimp only;omega),haa,if_pos h7])
 rw[e]at hr
 simp only[Aa.mk.injEq]at hr
 obtain⟨rfl,rfl,rfl,rfl,rfl,rfl⟩:=hr
 obtain rfl:bf=De:=by rw[←aq,Eb]
 obtain rfl:bg=Dd:=by rw[←ar,Eg]
 obtain rfl:bh=Db:=by rw[←au,Ed]
 obtain rfl:bi=Dc:=by rw[←aw,D7]
 exact hQ _ _ (.many (.inl rfl) rfl rfl (.agg (.d rfl rfl (.d rfl rfl (.d rfl rfl (.d rfl rfl (.d rfl rfl (.d rfl rfl .nil)))))) (.agg (.d rfl rfl (.d rfl rfl (.d rfl rfl (.d rfl rfl (.d rfl rfl (.d rfl rfl (.d rfl rfl (.d rfl rfl (.d rfl rfl .nil))))))))) .nil)))
 conv=>cbv
 rcases b4:By (⟨ag,ah,ai,aj,ak,al⟩:Aa) r1 with⟨⟨a5,a6,a7,a8,bj,bk⟩,ct⟩
 generalize a0:a5.map A5=b5
 generalize a1:a6.map Ad=b6
 generalize a2:a7.map Ad=b7
 generalize a3:a8.map cS=b8
 refine .dd hP (Pb aq ar au aw az.1.1.1 az.1.1.2.2.1 az.1.1.2.2.2.2.1 (by omega) az.1.2.2 az.1 b4 a0 a1 a2 a3) ?_
 conv=>cbv
 have a4:=L6 (d:=(⟨ag,ah,ai,aj,ak,al⟩:Aa)) (name:=r1) az.1
 rw[b4]at a4
 have ck:=a4.2
 simp only[]at ck
 rcases cm:Cc (⟨a5,a6,a7,a8,bj,bk⟩:Aa)with⟨bz,b0,b1,b2,cn,co⟩
 generalize bl:bz.map A5=b9
 generalize bm:b0.map Ad=ca
 generalize bn:b1.map Ad=cc
 generalize bo:b2.map cS=cd
 refine .dd hP (S3 a0 a1 a2 a3 a4.1.1.1 a4.1.1.2.2.1 a4.1.1.2.2.2.2.1 (by omega) a4.1.2.2 a4.1 cm bl bm bn bo) ?_
 conv=>cbv
 have be:Xf (⟨Aj,An,Ao,Al,As,Aq⟩:Aa) (⟨wver,wstr,wrol,wbas,wlin,woff,wend,wope,wcod⟩:Ac)=0:=by unfold Xf;dsimp only;rw[hca,if_neg (by dsimp only;omega),haa];exact if_neg (by dsimp only;omega)
 exact absurd (hc.symm.trans be) hne
end
end Go.Proofs.YtjbmpmmffjgedaaGreatDoor.Ab
