/- What functions of the program come to, for all arguments in the given bounds. -/
import Derived.Test.YtjbmpmmffjgedaaGreatDoorToch06h
import Derived.Test.YtjbmpmmffjgedaaGreatDoorToZ10
set_option linter.unusedVariables false
set_option linter.unusedSimpArgs false
namespace Go.Proofs.YtjbmpmmffjgedaaGreatDoor.Ab
section
open Go Go.Proofs
set_option maxRecDepth 20000
set_option maxHeartbeats 4000000
def Xhx:List (Nat×TyRow):=[ty3,ty5,ty9,XkD,Xfz,We,Z1,XaA,Wn]
theorem Xf2:Bl Tryz.prog Xhx:=Bl.of (by kernel_rfl)
theorem Jd:Setup Tryz.prog Xhx:=⟨Xf2,mixed⟩
variable {l o Aj Am Kh Ke:List Ac} {xl xo Bk Bg Bf Bi Di De Df Dd:List (List D)} {name:ByteArray} {no noanod noaent noaold noaste:Nat} {ob Ao An Pw Pt:Int} {Ak Kf:List Cj} {Al Kg:List ByteArray}
theorem Jo(hl:l.map Ad=xl)(hn:l.length≤4000000000)(hr:Cl l name=o)(ho:o.map Ad=xo)(hno:no=o.length):Fn Tryz.prog 266 [.d (.row 2 xl),S name] [] ⟨.ref 0 0 no,[.row 2 false xo],[]⟩:=by
 refine Fn.goR Jd Tryz.func266 fun P hP Q hQ=>?_
 conv=>cbv
 refine LoopW.lp (κ:=Int×(List (List D))×Nat) Jd hP [1] [0,1] (fun(i6,aa,ab)=>[(5,.ref 2 0 ab),(6,I i6)]) (fun(i6,aa,ab)=>[(2,.row 2 false aa)])
  (fun(i6,aa,ab)=>∃(w2:List Ac),w2.map Ad=aa∧ab=w2.length∧0≤i6∧i6≤l.length∧w2=(l.take i6.toNat).filter (fun x=>!decide (x.name_=name))∧w2.length≤i6)
  (fun(i6,aa,ab)=>(l.length - i6).toNat) (0,[],0) ⟨[],rfl,rfl,by omega,by omega,rfl,by simp⟩ ⟨rfl,rfl,trivial⟩ rfl ?_
 rintro⟨i6,aa,ab⟩ J ⟨w2,ad,al,h0,h1,hx,hxl⟩ hJ
 conv=>cbv
 refine .go hl fun v1 ap=>?_
 conv=>cbv
 refine .lss (fun h2=>?_) fun h2=>?_
 conv=>cbv
 refine .go i6.toNat hl fun ac ⟨ah,am⟩ ae=>?_
 conv=>cbv
 refine .neq (fun h4=>?_) fun h4=>?_
 conv=>cbv
 refine .go i6.toNat hl fun an ⟨af,ag⟩ ai=>?_
 conv=>cbv
 refine .one (⟨af,ag⟩:Ac) ad rfl fun aj z6 ao ak=>?_
 conv=>cbv
 refine .add fun v7 aq=>?_
 conv=>cbv
 exact .go [4] (v7,z6,aj) (hJ _ ⟨_,ak,Cv,by omega,by omega,by rw[show v7.toNat=i6.toNat+1 by omega,C7 ac,←hx,←ae];simp only[];rw[decide_eq_false h4,ai,←ae];rfl,by rw[List.length_append,List.length_singleton];omega⟩ mlt)
 conv=>cbv
 refine .add fun v5 ar=>?_
 conv=>cbv
 exact .go [2] (v5,aa,ab) (hJ _ ⟨_,ad,Cv,by omega,by omega,by rw[show v5.toNat=i6.toNat+1 by omega,C7 ac,←hx,←ae];simp only[];rw[decide_eq_true h4];simp,by omega⟩ mlt)
 conv=>cbv
 have e:w2=Cl l name:=(by unfold Cl;rw[hx,List.take_of_length_le (by omega)])
 rw[hr]at e
 obtain rfl:=e
 obtain rfl:aa=xo:=by rw[←ad,←ho]
 obtain rfl:ab=no:=by first|omega|(rw[hno];simp;done)|(rw[hno];simp;omega)
 exact hQ _ _ (.of [2] (.inl rfl) rfl rfl rfl rfl)
theorem Gz{enam:ByteArray}{eid:Int}(hl:l.map Ad=xl)(hn:l.length≤4000000000)(hr:Cn l (⟨enam,eid⟩:Ac)=o)(ho:o.map Ad=xo)(hno:no=o.length):Fn Tryz.prog 267 [.d (.row 2 xl),.agg [S enam,I eid]] [] ⟨.ref 0 0 no,[.row 2 false xo],[]⟩:=by
 refine Fn.goR Jd Tryz.func267 fun P hP Q hQ=>?_
 conv=>cbv
 refine LoopW.lp (κ:=Bool×Int×(List (List D))×Nat) Jd hP [2] [0,3] (fun(b6,i7,ac,ad)=>[(5,.ref 3 0 ad),(6,B b6),(7,I i7)]) (fun(b6,i7,ac,ad)=>[(3,.row 2 false ac)])
  (fun(b6,i7,ac,ad)=>∃(w3:List Ac),w3.map Ad=ac∧ad=w3.length∧0≤i7∧i7≤l.length∧w3++Ra (⟨enam,eid⟩:Ac) (l.drop i7.toNat) b6=Cn l (⟨enam,eid⟩:Ac)∧w3.length≤2*i7)
  (fun(b6,i7,ac,ad)=>(l.length - i7).toNat) (false,0,[],0) ⟨[],rfl,rfl,by omega,by omega,rfl,by simp⟩ ⟨rfl,rfl,rfl,trivial⟩ rfl ?_
 rintro⟨b6,i7,ac,ad⟩ J ⟨w3,ag,bf,h0,h1,hx,hxl⟩ hJ
 conv=>cbv
 refine .go hl fun v1 bp=>?_
 conv=>cbv
 refine .lss (fun h2=>?_) fun h2=>?_
 conv=>cbv
 cases b6
 conv=>cbv
 refine .go i7.toNat hl fun aq ⟨ae,ak⟩ ab=>?_
 conv=>cbv
 refine .geq fun b4 al=>?_
 conv=>cbv
 cases b4
 conv=>cbv
 refine .go i7.toNat hl fun ar ⟨aa,af⟩ am=>?_
 conv=>cbv
 obtain⟨rfl,rfl⟩:aa=ae∧af=ak:=by have:=am.trans ab.symm;rw[Ac.mk.injEq]at this;exact this
 refine .neq (fun h6=>?_) fun h6=>?_
 conv=>cbv
 refine .go i7.toNat hl fun bg ⟨ah,an⟩ ay=>?_
 conv=>cbv
 obtain⟨rfl,rfl⟩:ah=aa∧an=af:=by have:=ay.trans am.symm;rw[Ac.mk.injEq]at this;exact this
 refine .one (⟨ah,an⟩:Ac) ag rfl fun az z8 bh a1=>?_
 conv=>cbv
 refine .add fun v9 bq=>?_
 conv=>cbv
 have hlt:ltB ah enam=true:=by simpa using al
 have hps:=G4 (show i7.toNat<l.length by omega) ab hx
 simp only[]at hps
 rw[hlt,if_neg (by simp),if_neg h6,List.nil_append,←List.append_assoc]at hps
 exact .go [5] (false,v9,z8,az) (hJ _ ⟨_,a1,Cv,by omega,by omega,by rw[show v9.toNat=i7.toNat+1 by omega];exact hps,by first|omega|(simp;omega)⟩ mlt)
 conv=>cbv
 refine .add fun v7 a2=>?_
 conv=>cbv
 have hlt:ltB aa enam=true:=by simpa using al
 have hps:=G4 (show i7.toNat<l.length by omega) ab hx
 simp only[]at hps
 rw[hlt,if_neg (by simp),if_pos h6,List.nil_append,List.nil_append]at hps
 exact .go [3] (false,v7,ac,ad) (hJ _ ⟨_,ag,Cv,by omega,by omega,by rw[show v7.toNat=i7.toNat+1 by omega];exact hps,by first|omega|(simp;omega)⟩ mlt)
 conv=>cbv
 refine .one (⟨enam,eid⟩:Ac) ag rfl fun a6 z5 bi au=>?_
 conv=>cbv
 refine .go i7.toNat hl fun bj ⟨ai,ao⟩ aw=>?_
 conv=>cbv
 obtain⟨rfl,rfl⟩:ai=ae∧ao=ak:=by have:=aw.trans ab.symm;rw[Ac.mk.injEq]at this;exact this
 refine .neq (fun h7=>?_) fun h7=>?_
 conv=>cbv
 refine .go i7.toNat hl fun bk ⟨aj,ap⟩ a7=>?_
 conv=>cbv
 obtain⟨rfl,rfl⟩:aj=ai∧ap=ao:=by have:=a7.trans aw.symm;rw[Ac.mk.injEq]at this;exact this
 refine .one (⟨aj,ap⟩:Ac) au rfl fun a8 z9 bl ba=>?_
 conv=>cbv
 refine .add fun ax bm=>?_
 conv=>cbv
 have hlt:ltB aj enam=false:=by simpa using al
 have hps:=G4 (show i7.toNat<l.length by omega) ab hx
 simp only[]at hps
 rw[hlt,if_pos (by simp),if_neg h7,←List.append_assoc,←List.append_assoc]at hps
 exact .go [7] (true,ax,z9,a8) (hJ _ ⟨_,ba,Cv,by omega,by omega,by rw[show ax.toNat=i7.toNat+1 by omega];exact hps,by first|omega|(simp;omega)⟩ mlt)
 conv=>cbv
 refine .add fun v8 bt=>?_
 conv=>cbv
 have hlt:ltB ai enam=false:=by simpa using al
 have hps:=G4 (show i7.toNat<l.length by omega) ab hx
 simp only[]at hps
 rw[hlt,if_pos (by simp),if_pos h7,List.nil_append,←List.append_assoc]at hps
 exact .go [5] (true,v8,z5,a6) (hJ _ ⟨_,au,Cv,by omega,by omega,by rw[show v8.toNat=i7.toNat+1 by omega];exact hps,by first|omega|(simp;omega)⟩ mlt)
 conv=>cbv
 refine .go i7.toNat hl fun aq ⟨ae,ak⟩ ab=>?_
 conv=>cbv
 refine .neq (fun h4=>?_) fun h4=>?_
 conv=>cbv
 refine .go i7.toNat hl fun ar ⟨aa,af⟩ am=>?_
 conv=>cbv
 obtain⟨rfl,rfl⟩:aa=ae∧af=ak:=by have:=am.trans ab.symm;rw[Ac.mk.injEq]at this;exact this
 refine .one (⟨aa,af⟩:Ac) ag rfl fun bb z6 bn bc=>?_
 conv=>cbv
 refine .add fun v7 a2=>?_
 conv=>cbv
 have hps:=G4 (show i7.toNat<l.length by omega) ab hx
 simp only[]at hps
 rw[if_neg (by simp),if_neg h4,List.nil_append,←List.append_assoc]at hps
 exact .go [5] (true,v7,z6,bb) (hJ _ ⟨_,bc,Cv,by omega,by omega,by rw[show v7.toNat=i7.toNat+1 by omega];exact hps,by first|omega|(simp;omega)⟩ mlt)
 conv=>cbv
 refine .add fun v5 bu=>?_
 conv=>cbv
 have hps:=G4 (show i7.toNat<l.length by omega) ab hx
 simp only[]at hps
 rw[if_neg (by simp),if_pos h4,List.nil_append,List.nil_append]at hps
 exact .go [3] (true,v5,ac,ad) (hJ _ ⟨_,ag,Cv,by omega,by omega,by rw[show v5.toNat=i7.toNat+1 by omega];exact hps,by first|omega|(simp;omega)⟩ mlt)
 conv=>cbv
 cases b6
 conv=>cbv
 refine .one (⟨enam,eid⟩:Ac) ag rfl fun bd z3 bo be=>?_
 conv=>cbv
 have e:(w3++[(⟨enam,eid⟩:Ac)])=Cn l (⟨enam,eid⟩:Ac):=(by rw[List.drop_of_length_le (by omega)]at hx;exact hx)
 rw[hr]at e
 obtain rfl:=e
 obtain rfl:z3=xo:=by rw[←be,←ho]
 obtain rfl:bd=no:=by first|omega|(rw[hno];simp;done)|(rw[hno];simp;omega)
 exact hQ _ _ (.of [5] (.inl rfl) rfl rfl rfl rfl)
 conv=>cbv
 have e:w3=Cn l (⟨enam,eid⟩:Ac):=(by rw[List.drop_of_length_le (by omega)]at hx;simpa[Ra]using hx)
 rw[hr]at e
 obtain rfl:=e
 obtain rfl:ac=xo:=by rw[←ag,←ho]
 obtain rfl:ad=no:=by first|omega|(rw[hno];simp;done)|(rw[hno];simp;omega)
 exact hQ _ _ (.of [3] (.inl rfl) rfl rfl rfl rfl)
theorem Xbn{old:List Ac}{xold:List (List D)}{steps:List ByteArray}{xsteps:List (List D)}{n:Int}{oa:List Ac}{xoa:List (List D)}{ob:Bool}{noa:Nat}(hold:old.map Ad=xold)(hsteps:steps.map cS=xsteps)(hol:old.length≤1000000000)(hsl:steps.length≤1000000000)(hss:okS steps)(hr:Co old steps n=(oa,ob))(hoa:oa.map Ad=xoa)(hnoa:noa=oa.length):Fn Tryz.prog 212 [.d (.row 2 xold),.d (.row 1 xsteps),I n] [] ⟨.tup [.ref 0 0 noa,B ob],[.row 2 false xoa],[]⟩:=by
 refine Fn.goR Jd Tryz.func212 fun P hP Q hQ=>?_
 conv=>cbv
 refine .row0 hold fun ct z1 dc cu=>?_
 conv=>cbv
 refine .go hsteps fun v2 cv=>?_
 conv=>cbv
 generalize bv:Fb n 0 v2=r3
 refine .dd hP (Xbk bv) ?_
 conv=>cbv
 have hbr:0≤r3∧r3≤steps.length:=by rw[←bv];unfold Fb;split<;>(try split)<;>omega
 refine LoopW.lp (κ:=Int×(List (List D))×Nat) Jd hP [2] [1,2] (fun(i9,aj,ak)=>[(8,.ref 3 0 ak),(9,I i9)]) (fun(i9,aj,ak)=>[(3,.row 2 false aj)])
  (fun(i9,aj,ak)=>∃(w3:List Ac),w3.map Ad=aj∧ak=w3.length∧0≤i9∧i9≤r3∧Co old steps n=B7 w3 ((steps.take r3.toNat).drop i9.toNat)∧w3.length≤old.length+i9)
  (fun(i9,aj,ak)=>(r3 - i9).toNat) (0,z1,ct) ⟨old,cu,(by first|omega|(simp;omega)),by omega,by omega,by unfold Co;rw[←cv,bv];rfl,by omega⟩ ⟨rfl,rfl,trivial⟩ rfl ?_
 rintro⟨i9,aj,ak⟩ J ⟨w3,aa,de,h0,h1,hio,hun⟩ hJ
 conv=>cbv
 refine .lss (fun h4=>?_) fun h4=>?_
 conv=>cbv
 refine .go i9.toNat hsteps fun b3 e5 ab=>?_
 conv=>cbv
 have dl:e5.size≤1000000000:=ab▸hss _ (List.getElem_mem b3)
 have hdc:(steps.take r3.toNat).drop i9.toNat=e5::(steps.take r3.toNat).drop (i9.toNat+1):=by rw[List.drop_eq_getElem_cons (by rw[List.length_take];omega),List.getElem_take,←ab]
 rw[hdc]at hio
 rcases an:Ba e5 with⟨ah,bn,bo,cw⟩
 refine .dd hP (XaI (by omega) an) ?_
 conv=>cbv
 have hlf:=Xbw an
 cases cw
 conv=>cbv
 have e:([],false)=Co old steps n:=(by rw[hio];show _=(if(Dm w3 e5).2=false then _ else _);rw[Dv an (.inl rfl)];rfl)
 rw[hr]at e
 simp only[Prod.mk.injEq]at e
 obtain⟨rfl,rfl⟩:=e
 obtain rfl:[]=xoa:=by first|(rw[←hoa];done)|(rw[←hoa];rfl)
 obtain rfl:0=noa:=by first|omega|(rw[hnoa];simp;done)|(rw[hnoa];simp;omega)
 exact hQ _ _ (.of [4] (.inl rfl) rfl rfl rfl rfl)
 conv=>cbv
 obtain⟨h2z,hh0⟩:=hlf.2 rfl
 have h00:0<e5.size:=by omega
 have hh1:(e5[0]).toNat=43∨(e5[0]).toNat=45∨(e5[0]).toNat=62:=hh0.imp (fun h=>Xll h00 h (by decide)) fun h=>h.imp (fun h=>Xll h00 h (by decide)) fun h=>Xll h00 h (by decide)
 generalize ba:Bo ah=r7
 refine .dd hP (Kk (by omega) ba) ?_
 cases r7
 conv=>cbv
 have e:([],false)=Co old steps n:=(by rw[hio];show _=(if(Dm w3 e5).2=false then _ else _);rw[Dv an (.inr (.inl ba))];rfl)
 rw[hr]at e
 simp only[Prod.mk.injEq]at e
 obtain⟨rfl,rfl⟩:=e
 obtain rfl:[]=xoa:=by first|(rw[←hoa];done)|(rw[←hoa];rfl)
 obtain rfl:0=noa:=by first|omega|(rw[hnoa];simp;done)|(rw[hnoa];simp;omega)
 exact hQ _ _ (.of [4] (.inl rfl) rfl rfl rfl rfl)
 conv=>cbv
 refine .go i9.toNat hsteps fun df e8 cx=>?_
 conv=>cbv
 obtain rfl:e5=e8:=ab.trans cx.symm
 refine .go 0 fun hjv9 v9 b4 bv9=>?_
 conv=>cbv
 refine .neq (fun h10=>?_) fun h10=>?_
 conv=>cbv
 generalize a6:Du w3 ah=cy
 refine .lnt hP (Kl aa (by omega) a6) (.ref rfl (Ag aa) (.d rfl .nil)) ?_
 cases cy
 conv=>cbv
 have e:([],false)=Co old steps n:=(by rw[hio];show _=(if(Dm w3 e5).2=false then _ else _);rw[Dv an (.inr (.inr ⟨(I5 (n:=43) h00 b4 (by omega) (by decide)),a6⟩))];rfl)
 rw[hr]at e
 simp only[Prod.mk.injEq]at e
 obtain⟨rfl,rfl⟩:=e
 obtain rfl:[]=xoa:=by first|(rw[←hoa];done)|(rw[←hoa];rfl)
 obtain rfl:0=noa:=by first|omega|(rw[hnoa];simp;done)|(rw[hnoa];simp;omega)
 exact hQ _ _ (.of [4] (.inl rfl) rfl rfl rfl rfl)
 conv=>cbv
 refine .go i9.toNat hsteps fun cz c0 b5=>?_
 conv=>cbv
 obtain rfl:e5=c0:=ab.trans b5.symm
 refine .go 0 fun hjv13 dm b6 bv13=>?_
 conv=>cbv
 refine .eql (fun h14=>?_) fun h14=>?_
 conv=>cbv
 generalize bq:Cp w3 ah=b7
 refine .lnt hP (I2 aa (by omega) bq) (.ref rfl (Ag aa) (.d rfl .nil)) ?_
 conv=>cbv
 refine .go i9.toNat hsteps fun c1 c2 b8=>?_
 conv=>cbv
 obtain rfl:e5=c2:=ab.trans b8.symm
 refine .go 0 fun hjv17 dn dg bv17=>?_
 conv=>cbv
 refine .neq (fun h18=>?_) fun h18=>?_
 conv=>cbv
 generalize bb:Cl w3 ah=bw
 have hln19:=E9 bb
 generalize ao:bw.map Ad=b9
 obtain⟨nl19,hnl19⟩:∃m,m=bw.length:=⟨_,rfl⟩
 refine .lntN hP (Jo aa (by omega) bb ao hnl19) (.ref rfl (Ag aa) (.d rfl .nil)) rfl rfl rfl (by simp only[List.all_cons,List.all_nil,Bool.and_self,Aq (fun _=>rfl) ao]) ?_
 conv=>cbv
 refine .go i9.toNat hsteps fun c3 c4 ca=>?_
 conv=>cbv
 obtain rfl:e5=c4:=ab.trans ca.symm
 refine .go 0 fun hjv21 am a7 bv21=>?_
 conv=>cbv
 refine .neq (fun h22=>?_) fun h22=>?_
 conv=>cbv
 generalize bc:Cn bw (⟨bn,b7⟩:Ac)=cc
 have hln23:=C2 bc
 generalize bd:cc.map Ad=cd
 obtain⟨nl23,hnl23⟩:∃m,m=cc.length:=⟨_,rfl⟩
 refine .lntN hP (Gz ao (by omega) bc bd hnl23) (.ref rfl (Ag ao) (.agg (.d rfl (.d rfl .nil)) .nil)) rfl rfl rfl (by simp only[List.all_cons,List.all_nil,Bool.and_self,Aq (fun _=>rfl) bd]) ?_
 conv=>cbv
 refine .add fun ce dh=>?_
 conv=>cbv
 exact .go [5] (ce,cd,nl23) (hJ _ ⟨_,bd,Cv,by omega,by omega,by rw[hio,show ce.toNat=i9.toNat+1 by omega];show(if(Dm w3 e5).2=false then _ else _)=_;rw[Rt an ba a6 (Il (n:=62) h00 b6 (by omega) (by decide)),bb,bq,bc];rfl,by omega⟩ mlt)
 conv=>cbv
 refine .add fun a1 be=>?_
 conv=>cbv
 exact .go [4] (a1,b9,nl19) (hJ _ ⟨_,ao,Cv,by omega,by omega,by exfalso;omega,by exfalso;omega⟩ mlt)
 conv=>cbv
 refine .go i9.toNat hsteps fun bf bg ap=>?_
 conv=>cbv
 obtain rfl:e5=bg:=ab.trans ap.symm
 refine .go 0 fun hjv20 bp a8 bv20=>?_
 conv=>cbv
 refine .neq (fun h21=>?_) fun h21=>?_
 conv=>cbv
 generalize af:Cn w3 (⟨ah,b7⟩:Ac)=aq
 have hln22:=C2 af
 generalize ac:aq.map Ad=ar
 obtain⟨nl22,hnl22⟩:∃m,m=aq.length:=⟨_,rfl⟩
 refine .lntN hP (Gz aa (by omega) af ac hnl22) (.ref rfl (Ag aa) (.agg (.d rfl (.d rfl .nil)) .nil)) rfl rfl rfl (by simp only[List.all_cons,List.all_nil,Bool.and_self,Aq (fun _=>rfl) ac]) ?_
 conv=>cbv
 refine .add fun a1 be=>?_
 conv=>cbv
 exact .go [4] (a1,ar,nl22) (hJ _ ⟨_,ac,Cv,by omega,by omega,by exfalso;omega,by exfalso;omega⟩ mlt)
 conv=>cbv
 refine .add fun ai au=>?_
 conv=>cbv
 exact .go [3] (ai,aj,ak) (hJ _ ⟨_,aa,Cv,by omega,by omega,by exfalso;omega,by exfalso;omega⟩ mlt)
 conv=>cbv
 refine .go i9.toNat hsteps fun bz b0 bh=>?_
 conv=>cbv
 obtain rfl:e5=b0:=ab.trans bh.symm
 refine .go 0 fun hjv16 c5 cf bv16=>?_
 conv=>cbv
 refine .neq (fun h17=>?_) fun h17=>?_
 conv=>cbv
 generalize al:Cl w3 ah=a2
 have hln18:=E9 al
 generalize ad:a2.map Ad=bi
 obtain⟨nl18,hnl18⟩:∃m,m=a2.length:=⟨_,rfl⟩
 refine .lntN hP (Jo aa (by omega) al ad hnl18) (.ref rfl (Ag aa) (.d rfl .nil)) rfl rfl rfl (by simp only[List.all_cons,List.all_nil,Bool.and_self,Aq (fun _=>rfl) ad]) ?_
 conv=>cbv
 refine .go i9.toNat hsteps fun bf bg ap=>?_
 conv=>cbv
 obtain rfl:e5=bg:=ab.trans ap.symm
 refine .go 0 fun hjv20 bp a8 bv20=>?_
 conv=>cbv
 refine .neq (fun h21=>?_) fun h21=>?_
 conv=>cbv
 generalize af:Cn a2 (⟨bn,bo⟩:Ac)=aq
 have hln22:=C2 af
 generalize ac:aq.map Ad=ar
 obtain⟨nl22,hnl22⟩:∃m,m=aq.length:=⟨_,rfl⟩
 refine .lntN hP (Gz ad (by omega) af ac hnl22) (.ref rfl (Ag ad) (.agg (.d rfl (.d rfl .nil)) .nil)) rfl rfl rfl (by simp only[List.all_cons,List.all_nil,Bool.and_self,Aq (fun _=>rfl) ac]) ?_
 conv=>cbv
 refine .add fun a1 be=>?_
 conv=>cbv
 exact .go [5] (a1,ar,nl22) (hJ _ ⟨_,ac,Cv,by omega,by omega,by exfalso;omega,by exfalso;omega⟩ mlt)
 conv=>cbv
 refine .add fun ai au=>?_
 conv=>cbv
 exact .go [4] (ai,bi,nl18) (hJ _ ⟨_,ad,Cv,by omega,by omega,by rw[hio,show ai.toNat=i9.toNat+1 by omega];show(if(Dm w3 e5).2=false then _ else _)=_;rw[Pj an ba a6 (Il (n:=45) h00 a8 (by omega) (by decide)),al];rfl,by omega⟩ mlt)
 conv=>cbv
 refine .go i9.toNat hsteps fun bj bk aw=>?_
 conv=>cbv
 obtain rfl:e5=bk:=ab.trans aw.symm
 refine .go 0 fun hjv19 cg bt bv19=>?_
 conv=>cbv
 refine .neq (fun h20=>?_) fun h20=>?_
 conv=>cbv
 generalize ag:Cn w3 (⟨ah,bo⟩:Ac)=ax
 have hln21:=C2 ag
 generalize ae:ax.map Ad=ay
 obtain⟨nl21,hnl21⟩:∃m,m=ax.length:=⟨_,rfl⟩
 refine .lntN hP (Gz aa (by omega) ag ae hnl21) (.ref rfl (Ag aa) (.agg (.d rfl (.d rfl .nil)) .nil)) rfl rfl rfl (by simp only[List.all_cons,List.all_nil,Bool.and_self,Aq (fun _=>rfl) ae]) ?_
 conv=>cbv
 refine .add fun ai au=>?_
 conv=>cbv
 exact .go [4] (ai,ay,nl21) (hJ _ ⟨_,ae,Cv,by omega,by omega,by exfalso;omega,by exfalso;omega⟩ mlt)
 conv=>cbv
 refine .add fun am a7=>?_
 conv=>cbv
 exact .go [3] (am,aj,ak) (hJ _ ⟨_,aa,Cv,by omega,by omega,by exfalso;omega,by exfalso;omega⟩ mlt)
 conv=>cbv
 refine .go i9.toNat hsteps fun c6 c7 cj=>?_
 conv=>cbv
 obtain rfl:e5=c7:=ab.trans cj.symm
 refine .go 0 fun hjv12 dp di bv12=>?_
 conv=>cbv
 refine .eql (fun h13=>?_) fun h13=>?_
 conv=>cbv
 generalize ck:Cp w3 ah=cm
 refine .lnt hP (I2 aa (by omega) ck) (.ref rfl (Ag aa) (.d rfl .nil)) ?_
 conv=>cbv
 refine .go i9.toNat hsteps fun bz b0 bh=>?_
 conv=>cbv
 obtain rfl:e5=b0:=ab.trans bh.symm
 refine .go 0 fun hjv16 c5 cf bv16=>?_
 conv=>cbv
 refine .neq (fun h17=>?_) fun h17=>?_
 conv=>cbv
 generalize al:Cl w3 ah=a2
 have hln18:=E9 al
 generalize ad:a2.map Ad=bi
 obtain⟨nl18,hnl18⟩:∃m,m=a2.length:=⟨_,rfl⟩
 refine .lntN hP (Jo aa (by omega) al ad hnl18) (.ref rfl (Ag aa) (.d rfl .nil)) rfl rfl rfl (by simp only[List.all_cons,List.all_nil,Bool.and_self,Aq (fun _=>rfl) ad]) ?_
 conv=>cbv
 refine .go i9.toNat hsteps fun bf bg ap=>?_
 conv=>cbv
 obtain rfl:e5=bg:=ab.trans ap.symm
 refine .go 0 fun hjv20 bp a8 bv20=>?_
 conv=>cbv
 refine .neq (fun h21=>?_) fun h21=>?_
 conv=>cbv
 generalize af:Cn a2 (⟨bn,cm⟩:Ac)=aq
 have hln22:=C2 af
 generalize ac:aq.map Ad=ar
 obtain⟨nl22,hnl22⟩:∃m,m=aq.length:=⟨_,rfl⟩
 refine .lntN hP (Gz ad (by omega) af ac hnl22) (.ref rfl (Ag ad) (.agg (.d rfl (.d rfl .nil)) .nil)) rfl rfl rfl (by simp only[List.all_cons,List.all_nil,Bool.and_self,Aq (fun _=>rfl) ac]) ?_
 conv=>cbv
 refine .add fun a1 be=>?_
 conv=>cbv
 exact .go [5] (a1,ar,nl22) (hJ _ ⟨_,ac,Cv,by omega,by omega,by exfalso;omega,by exfalso;omega⟩ mlt)
 conv=>cbv
 refine .add fun ai au=>?_
 conv=>cbv
 exact .go [4] (ai,bi,nl18) (hJ _ ⟨_,ad,Cv,by omega,by omega,by exfalso;omega,by exfalso;omega⟩ mlt)
 conv=>cbv
 refine .go i9.toNat hsteps fun bj bk aw=>?_
 conv=>cbv
 obtain rfl:e5=bk:=ab.trans aw.symm
 refine .go 0 fun hjv19 cg bt bv19=>?_
 conv=>cbv
 refine .neq (fun h20=>?_) fun h20=>?_
 conv=>cbv
 generalize ag:Cn w3 (⟨ah,cm⟩:Ac)=ax
 have hln21:=C2 ag
 generalize ae:ax.map Ad=ay
 obtain⟨nl21,hnl21⟩:∃m,m=ax.length:=⟨_,rfl⟩
 refine .lntN hP (Gz aa (by omega) ag ae hnl21) (.ref rfl (Ag aa) (.agg (.d rfl (.d rfl .nil)) .nil)) rfl rfl rfl (by simp only[List.all_cons,List.all_nil,Bool.and_self,Aq (fun _=>rfl) ae]) ?_
 conv=>cbv
 refine .add fun ai au=>?_
 conv=>cbv
 exact .go [4] (ai,ay,nl21) (hJ _ ⟨_,ae,Cv,by omega,by omega,by exfalso;omega,by exfalso;omega⟩ mlt)
 conv=>cbv
 refine .add fun am a7=>?_
 conv=>cbv
 exact .go [3] (am,aj,ak) (hJ _ ⟨_,aa,Cv,by omega,by omega,by exfalso;omega,by exfalso;omega⟩ mlt)
 conv=>cbv
 refine .go i9.toNat hsteps fun c8 c9 cn=>?_
 conv=>cbv
 obtain rfl:e5=c9:=ab.trans cn.symm
 refine .go 0 fun hjv15 dq dj bv15=>?_
 conv=>cbv
 refine .neq (fun h16=>?_) fun h16=>?_
 conv=>cbv
 generalize bu:Cl w3 ah=b2
 have hln17:=E9 bu
 generalize az:b2.map Ad=co
 obtain⟨nl17,hnl17⟩:∃m,m=b2.length:=⟨_,rfl⟩
 refine .lntN hP (Jo aa (by omega) bu az hnl17) (.ref rfl (Ag aa) (.d rfl .nil)) rfl rfl rfl (by simp only[List.all_cons,List.all_nil,Bool.and_self,Aq (fun _=>rfl) az]) ?_
 conv=>cbv
 refine .go i9.toNat hsteps fun bj bk aw=>?_
 conv=>cbv
 obtain rfl:e5=bk:=ab.trans aw.symm
 refine .go 0 fun hjv19 cg bt bv19=>?_
 conv=>cbv
 refine .neq (fun h20=>?_) fun h20=>?_
 conv=>cbv
 generalize ag:Cn b2 (⟨bn,bo⟩:Ac)=ax
 have hln21:=C2 ag
 generalize ae:ax.map Ad=ay
 obtain⟨nl21,hnl21⟩:∃m,m=ax.length:=⟨_,rfl⟩
 refine .lntN hP (Gz az (by omega) ag ae hnl21) (.ref rfl (Ag az) (.agg (.d rfl (.d rfl .nil)) .nil)) rfl rfl rfl (by simp only[List.all_cons,List.all_nil,Bool.and_self,Aq (fun _=>rfl) ae]) ?_
 conv=>cbv
 refine .add fun ai au=>?_
 conv=>cbv
 exact .go [5] (ai,ay,nl21) (hJ _ ⟨_,ae,Cv,by omega,by omega,by exfalso;omega,by exfalso;omega⟩ mlt)
 conv=>cbv
 refine .add fun am a7=>?_
 conv=>cbv
 exact .go [4] (am,co,nl17) (hJ _ ⟨_,az,Cv,by omega,by omega,by exfalso;omega,by exfalso;omega⟩ mlt)
 conv=>cbv
 refine .go i9.toNat hsteps fun da db cp=>?_
 conv=>cbv
 obtain rfl:e5=db:=ab.trans cp.symm
 refine .go 0 fun hjv18 dr dk bv18=>?_
 conv=>cbv
 refine .neq (fun h19=>?_) fun h19=>?_
 conv=>cbv
 generalize bl:Cn w3 (⟨ah,bo⟩:Ac)=cq
 have hln20:=C2 bl
 generalize bm:cq.map Ad=cr
 obtain⟨nl20,hnl20⟩:∃m,m=cq.length:=⟨_,rfl⟩
 refine .lntN hP (Gz aa (by omega) bl bm hnl20) (.ref rfl (Ag aa) (.agg (.d rfl (.d rfl .nil)) .nil)) rfl rfl rfl (by simp only[List.all_cons,List.all_nil,Bool.and_self,Aq (fun _=>rfl) bm]) ?_
 conv=>cbv
 refine .add fun am a7=>?_
 conv=>cbv
 exact .go [4] (am,cr,nl20) (hJ _ ⟨_,bm,Cv,by omega,by omega,by rw[hio,show am.toNat=i9.toNat+1 by omega];show(if(Dm w3 e5).2=false then _ else _)=_;rw[Sd an ba (Il (n:=43) h00 b4 (by omega) (by decide)),bl];rfl,by omega⟩ mlt)
 conv=>cbv
 refine .add fun bp a8=>?_
 conv=>cbv
 exact .go [3] (bp,aj,ak) (hJ _ ⟨_,aa,Cv,by omega,by omega,by exfalso;omega,by exfalso;omega⟩ mlt)
 conv=>cbv
 have e:(w3,true)=Co old steps n:=(by rw[hio,List.drop_of_length_le (by rw[List.length_take];omega)];rfl)
 rw[hr]at e
 simp only[Prod.mk.injEq]at e
 obtain⟨rfl,rfl⟩:=e
 obtain rfl:aj=xoa:=by rw[←aa,←hoa]
 obtain rfl:ak=noa:=by first|omega|(rw[hnoa];simp;done)|(rw[hnoa];simp;omega)
 exact hQ _ _ (.of [3] (.inl rfl) rfl rfl rfl rfl)
theorem Mg{ndnod:Nat}{ndent:Nat}{ndold:Nat}{ndste:Nat}{o:List Cj}(A1:Ak.map B3=Bk)(Ax:Aj.map Ad=Bg)(A6:Am.map Ad=Bf)(A5:Al.map cS=Bi)(hndnod:ndnod=Ak.length)(hndent:ndent=Aj.length)(hndold:ndold=Am.length)(hndste:ndste=Al.length)(hn:Ak.length≤2000000000)(hol:Am.length≤1000000000)(hsl:Al.length≤1000000000)(hss:okS Al)(hr:(Ed ⟨Ak,Aj,Am,Al,Ao,An⟩).nodes_=o)(ho:o.map B3=xo)(hno:no=o.length):Fn Tryz.prog 213 [.agg [.ref 0 0 ndnod,.ref 1 0 ndent,.ref 2 0 ndold,.ref 3 0 ndste,I Ao,I An]] [.row 3 false Bk,.row 2 false Bg,.row 2 false Bf,.row 1 false Bi] ⟨.agg [.ref 4 0 no,.ref 1 0 ndent,.ref 2 0 ndold,.ref 3 0 ndste,I Ao,I An],[.row 3 false xo],[]⟩:=by
 refine Fn.goR Jd Tryz.func213 fun P hP Q hQ=>?_
 conv=>cbv
 refine LoopW.lp (κ:=Int×(List (List D))×Nat) Jd hP [10] [1,2] (fun(i4,aa,ab)=>[(3,.ref 11 0 ab),(4,I i4)]) (fun(i4,aa,ab)=>[(11,.row 3 false aa)])
  (fun(i4,aa,ab)=>∃(ai:List Cj),ai.map B3=aa∧ab=ai.length∧0≤i4∧i4≤Ak.length∧ai=(Ak.take i4.toNat).filter (fun x=>XcD Am Al x.id_)∧ai.length≤i4)
  (fun(i4,aa,ab)=>(Ak.length - i4).toNat) (0,[],0) ⟨[],rfl,rfl,by omega,by omega,by simp,by simp⟩ ⟨rfl,rfl,trivial⟩ rfl ?_
 rintro⟨i4,aa,ab⟩ J ⟨ai,ah,bb,h0,h1,hx,hxl⟩ hJ
 conv=>cbv
 refine .go fun v1 bk=>?_
 conv=>cbv
 refine .lss (fun h2=>?_) fun h2=>?_
 conv=>cbv
 refine LoopW.lp (κ:=Bool×Int) Jd hP [] [1,2,3,4] (fun(b5,i6)=>[(5,B b5),(6,I i6)]) (fun(b5,i6)=>[])
  (fun(b5,i6)=>0≤i6∧i6≤Al.length+1∧b5=(List.range i6.toNat).any (fun k=>Zt (B7 Am (Al.take k)).1 (Ak.getD i4.toNat ⟨0,tx [],0⟩).id_))
  (fun(b5,i6)=>(Al.length+1 - i6).toNat) (false,0) ⟨by omega,by omega,rfl⟩ ⟨rfl,rfl,trivial⟩ rfl ?_
 rintro⟨b5,i6⟩ J1 ⟨k0,k1,hu⟩ bc
 conv=>cbv
 refine .go fun v3 bl=>?_
 conv=>cbv
 refine .leq (fun h4=>?_) fun h4=>?_
 conv=>cbv
 cases b5
 conv=>cbv
 rcases ax:Co Am Al i6 with⟨ac,bd⟩
 generalize aj:ac.map Ad=bh
 obtain⟨nr5a,hnr5a⟩:∃m,m=ac.length:=⟨_,rfl⟩
 have hS:B7 Am (Al.take i6.toNat)=(ac,bd):=by rw[←XaF (by omega) (by omega)];exact ax
 have bm:ac.length≤2000000000:=by
  have:=XgQ (Al.take i6.toNat) Am
  rw[hS,List.length_take]at this
  simp only[]at this
  omega
 refine .lntN hP (Xbn A6 A5 hol hsl hss ax aj hnr5a) (.ref rfl (Ag A6) (.ref rfl (Ag A5) (.d rfl .nil))) rfl rfl rfl (by simp only[List.all_cons,List.all_nil,Bool.and_self,Aq (fun _=>rfl) aj]) ?_
 conv=>cbv
 refine LoopW.lp (κ:=Bool×Int) Jd hP [] [1,2,3,4,6,7,24,25] (fun(b5,i9)=>[(5,B b5),(9,I i9)]) (fun(b5,i9)=>[])
  (fun(b5,i9)=>0≤i9∧i9≤ac.length∧b5=Zt (ac.take i9.toNat) (Ak.getD i4.toNat ⟨0,tx [],0⟩).id_)
  (fun(b5,i9)=>(ac.length - i9).toNat) (false,0) ⟨by omega,by omega,rfl⟩ ⟨rfl,rfl,trivial⟩ rfl ?_
 rintro⟨b5,i9⟩ J2 ⟨m0,m1,hb⟩ an
 conv=>cbv
 refine .go fun v6 bn=>?_
 conv=>cbv
 refine .lss (fun h7=>?_) fun h7=>?_
 conv=>cbv
 cases b5
 conv=>cbv
 refine .go i9.toNat fun p8 be bi=>?_
 conv=>cbv
 refine .go aj fun am ⟨bf,bj⟩ ay=>?_
 conv=>cbv
 refine .go i4.toNat fun bo az bg=>?_
 conv=>cbv
 refine .go A1 fun ao ⟨ap,a8,ba⟩ a1=>?_
 conv=>cbv
 subst be az
 have hide:(Ak.getD i4.toNat ⟨0,tx [],0⟩).id_=ap:=by rw[←gD ao,←a1]
 refine .eql (fun h12=>?_) fun h12=>?_
 conv=>cbv
 refine .add fun ak a2=>?_
 conv=>cbv
 exact .go [] (true,ak) (an _ ⟨by omega,by omega,by rw[show ak.toNat=i9.toNat+1 by omega,Rr am,←ay,hide];simp only[];rw[decide_eq_true h12,Bool.or_true]⟩ mlt)
 conv=>cbv
 refine .add fun ak a2=>?_
 conv=>cbv
 exact .go [] (false,ak) (an _ ⟨by omega,by omega,by rw[show ak.toNat=i9.toNat+1 by omega,Rr am,←ay,←hb,hide];simp only[];rw[decide_eq_false h12];rfl⟩ mlt)
 conv=>cbv
 refine .add fun v8 aq=>?_
 conv=>cbv
 exact .go [] (true,v8) (an _ ⟨by omega,by omega,by rw[show v8.toNat=i9.toNat+1 by omega,Rr (show i9.toNat<ac.length by omega),←hb];rfl⟩ mlt)
 conv=>cbv
 refine .add fun v8 aq=>?_
 conv=>cbv
 exact .go [] (b5,v8) (bc _ ⟨by omega,by omega,by rw[show v8.toNat=i6.toNat+1 by omega,Wv,←hu,Bool.false_or,hS];show _=Zt ac _;rw[hb,List.take_of_length_le (by omega)]⟩ mlt)
 conv=>cbv
 refine .go i4.toNat fun p5 ar a6=>?_
 conv=>cbv
 refine .go A1 fun ad ⟨ae,af,ag⟩ al=>?_
 conv=>cbv
 refine .one (⟨ae,af,ag⟩:Cj) ah rfl fun au z7 a7 aw=>?_
 conv=>cbv
 refine .add fun v8 aq=>?_
 conv=>cbv
 subst ar
 have hid:(Ak.getD i4.toNat ⟨0,tx [],0⟩).id_=ae:=by rw[←gD ad,←al]
 have hus:=Xp (show i6.toNat≤Al.length+1 by omega) hu
 rw[hid]at hus
 exact .go [13] (v8,z7,au) (hJ _ ⟨_,aw,Cv,by omega,by omega,by rw[show v8.toNat=i4.toNat+1 by omega,C7 ad,←hx,←al];simp only[];rw[hus];rfl,by rw[List.length_append,List.length_singleton];omega⟩ mlt)
 conv=>cbv
 cases b5
 conv=>cbv
 refine .add fun v5 bp=>?_
 conv=>cbv
 have hj:i4.toNat<Ak.length:=by omega
 have hus:XcD Am Al Ak[i4.toNat].id_=false:=by rw[gD hj (d:=⟨0,tx [],0⟩)];unfold XcD;rw[show Al.length+1=i6.toNat by omega];exact hu.symm
 exact .go [11] (v5,aa,ab) (hJ _ ⟨_,ah,Cv,by omega,by omega,by rw[show v5.toNat=i4.toNat+1 by omega,C7 hj,←hx,hus];simp,by omega⟩ mlt)
 conv=>cbv
 refine .go i4.toNat fun p5 ar a6=>?_
 conv=>cbv
 refine .go A1 fun ad ⟨ae,af,ag⟩ al=>?_
 conv=>cbv
 refine .one (⟨ae,af,ag⟩:Cj) ah rfl fun au z7 a7 aw=>?_
 conv=>cbv
 refine .add fun v8 aq=>?_
 conv=>cbv
 subst ar
 have hid:(Ak.getD i4.toNat ⟨0,tx [],0⟩).id_=ae:=by rw[←gD ad,←al]
 have hus:=Xp (show i6.toNat≤Al.length+1 by omega) hu
 rw[hid]at hus
 exact .go [13] (v8,z7,au) (hJ _ ⟨_,aw,Cv,by omega,by omega,by rw[show v8.toNat=i4.toNat+1 by omega,C7 ad,←hx,←al];simp only[];rw[hus];rfl,by rw[List.length_append,List.length_singleton];omega⟩ mlt)
 conv=>cbv
 obtain rfl:ai=o:=by rw[hx,List.take_of_length_le (by omega),←hr];rfl
 obtain rfl:aa=xo:=by rw[←ah,←ho]
 obtain rfl:ab=no:=by omega
 exact hQ _ _ (.of [11] (.inl rfl) rfl rfl rfl rfl)
theorem Jk(A1:Ak.map B3=Bk)(Ax:Aj.map Ad=Bg)(A6:Am.map Ad=Bf)(A5:Al.map cS=Bi)(hn:Ak.length≤1000000000)(he:Aj.length≤1000000000)(ho:Am.length≤1000000000)(hs:Al.length<1000000000)(hss:okS Al)(ay:Pc (⟨Ak,Aj,Am,Al,Ao,An⟩:Aa))(hm:name.size≤1000000000)(hr:Aw (⟨Ak,Aj,Am,Al,Ao,An⟩:Aa) name=(⟨Kf,Kh,Ke,Kg,Pw,Pt⟩,ob))(En:Kf.map B3=Di)(Et:Kh.map Ad=De)(Er:Ke.map Ad=Df)(Es:Kg.map cS=Dd)(hnoanod:noanod=Kf.length)(hnoaent:noaent=Kh.length)(hnoaold:noaold=Ke.length)(hnoaste:noaste=Kg.length):Fn Tryz.prog 223 [.agg [.d (.row 3 Bk),.d (.row 2 Bg),.d (.row 2 Bf),.d (.row 1 Bi),I Ao,I An],S name] [] ⟨.tup [.agg [.ref 0 0 noanod,.ref 1 0 noaent,.ref 2 0 noaold,.ref 3 0 noaste,I Pw,I Pt],I ob],[.row 3 false Di,.row 2 false De,.row 2 false Df,.row 1 false Dd],[]⟩:=by
 refine Fn.goR Jd Tryz.func223 fun P hP Q hQ=>?_
 conv=>cbv
 obtain⟨n2,az⟩:∃m,m=Ak.length:=⟨_,rfl⟩
 obtain⟨n3,a1⟩:∃m,m=Aj.length:=⟨_,rfl⟩
 obtain⟨n4,a2⟩:∃m,m=Am.length:=⟨_,rfl⟩
 obtain⟨n5,a6⟩:∃m,m=Al.length:=⟨_,rfl⟩
 refine .ddN hP (Ls A1 Ax A6 A5 (by omega) (by omega) (by omega) (by omega) az a1 a2 a6) rfl ?_
 conv=>cbv
 generalize ab:B4 (⟨Ak,Aj,Am,Al,Ao,An⟩:Aa)=r6
 refine .lnt hP (N3 A1 Ax A6 A5 ay ab) (.agg (.ref rfl (Ag A1) (.ref rfl (Ag Ax) (.ref rfl (Ag A6) (.ref rfl (Ag A5) (.d rfl (.d rfl .nil)))))) .nil) ?_
 cases r6
 conv=>cbv
 have e:((⟨Ak,Aj,Am,Al,Ao,An⟩:Aa),3)=Aw (⟨Ak,Aj,Am,Al,Ao,An⟩:Aa) name:=(by unfold Aw;rw[if_pos ab])
 rw[hr]at e
 simp only[Prod.mk.injEq,Aa.mk.injEq]at e
 obtain⟨⟨rfl,rfl,rfl,rfl,rfl,rfl⟩,rfl⟩:=e
 obtain rfl:Bk=Di:=by rw[←A1,←En]
 obtain rfl:n2=noanod:=by first|omega|(rw[hnoanod];simp;done)|(rw[hnoanod];simp;omega)
 obtain rfl:Bg=De:=by rw[←Ax,←Et]
 obtain rfl:n3=noaent:=by first|omega|(rw[hnoaent];simp;done)|(rw[hnoaent];simp;omega)
 obtain rfl:Bf=Df:=by rw[←A6,←Er]
 obtain rfl:n4=noaold:=by first|omega|(rw[hnoaold];simp;done)|(rw[hnoaold];simp;omega)
 obtain rfl:Bi=Dd:=by rw[←A5,←Es]
 obtain rfl:n5=noaste:=by first|omega|(rw[hnoaste];simp;done)|(rw[hnoaste];simp;omega)
 exact hQ _ _ (.of [6,7,8,9] (.inl rfl) rfl rfl rfl rfl)
 conv=>cbv
 generalize ac:Bo name=r7
 refine .dd hP (Kk (by omega) ac) ?_
 cases r7
 conv=>cbv
 have e:((⟨Ak,Aj,Am,Al,Ao,An⟩:Aa),1)=Aw (⟨Ak,Aj,Am,Al,Ao,An⟩:Aa) name:=(by unfold Aw;rw[if_neg (by rw[ab];decide),if_pos ac])
 rw[hr]at e
 simp only[Prod.mk.injEq,Aa.mk.injEq]at e
 obtain⟨⟨rfl,rfl,rfl,rfl,rfl,rfl⟩,rfl⟩:=e
 obtain rfl:Bk=Di:=by rw[←A1,←En]
 obtain rfl:n2=noanod:=by first|omega|(rw[hnoanod];simp;done)|(rw[hnoanod];simp;omega)
 obtain rfl:Bg=De:=by rw[←Ax,←Et]
 obtain rfl:n3=noaent:=by first|omega|(rw[hnoaent];simp;done)|(rw[hnoaent];simp;omega)
 obtain rfl:Bf=Df:=by rw[←A6,←Er]
 obtain rfl:n4=noaold:=by first|omega|(rw[hnoaold];simp;done)|(rw[hnoaold];simp;omega)
 obtain rfl:Bi=Dd:=by rw[←A5,←Es]
 obtain rfl:n5=noaste:=by first|omega|(rw[hnoaste];simp;done)|(rw[hnoaste];simp;omega)
 exact hQ _ _ (.of [6,7,8,9] (.inl rfl) rfl rfl rfl rfl)
 conv=>cbv
 generalize ae:Du Aj name=r8
 refine .lnt hP (Kl Ax (by omega) ae) (.ref rfl (Ag Ax) (.d rfl .nil)) ?_
 cases r8
 conv=>cbv
 refine .go fun v9 bg=>?_
 conv=>cbv
 refine .geq (fun h10=>?_) fun h10=>?_
 conv=>cbv
 have e:((⟨Ak,Aj,Am,Al,Ao,An⟩:Aa),4)=Aw (⟨Ak,Aj,Am,Al,Ao,An⟩:Aa) name:=(by unfold Aw;rw[if_neg (by rw[ab];decide),if_neg (by rw[ac];decide),if_neg (by have:=XaN ae;dsimp only;omega),if_pos (by dsimp only;omega)])
 rw[hr]at e
 simp only[Prod.mk.injEq,Aa.mk.injEq]at e
 obtain⟨⟨rfl,rfl,rfl,rfl,rfl,rfl⟩,rfl⟩:=e
 obtain rfl:Bk=Di:=by rw[←A1,←En]
 obtain rfl:n2=noanod:=by first|omega|(rw[hnoanod];simp;done)|(rw[hnoanod];simp;omega)
 obtain rfl:Bg=De:=by rw[←Ax,←Et]
 obtain rfl:n3=noaent:=by first|omega|(rw[hnoaent];simp;done)|(rw[hnoaent];simp;omega)
 obtain rfl:Bf=Df:=by rw[←A6,←Er]
 obtain rfl:n4=noaold:=by first|omega|(rw[hnoaold];simp;done)|(rw[hnoaold];simp;omega)
 obtain rfl:Bi=Dd:=by rw[←A5,←Es]
 obtain rfl:n5=noaste:=by first|omega|(rw[hnoaste];simp;done)|(rw[hnoaste];simp;omega)
 exact hQ _ _ (.of [6,7,8,9] (.inl rfl) rfl rfl rfl rfl)
 conv=>cbv
 refine .go fun bh bb=>?_
 conv=>cbv
 refine .geq (fun h12=>?_) fun h12=>?_
 conv=>cbv
 have e:((⟨Ak,Aj,Am,Al,Ao,An⟩:Aa),4)=Aw (⟨Ak,Aj,Am,Al,Ao,An⟩:Aa) name:=(by unfold Aw;rw[if_neg (by rw[ab];decide),if_neg (by rw[ac];decide),if_neg (by have:=XaN ae;dsimp only;omega),if_pos (by dsimp only;omega)])
 rw[hr]at e
 simp only[Prod.mk.injEq,Aa.mk.injEq]at e
 obtain⟨⟨rfl,rfl,rfl,rfl,rfl,rfl⟩,rfl⟩:=e
 obtain rfl:Bk=Di:=by rw[←A1,←En]
 obtain rfl:n2=noanod:=by first|omega|(rw[hnoanod];simp;done)|(rw[hnoanod];simp;omega)
 obtain rfl:Bg=De:=by rw[←Ax,←Et]
 obtain rfl:n3=noaent:=by first|omega|(rw[hnoaent];simp;done)|(rw[hnoaent];simp;omega)
 obtain rfl:Bf=Df:=by rw[←A6,←Er]
 obtain rfl:n4=noaold:=by first|omega|(rw[hnoaold];simp;done)|(rw[hnoaold];simp;omega)
 obtain rfl:Bi=Dd:=by rw[←A5,←Es]
 obtain rfl:n5=noaste:=by first|omega|(rw[hnoaste];simp;done)|(rw[hnoaste];simp;omega)
 exact hQ _ _ (.of [6,7,8,9] (.inl rfl) rfl rfl rfl rfl)
 conv=>cbv
 refine .geq (fun h13=>?_) fun h13=>?_
 conv=>cbv
 have e:((⟨Ak,Aj,Am,Al,Ao,An⟩:Aa),4)=Aw (⟨Ak,Aj,Am,Al,Ao,An⟩:Aa) name:=(by unfold Aw;rw[if_neg (by rw[ab];decide),if_neg (by rw[ac];decide),if_neg (by have:=XaN ae;dsimp only;omega),if_pos (by dsimp only;omega)])
 rw[hr]at e
 simp only[Prod.mk.injEq,Aa.mk.injEq]at e
 obtain⟨⟨rfl,rfl,rfl,rfl,rfl,rfl⟩,rfl⟩:=e
 obtain rfl:Bk=Di:=by rw[←A1,←En]
 obtain rfl:n2=noanod:=by first|omega|(rw[hnoanod];simp;done)|(rw[hnoanod];simp;omega)
 obtain rfl:Bg=De:=by rw[←Ax,←Et]
 obtain rfl:n3=noaent:=by first|omega|(rw[hnoaent];simp;done)|(rw[hnoaent];simp;omega)
 obtain rfl:Bf=Df:=by rw[←A6,←Er]
 obtain rfl:n4=noaold:=by first|omega|(rw[hnoaold];simp;done)|(rw[hnoaold];simp;omega)
 obtain rfl:Bi=Dd:=by rw[←A5,←Es]
 obtain rfl:n5=noaste:=by first|omega|(rw[hnoaste];simp;done)|(rw[hnoaste];simp;omega)
 exact hQ _ _ (.of [6,7,8,9] (.inl rfl) rfl rfl rfl rfl)
 conv=>cbv
 have hri:=Ll ab
 simp only[]at hri
 refine .one (⟨An,tx [],0⟩:Cj) A1 rfl fun bc bi a7 an=>?_
 conv=>cbv
 generalize ak:Cn Aj (⟨name,An⟩:Ac)=af
 generalize ad:af.map Ad=ao
 obtain⟨nl15,hnl15⟩:∃m,m=af.length:=⟨_,rfl⟩
 refine .lntN hP (Gz Ax (by omega) ak ad hnl15) (.ref rfl (Ag Ax) (.agg (.d rfl (.d rfl .nil)) .nil)) rfl rfl rfl (by simp only[List.all_cons,List.all_nil,Bool.and_self,Aq (fun _=>rfl) ad]) ?_
 conv=>cbv
 have hnz:=XcY ac
 refine .litL 1 fun bj ap bd=>?_
 conv=>cbv
 refine .litR 1 fun bk aq be=>?_
 conv=>cbv
 generalize ah:By An=bl
 refine .dd hP (Nd (by unfold K9;omega) ah) ?_
 conv=>cbv
 have zr18:=Jt ah (by unfold K9;omega)
 refine .go fun ag ar bf=>?_
 conv=>cbv
 refine .one ag A5 rfl fun au a8 ba al=>?_
 conv=>cbv
 refine .add fun aj aw=>?_
 conv=>cbv
 generalize am:(Ed (⟨(Ak++[(⟨An,tx [],0⟩:Cj)]),af,Am,(Al++[ag]),Ao,aj⟩:Aa)).nodes_=aa
 generalize hx22:aa.map B3=ai
 obtain⟨nr22nod,hnr22nod⟩:∃m,m=aa.length:=⟨_,rfl⟩
 have ax:Ed (⟨(Ak++[(⟨An,tx [],0⟩:Cj)]),af,Am,(Al++[ag]),Ao,aj⟩:Aa)=⟨aa,af,Am,(Al++[ag]),Ao,aj⟩:=by rw[←am];rfl
 refine .bx [11,12,8,14] [] hP (Mg an ad A6 al (by first|rfl|omega|(simp;omega)) (by first|rfl|omega|(simp;omega)) (by first|rfl|omega|(simp;omega)) (by first|rfl|omega|(simp;omega)) (by rw[List.length_append,List.length_singleton];omega) (by omega) (by rw[List.length_append,List.length_singleton];omega) (Tp hss (by omega)) am hx22 hnr22nod) rfl rfl rfl rfl ?_
 conv=>cbv
 have e:((⟨aa,af,Am,Al++[ag],Ao,aj⟩:Aa),0)=Aw (⟨Ak,Aj,Am,Al,Ao,An⟩:Aa) name:=(by unfold Aw;rw[if_neg (by rw[ab];decide),if_neg (by rw[ac];decide),if_neg (by have:=XaN ae;dsimp only;omega),if_neg (by dsimp only;omega)];exact congrArg (fun x:Aa=>(x,(0:Int))) (ax.symm.trans (by rw[←ak,aw,show ag=tx [43]++name++tx [58]++By An from(by rw[ar,aq,ap,ah];rfl)];exact Xdr ab ac)))
 rw[hr]at e
 simp only[Prod.mk.injEq,Aa.mk.injEq]at e
 obtain⟨⟨rfl,rfl,rfl,rfl,rfl,rfl⟩,rfl⟩:=e
 obtain rfl:ai=Di:=by rw[←hx22,←En]
 obtain rfl:nr22nod=noanod:=by first|omega|(rw[hnoanod];simp;done)|(rw[hnoanod];simp;omega)
 obtain rfl:ao=De:=by rw[←ad,←Et]
 obtain rfl:nl15=noaent:=by first|omega|(rw[hnoaent];simp;done)|(rw[hnoaent];simp;omega)
 obtain rfl:Bf=Df:=by rw[←A6,←Er]
 obtain rfl:n4=noaold:=by first|omega|(rw[hnoaold];simp;done)|(rw[hnoaold];simp;omega)
 obtain rfl:a8=Dd:=by rw[←al,←Es]
 obtain rfl:au=noaste:=by first|omega|(rw[hnoaste];simp;done)|(rw[hnoaste];simp;omega)
 exact hQ _ _ (.of [15,12,8,14] (.inl rfl) rfl rfl rfl rfl)
 conv=>cbv
 have e:((⟨Ak,Aj,Am,Al,Ao,An⟩:Aa),2)=Aw (⟨Ak,Aj,Am,Al,Ao,An⟩:Aa) name:=(by unfold Aw;rw[if_neg (by rw[ab];decide),if_neg (by rw[ac];decide),if_pos (Z3 ae)])
 rw[hr]at e
 simp only[Prod.mk.injEq,Aa.mk.injEq]at e
 obtain⟨⟨rfl,rfl,rfl,rfl,rfl,rfl⟩,rfl⟩:=e
 obtain rfl:Bk=Di:=by rw[←A1,←En]
 obtain rfl:n2=noanod:=by first|omega|(rw[hnoanod];simp;done)|(rw[hnoanod];simp;omega)
 obtain rfl:Bg=De:=by rw[←Ax,←Et]
 obtain rfl:n3=noaent:=by first|omega|(rw[hnoaent];simp;done)|(rw[hnoaent];simp;omega)
 obtain rfl:Bf=Df:=by rw[←A6,←Er]
 obtain rfl:n4=noaold:=by first|omega|(rw[hnoaold];simp;done)|(rw[hnoaold];simp;omega)
 obtain rfl:Bi=Dd:=by rw[←A5,←Es]
 obtain rfl:n5=noaste:=by first|omega|(rw[hnoaste];simp;done)|(rw[hnoaste];simp;omega)
 exact hQ _ _ (.of [6,7,8,9] (.inl rfl) rfl rfl rfl rfl)
theorem P8{text:ByteArray}(A1:Ak.map B3=Bk)(Ax:Aj.map Ad=Bg)(A6:Am.map Ad=Bf)(A5:Al.map cS=Bi)(hn:Ak.length≤1000000000)(he:Aj.length≤1000000000)(ho:Am.length≤1000000000)(hs:Al.length<1000000000)(hss:okS Al)(aj:Pc (⟨Ak,Aj,Am,Al,Ao,An⟩:Aa))(ht:text.size≤1000000000)(hr:Be (⟨Ak,Aj,Am,Al,Ao,An⟩:Aa) name text=(⟨Kf,Kh,Ke,Kg,Pw,Pt⟩,ob))(En:Kf.map B3=Di)(Et:Kh.map Ad=De)(Er:Ke.map Ad=Df)(Es:Kg.map cS=Dd)(hnoanod:noanod=Kf.length)(hnoaent:noaent=Kh.length)(hnoaold:noaold=Ke.length)(hnoaste:noaste=Kg.length):Fn Tryz.prog 145 [.agg [.d (.row 3 Bk),.d (.row 2 Bg),.d (.row 2 Bf),.d (.row 1 Bi),I Ao,I An],S name,S text] [] ⟨.tup [.agg [.ref 0 0 noanod,.ref 1 0 noaent,.ref 2 0 noaold,.ref 3 0 noaste,I Pw,I Pt],I ob],[.row 3 false Di,.row 2 false De,.row 2 false Df,.row 1 false Dd],[]⟩:=by
 refine Fn.goR Jd Tryz.func145 fun P hP Q hQ=>?_
 conv=>cbv
 obtain⟨n2,a8⟩:∃m,m=Ak.length:=⟨_,rfl⟩
 obtain⟨n3,ba⟩:∃m,m=Aj.length:=⟨_,rfl⟩
 obtain⟨n4,bb⟩:∃m,m=Am.length:=⟨_,rfl⟩
 obtain⟨n5,bc⟩:∃m,m=Al.length:=⟨_,rfl⟩
 refine .ddN hP (Ls A1 Ax A6 A5 (by omega) (by omega) (by omega) (by omega) a8 ba bb bc) rfl ?_
 conv=>cbv
 generalize ah:B4 (⟨Ak,Aj,Am,Al,Ao,An⟩:Aa)=r6
 refine .lnt hP (N3 A1 Ax A6 A5 aj ah) (.agg (.ref rfl (Ag A1) (.ref rfl (Ag Ax) (.ref rfl (Ag A6) (.ref rfl (Ag A5) (.d rfl (.d rfl .nil)))))) .nil) ?_
 cases r6
 conv=>cbv
 have e:((⟨Ak,Aj,Am,Al,Ao,An⟩:Aa),3)=Be (⟨Ak,Aj,Am,Al,Ao,An⟩:Aa) name text:=(by unfold Be;rw[if_pos (.inl ah)])
 rw[hr]at e
 simp only[Prod.mk.injEq,Aa.mk.injEq]at e
 obtain⟨⟨rfl,rfl,rfl,rfl,rfl,rfl⟩,rfl⟩:=e
 obtain rfl:Bk=Di:=by rw[←A1,←En]
 obtain rfl:n2=noanod:=by first|omega|(rw[hnoanod];simp;done)|(rw[hnoanod];simp;omega)
 obtain rfl:Bg=De:=by rw[←Ax,←Et]
 obtain rfl:n3=noaent:=by first|omega|(rw[hnoaent];simp;done)|(rw[hnoaent];simp;omega)
 obtain rfl:Bf=Df:=by rw[←A6,←Er]
 obtain rfl:n4=noaold:=by first|omega|(rw[hnoaold];simp;done)|(rw[hnoaold];simp;omega)
 obtain rfl:Bi=Dd:=by rw[←A5,←Es]
 obtain rfl:n5=noaste:=by first|omega|(rw[hnoaste];simp;done)|(rw[hnoaste];simp;omega)
 exact hQ _ _ (.of [6,7,8,9] (.inl rfl) rfl rfl rfl rfl)
 conv=>cbv
 generalize am:Du Aj name=r7
 refine .lnt hP (Kl Ax (by omega) am) (.ref rfl (Ag Ax) (.d rfl .nil)) ?_
 cases r7
 conv=>cbv
 have e:((⟨Ak,Aj,Am,Al,Ao,An⟩:Aa),3)=Be (⟨Ak,Aj,Am,Al,Ao,An⟩:Aa) name text:=(by unfold Be;rw[if_pos (.inr (Ye (XaN am)))])
 rw[hr]at e
 simp only[Prod.mk.injEq,Aa.mk.injEq]at e
 obtain⟨⟨rfl,rfl,rfl,rfl,rfl,rfl⟩,rfl⟩:=e
 obtain rfl:Bk=Di:=by rw[←A1,←En]
 obtain rfl:n2=noanod:=by first|omega|(rw[hnoanod];simp;done)|(rw[hnoanod];simp;omega)
 obtain rfl:Bg=De:=by rw[←Ax,←Et]
 obtain rfl:n3=noaent:=by first|omega|(rw[hnoaent];simp;done)|(rw[hnoaent];simp;omega)
 obtain rfl:Bf=Df:=by rw[←A6,←Er]
 obtain rfl:n4=noaold:=by first|omega|(rw[hnoaold];simp;done)|(rw[hnoaold];simp;omega)
 obtain rfl:Bi=Dd:=by rw[←A5,←Es]
 obtain rfl:n5=noaste:=by first|omega|(rw[hnoaste];simp;done)|(rw[hnoaste];simp;omega)
 exact hQ _ _ (.of [6,7,8,9] (.inl rfl) rfl rfl rfl rfl)
 conv=>cbv
 generalize ap:Cp Aj name=r8
 refine .lnt hP (I2 Ax (by omega) ap) (.ref rfl (Ag Ax) (.d rfl .nil)) ?_
 conv=>cbv
 generalize aq:G7 (⟨Ak,Aj,Am,Al,Ao,An⟩:Aa) r8=r9
 refine .lnt hP (P5 A1 Ax A6 A5 (by omega) aq) (.agg (.ref rfl (Ag A1) (.ref rfl (Ag Ax) (.ref rfl (Ag A6) (.ref rfl (Ag A5) (.d rfl (.d rfl .nil)))))) (.d rfl .nil)) ?_
 conv=>cbv
 have hpl:=Z3 am
 have hk:Ck (⟨Ak,Aj,Am,Al,Ao,An⟩:Aa) name=r9:=by rw[←X1 (d:=(⟨Ak,Aj,Am,Al,Ao,An⟩:Aa)) hpl];show G7 _ (Cp Aj name)=r9;rw[ap,aq]
 have hb:=Ib hk
 have bd:=(XeR ah hpl).2
 rw[hk]at bd
 simp only[]at hb
 generalize af:Hr (⟨Ak,Aj,Am,Al,Ao,An⟩:Aa)=ar
 refine .lnt hP (Xet A1 Ax A6 A5 aj.1 af) (.agg (.ref rfl (Ag A1) (.ref rfl (Ag Ax) (.ref rfl (Ag A6) (.ref rfl (Ag A5) (.d rfl (.d rfl .nil)))))) .nil) ?_
 conv=>cbv
 have hri:=Ll ah
 simp only[af]at hri
 refine .sub fun bm au=>?_
 conv=>cbv
 refine .go fun bn bi=>?_
 conv=>cbv
 refine .gtr (fun h13=>?_) fun h13=>?_
 conv=>cbv
 refine .go r9.toNat fun ai aw an=>?_
 conv=>cbv
 refine .go A1 fun ae ⟨ao,aa,ak⟩ ab=>?_
 conv=>cbv
 have ax:aa.size≤1000000000:=by have h9:=aj.1.2.1 _ (List.getElem_mem ae);rw[←ab]at h9;exact h9
 refine .hi fun al ag=>?_
 conv=>cbv
 have bj:al.size≤text.size:=by rw[ag,ByteArray.size_extract];omega
 refine .go fun ay az bk=>?_
 conv=>cbv
 refine .go r9.toNat fun ac a1 be=>?_
 conv=>cbv
 refine .go (⟨(Ak.getD ac ⟨0,tx [],0⟩).id_,ay,(Ak.getD ac ⟨0,tx [],0⟩).sure_⟩:Cj) A1 (by omega) (by rw[←gD (show ac<Ak.length by omega)];rfl) (show 1+1≤3 by decide) fun bf a2=>?_
 conv=>cbv
 have e:((⟨Ak.set ac (⟨(Ak.getD ac ⟨0,tx [],0⟩).id_,ay,(Ak.getD ac ⟨0,tx [],0⟩).sure_⟩:Cj),Aj,Am,Al,Ao,An⟩:Aa),5)=Be (⟨Ak,Aj,Am,Al,Ao,An⟩:Aa) name text:=(by unfold Be;rw[if_neg (by rintro(h|h);rw[ah]at h;cases h;rw[hk]at h;omega),hk,af];dsimp only;rw[if_pos (by omega)];unfold setN gN;dsimp only;have e9:aa=(Ak.getD ac ⟨0,tx [],0⟩).text_:=(by have h9:ai=ac:=(by omega);subst h9;rw[←gD (show ai<Ak.length by omega),←ab]);rw[←a1,az,e9,ag,au,show min (text.size:Int) (Ao - ar)=Ao - ar by omega])
 rw[hr]at e
 simp only[Prod.mk.injEq,Aa.mk.injEq]at e
 obtain⟨⟨rfl,rfl,rfl,rfl,rfl,rfl⟩,rfl⟩:=e
 obtain rfl:bf=Di:=by rw[←a2,←En]
 obtain rfl:n2=noanod:=by first|omega|(rw[hnoanod];simp;done)|(rw[hnoanod];simp;omega)
 obtain rfl:Bg=De:=by rw[←Ax,←Et]
 obtain rfl:n3=noaent:=by first|omega|(rw[hnoaent];simp;done)|(rw[hnoaent];simp;omega)
 obtain rfl:Bf=Df:=by rw[←A6,←Er]
 obtain rfl:n4=noaold:=by first|omega|(rw[hnoaold];simp;done)|(rw[hnoaold];simp;omega)
 obtain rfl:Bi=Dd:=by rw[←A5,←Es]
 obtain rfl:n5=noaste:=by first|omega|(rw[hnoaste];simp;done)|(rw[hnoaste];simp;omega)
 exact hQ _ _ (.of [6,7,8,9] (.inl rfl) rfl rfl rfl rfl)
 conv=>cbv
 refine .go r9.toNat fun ai aw an=>?_
 conv=>cbv
 refine .go A1 fun ae ⟨ao,aa,ak⟩ ab=>?_
 conv=>cbv
 have ax:aa.size≤1000000000:=by have h9:=aj.1.2.1 _ (List.getElem_mem ae);rw[←ab]at h9;exact h9
 refine .go fun al ag bl=>?_
 conv=>cbv
 refine .go r9.toNat fun ad a6 bg=>?_
 conv=>cbv
 refine .go (⟨(Ak.getD ad ⟨0,tx [],0⟩).id_,al,(Ak.getD ad ⟨0,tx [],0⟩).sure_⟩:Cj) A1 (by omega) (by rw[←gD (show ad<Ak.length by omega)];rfl) (show 1+1≤3 by decide) fun bh a7=>?_
 conv=>cbv
 have e:((⟨Ak.set ad (⟨(Ak.getD ad ⟨0,tx [],0⟩).id_,al,(Ak.getD ad ⟨0,tx [],0⟩).sure_⟩:Cj),Aj,Am,Al,Ao,An⟩:Aa),0)=Be (⟨Ak,Aj,Am,Al,Ao,An⟩:Aa) name text:=(by unfold Be;rw[if_neg (by rintro(h|h);rw[ah]at h;cases h;rw[hk]at h;omega),hk,af];dsimp only;rw[if_neg (by omega)];unfold setN gN;dsimp only;have e9:aa=(Ak.getD ad ⟨0,tx [],0⟩).text_:=(by have h9:ai=ad:=(by omega);subst h9;rw[←gD (show ai<Ak.length by omega),←ab]);rw[←a6,ag,e9,Zo (t:=text) (by omega)])
 rw[hr]at e
 simp only[Prod.mk.injEq,Aa.mk.injEq]at e
 obtain⟨⟨rfl,rfl,rfl,rfl,rfl,rfl⟩,rfl⟩:=e
 obtain rfl:bh=Di:=by rw[←a7,←En]
 obtain rfl:n2=noanod:=by first|omega|(rw[hnoanod];simp;done)|(rw[hnoanod];simp;omega)
 obtain rfl:Bg=De:=by rw[←Ax,←Et]
 obtain rfl:n3=noaent:=by first|omega|(rw[hnoaent];simp;done)|(rw[hnoaent];simp;omega)
 obtain rfl:Bf=Df:=by rw[←A6,←Er]
 obtain rfl:n4=noaold:=by first|omega|(rw[hnoaold];simp;done)|(rw[hnoaold];simp;omega)
 obtain rfl:Bi=Dd:=by rw[←A5,←Es]
 obtain rfl:n5=noaste:=by first|omega|(rw[hnoaste];simp;done)|(rw[hnoaste];simp;omega)
 exact hQ _ _ (.of [6,7,8,9] (.inl rfl) rfl rfl rfl rfl)
theorem U0(A1:Ak.map B3=Bk)(Ax:Aj.map Ad=Bg)(A6:Am.map Ad=Bf)(A5:Al.map cS=Bi)(hn:Ak.length≤1000000000)(he:Aj.length≤1000000000)(ho:Am.length≤1000000000)(hs:Al.length<1000000000)(hss:okS Al)(an:Pc (⟨Ak,Aj,Am,Al,Ao,An⟩:Aa))(hr:C8 (⟨Ak,Aj,Am,Al,Ao,An⟩:Aa) name=(⟨Kf,Kh,Ke,Kg,Pw,Pt⟩,ob))(En:Kf.map B3=Di)(Et:Kh.map Ad=De)(Er:Ke.map Ad=Df)(Es:Kg.map cS=Dd)(hnoanod:noanod=Kf.length)(hnoaent:noaent=Kh.length)(hnoaold:noaold=Ke.length)(hnoaste:noaste=Kg.length):Fn Tryz.prog 222 [.agg [.d (.row 3 Bk),.d (.row 2 Bg),.d (.row 2 Bf),.d (.row 1 Bi),I Ao,I An],S name] [] ⟨.tup [.agg [.ref 0 0 noanod,.ref 1 0 noaent,.ref 2 0 noaold,.ref 3 0 noaste,I Pw,I Pt],I ob],[.row 3 false Di,.row 2 false De,.row 2 false Df,.row 1 false Dd],[]⟩:=by
 refine Fn.goR Jd Tryz.func222 fun P hP Q hQ=>?_
 conv=>cbv
 obtain⟨n2,ao⟩:∃m,m=Ak.length:=⟨_,rfl⟩
 obtain⟨n3,ap⟩:∃m,m=Aj.length:=⟨_,rfl⟩
 obtain⟨n4,aq⟩:∃m,m=Am.length:=⟨_,rfl⟩
 obtain⟨n5,ar⟩:∃m,m=Al.length:=⟨_,rfl⟩
 refine .ddN hP (Ls A1 Ax A6 A5 (by omega) (by omega) (by omega) (by omega) ao ap aq ar) rfl ?_
 conv=>cbv
 generalize ab:B4 (⟨Ak,Aj,Am,Al,Ao,An⟩:Aa)=r6
 refine .lnt hP (N3 A1 Ax A6 A5 an ab) (.agg (.ref rfl (Ag A1) (.ref rfl (Ag Ax) (.ref rfl (Ag A6) (.ref rfl (Ag A5) (.d rfl (.d rfl .nil)))))) .nil) ?_
 cases r6
 conv=>cbv
 have e:((⟨Ak,Aj,Am,Al,Ao,An⟩:Aa),3)=C8 (⟨Ak,Aj,Am,Al,Ao,An⟩:Aa) name:=(by unfold C8;rw[if_pos (.inl ab)])
 rw[hr]at e
 simp only[Prod.mk.injEq,Aa.mk.injEq]at e
 obtain⟨⟨rfl,rfl,rfl,rfl,rfl,rfl⟩,rfl⟩:=e
 obtain rfl:Bk=Di:=by rw[←A1,←En]
 obtain rfl:n2=noanod:=by first|omega|(rw[hnoanod];simp;done)|(rw[hnoanod];simp;omega)
 obtain rfl:Bg=De:=by rw[←Ax,←Et]
 obtain rfl:n3=noaent:=by first|omega|(rw[hnoaent];simp;done)|(rw[hnoaent];simp;omega)
 obtain rfl:Bf=Df:=by rw[←A6,←Er]
 obtain rfl:n4=noaold:=by first|omega|(rw[hnoaold];simp;done)|(rw[hnoaold];simp;omega)
 obtain rfl:Bi=Dd:=by rw[←A5,←Es]
 obtain rfl:n5=noaste:=by first|omega|(rw[hnoaste];simp;done)|(rw[hnoaste];simp;omega)
 exact hQ _ _ (.of [6,7,8,9] (.inl rfl) rfl rfl rfl rfl)
 conv=>cbv
 generalize ad:Du Aj name=r7
 refine .lnt hP (Kl Ax (by omega) ad) (.ref rfl (Ag Ax) (.d rfl .nil)) ?_
 cases r7
 conv=>cbv
 have e:((⟨Ak,Aj,Am,Al,Ao,An⟩:Aa),3)=C8 (⟨Ak,Aj,Am,Al,Ao,An⟩:Aa) name:=(by unfold C8;rw[if_pos (.inr (Ye (XaN ad)))])
 rw[hr]at e
 simp only[Prod.mk.injEq,Aa.mk.injEq]at e
 obtain⟨⟨rfl,rfl,rfl,rfl,rfl,rfl⟩,rfl⟩:=e
 obtain rfl:Bk=Di:=by rw[←A1,←En]
 obtain rfl:n2=noanod:=by first|omega|(rw[hnoanod];simp;done)|(rw[hnoanod];simp;omega)
 obtain rfl:Bg=De:=by rw[←Ax,←Et]
 obtain rfl:n3=noaent:=by first|omega|(rw[hnoaent];simp;done)|(rw[hnoaent];simp;omega)
 obtain rfl:Bf=Df:=by rw[←A6,←Er]
 obtain rfl:n4=noaold:=by first|omega|(rw[hnoaold];simp;done)|(rw[hnoaold];simp;omega)
 obtain rfl:Bi=Dd:=by rw[←A5,←Es]
 obtain rfl:n5=noaste:=by first|omega|(rw[hnoaste];simp;done)|(rw[hnoaste];simp;omega)
 exact hQ _ _ (.of [6,7,8,9] (.inl rfl) rfl rfl rfl rfl)
 conv=>cbv
 generalize ae:Cp Aj name=r8
 refine .lnt hP (I2 Ax (by omega) ae) (.ref rfl (Ag Ax) (.d rfl .nil)) ?_
 conv=>cbv
 generalize af:G7 (⟨Ak,Aj,Am,Al,Ao,An⟩:Aa) r8=r9
 refine .lnt hP (P5 A1 Ax A6 A5 (by omega) af) (.agg (.ref rfl (Ag A1) (.ref rfl (Ag Ax) (.ref rfl (Ag A6) (.ref rfl (Ag A5) (.d rfl (.d rfl .nil)))))) (.d rfl .nil)) ?_
 conv=>cbv
 have hpl:=Z3 ad
 have hk:Ck (⟨Ak,Aj,Am,Al,Ao,An⟩:Aa) name=r9:=by rw[←X1 (d:=(⟨Ak,Aj,Am,Al,Ao,An⟩:Aa)) hpl];show G7 _ (Cp Aj name)=r9;rw[ae,af]
 have hb:=Ib hk
 have au:=(XeR ab hpl).2
 rw[hk]at au
 simp only[]at hb
 refine .go r9.toNat fun ag a2 aw=>?_
 conv=>cbv
 refine .go A1 fun ax ⟨ay,ac,am⟩ ah=>?_
 conv=>cbv
 refine .go fun ai aj=>?_
 conv=>cbv
 refine .go r9.toNat fun aa ak az=>?_
 conv=>cbv
 refine .go (⟨(Ak.getD aa ⟨0,tx [],0⟩).id_,(Ak.getD aa ⟨0,tx [],0⟩).text_,ai⟩:Cj) A1 (by omega) (by rw[←gD (show aa<Ak.length by omega)];rfl) (show 2+1≤3 by decide) fun a1 al=>?_
 conv=>cbv
 have e:((⟨Ak.set aa (⟨(Ak.getD aa ⟨0,tx [],0⟩).id_,(Ak.getD aa ⟨0,tx [],0⟩).text_,ai⟩:Cj),Aj,Am,Al,Ao,An⟩:Aa),0)=C8 (⟨Ak,Aj,Am,Al,Ao,An⟩:Aa) name:=(by unfold C8;rw[if_neg (by rintro(h|h);rw[ab]at h;cases h;rw[hk]at h;omega),hk];dsimp only;have e9:ac=(Ak.getD aa ⟨0,tx [],0⟩).text_:=(by have h9:ag=aa:=(by omega);subst h9;rw[←gD (show ag<Ak.length by omega),←ah]);rw[aj,e9,←ak])
 rw[hr]at e
 simp only[Prod.mk.injEq,Aa.mk.injEq]at e
 obtain⟨⟨rfl,rfl,rfl,rfl,rfl,rfl⟩,rfl⟩:=e
 obtain rfl:a1=Di:=by rw[←al,←En]
 obtain rfl:n2=noanod:=by first|omega|(rw[hnoanod];simp;done)|(rw[hnoanod];simp;omega)
 obtain rfl:Bg=De:=by rw[←Ax,←Et]
 obtain rfl:n3=noaent:=by first|omega|(rw[hnoaent];simp;done)|(rw[hnoaent];simp;omega)
 obtain rfl:Bf=Df:=by rw[←A6,←Er]
 obtain rfl:n4=noaold:=by first|omega|(rw[hnoaold];simp;done)|(rw[hnoaold];simp;omega)
 obtain rfl:Bi=Dd:=by rw[←A5,←Es]
 obtain rfl:n5=noaste:=by first|omega|(rw[hnoaste];simp;done)|(rw[hnoaste];simp;omega)
 exact hQ _ _ (.of [6,7,8,9] (.inl rfl) rfl rfl rfl rfl)
theorem Z0{from_:ByteArray}{to_:ByteArray}(A1:Ak.map B3=Bk)(Ax:Aj.map Ad=Bg)(A6:Am.map Ad=Bf)(A5:Al.map cS=Bi)(hn:Ak.length≤1000000000)(he:Aj.length≤1000000000)(ho:Am.length≤1000000000)(hs:Al.length<1000000000)(hss:okS Al)(ay:Pc (⟨Ak,Aj,Am,Al,Ao,An⟩:Aa))(hm:from_.size+to_.size<999999999)(hr:Cg (⟨Ak,Aj,Am,Al,Ao,An⟩:Aa) from_ to_=(⟨Kf,Kh,Ke,Kg,Pw,Pt⟩,ob))(En:Kf.map B3=Di)(Et:Kh.map Ad=De)(Er:Ke.map Ad=Df)(Es:Kg.map cS=Dd)(hnoanod:noanod=Kf.length)(hnoaent:noaent=Kh.length)(hnoaold:noaold=Ke.length)(hnoaste:noaste=Kg.length):Fn Tryz.prog 238 [.agg [.d (.row 3 Bk),.d (.row 2 Bg),.d (.row 2 Bf),.d (.row 1 Bi),I Ao,I An],S from_,S to_] [] ⟨.tup [.agg [.ref 0 0 noanod,.ref 1 0 noaent,.ref 2 0 noaold,.ref 3 0 noaste,I Pw,I Pt],I ob],[.row 3 false Di,.row 2 false De,.row 2 false Df,.row 1 false Dd],[]⟩:=by
 refine Fn.goR Jd Tryz.func238 fun P hP Q hQ=>?_
 conv=>cbv
 obtain⟨n2,az⟩:∃m,m=Ak.length:=⟨_,rfl⟩
 obtain⟨n3,a1⟩:∃m,m=Aj.length:=⟨_,rfl⟩
 obtain⟨n4,a2⟩:∃m,m=Am.length:=⟨_,rfl⟩
 obtain⟨n5,a6⟩:∃m,m=Al.length:=⟨_,rfl⟩
 refine .ddN hP (Ls A1 Ax A6 A5 (by omega) (by omega) (by omega) (by omega) az a1 a2 a6) rfl ?_
 conv=>cbv
 generalize ad:B4 (⟨Ak,Aj,Am,Al,Ao,An⟩:Aa)=r6
 refine .lnt hP (N3 A1 Ax A6 A5 ay ad) (.agg (.ref rfl (Ag A1) (.ref rfl (Ag Ax) (.ref rfl (Ag A6) (.ref rfl (Ag A5) (.d rfl (.d rfl .nil)))))) .nil) ?_
 cases r6
 conv=>cbv
 have e:((⟨Ak,Aj,Am,Al,Ao,An⟩:Aa),3)=Cg (⟨Ak,Aj,Am,Al,Ao,An⟩:Aa) from_ to_:=(by unfold Cg;rw[if_pos (.inl ad)])
 rw[hr]at e
 simp only[Prod.mk.injEq,Aa.mk.injEq]at e
 obtain⟨⟨rfl,rfl,rfl,rfl,rfl,rfl⟩,rfl⟩:=e
 obtain rfl:Bk=Di:=by rw[←A1,←En]
 obtain rfl:n2=noanod:=by first|omega|(rw[hnoanod];simp;done)|(rw[hnoanod];simp;omega)
 obtain rfl:Bg=De:=by rw[←Ax,←Et]
 obtain rfl:n3=noaent:=by first|omega|(rw[hnoaent];simp;done)|(rw[hnoaent];simp;omega)
 obtain rfl:Bf=Df:=by rw[←A6,←Er]
 obtain rfl:n4=noaold:=by first|omega|(rw[hnoaold];simp;done)|(rw[hnoaold];simp;omega)
 obtain rfl:Bi=Dd:=by rw[←A5,←Es]
 obtain rfl:n5=noaste:=by first|omega|(rw[hnoaste];simp;done)|(rw[hnoaste];simp;omega)
 exact hQ _ _ (.of [6,7,8,9] (.inl rfl) rfl rfl rfl rfl)
 conv=>cbv
 generalize ae:Du Aj from_=r7
 refine .lnt hP (Kl Ax (by omega) ae) (.ref rfl (Ag Ax) (.d rfl .nil)) ?_
 cases r7
 conv=>cbv
 have e:((⟨Ak,Aj,Am,Al,Ao,An⟩:Aa),3)=Cg (⟨Ak,Aj,Am,Al,Ao,An⟩:Aa) from_ to_:=(by unfold Cg;rw[if_pos (.inr (XaN ae))])
 rw[hr]at e
 simp only[Prod.mk.injEq,Aa.mk.injEq]at e
 obtain⟨⟨rfl,rfl,rfl,rfl,rfl,rfl⟩,rfl⟩:=e
 obtain rfl:Bk=Di:=by rw[←A1,←En]
 obtain rfl:n2=noanod:=by first|omega|(rw[hnoanod];simp;done)|(rw[hnoanod];simp;omega)
 obtain rfl:Bg=De:=by rw[←Ax,←Et]
 obtain rfl:n3=noaent:=by first|omega|(rw[hnoaent];simp;done)|(rw[hnoaent];simp;omega)
 obtain rfl:Bf=Df:=by rw[←A6,←Er]
 obtain rfl:n4=noaold:=by first|omega|(rw[hnoaold];simp;done)|(rw[hnoaold];simp;omega)
 obtain rfl:Bi=Dd:=by rw[←A5,←Es]
 obtain rfl:n5=noaste:=by first|omega|(rw[hnoaste];simp;done)|(rw[hnoaste];simp;omega)
 exact hQ _ _ (.of [6,7,8,9] (.inl rfl) rfl rfl rfl rfl)
 conv=>cbv
 generalize aj:Bo to_=r8
 refine .dd hP (Kk (by omega) aj) ?_
 cases r8
 conv=>cbv
 have e:((⟨Ak,Aj,Am,Al,Ao,An⟩:Aa),1)=Cg (⟨Ak,Aj,Am,Al,Ao,An⟩:Aa) from_ to_:=(by unfold Cg;rw[if_neg (by rintro(h|h);rw[ad]at h;cases h;have:=Z3 ae;dsimp only at h;omega),if_pos (.inl aj)])
 rw[hr]at e
 simp only[Prod.mk.injEq,Aa.mk.injEq]at e
 obtain⟨⟨rfl,rfl,rfl,rfl,rfl,rfl⟩,rfl⟩:=e
 obtain rfl:Bk=Di:=by rw[←A1,←En]
 obtain rfl:n2=noanod:=by first|omega|(rw[hnoanod];simp;done)|(rw[hnoanod];simp;omega)
 obtain rfl:Bg=De:=by rw[←Ax,←Et]
 obtain rfl:n3=noaent:=by first|omega|(rw[hnoaent];simp;done)|(rw[hnoaent];simp;omega)
 obtain rfl:Bf=Df:=by rw[←A6,←Er]
 obtain rfl:n4=noaold:=by first|omega|(rw[hnoaold];simp;done)|(rw[hnoaold];simp;omega)
 obtain rfl:Bi=Dd:=by rw[←A5,←Es]
 obtain rfl:n5=noaste:=by first|omega|(rw[hnoaste];simp;done)|(rw[hnoaste];simp;omega)
 exact hQ _ _ (.of [6,7,8,9] (.inl rfl) rfl rfl rfl rfl)
 conv=>cbv
 refine .eql (fun h9=>?_) fun h9=>?_
 conv=>cbv
 have e:((⟨Ak,Aj,Am,Al,Ao,An⟩:Aa),1)=Cg (⟨Ak,Aj,Am,Al,Ao,An⟩:Aa) from_ to_:=(by unfold Cg;rw[if_neg (by rintro(h|h);rw[ad]at h;cases h;have:=Z3 ae;dsimp only at h;omega),if_pos (.inr h9)])
 rw[hr]at e
 simp only[Prod.mk.injEq,Aa.mk.injEq]at e
 obtain⟨⟨rfl,rfl,rfl,rfl,rfl,rfl⟩,rfl⟩:=e
 obtain rfl:Bk=Di:=by rw[←A1,←En]
 obtain rfl:n2=noanod:=by first|omega|(rw[hnoanod];simp;done)|(rw[hnoanod];simp;omega)
 obtain rfl:Bg=De:=by rw[←Ax,←Et]
 obtain rfl:n3=noaent:=by first|omega|(rw[hnoaent];simp;done)|(rw[hnoaent];simp;omega)
 obtain rfl:Bf=Df:=by rw[←A6,←Er]
 obtain rfl:n4=noaold:=by first|omega|(rw[hnoaold];simp;done)|(rw[hnoaold];simp;omega)
 obtain rfl:Bi=Dd:=by rw[←A5,←Es]
 obtain rfl:n5=noaste:=by first|omega|(rw[hnoaste];simp;done)|(rw[hnoaste];simp;omega)
 exact hQ _ _ (.of [6,7,8,9] (.inl rfl) rfl rfl rfl rfl)
 conv=>cbv
 generalize ak:Cp Aj from_=a7
 refine .lnt hP (I2 Ax (by omega) ak) (.ref rfl (Ag Ax) (.d rfl .nil)) ?_
 conv=>cbv
 generalize ah:Cl Aj from_=ao
 have a8:=E9 ah
 generalize ab:ao.map Ad=bc
 obtain⟨nl11,hnl11⟩:∃m,m=ao.length:=⟨_,rfl⟩
 refine .lntN hP (Jo Ax (by omega) ah ab hnl11) (.ref rfl (Ag Ax) (.d rfl .nil)) rfl rfl rfl (by simp only[List.all_cons,List.all_nil,Bool.and_self,Aq (fun _=>rfl) ab]) ?_
 conv=>cbv
 generalize al:Cn ao (⟨to_,a7⟩:Ac)=af
 generalize ac:af.map Ad=ap
 obtain⟨nl12,hnl12⟩:∃m,m=af.length:=⟨_,rfl⟩
 refine .lntN hP (Gz ab (by omega) al ac hnl12) (.ref rfl (Ag ab) (.agg (.d rfl (.d rfl .nil)) .nil)) rfl rfl rfl (by simp only[List.all_cons,List.all_nil,Bool.and_self,Aq (fun _=>rfl) ac]) ?_
 conv=>cbv
 refine .litL 1 fun bg aq bd=>?_
 conv=>cbv
 refine .litR 1 fun bh ar be=>?_
 conv=>cbv
 refine .go fun ag au bf=>?_
 conv=>cbv
 refine .one ag A5 rfl fun aw ba bb am=>?_
 conv=>cbv
 generalize an:(Ed (⟨Ak,af,Am,(Al++[ag]),Ao,An⟩:Aa)).nodes_=aa
 generalize hx17:aa.map B3=ai
 obtain⟨nr17nod,hnr17nod⟩:∃m,m=aa.length:=⟨_,rfl⟩
 have ax:Ed (⟨Ak,af,Am,(Al++[ag]),Ao,An⟩:Aa)=⟨aa,af,Am,(Al++[ag]),Ao,An⟩:=by rw[←an];rfl
 refine .bx [6,11,8,13] [] hP (Mg A1 ac A6 am (by first|rfl|omega|(simp;omega)) (by first|rfl|omega|(simp;omega)) (by first|rfl|omega|(simp;omega)) (by first|rfl|omega|(simp;omega)) (by omega) (by omega) (by rw[List.length_append,List.length_singleton];omega) (Tp hss (by omega)) an hx17 hnr17nod) rfl rfl rfl rfl ?_
 conv=>cbv
 have e:((⟨aa,af,Am,Al++[ag],Ao,An⟩:Aa),0)=Cg (⟨Ak,Aj,Am,Al,Ao,An⟩:Aa) from_ to_:=(by unfold Cg;rw[if_neg (by rintro(h|h);rw[ad]at h;cases h;have:=Z3 ae;dsimp only at h;omega),if_neg (by rintro(h|h);rw[aj]at h;cases h;exact h9 h)];exact congrArg (fun x:Aa=>(x,(0:Int))) (ax.symm.trans (by rw[←al,←ah,←ak,show ag=tx [62]++from_++tx [58]++to_ from(by rw[au,ar,aq];rfl)];exact XdA ad (Z3 ae) aj h9)))
 rw[hr]at e
 simp only[Prod.mk.injEq,Aa.mk.injEq]at e
 obtain⟨⟨rfl,rfl,rfl,rfl,rfl,rfl⟩,rfl⟩:=e
 obtain rfl:ai=Di:=by rw[←hx17,←En]
 obtain rfl:nr17nod=noanod:=by first|omega|(rw[hnoanod];simp;done)|(rw[hnoanod];simp;omega)
 obtain rfl:ap=De:=by rw[←ac,←Et]
 obtain rfl:nl12=noaent:=by first|omega|(rw[hnoaent];simp;done)|(rw[hnoaent];simp;omega)
 obtain rfl:Bf=Df:=by rw[←A6,←Er]
 obtain rfl:n4=noaold:=by first|omega|(rw[hnoaold];simp;done)|(rw[hnoaold];simp;omega)
 obtain rfl:ba=Dd:=by rw[←am,←Es]
 obtain rfl:aw=noaste:=by first|omega|(rw[hnoaste];simp;done)|(rw[hnoaste];simp;omega)
 exact hQ _ _ (.of [14,11,8,13] (.inl rfl) rfl rfl rfl rfl)
theorem Rl(A1:Ak.map B3=Bk)(Ax:Aj.map Ad=Bg)(A6:Am.map Ad=Bf)(A5:Al.map cS=Bi)(hn:Ak.length≤1000000000)(he:Aj.length≤1000000000)(ho:Am.length≤1000000000)(hs:Al.length<1000000000)(hss:okS Al)(ak:Pc (⟨Ak,Aj,Am,Al,Ao,An⟩:Aa))(hm:name.size<1000000000)(hr:B5 (⟨Ak,Aj,Am,Al,Ao,An⟩:Aa) name=(⟨Kf,Kh,Ke,Kg,Pw,Pt⟩,ob))(En:Kf.map B3=Di)(Et:Kh.map Ad=De)(Er:Ke.map Ad=Df)(Es:Kg.map cS=Dd)(hnoanod:noanod=Kf.length)(hnoaent:noaent=Kh.length)(hnoaold:noaold=Ke.length)(hnoaste:noaste=Kg.length):Fn Tryz.prog 237 [.agg [.d (.row 3 Bk),.d (.row 2 Bg),.d (.row 2 Bf),.d (.row 1 Bi),I Ao,I An],S name] [] ⟨.tup [.agg [.ref 0 0 noanod,.ref 1 0 noaent,.ref 2 0 noaold,.ref 3 0 noaste,I Pw,I Pt],I ob],[.row 3 false Di,.row 2 false De,.row 2 false Df,.row 1 false Dd],[]⟩:=by
 refine Fn.goR Jd Tryz.func237 fun P hP Q hQ=>?_
 conv=>cbv
 obtain⟨n2,al⟩:∃m,m=Ak.length:=⟨_,rfl⟩
 obtain⟨n3,am⟩:∃m,m=Aj.length:=⟨_,rfl⟩
 obtain⟨n4,an⟩:∃m,m=Am.length:=⟨_,rfl⟩
 obtain⟨n5,ao⟩:∃m,m=Al.length:=⟨_,rfl⟩
 refine .ddN hP (Ls A1 Ax A6 A5 (by omega) (by omega) (by omega) (by omega) al am an ao) rfl ?_
 conv=>cbv
 generalize ac:B4 (⟨Ak,Aj,Am,Al,Ao,An⟩:Aa)=r6
 refine .lnt hP (N3 A1 Ax A6 A5 ak ac) (.agg (.ref rfl (Ag A1) (.ref rfl (Ag Ax) (.ref rfl (Ag A6) (.ref rfl (Ag A5) (.d rfl (.d rfl .nil)))))) .nil) ?_
 cases r6
 conv=>cbv
 have e:((⟨Ak,Aj,Am,Al,Ao,An⟩:Aa),3)=B5 (⟨Ak,Aj,Am,Al,Ao,An⟩:Aa) name:=(by unfold B5;rw[if_pos (.inl ac)])
 rw[hr]at e
 simp only[Prod.mk.injEq,Aa.mk.injEq]at e
 obtain⟨⟨rfl,rfl,rfl,rfl,rfl,rfl⟩,rfl⟩:=e
 obtain rfl:Bk=Di:=by rw[←A1,←En]
 obtain rfl:n2=noanod:=by first|omega|(rw[hnoanod];simp;done)|(rw[hnoanod];simp;omega)
 obtain rfl:Bg=De:=by rw[←Ax,←Et]
 obtain rfl:n3=noaent:=by first|omega|(rw[hnoaent];simp;done)|(rw[hnoaent];simp;omega)
 obtain rfl:Bf=Df:=by rw[←A6,←Er]
 obtain rfl:n4=noaold:=by first|omega|(rw[hnoaold];simp;done)|(rw[hnoaold];simp;omega)
 obtain rfl:Bi=Dd:=by rw[←A5,←Es]
 obtain rfl:n5=noaste:=by first|omega|(rw[hnoaste];simp;done)|(rw[hnoaste];simp;omega)
 exact hQ _ _ (.of [6,7,8,9] (.inl rfl) rfl rfl rfl rfl)
 conv=>cbv
 generalize ad:Du Aj name=r7
 refine .lnt hP (Kl Ax (by omega) ad) (.ref rfl (Ag Ax) (.d rfl .nil)) ?_
 cases r7
 conv=>cbv
 have e:((⟨Ak,Aj,Am,Al,Ao,An⟩:Aa),3)=B5 (⟨Ak,Aj,Am,Al,Ao,An⟩:Aa) name:=(by unfold B5;rw[if_pos (.inr (XaN ad))])
 rw[hr]at e
 simp only[Prod.mk.injEq,Aa.mk.injEq]at e
 obtain⟨⟨rfl,rfl,rfl,rfl,rfl,rfl⟩,rfl⟩:=e
 obtain rfl:Bk=Di:=by rw[←A1,←En]
 obtain rfl:n2=noanod:=by first|omega|(rw[hnoanod];simp;done)|(rw[hnoanod];simp;omega)
 obtain rfl:Bg=De:=by rw[←Ax,←Et]
 obtain rfl:n3=noaent:=by first|omega|(rw[hnoaent];simp;done)|(rw[hnoaent];simp;omega)
 obtain rfl:Bf=Df:=by rw[←A6,←Er]
 obtain rfl:n4=noaold:=by first|omega|(rw[hnoaold];simp;done)|(rw[hnoaold];simp;omega)
 obtain rfl:Bi=Dd:=by rw[←A5,←Es]
 obtain rfl:n5=noaste:=by first|omega|(rw[hnoaste];simp;done)|(rw[hnoaste];simp;omega)
 exact hQ _ _ (.of [6,7,8,9] (.inl rfl) rfl rfl rfl rfl)
 conv=>cbv
 generalize ah:Cl Aj name=l8
 generalize ae:l8.map Ad=ap
 obtain⟨nl8,hnl8⟩:∃m,m=l8.length:=⟨_,rfl⟩
 refine .lntN hP (Jo Ax (by omega) ah ae hnl8) (.ref rfl (Ag Ax) (.d rfl .nil)) rfl rfl rfl (by simp only[List.all_cons,List.all_nil,Bool.and_self,Aq (fun _=>rfl) ae]) ?_
 conv=>cbv
 refine .litL 1 fun s9 aq aw=>?_
 conv=>cbv
 refine .one s9 A5 rfl fun ai ar au af=>?_
 conv=>cbv
 generalize ag:(Ed (⟨Ak,l8,Am,(Al++[s9]),Ao,An⟩:Aa)).nodes_=aa
 generalize hx11:aa.map B3=ab
 obtain⟨nr11nod,hnr11nod⟩:∃m,m=aa.length:=⟨_,rfl⟩
 have aj:Ed (⟨Ak,l8,Am,(Al++[s9]),Ao,An⟩:Aa)=⟨aa,l8,Am,(Al++[s9]),Ao,An⟩:=by rw[←ag];rfl
 refine .bx [6,10,8,12] [] hP (Mg A1 ae A6 af (by first|rfl|omega|(simp;omega)) (by first|rfl|omega|(simp;omega)) (by first|rfl|omega|(simp;omega)) (by first|rfl|omega|(simp;omega)) (by omega) (by omega) (by rw[List.length_append,List.length_singleton];omega) (Tp hss (by omega)) ag hx11 hnr11nod) rfl rfl rfl rfl ?_
 conv=>cbv
 have e:((⟨aa,l8,Am,Al++[s9],Ao,An⟩:Aa),0)=B5 (⟨Ak,Aj,Am,Al,Ao,An⟩:Aa) name:=(by unfold B5;rw[if_neg (by rintro(h|h);rw[ac]at h;cases h;have:=Z3 ad;dsimp only at h;omega)];exact congrArg (fun x:Aa=>(x,(0:Int))) (aj.symm.trans (by rw[←ah,aq];exact XdH ac (Z3 ad))))
 rw[hr]at e
 simp only[Prod.mk.injEq,Aa.mk.injEq]at e
 obtain⟨⟨rfl,rfl,rfl,rfl,rfl,rfl⟩,rfl⟩:=e
 obtain rfl:ab=Di:=by rw[←hx11,←En]
 obtain rfl:nr11nod=noanod:=by first|omega|(rw[hnoanod];simp;done)|(rw[hnoanod];simp;omega)
 obtain rfl:ap=De:=by rw[←ae,←Et]
 obtain rfl:nl8=noaent:=by first|omega|(rw[hnoaent];simp;done)|(rw[hnoaent];simp;omega)
 obtain rfl:Bf=Df:=by rw[←A6,←Er]
 obtain rfl:n4=noaold:=by first|omega|(rw[hnoaold];simp;done)|(rw[hnoaold];simp;omega)
 obtain rfl:ar=Dd:=by rw[←af,←Es]
 obtain rfl:ai=noaste:=by first|omega|(rw[hnoaste];simp;done)|(rw[hnoaste];simp;omega)
 exact hQ _ _ (.of [13,10,8,12] (.inl rfl) rfl rfl rfl rfl)
theorem M8{onod:List Cj}{Ej:List (List D)}{oent:List Ac}{Ee:List (List D)}{oold:List Ac}{Eg:List (List D)}{oste:List ByteArray}{Ek:List (List D)}{oroo:Int}{onex:Int}{nonod:Nat}{noent:Nat}{noold:Nat}{noste:Nat}(A1:Ak.map B3=Bk)(Ax:Aj.map Ad=Bg)(A6:Am.map Ad=Bf)(A5:Al.map cS=Bi)(hn:Ak.length≤1000000000)(he:Aj.length≤1000000000)(ho:Am.length≤1000000000)(hs:Al.length<1000000000)(hss:okS Al)(af:Pc (⟨Ak,Aj,Am,Al,Ao,An⟩:Aa))(hr:C9 (⟨Ak,Aj,Am,Al,Ao,An⟩:Aa)=⟨onod,oent,oold,oste,oroo,onex⟩)(Ga:onod.map B3=Ej)(Gd:oent.map Ad=Ee)(Gg:oold.map Ad=Eg)(F5:oste.map cS=Ek)(hnonod:nonod=onod.length)(hnoent:noent=oent.length)(hnoold:noold=oold.length)(hnoste:noste=oste.length):Fn Tryz.prog 224 [.agg [.d (.row 3 Bk),.d (.row 2 Bg),.d (.row 2 Bf),.d (.row 1 Bi),I Ao,I An]] [] ⟨.agg [.ref 0 0 nonod,.ref 1 0 noent,.ref 2 0 noold,.ref 3 0 noste,I oroo,I onex],[.row 3 false Ej,.row 2 false Ee,.row 2 false Eg,.row 1 false Ek],[]⟩:=by
 refine Fn.goR Jd Tryz.func224 fun P hP Q hQ=>?_
 conv=>cbv
 obtain⟨n2,ag⟩:∃m,m=Ak.length:=⟨_,rfl⟩
 obtain⟨n3,ah⟩:∃m,m=Aj.length:=⟨_,rfl⟩
 obtain⟨n4,ai⟩:∃m,m=Am.length:=⟨_,rfl⟩
 obtain⟨n5,aj⟩:∃m,m=Al.length:=⟨_,rfl⟩
 refine .ddN hP (Ls A1 Ax A6 A5 (by omega) (by omega) (by omega) (by omega) ag ah ai aj) rfl ?_
 conv=>cbv
 generalize ac:B4 (⟨Ak,Aj,Am,Al,Ao,An⟩:Aa)=r6
 refine .lnt hP (N3 A1 Ax A6 A5 af ac) (.agg (.ref rfl (Ag A1) (.ref rfl (Ag Ax) (.ref rfl (Ag A6) (.ref rfl (Ag A5) (.d rfl (.d rfl .nil)))))) .nil) ?_
 cases r6
 conv=>cbv
 have e:(⟨Ak,Aj,Am,Al,Ao,An⟩:Aa)=C9 (⟨Ak,Aj,Am,Al,Ao,An⟩:Aa):=(by unfold C9;rw[if_pos ac])
 rw[hr]at e
 simp only[Aa.mk.injEq]at e
 obtain⟨rfl,rfl,rfl,rfl,rfl,rfl⟩:=e
 obtain rfl:Bk=Ej:=by rw[←A1,←Ga]
 obtain rfl:n2=nonod:=by first|omega|(rw[hnonod];simp;done)|(rw[hnonod];simp;omega)
 obtain rfl:Bg=Ee:=by rw[←Ax,←Gd]
 obtain rfl:n3=noent:=by first|omega|(rw[hnoent];simp;done)|(rw[hnoent];simp;omega)
 obtain rfl:Bf=Eg:=by rw[←A6,←Gg]
 obtain rfl:n4=noold:=by first|omega|(rw[hnoold];simp;done)|(rw[hnoold];simp;omega)
 obtain rfl:Bi=Ek:=by rw[←A5,←F5]
 obtain rfl:n5=noste:=by first|omega|(rw[hnoste];simp;done)|(rw[hnoste];simp;omega)
 exact hQ _ _ (.of [6,7,8,9] (.inl rfl) rfl rfl rfl rfl)
 conv=>cbv
 refine .sub0 Ax fun ak z7 am ad=>?_
 conv=>cbv
 generalize ae:(Ed (⟨Ak,Aj,Aj,[],Ao,An⟩:Aa)).nodes_=aa
 generalize hx8:aa.map B3=ab
 obtain⟨nr8nod,hnr8nod⟩:∃m,m=aa.length:=⟨_,rfl⟩
 have al:Ed (⟨Ak,Aj,Aj,[],Ao,An⟩:Aa)=⟨aa,Aj,Aj,[],Ao,An⟩:=by rw[←ae];rfl
 refine .bx [6,7,11,12] [] hP (Mg A1 Ax ad (show([]:List ByteArray).map cS=[]from rfl) (by first|rfl|omega|(simp;omega)) (by first|rfl|omega|(simp;omega)) (by first|rfl|omega|(simp;omega)) (by first|rfl|omega|(simp;omega)) (by omega) (by omega) (by simp) (fun _ h=>by cases h) ae hx8 hnr8nod) rfl rfl rfl rfl ?_
 conv=>cbv
 have e:(⟨aa,Aj,Aj,[],Ao,An⟩:Aa)=C9 (⟨Ak,Aj,Am,Al,Ao,An⟩:Aa):=(by unfold C9;rw[if_neg (by rw[ac];decide)];dsimp only;rw[←al];exact Xe (d:=⟨Ak,Aj,Aj,[],Ao,An⟩) trivial)
 rw[hr]at e
 simp only[Aa.mk.injEq]at e
 obtain⟨rfl,rfl,rfl,rfl,rfl,rfl⟩:=e
 obtain rfl:ab=Ej:=by rw[←hx8,←Ga]
 obtain rfl:nr8nod=nonod:=by first|omega|(rw[hnonod];simp;done)|(rw[hnonod];simp;omega)
 obtain rfl:Bg=Ee:=by rw[←Ax,←Gd]
 obtain rfl:n3=noent:=by first|omega|(rw[hnoent];simp;done)|(rw[hnoent];simp;omega)
 obtain rfl:z7=Eg:=by rw[←ad,←Gg]
 obtain rfl:ak=noold:=by first|omega|(rw[hnoold];simp;done)|(rw[hnoold];simp;omega)
 obtain rfl:[]=Ek:=by first|(rw[←F5];done)|(rw[←F5];rfl)
 obtain rfl:0=noste:=by first|omega|(rw[hnoste];simp;done)|(rw[hnoste];simp;omega)
 exact hQ _ _ (.of [13,7,11,12] (.inl rfl) rfl rfl rfl rfl)
end
section
open Go Go.Proofs
set_option maxRecDepth 20000
set_option maxHeartbeats 4000000
def Gj(room:Int):Aa:=⟨[],[],[],[],max 0 room,1⟩
def XiL(w:O9):A0:=⟨w.version_,w.stride_,w.base_,w.link_⟩
def begC(d:Aa)(w:O9):Int:=if(Aw d (Af w.base_)).2≠0 then 4 else if(Be (Aw d (Af w.base_)).1 (Af w.base_) (Bj (XiL w))).2≠0 then 2 else 0
def begD(d:Aa)(w:O9):Aa:=if(Aw d (Af w.base_)).2≠0 then(Aw d (Af w.base_)).1 else if(Be (Aw d (Af w.base_)).1 (Af w.base_) (Bj (XiL w))).2≠0 then(Be (Aw d (Af w.base_)).1 (Af w.base_) (Bj (XiL w))).1
 else C9 (C8 (Be (Aw d (Af w.base_)).1 (Af w.base_) (Bj (XiL w))).1 (Af w.base_)).1
def begW(d:Aa)(w:O9):O9:=if begC d w=0 then⟨w.version_,w.stride_,w.roll_,w.base_,w.link_,[],24,true,w.code_⟩else⟨w.version_,w.stride_,w.roll_,w.base_,w.link_,w.offsets_,w.end_,w.open_,begC d w⟩
def appB(s:Aa×O9):Aa×O9:=if s.2.code_=0∧s.2.open_=false then(begD s.1 s.2,begW s.1 s.2)else s
end
section
open Go Go.Proofs
set_option maxRecDepth 20000
set_option maxHeartbeats 4000000
def E5(b:List UInt8)(i h:Int)(l:List ByteArray):ByteArray×Int×Int:=match Ae b i h l.length with|(x,i,h)=>(l.getD x.toNat (tx []),i,h)
def Xjq(b:List UInt8)(m:Int):Nat→Int→Int→Int→List ByteArray×Int×Int
 |0,_,i,h=>([],i,h)
 |f+1,k,i,h=>match Ae b i h (m+1)with|(x,i,h)=>if k<x then match Dr b i h with|(y,i,h)=>match Xjq b m f (k+1) i h with|(l,i,h)=>(y::l,i,h)else([],i,h)
def Dh(b:List UInt8)(i h m:Int):List ByteArray×Int×Int:=Xjq b m (m.toNat+1) 0 i h
def Ko(b:List UInt8)(i h:Int):A0×Int×Int:=match Ae b i h 2 with
 |(v,i,h)=>match Ae b i h 4 with|(s,i,h)=>match Ae b i h 9 with|(n,i,h)=>match Ae b i h 1000000 with|(l,i,h)=>(⟨1+v,1+s,n,l⟩,i,h)
def XkW(t:ByteArray)(a z:Nat):ByteArray:=t.extract a z
def flipB(t:ByteArray)(k:Nat)(y:Int):UInt8:=UInt8.ofNat (Ku .xor .u8 (bAt t k) (IntKind.u8.wrap (1*2^min (IntKind.u64.wrap y).toNat IntKind.u8.bits))).toNat
def Do(b:List UInt8)(i h:Int)(t:ByteArray):ByteArray×Int×Int:=if t=tx []then(t,i,h)else match Bt b i h 2 with
 |(o,i,h)=>if o=true then(t,i,h)else match Ae b i h t.size with
  |(k,i,h)=>match Ae b i h 4 with
   |(x,i,h)=>if x=0 then(XkW t 0 k.toNat,i,h)else if x=1 then(XkW t 0 k.toNat++XkW t (k.toNat+1) t.size,i,h)
    else if x=2 then match Ae b i h 4 with|(y,i,h)=>match Dp b i h (1+y)with|(q,i,h)=>(t++q,i,h)
    else match Ae b i h 8 with|(y,i,h)=>(XkW t 0 k.toNat++tx [flipB t k.toNat y]++XkW t (k.toNat+1) t.size,i,h)
def XkZ(v:Int):Int→List ByteArray→ByteArray
 |_,[]=>tx []
 |p,x::l=>Ai v p x++XkZ v (p+1) l
def Ev(h:A0)(l:List ByteArray):ByteArray:=Bj h++XkZ h.version_ h.base_ l
def Is(b:List UInt8)(i h:Int):ByteArray×Int×Int:=match Ko b i h with
 |(hd,i,h)=>match Dh b i h 6 with|(l,i,h)=>match Bt b i h 2 with|(o,i,h)=>if o=true then Do b i h (A7 hd l)else Do b i h (Ev hd l)
def nmA:List ByteArray:=[tx [97],tx [98],tx [115,48,48,48,48,48,48,48,48,46,115,101,103],tx [115,48,48,48,48,48,48,48,51,46,115,101,103],tx [115,48,48,48,48,48,48,48,48,46,115,101,103,46,116,109,112],tx [99]]
def nmB:List ByteArray:=[tx [98],tx [120],tx [115,48,48,48,48,48,48,48,51,46,115,101,103]]
def Gr(b:List UInt8)(i h:Int)(d:Aa):Aa×Int×Int:=match E5 b i h nmA with
 |(n,i,h)=>match Ae b i h 8 with
  |(x,i,h)=>if x=0 then((B5 d n).1,i,h)else if x=1 then(C9 d,i,h)else if x=2 then((C8 d n).1,i,h)
   else if x=3 then match E5 b i h nmB with|(m,i,h)=>((Cg d n m).1,i,h)
   else if x=4∨x=5 then((Aw d n).1,i,h)
   else match Ae b i h 12 with|(y,i,h)=>match Dp b i h y with|(t,i,h)=>((Be (Aw d n).1 n t).1,i,h)
def Xan(b:List UInt8):Nat→Int→Int→Int→Aa→Aa×Int×Int
 |0,_,i,h,d=>(d,i,h)
 |f+1,k,i,h,d=>match Ae b i h 9 with|(x,i,h)=>if k<x then match Gr b i h d with|(d,i,h)=>Xan b f (k+1) i h d else(d,i,h)
def G3(b:List UInt8)(i h:Int):Aa×Int×Int:=match Bn b i h [4000,4000,4000,300,100]with|(r,i,h)=>Xan b 9 0 i h (Gj r)
def E8(b:List UInt8)(i h:Int)(d:Aa)(n t:ByteArray):Aa×Int×Int:=
 match Bt b i h 4 with
 |(o,i,h)=>
  let d:=(Be (Aw (B5 d n).1 n).1 n t).1
  let d:=if o=true then d else(C8 d n).1
  match Bt b i h 4 with|(o,i,h)=>(if o=true then d else C9 d,i,h)
def C3(b:List UInt8)(i h:Int):Aa×Int×Int:=match G3 b i h with
 |(d,i,h)=>match Ae b i h 16 with
  |(x,i,h)=>if x=0 then match Bn b i h [-1,0,5,1000000001]with|(y,i,h)=>(⟨d.nodes_,d.entries_,d.old_,d.steps_,y,d.next_⟩,i,h)
   else if x=1 then match Bn b i h [0,1,2,-1,9223372036854775807]with|(y,i,h)=>(⟨d.nodes_,d.entries_,d.old_,d.steps_,d.room_,y⟩,i,h)
   else if x=2 then match Ae b i h 4 with|(y,i,h)=>(⟨d.nodes_,d.entries_++[⟨tx [122],y⟩],d.old_,d.steps_,d.room_,d.next_⟩,i,h)
   else if x=3 then(⟨d.nodes_,d.entries_,d.old_++[⟨tx [122],1⟩],d.steps_,d.room_,d.next_⟩,i,h)
   else if x=4 then match E5 b i h [tx [45,97],tx [43,113,58,49],tx [120],tx [],tx [43,113,58,57],tx [45,122,122],tx [43,58,49],tx [43,113,58]]with
    |(y,i,h)=>(⟨d.nodes_,d.entries_,d.old_,d.steps_++[y],d.room_,d.next_⟩,i,h)
   else if x=5 then match d.nodes_ with
    |[]=>(d,i,h)
    |n::l=>match Bn b i h [-1,0,99]with|(y,i,h)=>(⟨⟨n.id_,n.text_,y⟩::l,d.entries_,d.old_,d.steps_,d.room_,d.next_⟩,i,h)
   else if x=6 then match d.nodes_ with
    |n::m::l=>(⟨n::⟨n.id_,m.text_,m.sure_⟩::l,d.entries_,d.old_,d.steps_,d.room_,d.next_⟩,i,h)
    |_=>(d,i,h)
   else(d,i,h)
def XiI(b:List UInt8)(i h link:Int):Int×Int×Int:=match Bt b i h 20 with|(o,i,h)=>(if o=true then Ku .xor .i64 link 1 else link,i,h)
def Wj(b:List UInt8)(i h:Int)(hd:A0)(rs:List ByteArray):ByteArray×Int×Int:=match Bt b i h 4 with|(o,i,h)=>(if o=true then Ev hd rs else A7 hd rs,i,h)
def Wk(b:List UInt8)(i h:Int)(t:ByteArray):ByteArray×Int×Int:=match Bt b i h 6 with|(o,i,h)=>if o=true then Do b i h t else(t,i,h)
def Qr(b:List UInt8):Nat→Int→Int→Int→Aa→Int→Int→Aa×Int×Int
 |0,_,i,h,d,_,_=>(d,i,h)
 |f+1,k,i,h,d,base,link=>match Ae b i h 5 with
  |(x,i,h)=>if k<x then match Ae b i h 2 with
   |(v,i,h)=>match Ae b i h 3 with
    |(s,i,h)=>match Dr b i h with
     |(r,i,h)=>match Dh b i h 3 with
      |(l,i,h)=>match Bt b i h 20 with
       |(o,i,h)=>
        let rs:List ByteArray:=if o=true then[]else r::l
        match XiI b i h link with
        |(lk,i,h)=>match Wj b i h ⟨1+v,1+s,base,lk⟩ rs with
         |(t,i,h)=>match Wk b i h t with
            |(t,i,h)=>match E8 b i h d (Af base) t with
             |(d,i,h)=>Qr b f (k+1) i h d (base+rs.length) (rs.foldl Dq link)
   else(d,i,h)
def Gq(b:List UInt8)(i h:Int):Aa×Int×Int:=match Bn b i h [6000,6000,6000,900]with
 |(r,i,h)=>match Qr b 5 0 i h (Gj r) 0 0 with
  |(d,i,h)=>match Ae b i h 6 with
   |(x,i,h)=>if x=0 then match Ae b i h 4 with|(y,i,h)=>E8 b i h d (Bm y) (tx [104,97,108,102])
    else if x=1 then match Ae b i h 9 with|(y,i,h)=>match Is b i h with|(t,i,h)=>E8 b i h d (Af (20+y)) t
    else if x=2 then E8 b i h d (tx [114,101,97,100,109,101]) (tx [115,111,109,101,32,116,101,120,116])
    else(d,i,h)
def H4(b:List UInt8)(i h:Int):Aa×Int×Int:=match Bt b i h 10 with|(o,i,h)=>if o=true then C3 b i h else Gq b i h
def okE(m:Nat)(d:Aa):Prop:=Pc d∧d.steps_.length≤m∧d.entries_.length≤m∧d.old_.length≤m
def okX(d d':Aa):Prop:=d'.entries_.length≤d.entries_.length+1∧(d'.old_=d.old_∨d'.old_=d.entries_)
theorem Oh(d:Aa):okX d d:=⟨Nat.le_succ _,.inl rfl⟩
theorem okE.of{m:Nat}{d d':Aa}(h:okE m d)(g:okG d d')(x:okX d d'):okE (m+1) d':=by
 obtain⟨h1,h2,h3,h4⟩:=h
 obtain⟨g1,g2⟩:=g
 obtain⟨x1,x2⟩:=x
 refine⟨g1,by omega,by omega,?_⟩
 rcases x2 with e|e<;>rw[e]<;>omega
theorem okE.st{m:Nat}{d:Aa}(h:okE m d)(hm:m≤1000):d.steps_.length<1000000000:=by have:=h.2.1;omega
theorem okE.up{m n:Nat}{d:Aa}(h:okE m d)(hn:m≤n):okE n d:=by
 obtain⟨h1,h2,h3,h4⟩:=h
 exact⟨h1,by omega,by omega,by omega⟩
theorem XcO{d:Aa}{s:ByteArray}:okX d (Lo d s):=by
 obtain⟨e,b,hy⟩:∃e b,A2 d.entries_ s=(e,b):=⟨_,_,rfl⟩
 have hlen:=Vb hy
 unfold Lo
 rw[hy]
 exact⟨by show e.length≤_;omega,.inl rfl⟩
theorem Mn{d:Aa}{name:ByteArray}:okX d (Aw d name).1:=by
 unfold Aw
 repeat' split
 all_goals first|exact Oh d|exact(XcO:okX (⟨_,d.entries_,d.old_,_,_,_⟩:Aa) _)
theorem T6{d:Aa}{name:ByteArray}:okX d (B5 d name).1:=by
 unfold B5
 split
 ·exact Oh d
 ·exact XcO
theorem Xd2{d:Aa}{a b:ByteArray}:okX d (Cg d a b).1:=by
 unfold Cg
 repeat' split
 all_goals first|exact Oh d|exact XcO
theorem Tq{d:Aa}{name text:ByteArray}:okX d (Be d name text).1:=by
 unfold Be
 split
 ·exact Oh d
 ·exact⟨Nat.le_succ _,.inl rfl⟩
theorem XeA{d:Aa}{name:ByteArray}:okX d (C8 d name).1:=by
 unfold C8
 split
 ·exact Oh d
 ·exact⟨Nat.le_succ _,.inl rfl⟩
theorem V1{d:Aa}:okX d (C9 d):=by
 unfold C9
 split
 ·exact Oh d
 ·exact⟨Nat.le_succ _,.inr rfl⟩
theorem Hh{b:List UInt8}{i h oi oh:Int}{l:List ByteArray}{o:ByteArray}{n:Nat}(e:E5 b i h l=(o,oi,oh))(hc:0≤i∧i≤b.length∧b.length≤1000000000000)(hl:∀x∈l,x.size≤n):o.size≤n∧0≤oi∧oi≤b.length:=by
 unfold E5 at e
 rcases h1:Ae b i h l.length with⟨x,i1,h1'⟩
 have z1:=Ah h1 hc
 simp only[h1,Prod.mk.injEq]at e
 refine⟨?_,by omega⟩
 rw[←e.1,List.getD_eq_getElem?_getD]
 rcases h2:l[x.toNat]? with _|y
 ·exact Nat.zero_le _
 ·exact hl y (List.mem_of_getElem? h2)
theorem XdX{b:List UInt8}{i h oi oh:Int}{d o:Aa}{m:Nat}(e:Gr b i h d=(o,oi,oh))(hc:0≤i∧i≤b.length∧b.length≤1000000000000)(hd:okE m d)(hm:m≤1000):okE (m+2) o∧0≤oi∧oi≤b.length:=by
 unfold Gr at e
 have hs:=hd.2.1
 rcases h1:E5 b i h nmA with⟨n,i1,h1'⟩
 have z1:=Hh (n:=100) h1 hc (by decide)
 rcases h2:Ae b i1 h1' 8 with⟨x,i2,h2'⟩
 have z2:=Ah h2 (by omega)
 simp only[h1,h2]at e
 split at e
 ·simp only[Prod.mk.injEq]at e
  rw[←e.1,←e.2.1]
  exact⟨(hd.of (Qf hd.1 (by omega) (by omega)) T6).up (by omega),z2.2⟩
 split at e
 ·simp only[Prod.mk.injEq]at e
  rw[←e.1,←e.2.1]
  exact⟨(hd.of (Qn hd.1) V1).up (by omega),z2.2⟩
 split at e
 ·simp only[Prod.mk.injEq]at e
  rw[←e.1,←e.2.1]
  exact⟨(hd.of (Zb hd.1) XeA).up (by omega),z2.2⟩
 split at e
 ·rcases h3:E5 b i2 h2' nmB with⟨q,i3,h3'⟩
  have z3:=Hh (n:=100) h3 (by omega) (by decide)
  simp only[h3,Prod.mk.injEq]at e
  rw[←e.1,←e.2.1]
  exact⟨(hd.of (Xau hd.1 (by omega) (by omega) (by omega)) Xd2).up (by omega),z3.2⟩
 split at e
 ·simp only[Prod.mk.injEq]at e
  rw[←e.1,←e.2.1]
  exact⟨(hd.of (J9 hd.1 (by omega) (by omega)) Mn).up (by omega),z2.2⟩
 rcases h3:Ae b i2 h2' 12 with⟨y,i3,h3'⟩
 have z3:=Ah h3 (by omega)
 rcases h4:Dp b i3 h3' y with⟨t,i4,h4'⟩
 have z4:=F0 h4 (by omega)
 simp only[h3,h4,Prod.mk.injEq]at e
 rw[←e.1,←e.2.1]
 have g:=hd.of (J9 (name:=n) hd.1 (by omega) (by omega)) Mn
 exact⟨g.of (Rh g.1) Tq,z4.2⟩
theorem XjX{b:List UInt8}:∀{f:Nat} {k i h oi oh:Int} {d o:Aa} {m:Nat},Xan b f k i h d=(o,oi,oh)→(0≤i∧i≤b.length∧b.length≤1000000000000)→okE m d→m+2*f≤1000→okE (m+2*f) o∧0≤oi∧oi≤b.length
 |0,k,i,h,oi,oh,d,o,m,e,hc,hd,hm=>by
  simp only[Xan,Prod.mk.injEq]at e
  rw[←e.1,←e.2.1];exact⟨hd,hc.1,hc.2.1⟩
 |f+1,k,i,h,oi,oh,d,o,m,e,hc,hd,hm=>by
  rcases h1:Ae b i h 9 with⟨x,i1,h1'⟩
  have z1:=Ah h1 hc
  simp only[Xan,h1]at e
  split at e
  ·rcases h2:Gr b i1 h1' d with⟨d2,i2,h2'⟩
   have z2:=XdX h2 (by omega) hd (by omega)
   simp only[h2]at e
   have:=XjX e (by omega) z2.1 (by omega)
   exact⟨this.1.up (by omega),this.2⟩
  ·simp only[Prod.mk.injEq]at e
   rw[←e.1,←e.2.1];exact⟨hd.up (by omega),z1.2⟩
theorem Us(r:Int):okE 0 (Gj r):=⟨by unfold Pc okD Gj okL okS;simp,Nat.le_refl _,Nat.le_refl _,Nat.le_refl _⟩
theorem W5{b:List UInt8}{i h oi oh:Int}{o:Aa}(e:G3 b i h=(o,oi,oh))(hc:0≤i∧i≤b.length∧b.length≤1000000000000):okE 18 o∧0≤oi∧oi≤b.length:=by
 unfold G3 at e
 rcases h1:Bn b i h [4000,4000,4000,300,100]with⟨r,i1,h1'⟩
 have z1:=C5 h1 hc
 simp only[h1]at e
 exact XjX e (by omega) (Us r) (by omega)
theorem H1{b:List UInt8}{i h oi oh:Int}{d o:Aa}{n t:ByteArray}{m:Nat}(e:E8 b i h d n t=(o,oi,oh))(hc:0≤i∧i≤b.length∧b.length≤1000000000000)(hd:okE m d)(hm:m≤1000)(hn:n.size≤1000):okE (m+5) o∧0≤oi∧oi≤b.length:=by
 unfold E8 at e
 rcases h1:Bt b i h 4 with⟨o1,i1,h1'⟩
 have z1:=Cd h1 hc
 rcases h2:Bt b i1 h1' 4 with⟨o2,i2,h2'⟩
 have z2:=Cd h2 (by omega)
 simp only[h1,h2,Prod.mk.injEq]at e
 have hs:=hd.2.1
 have g1:=hd.of (Qf (name:=n) hd.1 (by omega) (by omega)) T6
 have g1s:=g1.2.1
 have g2:=g1.of (J9 (name:=n) g1.1 (by omega) (by omega)) Mn
 have g3:=g2.of (Rh (name:=n) (text:=t) g2.1) Tq
 have g4:okE (m+4) (if o1=true then(Be (Aw (B5 d n).1 n).1 n t).1 else(C8 (Be (Aw (B5 d n).1 n).1 n t).1 n).1):=by
  split
  ·exact g3.up (by omega)
  ·exact g3.of (Zb g3.1) XeA
 rw[←e.1,←e.2.1]
 refine⟨?_,z2⟩
 generalize(if o1=true then(Be (Aw (B5 d n).1 n).1 n t).1 else(C8 (Be (Aw (B5 d n).1 n).1 n t).1 n).1)=d4 at g4⊢
 split
 ·exact g4.up (by omega)
 ·exact g4.of (Qn g4.1) V1
theorem P7{b:List UInt8}{i h oi oh:Int}{o:Aa}(e:C3 b i h=(o,oi,oh))(hc:0≤i∧i≤b.length∧b.length≤1000000000000):Pc o∧0≤oi∧oi≤b.length:=by
 unfold C3 at e
 rcases h1:G3 b i h with⟨d,i1,h1'⟩
 have z1:=W5 h1 hc
 rcases h2:Ae b i1 h1' 16 with⟨x,i2,h2'⟩
 have z2:=Ah h2 (by omega)
 simp only[h1,h2]at e
 obtain⟨⟨⟨⟨k1,k2,k3,k4,k5,k6⟩,k7,k8⟩,n1,n2,n3⟩,-⟩:=z1
 split at e
 ·rcases h3:Bn b i2 h2' [-1,0,5,1000000001]with⟨y,i3,h3'⟩
  have z3:=C5 h3 (by omega)
  simp only[h3,Prod.mk.injEq]at e
  rw[←e.1,←e.2.1];exact⟨⟨⟨k1,k2,k3,k4,k5,k6⟩,k7,k8⟩,z3⟩
 split at e
 ·rcases h3:Bn b i2 h2' [0,1,2,-1,9223372036854775807]with⟨y,i3,h3'⟩
  have z3:=C5 h3 (by omega)
  simp only[h3,Prod.mk.injEq]at e
  rw[←e.1,←e.2.1];exact⟨⟨⟨k1,k2,k3,k4,k5,k6⟩,k7,k8⟩,z3⟩
 split at e
 ·rcases h3:Ae b i2 h2' 4 with⟨y,i3,h3'⟩
  have z3:=Ah h3 (by omega)
  simp only[h3,Prod.mk.injEq]at e
  rw[←e.1,←e.2.1]
  refine⟨⟨⟨k1,k2,by show(d.entries_++[_]).length≤_;rw[List.length_append,List.length_singleton];omega,fun z hz=>?_,k5,k6⟩,k7,k8⟩,z3.2⟩
  rcases List.mem_append.1 hz with hz|hz
  ·exact k4 z hz
  ·rw[List.mem_singleton.1 hz];show(tx [122]).size≤_;decide
 split at e
 ·simp only[Prod.mk.injEq]at e
  rw[←e.1,←e.2.1]
  refine⟨⟨⟨k1,k2,k3,k4,by show(d.old_++[_]).length≤_;rw[List.length_append,List.length_singleton];omega,k6⟩,fun z hz=>?_,k8⟩,z2.2⟩
  rcases List.mem_append.1 hz with hz|hz
  ·exact k7 z hz
  ·rw[List.mem_singleton.1 hz];show(tx [122]).size≤_;decide
 split at e
 ·rcases h3:E5 b i2 h2' [tx [45,97],tx [43,113,58,49],tx [120],tx [],tx [43,113,58,57],tx [45,122,122],tx [43,58,49],tx [43,113,58]]with⟨y,i3,h3'⟩
  have z3:=Hh (n:=100) h3 (by omega) (by decide)
  simp only[h3,Prod.mk.injEq]at e
  rw[←e.1,←e.2.1]
  refine⟨⟨⟨k1,k2,k3,k4,k5,by show(d.steps_++[_]).length≤_;rw[List.length_append,List.length_singleton];omega⟩,k7,fun z hz=>?_⟩,z3.2⟩
  rcases List.mem_append.1 hz with hz|hz
  ·exact k8 z hz
  ·rw[List.mem_singleton.1 hz];omega
 split at e
 ·split at e
  ·simp only[Prod.mk.injEq]at e
   rw[←e.1,←e.2.1];exact⟨⟨⟨k1,k2,k3,k4,k5,k6⟩,k7,k8⟩,z2.2⟩
  ·rename_i n l hl
   rcases h3:Bn b i2 h2' [-1,0,99]with⟨y,i3,h3'⟩
   have z3:=C5 h3 (by omega)
   simp only[h3,Prod.mk.injEq]at e
   rw[hl]at k1 k2
   rw[←e.1,←e.2.1]
   refine⟨⟨⟨k1,fun z hz=>?_,k3,k4,k5,k6⟩,k7,k8⟩,z3⟩
   rcases List.mem_cons.1 hz with rfl|hz
   ·exact k2 n (by simp)
   ·exact k2 z (by simp[hz])
 split at e
 ·split at e
  ·rename_i n m l hl
   simp only[Prod.mk.injEq]at e
   rw[hl]at k1 k2
   rw[←e.1,←e.2.1]
   refine⟨⟨⟨k1,fun z hz=>?_,k3,k4,k5,k6⟩,k7,k8⟩,z2.2⟩
   rcases List.mem_cons.1 hz with rfl|hz
   ·exact k2 _ (by simp)
   ·rcases List.mem_cons.1 hz with rfl|hz
    ·exact k2 m (by simp)
    ·exact k2 z (by simp[hz])
  ·simp only[Prod.mk.injEq]at e
   rw[←e.1,←e.2.1];exact⟨⟨⟨k1,k2,k3,k4,k5,k6⟩,k7,k8⟩,z2.2⟩
 ·simp only[Prod.mk.injEq]at e
  rw[←e.1,←e.2.1];exact⟨⟨⟨k1,k2,k3,k4,k5,k6⟩,k7,k8⟩,z2.2⟩
theorem Xj1{b:List UInt8}{m:Int}:∀{f:Nat} {k i h oi oh:Int} {l:List ByteArray},Xjq b m f k i h=(l,oi,oh)→(0≤i∧i≤b.length∧b.length≤1000000000000)→0≤m→0≤k→(l.length≤f∧(k+l.length≤m∨l.length=0)∧∀x∈l,x.size≤60)∧0≤oi∧oi≤b.length
 |0,k,i,h,oi,oh,l,e,hc,hm,hk=>by
  simp only[Xjq,Prod.mk.injEq]at e
  rw[←e.1,←e.2.1];exact⟨⟨Nat.le_refl _,.inr rfl,fun x hx=>by cases hx⟩,hc.1,hc.2.1⟩
 |f+1,k,i,h,oi,oh,l,e,hc,hm,hk=>by
  rcases h1:Ae b i h (m+1)with⟨x,i1,h1'⟩
  have z1:=Ah h1 hc
  simp only[Xjq,h1]at e
  split at e
  ·rcases h2:Dr b i1 h1' with⟨y,i2,h2'⟩
   have z2:=Kv h2 (by omega)
   rcases h3:Xjq b m f (k+1) i2 h2' with⟨l3,i3,h3'⟩
   have z3:=Xj1 h3 (by omega) hm (by omega)
   simp only[h2,h3,Prod.mk.injEq]at e
   rw[←e.1,←e.2.1,List.length_cons]
   refine⟨⟨by omega,by omega,fun z hz=>?_⟩,z3.2⟩
   rcases List.mem_cons.1 hz with rfl|hz
   ·exact z2.1
   ·exact z3.1.2.2 z hz
  ·simp only[Prod.mk.injEq]at e
   rw[←e.1,←e.2.1];exact⟨⟨Nat.zero_le _,.inr rfl,fun x hx=>by cases hx⟩,z1.2⟩
theorem Gh{b:List UInt8}{i h m oi oh:Int}{l:List ByteArray}(e:Dh b i h m=(l,oi,oh))(hc:0≤i∧i≤b.length∧b.length≤1000000000000)(hm:0≤m):((l.length:Int)≤m∧∀x∈l,x.size≤60)∧0≤oi∧oi≤b.length:=by
 have h:=Xj1 e hc hm (by omega)
 exact⟨⟨by omega,h.1.2.2⟩,h.2⟩
theorem Xg{b:List UInt8}{i h oi oh:Int}{o:A0}(e:Ko b i h=(o,oi,oh))(hc:0≤i∧i≤b.length∧b.length≤1000000000000):((1≤o.version_∧o.version_≤2)∧(1≤o.stride_∧o.stride_≤4)∧(0≤o.base_∧o.base_≤8)∧(0≤o.link_∧o.link_<1000000))∧0≤oi∧oi≤b.length:=by
 unfold Ko at e
 rcases h1:Ae b i h 2 with⟨x,i1,h1'⟩
 have z1:=Ah h1 hc
 rcases h2:Ae b i1 h1' 4 with⟨y,i2,h2'⟩
 have z2:=Ah h2 (by omega)
 rcases h3:Ae b i2 h2' 9 with⟨z,i3,h3'⟩
 have z3:=Ah h3 (by omega)
 rcases h4:Ae b i3 h3' 1000000 with⟨w,i4,h4'⟩
 have z4:=Ah h4 (by omega)
 simp only[h1,h2,h3,h4,Prod.mk.injEq]at e
 rw[←e.1,←e.2.1]
 dsimp only
 omega
theorem XjW(t:ByteArray)(a z:Nat):(XkW t a z).size≤t.size:=by
 unfold XkW
 rw[ByteArray.size_extract]
 omega
theorem H8{b:List UInt8}{i h oi oh:Int}{t o:ByteArray}(e:Do b i h t=(o,oi,oh))(hc:0≤i∧i≤b.length∧b.length≤1000000000000):o.size≤2*t.size+4∧0≤oi∧oi≤b.length:=by
 unfold Do at e
 split at e
 ·simp only[Prod.mk.injEq]at e
  rw[←e.1,←e.2.1];exact⟨by omega,hc.1,hc.2.1⟩
 rcases h1:Bt b i h 2 with⟨x,i1,h1'⟩
 have z1:=Cd h1 hc
 simp only[h1]at e
 split at e
 ·simp only[Prod.mk.injEq]at e
  rw[←e.1,←e.2.1];exact⟨by omega,z1⟩
 rcases h2:Ae b i1 h1' t.size with⟨k,i2,h2'⟩
 have z2:=Ah h2 (by omega)
 rcases h3:Ae b i2 h2' 4 with⟨x,i3,h3'⟩
 have z3:=Ah h3 (by omega)
 simp only[h2,h3]at e
 have c1:=XjW t 0 k.toNat
 have c2:=XjW t (k.toNat+1) t.size
 split at e
 ·simp only[Prod.mk.injEq]at e
  rw[←e.1,←e.2.1];exact⟨by omega,z3.2⟩
 split at e
 ·simp only[Prod.mk.injEq]at e
  rw[←e.1,←e.2.1,ByteArray.size_append];exact⟨by omega,z3.2⟩
 split at e
 ·rcases h4:Ae b i3 h3' 4 with⟨y,i4,h4'⟩
  have z4:=Ah h4 (by omega)
  rcases h5:Dp b i4 h4' (1+y)with⟨q,i5,h5'⟩
  have z5:=F0 h5 (by omega)
  simp only[h4,h5,Prod.mk.injEq]at e
  rw[←e.1,←e.2.1,ByteArray.size_append];exact⟨by omega,z5.2⟩
 ·rcases h4:Ae b i3 h3' 8 with⟨y,i4,h4'⟩
  have z4:=Ah h4 (by omega)
  simp only[h4,Prod.mk.injEq]at e
  rw[←e.1,←e.2.1,ByteArray.size_append,ByteArray.size_append,A3,List.length_singleton];exact⟨by omega,z4.2⟩
theorem Xkf{v:Int}:∀{l:List ByteArray} {p:Int},(XkZ v p l).size≤84*l.length
 |[],_=>by simp[XkZ,A3]
 |x::l,p=>by
  have h1:=Xkf (v:=v) (l:=l) (p:=p+1)
  have h2:=D9 (rfl:Ai v p x=_)
  unfold XkZ
  rw[ByteArray.size_append,List.length_cons]
  omega
theorem Kq{h:A0}{l:List ByteArray}{o:ByteArray}(e:Ev h l=o):o.size≤50+84*l.length:=by
 have h1:=G8 (rfl:Bj h=_)
 have h2:=Xkf (v:=h.version_) (l:=l) (p:=h.base_)
 rw[←e]
 unfold Ev
 rw[ByteArray.size_append]
 omega
theorem Yj{b:List UInt8}{i h oi oh:Int}{o:ByteArray}(e:Is b i h=(o,oi,oh))(hc:0≤i∧i≤b.length∧b.length≤1000000000000):o.size≤500000∧0≤oi∧oi≤b.length:=by
 unfold Is at e
 rcases h1:Ko b i h with⟨hd,i1,h1'⟩
 have z1:=Xg h1 hc
 rcases h2:Dh b i1 h1' 6 with⟨l,i2,h2'⟩
 have z2:=Gh h2 (by omega) (by omega)
 rcases h3:Bt b i2 h2' 2 with⟨x,i3,h3'⟩
 have z3:=Cd h3 (by omega)
 simp only[h1,h2,h3]at e
 split at e
 ·have h4:=H8 e (by omega)
  have h5:=Dt (rfl:A7 hd l=_)
  omega
 ·have h4:=H8 e (by omega)
  have h5:=Kq (rfl:Ev hd l=_)
  omega
theorem XlG{b:List UInt8}{i h link o oi oh:Int}(e:XiI b i h link=(o,oi,oh))(hc:0≤i∧i≤b.length∧b.length≤1000000000000):0≤oi∧oi≤b.length:=by
 unfold XiI at e
 rcases h1:Bt b i h 20 with⟨x,i1,h1'⟩
 have z1:=Cd h1 hc
 simp only[h1,Prod.mk.injEq]at e
 rw[←e.2.1];exact z1
theorem Xk9{b:List UInt8}{i h oi oh:Int}{hd:A0}{rs:List ByteArray}{o:ByteArray}(e:Wj b i h hd rs=(o,oi,oh))(hc:0≤i∧i≤b.length∧b.length≤1000000000000):0≤oi∧oi≤b.length:=by
 unfold Wj at e
 rcases h1:Bt b i h 4 with⟨x,i1,h1'⟩
 have z1:=Cd h1 hc
 simp only[h1,Prod.mk.injEq]at e
 rw[←e.2.1];exact z1
theorem Xku{b:List UInt8}{i h oi oh:Int}{t o:ByteArray}(e:Wk b i h t=(o,oi,oh))(hc:0≤i∧i≤b.length∧b.length≤1000000000000):0≤oi∧oi≤b.length:=by
 unfold Wk at e
 rcases h1:Bt b i h 6 with⟨x,i1,h1'⟩
 have z1:=Cd h1 hc
 simp only[h1]at e
 split at e
 ·exact(H8 e (by omega)).2
 ·simp only[Prod.mk.injEq]at e
  rw[←e.2.1];exact z1
theorem Xgq{b:List UInt8}:∀{f:Nat} {k i h oi oh base link:Int} {d o:Aa} {m:Nat},Qr b f k i h d base link=(o,oi,oh)→(0≤i∧i≤b.length∧b.length≤1000000000000)→okE m d→m+5*f≤1000→okE (m+5*f) o∧0≤oi∧oi≤b.length
 |0,k,i,h,oi,oh,base,link,d,o,m,e,hc,hd,hm=>by
  simp only[Qr,Prod.mk.injEq]at e
  rw[←e.1,←e.2.1];exact⟨hd,hc.1,hc.2.1⟩
 |f+1,k,i,h,oi,oh,base,link,d,o,m,e,hc,hd,hm=>by
  rcases h1:Ae b i h 5 with⟨x,i1,h1'⟩
  have z1:=Ah h1 hc
  simp only[Qr,h1]at e
  split at e
  ·rcases h2:Ae b i1 h1' 2 with⟨v,i2,h2'⟩
   have z2:=Ah h2 (by omega)
   rcases h3:Ae b i2 h2' 3 with⟨s,i3,h3'⟩
   have z3:=Ah h3 (by omega)
   rcases h4:Dr b i3 h3' with⟨r,i4,h4'⟩
   have z4:=Kv h4 (by omega)
   rcases h5:Dh b i4 h4' 3 with⟨l,i5,h5'⟩
   have z5:=Gh h5 (by omega) (by omega)
   rcases h6:Bt b i5 h5' 20 with⟨o6,i6,h6'⟩
   have z6:=Cd h6 (by omega)
   simp only[h2,h3,h4,h5,h6]at e
   generalize hrs:(if o6=true then([]:List ByteArray)else r::l)=rs at e
   rcases h7:XiI b i6 h6' link with⟨lk,i7,h7'⟩
   have z7:=XlG h7 (by omega)
   rcases h8:Wj b i7 h7' ⟨1+v,1+s,base,lk⟩ rs with⟨t,i8,h8'⟩
   have z8:=Xk9 h8 (by omega)
   rcases h10:Wk b i8 h8' t with⟨t2,aa,h10'⟩
   have ac:=Xku h10 (by omega)
   rcases h11:E8 b aa h10' d (Af base) t2 with⟨d2,ad,h11'⟩
   have ab:=H1 h11 (by omega) hd (by omega) (by have:=Dx (n:=base) rfl;omega)
   simp only[h7,h8,h10,h11]at e
   have:=Xgq e (by omega) ab.1 (by omega)
   exact⟨this.1.up (by omega),this.2⟩
  ·simp only[Prod.mk.injEq]at e
   rw[←e.1,←e.2.1];exact⟨hd.up (by omega),z1.2⟩
theorem W2{b:List UInt8}{i h oi oh:Int}{o:Aa}(e:Gq b i h=(o,oi,oh))(hc:0≤i∧i≤b.length∧b.length≤1000000000000):okE 30 o∧0≤oi∧oi≤b.length:=by
 unfold Gq at e
 rcases h1:Bn b i h [6000,6000,6000,900]with⟨r,i1,h1'⟩
 have z1:=C5 h1 hc
 rcases h2:Qr b 5 0 i1 h1' (Gj r) 0 0 with⟨d,i2,h2'⟩
 have z2:=Xgq h2 (by omega) (Us r) (by omega)
 rcases h3:Ae b i2 h2' 6 with⟨x,i3,h3'⟩
 have z3:=Ah h3 (by omega)
 simp only[h1,h2,h3]at e
 split at e
 ·rcases h4:Ae b i3 h3' 4 with⟨y,i4,h4'⟩
  have z4:=Ah h4 (by omega)
  simp only[h4]at e
  exact H1 e (by omega) z2.1 (by omega) (by have:=Px (n:=y) rfl;omega)
 split at e
 ·rcases h4:Ae b i3 h3' 9 with⟨y,i4,h4'⟩
  have z4:=Ah h4 (by omega)
  rcases h5:Is b i4 h4' with⟨t,i5,h5'⟩
  have z5:=Yj h5 (by omega)
  simp only[h4,h5]at e
  exact H1 e (by omega) z2.1 (by omega) (by have:=Dx (n:=20+y) rfl;omega)
 split at e
 ·exact H1 e (by omega) z2.1 (by omega) (by decide)
 ·simp only[Prod.mk.injEq]at e
  rw[←e.1,←e.2.1];exact⟨z2.1.up (by omega),z3.2⟩
theorem P2{b:List UInt8}{i h oi oh:Int}{o:Aa}(e:H4 b i h=(o,oi,oh))(hc:0≤i∧i≤b.length∧b.length≤1000000000000):Pc o∧0≤oi∧oi≤b.length:=by
 unfold H4 at e
 rcases h1:Bt b i h 10 with⟨x,i1,h1'⟩
 have z1:=Cd h1 hc
 simp only[h1]at e
 split at e
 ·exact P7 e (by omega)
 ·have:=W2 e (by omega)
  exact⟨this.1.1,this.2⟩
end
end Go.Proofs.YtjbmpmmffjgedaaGreatDoor.Ab
