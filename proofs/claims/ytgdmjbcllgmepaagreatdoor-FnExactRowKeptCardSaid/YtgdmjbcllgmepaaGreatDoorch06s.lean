/- What functions of the program come to, for all arguments in the given bounds. -/
import Derived.Test.YtgdmjbcllgmepaaGreatDoorch06h
import Derived.Test.YtgdmjbcllgmepaaGreatDoorZ9
set_option linter.unusedVariables false
set_option linter.unusedSimpArgs false
namespace Go.Proofs.YtgdmjbcllgmepaaGreatDoor.Ab
section
open Go Go.Proofs
set_option maxRecDepth 20000
set_option maxHeartbeats 4000000
def XcB:List (Nat×TyRow):=[ty3,ty9,Xay,XgT,XaS,Xn,Xi,Xe]
theorem Xcw:B8 Tryz.prog XcB:=B8.of (by kernel_rfl)
theorem Hp:Setup Tryz.prog XcB:=⟨Xcw,mixed⟩
variable {Ae onod G1:List Ax} {Be Bf A9 Bg K3 K1 K4 K5 Eg Eo Eh Ef:List (List D)} {Ah Ai oent oold G2 G9:List Ad} {Af oste G0:List ByteArray} {An Al oroo onex G8 G4 ob:Int} {name:ByteArray}
theorem Jh{nn ne no ns:Nat}(Aj:Ae.map A6=Be)(Ak:Ah.map Ac=Bf)(Ao:Ai.map Ac=A9)(Am:Af.map cS=Bg)(hn:Ae.length≤4000000000)(he:Ah.length≤4000000000)(ho:Ai.length≤4000000000)(hs:Af.length≤4000000000)(hnn:nn=Ae.length)(hne:ne=Ah.length)(hno:no=Ai.length)(hns:ns=Af.length):Fn Tryz.prog 97 [.agg [.d (.row 3 Be),.d (.row 2 Bf),.d (.row 2 A9),.d (.row 1 Bg),I An,I Al]] [] ⟨.agg [.ref 0 0 nn,.ref 1 0 ne,.ref 2 0 no,.ref 3 0 ns,I An,I Al],[.row 3 false Be,.row 2 false Bf,.row 2 false A9,.row 1 false Bg],[]⟩:=by
 refine Fn.goR Hp Tryz.func97 fun P hP Q hQ=>?_
 conv=>cbv
 refine .row0 Aj fun aa z1 ai ab=>?_
 conv=>cbv
 refine .row0 Ak fun ac z2 aj ad=>?_
 conv=>cbv
 refine .row0 Ao fun ae z3 ak af=>?_
 conv=>cbv
 refine .row0 Am fun ag z4 al ah=>?_
 conv=>cbv
 obtain rfl:z1=Be:=by rw[←ab,Aj]
 obtain rfl:z2=Bf:=by rw[←ad,Ak]
 obtain rfl:z3=A9:=by rw[←af,Ao]
 obtain rfl:z4=Bg:=by rw[←ah,Am]
 obtain rfl:aa=nn:=by omega
 obtain rfl:ac=ne:=by omega
 obtain rfl:ae=no:=by omega
 obtain rfl:ag=ns:=by omega
 exact hQ _ _ (.of [7,9,11,13] (.inl rfl) rfl rfl rfl rfl)
theorem XgI(Aj:Ae.map A6=Be)(Ak:Ah.map Ac=Bf)(Ao:Ai.map Ac=A9)(Am:Af.map cS=Bg)(hn:Ae.length≤4000000000)(he:Ah.length≤4000000000)(ho:Ai.length≤4000000000)(hs:Af.length≤4000000000):Fn Tryz.prog 97 [.agg [.d (.row 3 Be),.d (.row 2 Bf),.d (.row 2 A9),.d (.row 1 Bg),I An,I Al]] [] ⟨.agg [.d (.row 3 Be),.d (.row 2 Bf),.d (.row 2 A9),.d (.row 1 Bg),I An,I Al],[],[]⟩:=by
 refine Fn.go Hp Tryz.func97 fun P hP Q hQ=>?_
 conv=>cbv
 refine .row0 Aj fun ai z1 ae aa=>?_
 conv=>cbv
 refine .row0 Ak fun aj z2 af ab=>?_
 conv=>cbv
 refine .row0 Ao fun ak z3 ag ac=>?_
 conv=>cbv
 refine .row0 Am fun al z4 ah ad=>?_
 conv=>cbv
 obtain rfl:z1=Be:=by rw[←aa,Aj]
 obtain rfl:z2=Bf:=by rw[←ab,Ak]
 obtain rfl:z3=A9:=by rw[←ac,Ao]
 obtain rfl:z4=Bg:=by rw[←ad,Am]
 exact hQ _ _ (.one (.inl rfl) rfl (.agg (.ref rfl (Ag Aj) rfl (.ref rfl (Ag Ak) rfl (.ref rfl (Ag Ao) rfl (.ref rfl (Ag Am) rfl (.d rfl rfl (.d rfl rfl .nil)))))) .nil))
theorem Mt(Aj:Ae.map A6=Be)(Ak:Ah.map Ac=Bf)(Ao:Ai.map Ac=A9)(Am:Af.map cS=Bg)(hn:Ae.length≤2000000000)(hol:Ai.length≤1000000000)(hsl:Af.length≤1000000000)(hss:okS Af)(hr:En (⟨Ae,Ah,Ai,Af,An,Al⟩:Aa)=⟨onod,oent,oold,oste,oroo,onex⟩)(Lv:onod.map A6=K3)(L8:oent.map Ac=K1)(Lq:oold.map Ac=K4)(L4:oste.map cS=K5):Fn Tryz.prog 165 [.agg [.d (.row 3 Be),.d (.row 2 Bf),.d (.row 2 A9),.d (.row 1 Bg),I An,I Al]] [] ⟨.agg [.d (.row 3 K3),.d (.row 2 K1),.d (.row 2 K4),.d (.row 1 K5),I oroo,I onex],[],[]⟩:=by
 refine Fn.go Hp Tryz.func165 fun P hP Q hQ=>?_
 conv=>cbv
 refine LoopW.lp (κ:=Int×(List (List D))×Nat) Hp hP [6] [1,2] (fun(i4,ad,ae)=>[(3,.ref 7 0 ae),(4,I i4)]) (fun(i4,ad,ae)=>[(7,.row 3 false ad)])
  (fun(i4,ad,ae)=>∃(w7:List Ax),w7.map A6=ad∧ae=w7.length∧0≤i4∧i4≤Ae.length∧w7=(Ae.take i4.toNat).filter (fun x=>Xbo Ai Af x.id_)∧w7.length≤i4)
  (fun(i4,ad,ae)=>(Ae.length - i4).toNat) (0,[],0) ⟨[],rfl,rfl,by omega,by omega,by simp,by simp⟩ ⟨rfl,rfl,trivial⟩ rfl ?_
 rintro⟨i4,ad,ae⟩ J ⟨w7,ah,bb,h0,h1,hx,hxl⟩ hJ
 conv=>cbv
 refine .go Aj fun v1 be=>?_
 conv=>cbv
 refine .lss (fun h2=>?_) fun h2=>?_
 conv=>cbv
 refine LoopW.lp (κ:=Bool×Int) Hp hP [] [1,2,3,4] (fun(b5,i6)=>[(5,B b5),(6,I i6)]) (fun(b5,i6)=>[])
  (fun(b5,i6)=>0≤i6∧i6≤Af.length+1∧b5=(List.range i6.toNat).any (fun k=>Mv (Cw Ai (Af.take k)).1 (Ae.getD i4.toNat ⟨0,tx [],0⟩).id_))
  (fun(b5,i6)=>(Af.length+1 - i6).toNat) (false,0) ⟨by omega,by omega,rfl⟩ ⟨rfl,rfl,trivial⟩ rfl ?_
 rintro⟨b5,i6⟩ J1 ⟨k0,k1,hu⟩ ay
 conv=>cbv
 refine .go Am fun v3 bf=>?_
 conv=>cbv
 refine .leq (fun h4=>?_) fun h4=>?_
 conv=>cbv
 cases b5
 conv=>cbv
 rcases ap:D9 Ai Af i6 with⟨aa,az⟩
 generalize ai:aa.map Ac=bc
 have hS:Cw Ai (Af.take i6.toNat)=(aa,az):=by rw[←Xcg (by omega) (by omega)];exact ap
 have bg:aa.length≤2000000000:=by
  have:=Xis (Af.take i6.toNat) Ai
  rw[hS,List.length_take]at this
  simp only[]at this
  omega
 refine .dd hP (Qk Ao Am hol hsl hss ap ai) ?_
 conv=>cbv
 refine LoopW.lp (κ:=Bool×Int) Hp hP [] [1,2,3,4,6,7,24,25] (fun(b5,i9)=>[(5,B b5),(9,I i9)]) (fun(b5,i9)=>[])
  (fun(b5,i9)=>0≤i9∧i9≤aa.length∧b5=Mv (aa.take i9.toNat) (Ae.getD i4.toNat ⟨0,tx [],0⟩).id_)
  (fun(b5,i9)=>(aa.length - i9).toNat) (false,0) ⟨by omega,by omega,rfl⟩ ⟨rfl,rfl,trivial⟩ rfl ?_
 rintro⟨b5,i9⟩ J2 ⟨m0,m1,hb⟩ am
 conv=>cbv
 refine .go ai fun v6 bh=>?_
 conv=>cbv
 refine .lss (fun h7=>?_) fun h7=>?_
 conv=>cbv
 cases b5
 conv=>cbv
 refine .go i9.toNat ai fun al ⟨a1,bd⟩ aq=>?_
 conv=>cbv
 refine .go i4.toNat Aj fun ar ⟨au,a2,a6⟩ a7=>?_
 conv=>cbv
 have hide:(Ae.getD i4.toNat ⟨0,tx [],0⟩).id_=au:=by rw[←gD ar,←a7]
 refine .eql (fun h10=>?_) fun h10=>?_
 conv=>cbv
 refine .add fun aj aw=>?_
 conv=>cbv
 exact .go [] (true,aj) (am _ ⟨by omega,by omega,by rw[show aj.toNat=i9.toNat+1 by omega,S6 al,←aq,hide];simp only[];rw[decide_eq_true h10,Bool.or_true]⟩ mlt)
 conv=>cbv
 refine .add fun aj aw=>?_
 conv=>cbv
 exact .go [] (false,aj) (am _ ⟨by omega,by omega,by rw[show aj.toNat=i9.toNat+1 by omega,S6 al,←aq,←hb,hide];simp only[];rw[decide_eq_false h10];rfl⟩ mlt)
 conv=>cbv
 refine .add fun v8 a8=>?_
 conv=>cbv
 exact .go [] (true,v8) (am _ ⟨by omega,by omega,by rw[show v8.toNat=i9.toNat+1 by omega,S6 (show i9.toNat<aa.length by omega),←hb];rfl⟩ mlt)
 conv=>cbv
 refine .add fun v8 a8=>?_
 conv=>cbv
 exact .go [] (b5,v8) (ay _ ⟨by omega,by omega,by rw[show v8.toNat=i6.toNat+1 by omega,Xk,←hu,Bool.false_or,hS];show _=Mv aa _;rw[hb,List.take_of_length_le (by omega)]⟩ mlt)
 conv=>cbv
 refine .go i4.toNat Aj fun ab ⟨ac,af,ag⟩ ak=>?_
 conv=>cbv
 refine .one (⟨ac,af,ag⟩:Ax) ah rfl fun an z6 ax ao=>?_
 conv=>cbv
 refine .add fun v7 ba=>?_
 conv=>cbv
 have hid:(Ae.getD i4.toNat ⟨0,tx [],0⟩).id_=ac:=by rw[←gD ab,←ak]
 have hus:=Yw (show i6.toNat≤Af.length+1 by omega) hu
 rw[hid]at hus
 exact .go [9] (v7,z6,an) (hJ _ ⟨_,ao,Hm,by omega,by omega,by rw[show v7.toNat=i4.toNat+1 by omega,Dp ab,←hx,←ak];simp only[];rw[hus];rfl,by rw[List.length_append,List.length_singleton];omega⟩ mlt)
 conv=>cbv
 cases b5
 conv=>cbv
 refine .add fun v5 bi=>?_
 conv=>cbv
 have hj:i4.toNat<Ae.length:=by omega
 have hus:Xbo Ai Af Ae[i4.toNat].id_=false:=by rw[gD hj (d:=⟨0,tx [],0⟩)];unfold Xbo;rw[show Af.length+1=i6.toNat by omega];exact hu.symm
 exact .go [7] (v5,ad,ae) (hJ _ ⟨_,ah,Hm,by omega,by omega,by rw[show v5.toNat=i4.toNat+1 by omega,Dp hj,←hx,hus];simp,by omega⟩ mlt)
 conv=>cbv
 refine .go i4.toNat Aj fun ab ⟨ac,af,ag⟩ ak=>?_
 conv=>cbv
 refine .one (⟨ac,af,ag⟩:Ax) ah rfl fun an z6 ax ao=>?_
 conv=>cbv
 refine .add fun v7 ba=>?_
 conv=>cbv
 have hid:(Ae.getD i4.toNat ⟨0,tx [],0⟩).id_=ac:=by rw[←gD ab,←ak]
 have hus:=Yw (show i6.toNat≤Af.length+1 by omega) hu
 rw[hid]at hus
 exact .go [9] (v7,z6,an) (hJ _ ⟨_,ao,Hm,by omega,by omega,by rw[show v7.toNat=i4.toNat+1 by omega,Dp ab,←hx,←ak];simp only[];rw[hus];rfl,by rw[List.length_append,List.length_singleton];omega⟩ mlt)
 conv=>cbv
 have e:(⟨w7,Ah,Ai,Af,An,Al⟩:Aa)=En (⟨Ae,Ah,Ai,Af,An,Al⟩:Aa):=(by unfold En;dsimp only;rw[hx,List.take_of_length_le (by omega)])
 rw[hr]at e
 simp only[Aa.mk.injEq]at e
 obtain⟨rfl,rfl,rfl,rfl,rfl,rfl⟩:=e
 exact hQ _ _ (.one (.inl rfl) rfl (.agg (.ref rfl (Ag ah) (Bm ah Lv) (.d rfl (A5 Ak L8) (.d rfl (A5 Ao Lq) (.d rfl (A5 Am L4) (.d rfl rfl (.d rfl rfl (.nil))))))) .nil))
theorem Xc8(Aj:Ae.map A6=Be)(Ak:Ah.map Ac=Bf)(Ao:Ai.map Ac=A9)(Am:Af.map cS=Bg)(hn:Ae.length≤1000000000)(he:Ah.length≤1000000000)(ho:Ai.length≤1000000000)(hs:Af.length<1000000000)(hss:okS Af)(bb:I9 (⟨Ae,Ah,Ai,Af,An,Al⟩:Aa))(hm:name.size≤1000000000)(hr:Bh (⟨Ae,Ah,Ai,Af,An,Al⟩:Aa) name=(⟨G1,G2,G9,G0,G8,G4⟩,ob))(B0:G1.map A6=Eg)(B3:G2.map Ac=Eo)(B2:G9.map Ac=Eh)(B1:G0.map cS=Ef):Fn Tryz.prog 226 [.agg [.d (.row 3 Be),.d (.row 2 Bf),.d (.row 2 A9),.d (.row 1 Bg),I An,I Al],S name] [] ⟨.tup [.agg [.d (.row 3 Eg),.d (.row 2 Eo),.d (.row 2 Eh),.d (.row 1 Ef),I G8,I G4],I ob],[],[]⟩:=by
 refine Fn.go Hp Tryz.func226 fun P hP Q hQ=>?_
 conv=>cbv
 obtain⟨n2,bc⟩:∃m,m=Ae.length:=⟨_,rfl⟩
 obtain⟨n3,bd⟩:∃m,m=Ah.length:=⟨_,rfl⟩
 obtain⟨n4,be⟩:∃m,m=Ai.length:=⟨_,rfl⟩
 obtain⟨n5,bf⟩:∃m,m=Af.length:=⟨_,rfl⟩
 refine .ddN hP (Jh Aj Ak Ao Am (by omega) (by omega) (by omega) (by omega) bc bd be bf) rfl ?_
 conv=>cbv
 generalize aa:Bk (⟨Ae,Ah,Ai,Af,An,Al⟩:Aa)=r6
 refine .lnt hP (M9 Aj Ak Ao Am bb aa) (.agg (.ref rfl (Ag Aj) (.ref rfl (Ag Ak) (.ref rfl (Ag Ao) (.ref rfl (Ag Am) (.d rfl (.d rfl .nil)))))) .nil) ?_
 cases r6
 conv=>cbv
 have e:((⟨Ae,Ah,Ai,Af,An,Al⟩:Aa),3)=Bh (⟨Ae,Ah,Ai,Af,An,Al⟩:Aa) name:=(by unfold Bh;rw[if_pos aa])
 rw[hr]at e
 simp only[Prod.mk.injEq,Aa.mk.injEq]at e
 obtain⟨⟨rfl,rfl,rfl,rfl,rfl,rfl⟩,rfl⟩:=e
 refine hQ _ _ ?_
 exact .many (.inl rfl) rfl rfl (.agg (.ref rfl (Ag Aj) (Bm Aj B0) (.ref rfl (Ag Ak) (Bm Ak B3) (.ref rfl (Ag Ao) (Bm Ao B2) (.ref rfl (Ag Am) (Bm Am B1) (.d rfl rfl (.d rfl rfl (.nil))))))) (.d rfl rfl (.nil)))
 conv=>cbv
 generalize ab:Bs name=r7
 refine .dd hP (M3 (by omega) ab) ?_
 cases r7
 conv=>cbv
 have e:((⟨Ae,Ah,Ai,Af,An,Al⟩:Aa),1)=Bh (⟨Ae,Ah,Ai,Af,An,Al⟩:Aa) name:=(by unfold Bh;rw[if_neg (by rw[aa];decide),if_pos ab])
 rw[hr]at e
 simp only[Prod.mk.injEq,Aa.mk.injEq]at e
 obtain⟨⟨rfl,rfl,rfl,rfl,rfl,rfl⟩,rfl⟩:=e
 refine hQ _ _ ?_
 exact .many (.inl rfl) rfl rfl (.agg (.ref rfl (Ag Aj) (Bm Aj B0) (.ref rfl (Ag Ak) (Bm Ak B3) (.ref rfl (Ag Ao) (Bm Ao B2) (.ref rfl (Ag Am) (Bm Am B1) (.d rfl rfl (.d rfl rfl (.nil))))))) (.d rfl rfl (.nil)))
 conv=>cbv
 generalize ak:Eb Ah name=r8
 refine .lnt hP (Nd Ak (by omega) ak) (.ref rfl (Ag Ak) (.d rfl .nil)) ?_
 cases r8
 conv=>cbv
 refine .go fun v9 bq=>?_
 conv=>cbv
 refine .geq (fun h10=>?_) fun h10=>?_
 conv=>cbv
 have e:((⟨Ae,Ah,Ai,Af,An,Al⟩:Aa),4)=Bh (⟨Ae,Ah,Ai,Af,An,Al⟩:Aa) name:=(by unfold Bh;rw[if_neg (by rw[aa];decide),if_neg (by rw[ab];decide),if_neg (by have:=Xci ak;dsimp only;omega),if_pos (by dsimp only;omega)])
 rw[hr]at e
 simp only[Prod.mk.injEq,Aa.mk.injEq]at e
 obtain⟨⟨rfl,rfl,rfl,rfl,rfl,rfl⟩,rfl⟩:=e
 refine hQ _ _ ?_
 exact .many (.inl rfl) rfl rfl (.agg (.ref rfl (Ag Aj) (Bm Aj B0) (.ref rfl (Ag Ak) (Bm Ak B3) (.ref rfl (Ag Ao) (Bm Ao B2) (.ref rfl (Ag Am) (Bm Am B1) (.d rfl rfl (.d rfl rfl (.nil))))))) (.d rfl rfl (.nil)))
 conv=>cbv
 refine .go fun bt bj=>?_
 conv=>cbv
 refine .geq (fun h12=>?_) fun h12=>?_
 conv=>cbv
 have e:((⟨Ae,Ah,Ai,Af,An,Al⟩:Aa),4)=Bh (⟨Ae,Ah,Ai,Af,An,Al⟩:Aa) name:=(by unfold Bh;rw[if_neg (by rw[aa];decide),if_neg (by rw[ab];decide),if_neg (by have:=Xci ak;dsimp only;omega),if_pos (by dsimp only;omega)])
 rw[hr]at e
 simp only[Prod.mk.injEq,Aa.mk.injEq]at e
 obtain⟨⟨rfl,rfl,rfl,rfl,rfl,rfl⟩,rfl⟩:=e
 refine hQ _ _ ?_
 exact .many (.inl rfl) rfl rfl (.agg (.ref rfl (Ag Aj) (Bm Aj B0) (.ref rfl (Ag Ak) (Bm Ak B3) (.ref rfl (Ag Ao) (Bm Ao B2) (.ref rfl (Ag Am) (Bm Am B1) (.d rfl rfl (.d rfl rfl (.nil))))))) (.d rfl rfl (.nil)))
 conv=>cbv
 refine .geq (fun h13=>?_) fun h13=>?_
 conv=>cbv
 have e:((⟨Ae,Ah,Ai,Af,An,Al⟩:Aa),4)=Bh (⟨Ae,Ah,Ai,Af,An,Al⟩:Aa) name:=(by unfold Bh;rw[if_neg (by rw[aa];decide),if_neg (by rw[ab];decide),if_neg (by have:=Xci ak;dsimp only;omega),if_pos (by dsimp only;omega)])
 rw[hr]at e
 simp only[Prod.mk.injEq,Aa.mk.injEq]at e
 obtain⟨⟨rfl,rfl,rfl,rfl,rfl,rfl⟩,rfl⟩:=e
 refine hQ _ _ ?_
 exact .many (.inl rfl) rfl rfl (.agg (.ref rfl (Ag Aj) (Bm Aj B0) (.ref rfl (Ag Ak) (Bm Ak B3) (.ref rfl (Ag Ao) (Bm Ao B2) (.ref rfl (Ag Am) (Bm Am B1) (.d rfl rfl (.d rfl rfl (.nil))))))) (.d rfl rfl (.nil)))
 conv=>cbv
 have hri:=Iv aa
 simp only[]at hri
 refine .one (⟨Al,tx [],0⟩:Ax) Aj rfl fun bk bu bg ao=>?_
 conv=>cbv
 generalize ap:Ee Ah (⟨name,Al⟩:Ad)=ax
 generalize aq:ax.map Ac=bl
 refine .lntD hP (Ja Ak (by omega) ap aq) (.ref rfl (Ag Ak) (.agg (.d rfl (.d rfl .nil)) .nil)) ?_
 conv=>cbv
 have hnz:=Qe ab
 refine .litL 1 fun bv ay bm=>?_
 conv=>cbv
 refine .litR 1 fun bw az bn=>?_
 conv=>cbv
 generalize al:Ci Al=bz
 refine .dd hP (XcL (by unfold Xab;omega) al) ?_
 conv=>cbv
 have zr18:=S1 al (by unfold Xab;omega)
 refine .go fun aw a1 bo=>?_
 conv=>cbv
 refine .one aw Am rfl fun bp b0 bh ar=>?_
 conv=>cbv
 refine .add fun bi a2=>?_
 conv=>cbv
 rcases au:En (⟨Ae++[(⟨Al,tx [],0⟩:Ax)],ax,Ai,Af++[aw],An,bi⟩:Aa)with⟨ag,ah,ai,aj,am,an⟩
 generalize ac:ag.map A6=a6
 generalize ad:ah.map Ac=a7
 generalize ae:ai.map Ac=a8
 generalize af:aj.map cS=ba
 refine .lntD hP (Mt ao aq Ao ar (by rw[List.length_append,List.length_singleton];omega) (by omega) (by rw[List.length_append,List.length_singleton];omega) (Sb hss (by omega)) au ac ad ae af) (.agg (.ref rfl (Ag ao) (.d rfl (.ref rfl (Ag Ao) (.ref rfl (Ag ar) (.d rfl (.d rfl .nil)))))) .nil) ?_
 conv=>cbv
 have e:((⟨ag,ah,ai,aj,am,an⟩:Aa),0)=Bh (⟨Ae,Ah,Ai,Af,An,Al⟩:Aa) name:=(by unfold Bh;rw[if_neg (by rw[aa];decide),if_neg (by rw[ab];decide),if_neg (by have:=Xci ak;dsimp only;omega),if_neg (by dsimp only;omega)];exact congrArg (fun x:Aa=>(x,(0:Int))) (au.symm.trans (by rw[←ap,a2,show aw=tx [43]++name++tx [58]++Ci Al from(by rw[a1,az,ay,al];rfl)];exact Xd2 aa ab)))
 rw[hr]at e
 simp only[Prod.mk.injEq,Aa.mk.injEq]at e
 obtain⟨⟨rfl,rfl,rfl,rfl,rfl,rfl⟩,rfl⟩:=e
 refine hQ _ _ ?_
 exact .many (.inl rfl) rfl rfl (.agg (.d rfl (A5 ac B0) (.d rfl (A5 ad B3) (.d rfl (A5 ae B2) (.d rfl (A5 af B1) (.d rfl rfl (.d rfl rfl (.nil))))))) (.d rfl rfl (.nil)))
 conv=>cbv
 have e:((⟨Ae,Ah,Ai,Af,An,Al⟩:Aa),2)=Bh (⟨Ae,Ah,Ai,Af,An,Al⟩:Aa) name:=(by unfold Bh;rw[if_neg (by rw[aa];decide),if_neg (by rw[ab];decide),if_pos (Xax ak)])
 rw[hr]at e
 simp only[Prod.mk.injEq,Aa.mk.injEq]at e
 obtain⟨⟨rfl,rfl,rfl,rfl,rfl,rfl⟩,rfl⟩:=e
 refine hQ _ _ ?_
 exact .many (.inl rfl) rfl rfl (.agg (.ref rfl (Ag Aj) (Bm Aj B0) (.ref rfl (Ag Ak) (Bm Ak B3) (.ref rfl (Ag Ao) (Bm Ao B2) (.ref rfl (Ag Am) (Bm Am B1) (.d rfl rfl (.d rfl rfl (.nil))))))) (.d rfl rfl (.nil)))
theorem Xa2{text:ByteArray}(Aj:Ae.map A6=Be)(Ak:Ah.map Ac=Bf)(Ao:Ai.map Ac=A9)(Am:Af.map cS=Bg)(hn:Ae.length≤1000000000)(he:Ah.length≤1000000000)(ho:Ai.length≤1000000000)(hs:Af.length<1000000000)(hss:okS Af)(aj:I9 (⟨Ae,Ah,Ai,Af,An,Al⟩:Aa))(ht:text.size≤1000000000)(hr:Cl (⟨Ae,Ah,Ai,Af,An,Al⟩:Aa) name text=(⟨G1,G2,G9,G0,G8,G4⟩,ob))(B0:G1.map A6=Eg)(B3:G2.map Ac=Eo)(B2:G9.map Ac=Eh)(B1:G0.map cS=Ef):Fn Tryz.prog 156 [.agg [.d (.row 3 Be),.d (.row 2 Bf),.d (.row 2 A9),.d (.row 1 Bg),I An,I Al],S name,S text] [] ⟨.tup [.agg [.d (.row 3 Eg),.d (.row 2 Eo),.d (.row 2 Eh),.d (.row 1 Ef),I G8,I G4],I ob],[],[]⟩:=by
 refine Fn.go Hp Tryz.func156 fun P hP Q hQ=>?_
 conv=>cbv
 obtain⟨n2,a8⟩:∃m,m=Ae.length:=⟨_,rfl⟩
 obtain⟨n3,ba⟩:∃m,m=Ah.length:=⟨_,rfl⟩
 obtain⟨n4,bb⟩:∃m,m=Ai.length:=⟨_,rfl⟩
 obtain⟨n5,bc⟩:∃m,m=Af.length:=⟨_,rfl⟩
 refine .ddN hP (Jh Aj Ak Ao Am (by omega) (by omega) (by omega) (by omega) a8 ba bb bc) rfl ?_
 conv=>cbv
 generalize ah:Bk (⟨Ae,Ah,Ai,Af,An,Al⟩:Aa)=r6
 refine .lnt hP (M9 Aj Ak Ao Am aj ah) (.agg (.ref rfl (Ag Aj) (.ref rfl (Ag Ak) (.ref rfl (Ag Ao) (.ref rfl (Ag Am) (.d rfl (.d rfl .nil)))))) .nil) ?_
 cases r6
 conv=>cbv
 have e:((⟨Ae,Ah,Ai,Af,An,Al⟩:Aa),3)=Cl (⟨Ae,Ah,Ai,Af,An,Al⟩:Aa) name text:=(by unfold Cl;rw[if_pos (.inl ah)])
 rw[hr]at e
 simp only[Prod.mk.injEq,Aa.mk.injEq]at e
 obtain⟨⟨rfl,rfl,rfl,rfl,rfl,rfl⟩,rfl⟩:=e
 refine hQ _ _ ?_
 exact .many (.inl rfl) rfl rfl (.agg (.ref rfl (Ag Aj) (Bm Aj B0) (.ref rfl (Ag Ak) (Bm Ak B3) (.ref rfl (Ag Ao) (Bm Ao B2) (.ref rfl (Ag Am) (Bm Am B1) (.d rfl rfl (.d rfl rfl (.nil))))))) (.d rfl rfl (.nil)))
 conv=>cbv
 generalize ao:Eb Ah name=r7
 refine .lnt hP (Nd Ak (by omega) ao) (.ref rfl (Ag Ak) (.d rfl .nil)) ?_
 cases r7
 conv=>cbv
 have e:((⟨Ae,Ah,Ai,Af,An,Al⟩:Aa),3)=Cl (⟨Ae,Ah,Ai,Af,An,Al⟩:Aa) name text:=(by unfold Cl;rw[if_pos (.inr (Yx (Xci ao)))])
 rw[hr]at e
 simp only[Prod.mk.injEq,Aa.mk.injEq]at e
 obtain⟨⟨rfl,rfl,rfl,rfl,rfl,rfl⟩,rfl⟩:=e
 refine hQ _ _ ?_
 exact .many (.inl rfl) rfl rfl (.agg (.ref rfl (Ag Aj) (Bm Aj B0) (.ref rfl (Ag Ak) (Bm Ak B3) (.ref rfl (Ag Ao) (Bm Ao B2) (.ref rfl (Ag Am) (Bm Am B1) (.d rfl rfl (.d rfl rfl (.nil))))))) (.d rfl rfl (.nil)))
 conv=>cbv
 generalize ar:Cy Ah name=r8
 refine .lnt hP (Mg Ak (by omega) ar) (.ref rfl (Ag Ak) (.d rfl .nil)) ?_
 conv=>cbv
 generalize au:Hq (⟨Ae,Ah,Ai,Af,An,Al⟩:Aa) r8=r9
 refine .lnt hP (Q6 Aj Ak Ao Am (by omega) au) (.agg (.ref rfl (Ag Aj) (.ref rfl (Ag Ak) (.ref rfl (Ag Ao) (.ref rfl (Ag Am) (.d rfl (.d rfl .nil)))))) (.d rfl .nil)) ?_
 conv=>cbv
 have hpl:=Xax ao
 have hk:Dc (⟨Ae,Ah,Ai,Af,An,Al⟩:Aa) name=r9:=by rw[←Yq (d:=(⟨Ae,Ah,Ai,Af,An,Al⟩:Aa)) hpl];show Hq _ (Cy Ah name)=r9;rw[ar,au]
 have hb:=H2 hk
 have bd:=(XeD ah hpl).2
 rw[hk]at bd
 simp only[]at hb
 generalize af:F1 (⟨Ae,Ah,Ai,Af,An,Al⟩:Aa)=aw
 refine .lnt hP (XfT Aj Ak Ao Am aj.1 af) (.agg (.ref rfl (Ag Aj) (.ref rfl (Ag Ak) (.ref rfl (Ag Ao) (.ref rfl (Ag Am) (.d rfl (.d rfl .nil)))))) .nil) ?_
 conv=>cbv
 have hri:=Iv ah
 simp only[af]at hri
 refine .sub fun bk ax=>?_
 conv=>cbv
 refine .go fun bl bg=>?_
 conv=>cbv
 refine .gtr (fun h13=>?_) fun h13=>?_
 conv=>cbv
 refine .go r9.toNat fun ai ay ap=>?_
 conv=>cbv
 refine .go Aj fun ae ⟨aq,aa,ak⟩ ab=>?_
 conv=>cbv
 have az:aa.size≤1000000000:=by have h9:=aj.1.2.1 _ (List.getElem_mem ae);rw[←ab]at h9;exact h9
 refine .hi fun al ag=>?_
 conv=>cbv
 have bh:al.size≤text.size:=by rw[ag,ByteArray.size_extract];omega
 refine .go fun a1 a2 bi=>?_
 conv=>cbv
 refine .go r9.toNat fun ac a6 be=>?_
 conv=>cbv
 refine .go (⟨(Ae.getD ac ⟨0,tx [],0⟩).id_,a1,(Ae.getD ac ⟨0,tx [],0⟩).sure_⟩:Ax) Aj (by omega) (by rw[←gD (show ac<Ae.length by omega)];rfl) (show 1+1≤3 by decide) fun bm am=>?_
 conv=>cbv
 have e:((⟨Ae.set ac (⟨(Ae.getD ac ⟨0,tx [],0⟩).id_,a1,(Ae.getD ac ⟨0,tx [],0⟩).sure_⟩:Ax),Ah,Ai,Af,An,Al⟩:Aa),5)=Cl (⟨Ae,Ah,Ai,Af,An,Al⟩:Aa) name text:=(by unfold Cl;rw[if_neg (by rintro(h|h);rw[ah]at h;cases h;rw[hk]at h;omega),hk,af];dsimp only;rw[if_pos (by omega)];unfold XlL gN;dsimp only;have e9:aa=(Ae.getD ac ⟨0,tx [],0⟩).text_:=(by have h9:ai=ac:=(by omega);subst h9;rw[←gD (show ai<Ae.length by omega),←ab]);rw[←a6,a2,e9,ag,ax,show min (text.size:Int) (An - aw)=An - aw by omega])
 rw[hr]at e
 simp only[Prod.mk.injEq,Aa.mk.injEq]at e
 obtain⟨⟨rfl,rfl,rfl,rfl,rfl,rfl⟩,rfl⟩:=e
 refine hQ _ _ ?_
 exact .many (.inl rfl) rfl rfl (.agg (.ref rfl (Ag am) (Bm am B0) (.ref rfl (Ag Ak) (Bm Ak B3) (.ref rfl (Ag Ao) (Bm Ao B2) (.ref rfl (Ag Am) (Bm Am B1) (.d rfl rfl (.d rfl rfl (.nil))))))) (.d rfl rfl (.nil)))
 conv=>cbv
 refine .go r9.toNat fun ai ay ap=>?_
 conv=>cbv
 refine .go Aj fun ae ⟨aq,aa,ak⟩ ab=>?_
 conv=>cbv
 have az:aa.size≤1000000000:=by have h9:=aj.1.2.1 _ (List.getElem_mem ae);rw[←ab]at h9;exact h9
 refine .go fun al ag bj=>?_
 conv=>cbv
 refine .go r9.toNat fun ad a7 bf=>?_
 conv=>cbv
 refine .go (⟨(Ae.getD ad ⟨0,tx [],0⟩).id_,al,(Ae.getD ad ⟨0,tx [],0⟩).sure_⟩:Ax) Aj (by omega) (by rw[←gD (show ad<Ae.length by omega)];rfl) (show 1+1≤3 by decide) fun bn an=>?_
 conv=>cbv
 have e:((⟨Ae.set ad (⟨(Ae.getD ad ⟨0,tx [],0⟩).id_,al,(Ae.getD ad ⟨0,tx [],0⟩).sure_⟩:Ax),Ah,Ai,Af,An,Al⟩:Aa),0)=Cl (⟨Ae,Ah,Ai,Af,An,Al⟩:Aa) name text:=(by unfold Cl;rw[if_neg (by rintro(h|h);rw[ah]at h;cases h;rw[hk]at h;omega),hk,af];dsimp only;rw[if_neg (by omega)];unfold XlL gN;dsimp only;have e9:aa=(Ae.getD ad ⟨0,tx [],0⟩).text_:=(by have h9:ai=ad:=(by omega);subst h9;rw[←gD (show ai<Ae.length by omega),←ab]);rw[←a7,ag,e9,Xae (t:=text) (by omega)])
 rw[hr]at e
 simp only[Prod.mk.injEq,Aa.mk.injEq]at e
 obtain⟨⟨rfl,rfl,rfl,rfl,rfl,rfl⟩,rfl⟩:=e
 refine hQ _ _ ?_
 exact .many (.inl rfl) rfl rfl (.agg (.ref rfl (Ag an) (Bm an B0) (.ref rfl (Ag Ak) (Bm Ak B3) (.ref rfl (Ag Ao) (Bm Ao B2) (.ref rfl (Ag Am) (Bm Am B1) (.d rfl rfl (.d rfl rfl (.nil))))))) (.d rfl rfl (.nil)))
theorem Xf0(Aj:Ae.map A6=Be)(Ak:Ah.map Ac=Bf)(Ao:Ai.map Ac=A9)(Am:Af.map cS=Bg)(hn:Ae.length≤1000000000)(he:Ah.length≤1000000000)(ho:Ai.length≤1000000000)(hs:Af.length<1000000000)(hss:okS Af)(an:I9 (⟨Ae,Ah,Ai,Af,An,Al⟩:Aa))(hr:Dv (⟨Ae,Ah,Ai,Af,An,Al⟩:Aa) name=(⟨G1,G2,G9,G0,G8,G4⟩,ob))(B0:G1.map A6=Eg)(B3:G2.map Ac=Eo)(B2:G9.map Ac=Eh)(B1:G0.map cS=Ef):Fn Tryz.prog 225 [.agg [.d (.row 3 Be),.d (.row 2 Bf),.d (.row 2 A9),.d (.row 1 Bg),I An,I Al],S name] [] ⟨.tup [.agg [.d (.row 3 Eg),.d (.row 2 Eo),.d (.row 2 Eh),.d (.row 1 Ef),I G8,I G4],I ob],[],[]⟩:=by
 refine Fn.go Hp Tryz.func225 fun P hP Q hQ=>?_
 conv=>cbv
 obtain⟨n2,ao⟩:∃m,m=Ae.length:=⟨_,rfl⟩
 obtain⟨n3,ap⟩:∃m,m=Ah.length:=⟨_,rfl⟩
 obtain⟨n4,aq⟩:∃m,m=Ai.length:=⟨_,rfl⟩
 obtain⟨n5,ar⟩:∃m,m=Af.length:=⟨_,rfl⟩
 refine .ddN hP (Jh Aj Ak Ao Am (by omega) (by omega) (by omega) (by omega) ao ap aq ar) rfl ?_
 conv=>cbv
 generalize ab:Bk (⟨Ae,Ah,Ai,Af,An,Al⟩:Aa)=r6
 refine .lnt hP (M9 Aj Ak Ao Am an ab) (.agg (.ref rfl (Ag Aj) (.ref rfl (Ag Ak) (.ref rfl (Ag Ao) (.ref rfl (Ag Am) (.d rfl (.d rfl .nil)))))) .nil) ?_
 cases r6
 conv=>cbv
 have e:((⟨Ae,Ah,Ai,Af,An,Al⟩:Aa),3)=Dv (⟨Ae,Ah,Ai,Af,An,Al⟩:Aa) name:=(by unfold Dv;rw[if_pos (.inl ab)])
 rw[hr]at e
 simp only[Prod.mk.injEq,Aa.mk.injEq]at e
 obtain⟨⟨rfl,rfl,rfl,rfl,rfl,rfl⟩,rfl⟩:=e
 refine hQ _ _ ?_
 exact .many (.inl rfl) rfl rfl (.agg (.ref rfl (Ag Aj) (Bm Aj B0) (.ref rfl (Ag Ak) (Bm Ak B3) (.ref rfl (Ag Ao) (Bm Ao B2) (.ref rfl (Ag Am) (Bm Am B1) (.d rfl rfl (.d rfl rfl (.nil))))))) (.d rfl rfl (.nil)))
 conv=>cbv
 generalize ae:Eb Ah name=r7
 refine .lnt hP (Nd Ak (by omega) ae) (.ref rfl (Ag Ak) (.d rfl .nil)) ?_
 cases r7
 conv=>cbv
 have e:((⟨Ae,Ah,Ai,Af,An,Al⟩:Aa),3)=Dv (⟨Ae,Ah,Ai,Af,An,Al⟩:Aa) name:=(by unfold Dv;rw[if_pos (.inr (Yx (Xci ae)))])
 rw[hr]at e
 simp only[Prod.mk.injEq,Aa.mk.injEq]at e
 obtain⟨⟨rfl,rfl,rfl,rfl,rfl,rfl⟩,rfl⟩:=e
 refine hQ _ _ ?_
 exact .many (.inl rfl) rfl rfl (.agg (.ref rfl (Ag Aj) (Bm Aj B0) (.ref rfl (Ag Ak) (Bm Ak B3) (.ref rfl (Ag Ao) (Bm Ao B2) (.ref rfl (Ag Am) (Bm Am B1) (.d rfl rfl (.d rfl rfl (.nil))))))) (.d rfl rfl (.nil)))
 conv=>cbv
 generalize af:Cy Ah name=r8
 refine .lnt hP (Mg Ak (by omega) af) (.ref rfl (Ag Ak) (.d rfl .nil)) ?_
 conv=>cbv
 generalize ag:Hq (⟨Ae,Ah,Ai,Af,An,Al⟩:Aa) r8=r9
 refine .lnt hP (Q6 Aj Ak Ao Am (by omega) ag) (.agg (.ref rfl (Ag Aj) (.ref rfl (Ag Ak) (.ref rfl (Ag Ao) (.ref rfl (Ag Am) (.d rfl (.d rfl .nil)))))) (.d rfl .nil)) ?_
 conv=>cbv
 have hpl:=Xax ae
 have hk:Dc (⟨Ae,Ah,Ai,Af,An,Al⟩:Aa) name=r9:=by rw[←Yq (d:=(⟨Ae,Ah,Ai,Af,An,Al⟩:Aa)) hpl];show Hq _ (Cy Ah name)=r9;rw[af,ag]
 have hb:=H2 hk
 have au:=(XeD ab hpl).2
 rw[hk]at au
 simp only[]at hb
 refine .go r9.toNat fun ah a1 aw=>?_
 conv=>cbv
 refine .go Aj fun ax ⟨ay,ac,am⟩ ai=>?_
 conv=>cbv
 refine .go fun aj ak=>?_
 conv=>cbv
 refine .go r9.toNat fun aa al az=>?_
 conv=>cbv
 refine .go (⟨(Ae.getD aa ⟨0,tx [],0⟩).id_,(Ae.getD aa ⟨0,tx [],0⟩).text_,aj⟩:Ax) Aj (by omega) (by rw[←gD (show aa<Ae.length by omega)];rfl) (show 2+1≤3 by decide) fun a2 ad=>?_
 conv=>cbv
 have e:((⟨Ae.set aa (⟨(Ae.getD aa ⟨0,tx [],0⟩).id_,(Ae.getD aa ⟨0,tx [],0⟩).text_,aj⟩:Ax),Ah,Ai,Af,An,Al⟩:Aa),0)=Dv (⟨Ae,Ah,Ai,Af,An,Al⟩:Aa) name:=(by unfold Dv;rw[if_neg (by rintro(h|h);rw[ab]at h;cases h;rw[hk]at h;omega),hk];dsimp only;have e9:ac=(Ae.getD aa ⟨0,tx [],0⟩).text_:=(by have h9:ah=aa:=(by omega);subst h9;rw[←gD (show ah<Ae.length by omega),←ai]);rw[ak,e9,←al])
 rw[hr]at e
 simp only[Prod.mk.injEq,Aa.mk.injEq]at e
 obtain⟨⟨rfl,rfl,rfl,rfl,rfl,rfl⟩,rfl⟩:=e
 refine hQ _ _ ?_
 exact .many (.inl rfl) rfl rfl (.agg (.ref rfl (Ag ad) (Bm ad B0) (.ref rfl (Ag Ak) (Bm Ak B3) (.ref rfl (Ag Ao) (Bm Ao B2) (.ref rfl (Ag Am) (Bm Am B1) (.d rfl rfl (.d rfl rfl (.nil))))))) (.d rfl rfl (.nil)))
theorem Xch{from_:ByteArray}{to_:ByteArray}(Aj:Ae.map A6=Be)(Ak:Ah.map Ac=Bf)(Ao:Ai.map Ac=A9)(Am:Af.map cS=Bg)(hn:Ae.length≤1000000000)(he:Ah.length≤1000000000)(ho:Ai.length≤1000000000)(hs:Af.length<1000000000)(hss:okS Af)(bc:I9 (⟨Ae,Ah,Ai,Af,An,Al⟩:Aa))(hm:from_.size+to_.size<999999999)(hr:B6 (⟨Ae,Ah,Ai,Af,An,Al⟩:Aa) from_ to_=(⟨G1,G2,G9,G0,G8,G4⟩,ob))(B0:G1.map A6=Eg)(B3:G2.map Ac=Eo)(B2:G9.map Ac=Eh)(B1:G0.map cS=Ef):Fn Tryz.prog 260 [.agg [.d (.row 3 Be),.d (.row 2 Bf),.d (.row 2 A9),.d (.row 1 Bg),I An,I Al],S from_,S to_] [] ⟨.tup [.agg [.d (.row 3 Eg),.d (.row 2 Eo),.d (.row 2 Eh),.d (.row 1 Ef),I G8,I G4],I ob],[],[]⟩:=by
 refine Fn.go Hp Tryz.func260 fun P hP Q hQ=>?_
 conv=>cbv
 obtain⟨n2,bd⟩:∃m,m=Ae.length:=⟨_,rfl⟩
 obtain⟨n3,be⟩:∃m,m=Ah.length:=⟨_,rfl⟩
 obtain⟨n4,bf⟩:∃m,m=Ai.length:=⟨_,rfl⟩
 obtain⟨n5,bg⟩:∃m,m=Af.length:=⟨_,rfl⟩
 refine .ddN hP (Jh Aj Ak Ao Am (by omega) (by omega) (by omega) (by omega) bd be bf bg) rfl ?_
 conv=>cbv
 generalize ai:Bk (⟨Ae,Ah,Ai,Af,An,Al⟩:Aa)=r6
 refine .lnt hP (M9 Aj Ak Ao Am bc ai) (.agg (.ref rfl (Ag Aj) (.ref rfl (Ag Ak) (.ref rfl (Ag Ao) (.ref rfl (Ag Am) (.d rfl (.d rfl .nil)))))) .nil) ?_
 cases r6
 conv=>cbv
 have e:((⟨Ae,Ah,Ai,Af,An,Al⟩:Aa),3)=B6 (⟨Ae,Ah,Ai,Af,An,Al⟩:Aa) from_ to_:=(by unfold B6;rw[if_pos (.inl ai)])
 rw[hr]at e
 simp only[Prod.mk.injEq,Aa.mk.injEq]at e
 obtain⟨⟨rfl,rfl,rfl,rfl,rfl,rfl⟩,rfl⟩:=e
 refine hQ _ _ ?_
 exact .many (.inl rfl) rfl rfl (.agg (.ref rfl (Ag Aj) (Bm Aj B0) (.ref rfl (Ag Ak) (Bm Ak B3) (.ref rfl (Ag Ao) (Bm Ao B2) (.ref rfl (Ag Am) (Bm Am B1) (.d rfl rfl (.d rfl rfl (.nil))))))) (.d rfl rfl (.nil)))
 conv=>cbv
 generalize aj:Eb Ah from_=r7
 refine .lnt hP (Nd Ak (by omega) aj) (.ref rfl (Ag Ak) (.d rfl .nil)) ?_
 cases r7
 conv=>cbv
 have e:((⟨Ae,Ah,Ai,Af,An,Al⟩:Aa),3)=B6 (⟨Ae,Ah,Ai,Af,An,Al⟩:Aa) from_ to_:=(by unfold B6;rw[if_pos (.inr (Xci aj))])
 rw[hr]at e
 simp only[Prod.mk.injEq,Aa.mk.injEq]at e
 obtain⟨⟨rfl,rfl,rfl,rfl,rfl,rfl⟩,rfl⟩:=e
 refine hQ _ _ ?_
 exact .many (.inl rfl) rfl rfl (.agg (.ref rfl (Ag Aj) (Bm Aj B0) (.ref rfl (Ag Ak) (Bm Ak B3) (.ref rfl (Ag Ao) (Bm Ao B2) (.ref rfl (Ag Am) (Bm Am B1) (.d rfl rfl (.d rfl rfl (.nil))))))) (.d rfl rfl (.nil)))
 conv=>cbv
 generalize al:Bs to_=r8
 refine .dd hP (M3 (by omega) al) ?_
 cases r8
 conv=>cbv
 have e:((⟨Ae,Ah,Ai,Af,An,Al⟩:Aa),1)=B6 (⟨Ae,Ah,Ai,Af,An,Al⟩:Aa) from_ to_:=(by unfold B6;rw[if_neg (by rintro(h|h);rw[ai]at h;cases h;have:=Xax aj;dsimp only at h;omega),if_pos (.inl al)])
 rw[hr]at e
 simp only[Prod.mk.injEq,Aa.mk.injEq]at e
 obtain⟨⟨rfl,rfl,rfl,rfl,rfl,rfl⟩,rfl⟩:=e
 refine hQ _ _ ?_
 exact .many (.inl rfl) rfl rfl (.agg (.ref rfl (Ag Aj) (Bm Aj B0) (.ref rfl (Ag Ak) (Bm Ak B3) (.ref rfl (Ag Ao) (Bm Ao B2) (.ref rfl (Ag Am) (Bm Am B1) (.d rfl rfl (.d rfl rfl (.nil))))))) (.d rfl rfl (.nil)))
 conv=>cbv
 refine .eql (fun h9=>?_) fun h9=>?_
 conv=>cbv
 have e:((⟨Ae,Ah,Ai,Af,An,Al⟩:Aa),1)=B6 (⟨Ae,Ah,Ai,Af,An,Al⟩:Aa) from_ to_:=(by unfold B6;rw[if_neg (by rintro(h|h);rw[ai]at h;cases h;have:=Xax aj;dsimp only at h;omega),if_pos (.inr h9)])
 rw[hr]at e
 simp only[Prod.mk.injEq,Aa.mk.injEq]at e
 obtain⟨⟨rfl,rfl,rfl,rfl,rfl,rfl⟩,rfl⟩:=e
 refine hQ _ _ ?_
 exact .many (.inl rfl) rfl rfl (.agg (.ref rfl (Ag Aj) (Bm Aj B0) (.ref rfl (Ag Ak) (Bm Ak B3) (.ref rfl (Ag Ao) (Bm Ao B2) (.ref rfl (Ag Am) (Bm Am B1) (.d rfl rfl (.d rfl rfl (.nil))))))) (.d rfl rfl (.nil)))
 conv=>cbv
 generalize ao:Cy Ah from_=bh
 refine .lnt hP (Mg Ak (by omega) ao) (.ref rfl (Ag Ak) (.d rfl .nil)) ?_
 conv=>cbv
 generalize ak:Dx Ah from_=ay
 have bi:=Is ak
 generalize ap:ay.map Ac=bk
 refine .lntD hP (Mk Ak (by omega) ak ap) (.ref rfl (Ag Ak) (.d rfl .nil)) ?_
 conv=>cbv
 generalize aq:Ee ay (⟨to_,bh⟩:Ad)=az
 generalize ar:az.map Ac=bl
 refine .dd hP (Ja ap (by omega) aq ar) ?_
 conv=>cbv
 refine .litL 1 fun bq a1 bm=>?_
 conv=>cbv
 refine .litR 1 fun bt a2 bn=>?_
 conv=>cbv
 refine .go fun ax a6 bo=>?_
 conv=>cbv
 refine .one ax Am rfl fun bp bu bj au=>?_
 conv=>cbv
 rcases aw:En (⟨Ae,az,Ai,Af++[ax],An,Al⟩:Aa)with⟨ae,af,ag,ah,am,an⟩
 generalize aa:ae.map A6=a7
 generalize ab:af.map Ac=a8
 generalize ac:ag.map Ac=ba
 generalize ad:ah.map cS=bb
 refine .lntD hP (Mt Aj ar Ao au (by omega) (by omega) (by rw[List.length_append,List.length_singleton];omega) (Sb hss (by omega)) aw aa ab ac ad) (.agg (.ref rfl (Ag Aj) (.d rfl (.ref rfl (Ag Ao) (.ref rfl (Ag au) (.d rfl (.d rfl .nil)))))) .nil) ?_
 conv=>cbv
 have e:((⟨ae,af,ag,ah,am,an⟩:Aa),0)=B6 (⟨Ae,Ah,Ai,Af,An,Al⟩:Aa) from_ to_:=(by unfold B6;rw[if_neg (by rintro(h|h);rw[ai]at h;cases h;have:=Xax aj;dsimp only at h;omega),if_neg (by rintro(h|h);rw[al]at h;cases h;exact h9 h)];exact congrArg (fun x:Aa=>(x,(0:Int))) (aw.symm.trans (by rw[←aq,←ak,←ao,show ax=tx [62]++from_++tx [58]++to_ from(by rw[a6,a2,a1];rfl)];exact Xdl ai (Xax aj) al h9)))
 rw[hr]at e
 simp only[Prod.mk.injEq,Aa.mk.injEq]at e
 obtain⟨⟨rfl,rfl,rfl,rfl,rfl,rfl⟩,rfl⟩:=e
 refine hQ _ _ ?_
 exact .many (.inl rfl) rfl rfl (.agg (.d rfl (A5 aa B0) (.d rfl (A5 ab B3) (.d rfl (A5 ac B2) (.d rfl (A5 ad B1) (.d rfl rfl (.d rfl rfl (.nil))))))) (.d rfl rfl (.nil)))
theorem Xb5(Aj:Ae.map A6=Be)(Ak:Ah.map Ac=Bf)(Ao:Ai.map Ac=A9)(Am:Af.map cS=Bg)(hn:Ae.length≤1000000000)(he:Ah.length≤1000000000)(ho:Ai.length≤1000000000)(hs:Af.length<1000000000)(hss:okS Af)(ax:I9 (⟨Ae,Ah,Ai,Af,An,Al⟩:Aa))(hm:name.size<1000000000)(hr:C6 (⟨Ae,Ah,Ai,Af,An,Al⟩:Aa) name=(⟨G1,G2,G9,G0,G8,G4⟩,ob))(B0:G1.map A6=Eg)(B3:G2.map Ac=Eo)(B2:G9.map Ac=Eh)(B1:G0.map cS=Ef):Fn Tryz.prog 259 [.agg [.d (.row 3 Be),.d (.row 2 Bf),.d (.row 2 A9),.d (.row 1 Bg),I An,I Al],S name] [] ⟨.tup [.agg [.d (.row 3 Eg),.d (.row 2 Eo),.d (.row 2 Eh),.d (.row 1 Ef),I G8,I G4],I ob],[],[]⟩:=by
 refine Fn.go Hp Tryz.func259 fun P hP Q hQ=>?_
 conv=>cbv
 obtain⟨n2,ay⟩:∃m,m=Ae.length:=⟨_,rfl⟩
 obtain⟨n3,az⟩:∃m,m=Ah.length:=⟨_,rfl⟩
 obtain⟨n4,a1⟩:∃m,m=Ai.length:=⟨_,rfl⟩
 obtain⟨n5,a2⟩:∃m,m=Af.length:=⟨_,rfl⟩
 refine .ddN hP (Jh Aj Ak Ao Am (by omega) (by omega) (by omega) (by omega) ay az a1 a2) rfl ?_
 conv=>cbv
 generalize ai:Bk (⟨Ae,Ah,Ai,Af,An,Al⟩:Aa)=r6
 refine .lnt hP (M9 Aj Ak Ao Am ax ai) (.agg (.ref rfl (Ag Aj) (.ref rfl (Ag Ak) (.ref rfl (Ag Ao) (.ref rfl (Ag Am) (.d rfl (.d rfl .nil)))))) .nil) ?_
 cases r6
 conv=>cbv
 have e:((⟨Ae,Ah,Ai,Af,An,Al⟩:Aa),3)=C6 (⟨Ae,Ah,Ai,Af,An,Al⟩:Aa) name:=(by unfold C6;rw[if_pos (.inl ai)])
 rw[hr]at e
 simp only[Prod.mk.injEq,Aa.mk.injEq]at e
 obtain⟨⟨rfl,rfl,rfl,rfl,rfl,rfl⟩,rfl⟩:=e
 refine hQ _ _ ?_
 exact .many (.inl rfl) rfl rfl (.agg (.ref rfl (Ag Aj) (Bm Aj B0) (.ref rfl (Ag Ak) (Bm Ak B3) (.ref rfl (Ag Ao) (Bm Ao B2) (.ref rfl (Ag Am) (Bm Am B1) (.d rfl rfl (.d rfl rfl (.nil))))))) (.d rfl rfl (.nil)))
 conv=>cbv
 generalize aj:Eb Ah name=r7
 refine .lnt hP (Nd Ak (by omega) aj) (.ref rfl (Ag Ak) (.d rfl .nil)) ?_
 cases r7
 conv=>cbv
 have e:((⟨Ae,Ah,Ai,Af,An,Al⟩:Aa),3)=C6 (⟨Ae,Ah,Ai,Af,An,Al⟩:Aa) name:=(by unfold C6;rw[if_pos (.inr (Xci aj))])
 rw[hr]at e
 simp only[Prod.mk.injEq,Aa.mk.injEq]at e
 obtain⟨⟨rfl,rfl,rfl,rfl,rfl,rfl⟩,rfl⟩:=e
 refine hQ _ _ ?_
 exact .many (.inl rfl) rfl rfl (.agg (.ref rfl (Ag Aj) (Bm Aj B0) (.ref rfl (Ag Ak) (Bm Ak B3) (.ref rfl (Ag Ao) (Bm Ao B2) (.ref rfl (Ag Am) (Bm Am B1) (.d rfl rfl (.d rfl rfl (.nil))))))) (.d rfl rfl (.nil)))
 conv=>cbv
 generalize ao:Dx Ah name=l8
 generalize ap:l8.map Ac=ba
 refine .lntD hP (Mk Ak (by omega) ao ap) (.ref rfl (Ag Ak) (.d rfl .nil)) ?_
 conv=>cbv
 refine .litL 1 fun s9 a6 bb=>?_
 conv=>cbv
 refine .one s9 Am rfl fun a8 bc a7 am=>?_
 conv=>cbv
 rcases an:En (⟨Ae,l8,Ai,Af++[s9],An,Al⟩:Aa)with⟨ae,af,ag,ah,ak,al⟩
 generalize aa:ae.map A6=aq
 generalize ab:af.map Ac=ar
 generalize ac:ag.map Ac=au
 generalize ad:ah.map cS=aw
 refine .lntD hP (Mt Aj ap Ao am (by omega) (by omega) (by rw[List.length_append,List.length_singleton];omega) (Sb hss (by omega)) an aa ab ac ad) (.agg (.ref rfl (Ag Aj) (.d rfl (.ref rfl (Ag Ao) (.ref rfl (Ag am) (.d rfl (.d rfl .nil)))))) .nil) ?_
 conv=>cbv
 have e:((⟨ae,af,ag,ah,ak,al⟩:Aa),0)=C6 (⟨Ae,Ah,Ai,Af,An,Al⟩:Aa) name:=(by unfold C6;rw[if_neg (by rintro(h|h);rw[ai]at h;cases h;have:=Xax aj;dsimp only at h;omega)];exact congrArg (fun x:Aa=>(x,(0:Int))) (an.symm.trans (by rw[←ao,a6];exact Xd0 ai (Xax aj))))
 rw[hr]at e
 simp only[Prod.mk.injEq,Aa.mk.injEq]at e
 obtain⟨⟨rfl,rfl,rfl,rfl,rfl,rfl⟩,rfl⟩:=e
 refine hQ _ _ ?_
 exact .many (.inl rfl) rfl rfl (.agg (.d rfl (A5 aa B0) (.d rfl (A5 ab B3) (.d rfl (A5 ac B2) (.d rfl (A5 ad B1) (.d rfl rfl (.d rfl rfl (.nil))))))) (.d rfl rfl (.nil)))
theorem Xdw(Aj:Ae.map A6=Be)(Ak:Ah.map Ac=Bf)(Ao:Ai.map Ac=A9)(Am:Af.map cS=Bg)(hn:Ae.length≤1000000000)(he:Ah.length≤1000000000)(ho:Ai.length≤1000000000)(hs:Af.length<1000000000)(hss:okS Af)(ar:I9 (⟨Ae,Ah,Ai,Af,An,Al⟩:Aa))(hr:D6 (⟨Ae,Ah,Ai,Af,An,Al⟩:Aa)=⟨onod,oent,oold,oste,oroo,onex⟩)(Lv:onod.map A6=K3)(L8:oent.map Ac=K1)(Lq:oold.map Ac=K4)(L4:oste.map cS=K5):Fn Tryz.prog 227 [.agg [.d (.row 3 Be),.d (.row 2 Bf),.d (.row 2 A9),.d (.row 1 Bg),I An,I Al]] [] ⟨.agg [.d (.row 3 K3),.d (.row 2 K1),.d (.row 2 K4),.d (.row 1 K5),I oroo,I onex],[],[]⟩:=by
 refine Fn.go Hp Tryz.func227 fun P hP Q hQ=>?_
 conv=>cbv
 obtain⟨n2,au⟩:∃m,m=Ae.length:=⟨_,rfl⟩
 obtain⟨n3,aw⟩:∃m,m=Ah.length:=⟨_,rfl⟩
 obtain⟨n4,ax⟩:∃m,m=Ai.length:=⟨_,rfl⟩
 obtain⟨n5,ay⟩:∃m,m=Af.length:=⟨_,rfl⟩
 refine .ddN hP (Jh Aj Ak Ao Am (by omega) (by omega) (by omega) (by omega) au aw ax ay) rfl ?_
 conv=>cbv
 generalize ai:Bk (⟨Ae,Ah,Ai,Af,An,Al⟩:Aa)=r6
 refine .lnt hP (M9 Aj Ak Ao Am ar ai) (.agg (.ref rfl (Ag Aj) (.ref rfl (Ag Ak) (.ref rfl (Ag Ao) (.ref rfl (Ag Am) (.d rfl (.d rfl .nil)))))) .nil) ?_
 cases r6
 conv=>cbv
 have e:(⟨Ae,Ah,Ai,Af,An,Al⟩:Aa)=D6 (⟨Ae,Ah,Ai,Af,An,Al⟩:Aa):=(by unfold D6;rw[if_pos ai])
 rw[hr]at e
 simp only[Aa.mk.injEq]at e
 obtain⟨rfl,rfl,rfl,rfl,rfl,rfl⟩:=e
 exact hQ _ _ (.one (.inl rfl) rfl (.agg (.ref rfl (Ag Aj) (Bm Aj Lv) (.ref rfl (Ag Ak) (Bm Ak L8) (.ref rfl (Ag Ao) (Bm Ao Lq) (.ref rfl (Ag Am) (Bm Am L4) (.d rfl rfl (.d rfl rfl (.nil))))))) .nil))
 conv=>cbv
 refine .sub0 Ak fun a1 z7 az al=>?_
 conv=>cbv
 rcases am:En (⟨Ae,Ah,Ah,[],An,Al⟩:Aa)with⟨ae,af,ag,ah,aj,ak⟩
 generalize aa:ae.map A6=an
 generalize ab:af.map Ac=ao
 generalize ac:ag.map Ac=ap
 generalize ad:ah.map cS=aq
 refine .lntD hP (Mt Aj Ak al rfl (by omega) (by omega) (by simp) (fun _ h=>by cases h) am aa ab ac ad) (.agg (.ref rfl (Ag Aj) (.ref rfl (Ag Ak) (.ref rfl (Ag al) (.ref rfl rfl (.d rfl (.d rfl .nil)))))) .nil) ?_
 conv=>cbv
 have e:(⟨ae,af,ag,ah,aj,ak⟩:Aa)=D6 (⟨Ae,Ah,Ai,Af,An,Al⟩:Aa):=(by unfold D6;rw[if_neg (by rw[ai];decide)];dsimp only;rw[←am];exact X2 (d:=⟨Ae,Ah,Ah,[],An,Al⟩) trivial)
 rw[hr]at e
 simp only[Aa.mk.injEq]at e
 obtain⟨rfl,rfl,rfl,rfl,rfl,rfl⟩:=e
 exact hQ _ _ (.one (.inl rfl) rfl (.agg (.d rfl (A5 aa Lv) (.d rfl (A5 ab L8) (.d rfl (A5 ac Lq) (.d rfl (A5 ad L4) (.d rfl rfl (.d rfl rfl (.nil))))))) .nil))
end
section
open Go Go.Proofs
set_option maxRecDepth 20000
set_option maxHeartbeats 4000000
def Xb3:List (Nat×TyRow):=[ty3,ty9,Xn,Xk2,Xmy]
theorem Xbe:B8 Tryz.prog Xb3:=B8.of (by kernel_rfl)
theorem La:Setup Tryz.prog Xb3:=⟨Xbe,mixed⟩
theorem XeY{α:Type}{f:α→Int}(h0:∀x,0≤f x):∀{l:List α} {x:α},x∈l→∀a,a+f x≤(l.map f).foldl (·+·) a
 |[],_,h,_=>by cases h
 |y::l,x,h,a=>by
  rw[List.map_cons,List.foldl_cons]
  rcases List.mem_cons.1 h with rfl|h
  ·exact Xdp h0
  ·have h1:=XeY h0 h (a+f y)
   have:=h0 y
   omega
theorem Xjv{d:Aa}{n:Ax}(h:n∈d.nodes_):(n.text_.size:Int)≤F1 d:=by
 have:=XeY (f:=fun n:Ax=>(n.text_.size:Int)) (fun x=>by omega) h 0
 unfold F1 Xld
 omega
theorem XiH{d:Aa}{i:Int}{x:Ax}(h:I9 d)(hx:x.text_.size≤1000000000):I9 (XlL d i x):=by
 obtain⟨⟨h1,h2,h3⟩,h4⟩:=h
 refine⟨⟨by show(d.nodes_.set _ _).length≤_;rw[List.length_set];exact h1,?_,h3⟩,h4⟩
 intro n hn
 rcases List.mem_or_eq_of_mem_set hn with hn|rfl
 ·exact h2 n hn
 ·exact hx
theorem XkA{d:Aa}{i:Int}(h0:0≤i)(h1:i<d.nodes_.length):gN d i∈d.nodes_:=by
 unfold gN
 have hk:i.toNat<d.nodes_.length:=by omega
 rw[←gD hk]
 exact List.getElem_mem hk
theorem Xaw{d:Aa}{s:ByteArray}(h:I9 d)(he:d.entries_.length≤1000000)(hs:s.size≤1000000000)(hl:d.steps_.length<1000000000):I9 (Mf d s):=by
 obtain⟨⟨h1,h2,h3,h4,h5,h6⟩,h7,h8⟩:=h
 obtain⟨e,b,hy⟩:∃e b,Ap d.entries_ s=(e,b):=⟨_,_,rfl⟩
 have hlen:=Mo hy
 have hok:=Xak (l:=d.entries_) h4 hs hy
 unfold Mf
 rw[hy]
 refine⟨⟨?_,?_,by show e.length≤_;omega,hok,h5,by rw[List.length_append,List.length_singleton];omega⟩,h7,Sb h8 hs⟩
 ·exact Nat.le_trans (List.length_filter_le _ _) h1
 ·intro n hn
  exact h2 n (List.mem_filter.1 hn).1
def okG(d d':Aa):Prop:=I9 d'∧d'.steps_.length≤d.steps_.length+1
theorem Ie{d:Aa}(h:I9 d):okG d d:=⟨h,Nat.le_succ _⟩
theorem Yr{d:Aa}(h:Bk d=true):d.entries_.length≤16:=Uh (Ph h).2.2
section
variable {d:Aa} {name text a b:ByteArray}
theorem XiT(h:I9 d)(hl:d.steps_.length<1000000000)(hm:name.size≤500000000):okG d (Bh d name).1:=by
 unfold Bh
 split
 ·exact Ie h
 ·rename_i hr
  have hr:=by simpa using hr
  split
  ·exact Ie h
  ·split
   ·exact Ie h
   ·split
    ·exact Ie h
    ·rename_i hc
     have hri:=Iv hr
     have hz:=S1 (rfl:Ci d.next_=_) (by unfold Xab;omega)
     refine⟨Xaw ?_ (by show d.entries_.length≤_;omega) ?_ hl,by show(d.steps_++[_]).length≤_;rw[List.length_append];exact Nat.le_refl _⟩
     ·obtain⟨⟨h1,h2,h3⟩,h4⟩:=h
      refine⟨⟨by show(d.nodes_++[_]).length≤_;rw[List.length_append,List.length_singleton];omega,?_,h3⟩,h4⟩
      intro n hn
      rcases List.mem_append.1 hn with hn|hn
      ·exact h2 n hn
      ·rw[List.mem_singleton.1 hn]
       exact Nat.zero_le _
     ·simp only[ByteArray.size_append,B7,List.length_singleton]
      omega
theorem Xib(h:I9 d)(hl:d.steps_.length<1000000000)(hm:name.size≤500000000):okG d (C6 d name).1:=by
 unfold C6
 split
 ·exact Ie h
 ·rename_i hr
  have hr:Bk d=true:=by
   cases hc:Bk d
   ·exact absurd (.inl hc) hr
   ·rfl
  refine⟨Xaw h (by have:=Yr hr;omega) ?_ hl,by show(d.steps_++[_]).length≤_;rw[List.length_append];exact Nat.le_refl _⟩
  simp only[ByteArray.size_append,B7,List.length_singleton]
  omega
theorem Xir(h:I9 d)(hl:d.steps_.length<1000000000)(ha:a.size≤400000000)(hb:b.size≤400000000):okG d (B6 d a b).1:=by
 unfold B6
 split
 ·exact Ie h
 ·rename_i hr
  have hr:Bk d=true:=by
   cases hc:Bk d
   ·exact absurd (.inl hc) hr
   ·rfl
  split
  ·exact Ie h
  ·refine⟨Xaw h (by have:=Yr hr;omega) ?_ hl,by show(d.steps_++[_]).length≤_;rw[List.length_append];exact Nat.le_refl _⟩
   simp only[ByteArray.size_append,B7,List.length_singleton]
   omega
theorem XiV(h:I9 d):okG d (Cl d name text).1:=by
 unfold Cl
 split
 ·exact Ie h
 ·rename_i hr
  have hk:0≤Dc d name:=Int.not_lt.1 fun k=>hr (.inr k)
  have hr:Bk d=true:=by
   cases hc:Bk d
   ·exact absurd (.inl hc) hr
   ·rfl
  have hri:=Iv hr
  have hu:=Xjv (XkA hk (H2 rfl).2)
  refine⟨XiH h ?_,Nat.le_succ _⟩
  show((gN d (Dc d name)).text_++text.extract 0 _).size≤_
  rw[ByteArray.size_append,ByteArray.size_extract]
  omega
theorem Xk8(h:I9 d):okG d (Dv d name).1:=by
 unfold Dv
 split
 ·exact Ie h
 ·rename_i hr
  have hk:0≤Dc d name:=Int.not_lt.1 fun k=>hr (.inr k)
  refine⟨XiH (i:=Dc d name) h ?_,Nat.le_succ _⟩
  show(gN d (Dc d name)).text_.size≤_
  exact h.1.2.1 _ (XkA hk (H2 rfl).2)
theorem Xj0(h:I9 d):okG d (D6 d):=by
 unfold D6
 split
 ·exact Ie h
 ·obtain⟨⟨h1,h2,h3,h4,h5,h6⟩,h7,h8⟩:=h
  refine⟨⟨⟨Nat.le_trans (List.length_filter_le _ _) h1,fun n hn=>h2 n (List.mem_filter.1 hn).1,h3,h4,h3,Nat.zero_le _⟩,h4,fun _ hs=>by cases hs⟩,Nat.zero_le _⟩
end
def Du(d:Aa)(x:TOp):Aa×Int:=if x.kind_=1 then C6 d x.name_ else if x.kind_=2 then Bh d x.name_ else if x.kind_=3 then Cl d x.name_ x.text_ else if x.kind_=4 then Dv d x.name_ else if x.kind_=5 then B6 d x.name_ x.to_ else if x.kind_=6 then(D6 d,0)else(d,1)
def okO(x:TOp):Prop:=x.name_.size≤400000000∧x.to_.size≤400000000∧x.text_.size≤1000000000
theorem Zr{d:Aa}{x:TOp}(h:I9 d)(hl:d.steps_.length<1000000000)(hx:okO x):okG d (Du d x).1:=by
 unfold okO at hx
 unfold Du
 split
 ·exact Xib h hl (by omega)
 ·split
  ·exact XiT h hl (by omega)
  ·split
   ·exact XiV h
   ·split
    ·exact Xk8 h
    ·split
     ·exact Xir h hl (by omega) (by omega)
     ·split
      ·exact Xj0 h
      ·exact Ie h
def Xau:Aa→List TOp→Aa×Int
 |d,[]=>(d,0)
 |d,x::l=>if(Du d x).2=0 then Xau (Du d x).1 l else Du d x
def Ik(d:Aa)(l:List TOp)(n:Int):Aa×Int:=Xau d (l.take (Ct n 0 l.length).toNat)
theorem XfM:∀{l:List TOp} {d:Aa},I9 d→d.steps_.length+l.length≤1000000000→(∀x∈l,okO x)→I9 (Xau d l).1∧(Xau d l).1.steps_.length≤d.steps_.length+l.length
 |[],d,h,_,_=>⟨h,Nat.le_refl _⟩
 |x::l,d,h,hl,hx=>by
  rw[List.length_cons]at hl
  have h1:=Zr h (by omega) (hx x List.mem_cons_self)
  have h2:=h1.2
  unfold Xau
  split
  ·have h3:=XfM (l:=l) h1.1 (by omega) fun y hy=>hx y (List.mem_cons_of_mem _ hy)
   refine⟨h3.1,?_⟩
   rw[List.length_cons]
   omega
  ·refine⟨h1.1,?_⟩
   rw[List.length_cons]
   omega
theorem Yl{d:Aa}{l:List TOp}{k:Nat}{x:TOp}(hk:k<l.length)(hx:x=l[k]):Xau d (l.drop k)=if(Du d x).2=0 then Xau (Du d x).1 (l.drop (k+1))else Du d x:=by
 rw[List.drop_eq_getElem_cons hk,←hx]
 rfl
def Gp(d:Aa)(v n:Int):Aa:=(Ik d (Hw d v) n).1
variable {Ae G1 onod:List Ax} {Be Bf A9 Bg Eg Eo Eh Ef xlist K3 K1 K4 K5:List (List D)} {Ah Ai G2 G9 oent oold:List Ad} {Af G0 oste:List ByteArray} {An Al xkin G8 G4 ob n version oroo onex:Int} {xnam xto xtex:ByteArray} {list:List TOp}
theorem XlE(Aj:Ae.map A6=Be)(Ak:Ah.map Ac=Bf)(Ao:Ai.map Ac=A9)(Am:Af.map cS=Bg)(aa:I9 (⟨Ae,Ah,Ai,Af,An,Al⟩:Aa))(hs:Af.length<1000000000)(hx:okO (⟨xkin,xnam,xto,xtex⟩:TOp))(hr:Du (⟨Ae,Ah,Ai,Af,An,Al⟩:Aa) (⟨xkin,xnam,xto,xtex⟩:TOp)=(⟨G1,G2,G9,G0,G8,G4⟩,ob))(B0:G1.map A6=Eg)(B3:G2.map Ac=Eo)(B2:G9.map Ac=Eh)(B1:G0.map cS=Ef):Fn Tryz.prog 205 [.agg [.d (.row 3 Be),.d (.row 2 Bf),.d (.row 2 A9),.d (.row 1 Bg),I An,I Al],.agg [I xkin,S xnam,S xto,S xtex]] [] ⟨.tup [.agg [.d (.row 3 Eg),.d (.row 2 Eo),.d (.row 2 Eh),.d (.row 1 Ef),I G8,I G4],I ob],[],[]⟩:=by
 refine Fn.go La Tryz.func205 fun P hP Q hQ=>?_
 conv=>cbv
 have dg:Ae.length≤1000000000:=aa.1.1
 have dh:Ah.length≤1000000000:=aa.1.2.2.1
 have di:Ai.length≤1000000000:=aa.1.2.2.2.2.1
 have hx3:xnam.size≤400000000∧xto.size≤400000000∧xtex.size≤1000000000:=hx
 refine .eql (fun h1=>?_) fun h1=>?_
 conv=>cbv
 rcases cc:C6 (⟨Ae,Ah,Ai,Af,An,Al⟩:Aa) xnam with⟨⟨ay,az,a1,a2,bz,b0⟩,c8⟩
 generalize ab:ay.map A6=cd
 generalize ac:az.map Ac=ce
 generalize ad:a1.map Ac=cf
 generalize ae:a2.map cS=cg
 refine .dd hP (Xbs Aj Ak Ao Am aa.1.1 aa.1.2.2.1 aa.1.2.2.2.2.1 hs aa.2.2 aa (by omega) cc ab ac ad ae) ?_
 conv=>cbv
 have e:((⟨ay,az,a1,a2,bz,b0⟩:Aa),c8)=Du (⟨Ae,Ah,Ai,Af,An,Al⟩:Aa) (⟨xkin,xnam,xto,xtex⟩:TOp):=(by unfold Du;dsimp only;rw[if_pos h1];exact cc.symm)
 rw[hr]at e
 simp only[Prod.mk.injEq,Aa.mk.injEq]at e
 obtain⟨⟨rfl,rfl,rfl,rfl,rfl,rfl⟩,rfl⟩:=e
 refine hQ _ _ ?_
 exact .many (.inl rfl) rfl rfl (.agg (.d rfl (A5 ab B0) (.d rfl (A5 ac B3) (.d rfl (A5 ad B2) (.d rfl (A5 ae B1) (.d rfl rfl (.d rfl rfl (.nil))))))) (.d rfl rfl (.nil)))
 conv=>cbv
 refine .eql (fun h2=>?_) fun h2=>?_
 conv=>cbv
 rcases ch:Bh (⟨Ae,Ah,Ai,Af,An,Al⟩:Aa) xnam with⟨⟨a6,a7,a8,ba,b2,b3⟩,c9⟩
 generalize af:a6.map A6=ci
 generalize ag:a7.map Ac=cj
 generalize ah:a8.map Ac=ck
 generalize ai:ba.map cS=cm
 refine .dd hP (Xbh Aj Ak Ao Am aa.1.1 aa.1.2.2.1 aa.1.2.2.2.2.1 hs aa.2.2 aa (by omega) ch af ag ah ai) ?_
 conv=>cbv
 have e:((⟨a6,a7,a8,ba,b2,b3⟩:Aa),c9)=Du (⟨Ae,Ah,Ai,Af,An,Al⟩:Aa) (⟨xkin,xnam,xto,xtex⟩:TOp):=(by unfold Du;dsimp only;rw[if_neg h1,if_pos h2];exact ch.symm)
 rw[hr]at e
 simp only[Prod.mk.injEq,Aa.mk.injEq]at e
 obtain⟨⟨rfl,rfl,rfl,rfl,rfl,rfl⟩,rfl⟩:=e
 refine hQ _ _ ?_
 exact .many (.inl rfl) rfl rfl (.agg (.d rfl (A5 af B0) (.d rfl (A5 ag B3) (.d rfl (A5 ah B2) (.d rfl (A5 ai B1) (.d rfl rfl (.d rfl rfl (.nil))))))) (.d rfl rfl (.nil)))
 conv=>cbv
 refine .eql (fun h3=>?_) fun h3=>?_
 conv=>cbv
 rcases cn:Cl (⟨Ae,Ah,Ai,Af,An,Al⟩:Aa) xnam xtex with⟨⟨bb,bc,bd,be,b4,b5⟩,da⟩
 generalize aj:bb.map A6=co
 generalize ak:bc.map Ac=cp
 generalize al:bd.map Ac=cq
 generalize am:be.map cS=cr
 refine .dd hP (XbD Aj Ak Ao Am aa.1.1 aa.1.2.2.1 aa.1.2.2.2.2.1 hs aa.2.2 aa (by omega) cn aj ak al am) ?_
 conv=>cbv
 have e:((⟨bb,bc,bd,be,b4,b5⟩:Aa),da)=Du (⟨Ae,Ah,Ai,Af,An,Al⟩:Aa) (⟨xkin,xnam,xto,xtex⟩:TOp):=(by unfold Du;dsimp only;rw[if_neg h1,if_neg h2,if_pos h3];exact cn.symm)
 rw[hr]at e
 simp only[Prod.mk.injEq,Aa.mk.injEq]at e
 obtain⟨⟨rfl,rfl,rfl,rfl,rfl,rfl⟩,rfl⟩:=e
 refine hQ _ _ ?_
 exact .many (.inl rfl) rfl rfl (.agg (.d rfl (A5 aj B0) (.d rfl (A5 ak B3) (.d rfl (A5 al B2) (.d rfl (A5 am B1) (.d rfl rfl (.d rfl rfl (.nil))))))) (.d rfl rfl (.nil)))
 conv=>cbv
 refine .eql (fun h4=>?_) fun h4=>?_
 conv=>cbv
 rcases ct:Dv (⟨Ae,Ah,Ai,Af,An,Al⟩:Aa) xnam with⟨⟨bf,bg,bh,bi,b6,b7⟩,db⟩
 generalize an:bf.map A6=cu
 generalize ao:bg.map Ac=cv
 generalize ap:bh.map Ac=cw
 generalize aq:bi.map cS=cx
 refine .dd hP (XgD Aj Ak Ao Am aa.1.1 aa.1.2.2.1 aa.1.2.2.2.2.1 hs aa.2.2 aa ct an ao ap aq) ?_
 conv=>cbv
 have e:((⟨bf,bg,bh,bi,b6,b7⟩:Aa),db)=Du (⟨Ae,Ah,Ai,Af,An,Al⟩:Aa) (⟨xkin,xnam,xto,xtex⟩:TOp):=(by unfold Du;dsimp only;rw[if_neg h1,if_neg h2,if_neg h3,if_pos h4];exact ct.symm)
 rw[hr]at e
 simp only[Prod.mk.injEq,Aa.mk.injEq]at e
 obtain⟨⟨rfl,rfl,rfl,rfl,rfl,rfl⟩,rfl⟩:=e
 refine hQ _ _ ?_
 exact .many (.inl rfl) rfl rfl (.agg (.d rfl (A5 an B0) (.d rfl (A5 ao B3) (.d rfl (A5 ap B2) (.d rfl (A5 aq B1) (.d rfl rfl (.d rfl rfl (.nil))))))) (.d rfl rfl (.nil)))
 conv=>cbv
 refine .eql (fun h5=>?_) fun h5=>?_
 conv=>cbv
 rcases cy:B6 (⟨Ae,Ah,Ai,Af,An,Al⟩:Aa) xnam xto with⟨⟨bj,bk,bl,bm,b8,b9⟩,dc⟩
 generalize ar:bj.map A6=cz
 generalize au:bk.map Ac=c0
 generalize aw:bl.map Ac=c1
 generalize ax:bm.map cS=c2
 refine .dd hP (XcR Aj Ak Ao Am aa.1.1 aa.1.2.2.1 aa.1.2.2.2.2.1 hs aa.2.2 aa (by omega) cy ar au aw ax) ?_
 conv=>cbv
 have e:((⟨bj,bk,bl,bm,b8,b9⟩:Aa),dc)=Du (⟨Ae,Ah,Ai,Af,An,Al⟩:Aa) (⟨xkin,xnam,xto,xtex⟩:TOp):=(by unfold Du;dsimp only;rw[if_neg h1,if_neg h2,if_neg h3,if_neg h4,if_pos h5];exact cy.symm)
 rw[hr]at e
 simp only[Prod.mk.injEq,Aa.mk.injEq]at e
 obtain⟨⟨rfl,rfl,rfl,rfl,rfl,rfl⟩,rfl⟩:=e
 refine hQ _ _ ?_
 exact .many (.inl rfl) rfl rfl (.agg (.d rfl (A5 ar B0) (.d rfl (A5 au B3) (.d rfl (A5 aw B2) (.d rfl (A5 ax B1) (.d rfl rfl (.d rfl rfl (.nil))))))) (.d rfl rfl (.nil)))
 conv=>cbv
 refine .eql (fun h6=>?_) fun h6=>?_
 conv=>cbv
 rcases c3:D6 (⟨Ae,Ah,Ai,Af,An,Al⟩:Aa)with⟨bt,bu,bv,bw,ca,cb⟩
 generalize bn:bt.map A6=c4
 generalize bo:bu.map Ac=c5
 generalize bp:bv.map Ac=c6
 generalize bq:bw.map cS=c7
 refine .dd hP (Xdz Aj Ak Ao Am aa.1.1 aa.1.2.2.1 aa.1.2.2.2.2.1 hs aa.2.2 aa c3 bn bo bp bq) ?_
 conv=>cbv
 have e:((⟨bt,bu,bv,bw,ca,cb⟩:Aa),0)=Du (⟨Ae,Ah,Ai,Af,An,Al⟩:Aa) (⟨xkin,xnam,xto,xtex⟩:TOp):=(by unfold Du;dsimp only;rw[if_neg h1,if_neg h2,if_neg h3,if_neg h4,if_neg h5,if_pos h6];rw[c3])
 rw[hr]at e
 simp only[Prod.mk.injEq,Aa.mk.injEq]at e
 obtain⟨⟨rfl,rfl,rfl,rfl,rfl,rfl⟩,rfl⟩:=e
 refine hQ _ _ ?_
 exact .many (.inl rfl) rfl rfl (.agg (.d rfl (A5 bn B0) (.d rfl (A5 bo B3) (.d rfl (A5 bp B2) (.d rfl (A5 bq B1) (.d rfl rfl (.d rfl rfl (.nil))))))) (.d rfl rfl (.nil)))
 conv=>cbv
 obtain⟨n8,de⟩:∃m,m=Ae.length:=⟨_,rfl⟩
 obtain⟨n9,df⟩:∃m,m=Af.length:=⟨_,rfl⟩
 refine .ddN hP (I3 Aj Ak Ao Am (by omega) (by omega) (by omega) (by omega) de df) rfl ?_
 conv=>cbv
 have e:((⟨Ae,Ah,Ai,Af,An,Al⟩:Aa),1)=Du (⟨Ae,Ah,Ai,Af,An,Al⟩:Aa) (⟨xkin,xnam,xto,xtex⟩:TOp):=(by unfold Du;dsimp only;rw[if_neg h1,if_neg h2,if_neg h3,if_neg h4,if_neg h5,if_neg h6])
 rw[hr]at e
 simp only[Prod.mk.injEq,Aa.mk.injEq]at e
 obtain⟨⟨rfl,rfl,rfl,rfl,rfl,rfl⟩,rfl⟩:=e
 refine hQ _ _ ?_
 exact .many (.inl rfl) rfl rfl (.agg (.ref rfl (Ag Aj) (Bm Aj B0) (.d rfl (A5 Ak B3) (.d rfl (A5 Ao B2) (.ref rfl (Ag Am) (Bm Am B1) (.d rfl rfl (.d rfl rfl (.nil))))))) (.d rfl rfl (.nil)))
theorem XlA(Aj:Ae.map A6=Be)(Ak:Ah.map Ac=Bf)(Ao:Ai.map Ac=A9)(Am:Af.map cS=Bg)(aa:I9 (⟨Ae,Ah,Ai,Af,An,Al⟩:Aa))(hs:Af.length<1000000000)(hx:okO (⟨xkin,xnam,xto,xtex⟩:TOp))(hr:Du (⟨Ae,Ah,Ai,Af,An,Al⟩:Aa) (⟨xkin,xnam,xto,xtex⟩:TOp)=(⟨G1,G2,G9,G0,G8,G4⟩,ob))(B0:G1.map A6=Eg)(B3:G2.map Ac=Eo)(B2:G9.map Ac=Eh)(B1:G0.map cS=Ef):Fn Tryz.prog 192 [.agg [.d (.row 3 Be),.d (.row 2 Bf),.d (.row 2 A9),.d (.row 1 Bg),I An,I Al],.agg [I xkin,S xnam,S xto,S xtex]] [] ⟨.tup [.agg [.d (.row 3 Eg),.d (.row 2 Eo),.d (.row 2 Eh),.d (.row 1 Ef),I G8,I G4],I ob],[],[]⟩:=by
 refine Fn.go La Tryz.func192 fun P hP Q hQ=>?_
 conv=>cbv
 have di:Ae.length≤1000000000:=aa.1.1
 have dj:Ah.length≤1000000000:=aa.1.2.2.1
 have dk:Ai.length≤1000000000:=aa.1.2.2.2.2.1
 have hx3:xnam.size≤400000000∧xto.size≤400000000∧xtex.size≤1000000000:=hx
 refine .eql (fun h1=>?_) fun h1=>?_
 conv=>cbv
 rcases cc:C6 (⟨Ae,Ah,Ai,Af,An,Al⟩:Aa) xnam with⟨⟨ay,az,a1,a2,bz,b0⟩,da⟩
 generalize ab:ay.map A6=cd
 generalize ac:az.map Ac=ce
 generalize ad:a1.map Ac=cf
 generalize ae:a2.map cS=cg
 refine .dd hP (Xb5 Aj Ak Ao Am aa.1.1 aa.1.2.2.1 aa.1.2.2.2.2.1 hs aa.2.2 aa (by omega) cc ab ac ad ae) ?_
 conv=>cbv
 have e:((⟨ay,az,a1,a2,bz,b0⟩:Aa),da)=Du (⟨Ae,Ah,Ai,Af,An,Al⟩:Aa) (⟨xkin,xnam,xto,xtex⟩:TOp):=(by unfold Du;dsimp only;rw[if_pos h1];exact cc.symm)
 rw[hr]at e
 simp only[Prod.mk.injEq,Aa.mk.injEq]at e
 obtain⟨⟨rfl,rfl,rfl,rfl,rfl,rfl⟩,rfl⟩:=e
 refine hQ _ _ ?_
 exact .many (.inl rfl) rfl rfl (.agg (.d rfl (A5 ab B0) (.d rfl (A5 ac B3) (.d rfl (A5 ad B2) (.d rfl (A5 ae B1) (.d rfl rfl (.d rfl rfl (.nil))))))) (.d rfl rfl (.nil)))
 conv=>cbv
 refine .eql (fun h2=>?_) fun h2=>?_
 conv=>cbv
 rcases ch:Bh (⟨Ae,Ah,Ai,Af,An,Al⟩:Aa) xnam with⟨⟨a6,a7,a8,ba,b2,b3⟩,db⟩
 generalize af:a6.map A6=ci
 generalize ag:a7.map Ac=cj
 generalize ah:a8.map Ac=ck
 generalize ai:ba.map cS=cm
 refine .dd hP (Xc8 Aj Ak Ao Am aa.1.1 aa.1.2.2.1 aa.1.2.2.2.2.1 hs aa.2.2 aa (by omega) ch af ag ah ai) ?_
 conv=>cbv
 have e:((⟨a6,a7,a8,ba,b2,b3⟩:Aa),db)=Du (⟨Ae,Ah,Ai,Af,An,Al⟩:Aa) (⟨xkin,xnam,xto,xtex⟩:TOp):=(by unfold Du;dsimp only;rw[if_neg h1,if_pos h2];exact ch.symm)
 rw[hr]at e
 simp only[Prod.mk.injEq,Aa.mk.injEq]at e
 obtain⟨⟨rfl,rfl,rfl,rfl,rfl,rfl⟩,rfl⟩:=e
 refine hQ _ _ ?_
 exact .many (.inl rfl) rfl rfl (.agg (.d rfl (A5 af B0) (.d rfl (A5 ag B3) (.d rfl (A5 ah B2) (.d rfl (A5 ai B1) (.d rfl rfl (.d rfl rfl (.nil))))))) (.d rfl rfl (.nil)))
 conv=>cbv
 refine .eql (fun h3=>?_) fun h3=>?_
 conv=>cbv
 rcases cn:Cl (⟨Ae,Ah,Ai,Af,An,Al⟩:Aa) xnam xtex with⟨⟨bb,bc,bd,be,b4,b5⟩,dc⟩
 generalize aj:bb.map A6=co
 generalize ak:bc.map Ac=cp
 generalize al:bd.map Ac=cq
 generalize am:be.map cS=cr
 refine .dd hP (Xa2 Aj Ak Ao Am aa.1.1 aa.1.2.2.1 aa.1.2.2.2.2.1 hs aa.2.2 aa (by omega) cn aj ak al am) ?_
 conv=>cbv
 have e:((⟨bb,bc,bd,be,b4,b5⟩:Aa),dc)=Du (⟨Ae,Ah,Ai,Af,An,Al⟩:Aa) (⟨xkin,xnam,xto,xtex⟩:TOp):=(by unfold Du;dsimp only;rw[if_neg h1,if_neg h2,if_pos h3];exact cn.symm)
 rw[hr]at e
 simp only[Prod.mk.injEq,Aa.mk.injEq]at e
 obtain⟨⟨rfl,rfl,rfl,rfl,rfl,rfl⟩,rfl⟩:=e
 refine hQ _ _ ?_
 exact .many (.inl rfl) rfl rfl (.agg (.d rfl (A5 aj B0) (.d rfl (A5 ak B3) (.d rfl (A5 al B2) (.d rfl (A5 am B1) (.d rfl rfl (.d rfl rfl (.nil))))))) (.d rfl rfl (.nil)))
 conv=>cbv
 refine .eql (fun h4=>?_) fun h4=>?_
 conv=>cbv
 rcases ct:Dv (⟨Ae,Ah,Ai,Af,An,Al⟩:Aa) xnam with⟨⟨bf,bg,bh,bi,b6,b7⟩,de⟩
 generalize an:bf.map A6=cu
 generalize ao:bg.map Ac=cv
 generalize ap:bh.map Ac=cw
 generalize aq:bi.map cS=cx
 refine .dd hP (Xf0 Aj Ak Ao Am aa.1.1 aa.1.2.2.1 aa.1.2.2.2.2.1 hs aa.2.2 aa ct an ao ap aq) ?_
 conv=>cbv
 have e:((⟨bf,bg,bh,bi,b6,b7⟩:Aa),de)=Du (⟨Ae,Ah,Ai,Af,An,Al⟩:Aa) (⟨xkin,xnam,xto,xtex⟩:TOp):=(by unfold Du;dsimp only;rw[if_neg h1,if_neg h2,if_neg h3,if_pos h4];exact ct.symm)
 rw[hr]at e
 simp only[Prod.mk.injEq,Aa.mk.injEq]at e
 obtain⟨⟨rfl,rfl,rfl,rfl,rfl,rfl⟩,rfl⟩:=e
 refine hQ _ _ ?_
 exact .many (.inl rfl) rfl rfl (.agg (.d rfl (A5 an B0) (.d rfl (A5 ao B3) (.d rfl (A5 ap B2) (.d rfl (A5 aq B1) (.d rfl rfl (.d rfl rfl (.nil))))))) (.d rfl rfl (.nil)))
 conv=>cbv
 refine .eql (fun h5=>?_) fun h5=>?_
 conv=>cbv
 rcases cy:B6 (⟨Ae,Ah,Ai,Af,An,Al⟩:Aa) xnam xto with⟨⟨bj,bk,bl,bm,b8,b9⟩,df⟩
 generalize ar:bj.map A6=cz
 generalize au:bk.map Ac=c0
 generalize aw:bl.map Ac=c1
 generalize ax:bm.map cS=c2
 refine .dd hP (Xch Aj Ak Ao Am aa.1.1 aa.1.2.2.1 aa.1.2.2.2.2.1 hs aa.2.2 aa (by omega) cy ar au aw ax) ?_
 conv=>cbv
 have e:((⟨bj,bk,bl,bm,b8,b9⟩:Aa),df)=Du (⟨Ae,Ah,Ai,Af,An,Al⟩:Aa) (⟨xkin,xnam,xto,xtex⟩:TOp):=(by unfold Du;dsimp only;rw[if_neg h1,if_neg h2,if_neg h3,if_neg h4,if_pos h5];exact cy.symm)
 rw[hr]at e
 simp only[Prod.mk.injEq,Aa.mk.injEq]at e
 obtain⟨⟨rfl,rfl,rfl,rfl,rfl,rfl⟩,rfl⟩:=e
 refine hQ _ _ ?_
 exact .many (.inl rfl) rfl rfl (.agg (.d rfl (A5 ar B0) (.d rfl (A5 au B3) (.d rfl (A5 aw B2) (.d rfl (A5 ax B1) (.d rfl rfl (.d rfl rfl (.nil))))))) (.d rfl rfl (.nil)))
 conv=>cbv
 refine .eql (fun h6=>?_) fun h6=>?_
 conv=>cbv
 rcases c3:D6 (⟨Ae,Ah,Ai,Af,An,Al⟩:Aa)with⟨bt,bu,bv,bw,ca,cb⟩
 generalize bn:bt.map A6=c6
 generalize bo:bu.map Ac=c7
 generalize bp:bv.map Ac=c8
 generalize bq:bw.map cS=c9
 refine .dd hP (Xdw Aj Ak Ao Am aa.1.1 aa.1.2.2.1 aa.1.2.2.2.2.1 hs aa.2.2 aa c3 bn bo bp bq) ?_
 conv=>cbv
 have e:((⟨bt,bu,bv,bw,ca,cb⟩:Aa),0)=Du (⟨Ae,Ah,Ai,Af,An,Al⟩:Aa) (⟨xkin,xnam,xto,xtex⟩:TOp):=(by unfold Du;dsimp only;rw[if_neg h1,if_neg h2,if_neg h3,if_neg h4,if_neg h5,if_pos h6];rw[c3])
 rw[hr]at e
 simp only[Prod.mk.injEq,Aa.mk.injEq]at e
 obtain⟨⟨rfl,rfl,rfl,rfl,rfl,rfl⟩,rfl⟩:=e
 refine hQ _ _ ?_
 exact .many (.inl rfl) rfl rfl (.agg (.d rfl (A5 bn B0) (.d rfl (A5 bo B3) (.d rfl (A5 bp B2) (.d rfl (A5 bq B1) (.d rfl rfl (.d rfl rfl (.nil))))))) (.d rfl rfl (.nil)))
 conv=>cbv
 obtain⟨n8,dg⟩:∃m,m=Ae.length:=⟨_,rfl⟩
 obtain⟨n9,dh⟩:∃m,m=Ah.length:=⟨_,rfl⟩
 obtain⟨dl,c4⟩:∃m,m=Ai.length:=⟨_,rfl⟩
 obtain⟨dm,c5⟩:∃m,m=Af.length:=⟨_,rfl⟩
 refine .ddN hP (Jh Aj Ak Ao Am (by omega) (by omega) (by omega) (by omega) dg dh c4 c5) rfl ?_
 conv=>cbv
 have e:((⟨Ae,Ah,Ai,Af,An,Al⟩:Aa),1)=Du (⟨Ae,Ah,Ai,Af,An,Al⟩:Aa) (⟨xkin,xnam,xto,xtex⟩:TOp):=(by unfold Du;dsimp only;rw[if_neg h1,if_neg h2,if_neg h3,if_neg h4,if_neg h5,if_neg h6])
 rw[hr]at e
 simp only[Prod.mk.injEq,Aa.mk.injEq]at e
 obtain⟨⟨rfl,rfl,rfl,rfl,rfl,rfl⟩,rfl⟩:=e
 refine hQ _ _ ?_
 exact .many (.inl rfl) rfl rfl (.agg (.ref rfl (Ag Aj) (Bm Aj B0) (.ref rfl (Ag Ak) (Bm Ak B3) (.ref rfl (Ag Ao) (Bm Ao B2) (.ref rfl (Ag Am) (Bm Am B1) (.d rfl rfl (.d rfl rfl (.nil))))))) (.d rfl rfl (.nil)))
theorem Xi8(Aj:Ae.map A6=Be)(Ak:Ah.map Ac=Bf)(Ao:Ai.map Ac=A9)(Am:Af.map cS=Bg)(hlist:list.map eOp=xlist)(bf:I9 (⟨Ae,Ah,Ai,Af,An,Al⟩:Aa))(hs:Af.length+list.length≤900000000)(hl:∀x∈list,okO x)(hr:Ik (⟨Ae,Ah,Ai,Af,An,Al⟩:Aa) list n=(⟨G1,G2,G9,G0,G8,G4⟩,ob))(B0:G1.map A6=Eg)(B3:G2.map Ac=Eo)(B2:G9.map Ac=Eh)(B1:G0.map cS=Ef):Fn Tryz.prog 113 [.agg [.d (.row 3 Be),.d (.row 2 Bf),.d (.row 2 A9),.d (.row 1 Bg),I An,I Al],.d (.row 4 xlist),I n] [] ⟨.tup [.agg [.d (.row 3 Eg),.d (.row 2 Eo),.d (.row 2 Eh),.d (.row 1 Ef),I G8,I G4],I ob],[],[]⟩:=by
 refine Fn.go La Tryz.func113 fun P hP Q hQ=>?_
 conv=>cbv
 have bq:Ae.length≤1000000000:=bf.1.1
 have bh:Ah.length≤1000000000:=bf.1.2.2.1
 have bt:Ai.length≤1000000000:=bf.1.2.2.2.2.1
 refine .dd hP (U5 Aj Ak Ao Am (by omega) (by omega) (by omega) (by omega)) ?_
 conv=>cbv
 refine .go hlist fun v2 bm=>?_
 conv=>cbv
 generalize bi:Ct n 0 v2=r3
 refine .dd hP (We bi) ?_
 conv=>cbv
 have hbr:0≤r3∧r3≤list.length:=by rw[←bi];unfold Ct;split<;>(try split)<;>(try split)<;>omega
 refine .hi hlist fun x4 hx4=>?_
 conv=>cbv
 refine .go hx4 fun v5 bu=>?_
 conv=>cbv
 refine LoopW.lp (κ:=Int×(List (List D))×(List (List D))×(List (List D))×(List (List D))×Int×Int) La hP [] [6,8,20,21] (fun(ak,ad,ae,af,ag,aa,ab)=>[(22,I ak)]) (fun(ak,ad,ae,af,ag,aa,ab)=>[(10,.box 40 [.d (.row 3 ad),.d (.row 2 ae),.d (.row 2 af),.d (.row 1 ag),I aa,I ab])])
  (fun(ak,ad,ae,af,ag,aa,ab)=>∃(ah:List Ax) (ai:List Ad) (aj:List Ad) (ac:List ByteArray),ah.map A6=ad∧ai.map Ac=ae∧aj.map Ac=af∧ac.map cS=ag∧0≤ak∧ak≤(list.take r3.toNat).length∧I9 (⟨ah,ai,aj,ac,aa,ab⟩:Aa)∧ac.length≤Af.length+ak∧Ik (⟨Ae,Ah,Ai,Af,An,Al⟩:Aa) list n=Xau (⟨ah,ai,aj,ac,aa,ab⟩:Aa) ((list.take r3.toNat).drop ak.toNat))
  (fun(ak,ad,ae,af,ag,aa,ab)=>((list.take r3.toNat).length - ak).toNat) (0,Be,Bf,A9,Bg,An,Al) ⟨Ae,Ah,Ai,Af,Aj,Ak,Ao,Am,by omega,by omega,bf,by omega,by unfold Ik;rw[←bm,bi];rfl⟩ ⟨rfl,trivial⟩ rfl ?_
 rintro⟨ak,ad,ae,af,ag,aa,ab⟩ J ⟨ah,ai,aj,ac,a2,a6,a7,a8,h0,h1,bh,hqs,hio⟩ hJ
 have htl:(list.take r3.toNat).length≤list.length:=by rw[List.length_take];omega
 conv=>cbv
 refine .lss (fun h6=>?_) fun h6=>?_
 conv=>cbv
 refine .go ak.toNat hx4 fun bg ⟨ap,aq,ba,ar⟩ bj=>?_
 conv=>cbv
 have hox:okO (⟨ap,aq,ba,ar⟩:TOp):=by rw[bj];exact hl _ (List.mem_of_mem_take (List.getElem_mem bg))
 rcases bk:Du (⟨ah,ai,aj,ac,aa,ab⟩:Aa) (⟨ap,aq,ba,ar⟩:TOp)with⟨⟨au,aw,ax,ay,az,a1⟩,bn⟩
 generalize al:au.map A6=bb
 generalize am:aw.map Ac=bc
 generalize an:ax.map Ac=bd
 generalize ao:ay.map cS=be
 refine .dd hP (XlE a2 a6 a7 a8 bh (by omega) hox bk al am an ao) ?_
 conv=>cbv
 have hg:=Zr (d:=(⟨ah,ai,aj,ac,aa,ab⟩:Aa)) bh (by show ac.length<_;omega) hox
 have hstep:=Yl (d:=(⟨ah,ai,aj,ac,aa,ab⟩:Aa)) (x:=(⟨ap,aq,ba,ar⟩:TOp)) bg bj
 rw[bk]at hg hstep
 have bo:=hg.2
 simp only[]at bo
 refine .neq (fun h9=>?_) fun h9=>?_
 conv=>cbv
 have e:((⟨au,aw,ax,ay,az,a1⟩:Aa),bn)=Ik (⟨Ae,Ah,Ai,Af,An,Al⟩:Aa) list n:=(by rw[hio,hstep];symm;exact if_neg (by omega))
 rw[hr]at e
 simp only[Prod.mk.injEq,Aa.mk.injEq]at e
 obtain⟨⟨rfl,rfl,rfl,rfl,rfl,rfl⟩,rfl⟩:=e
 refine hQ _ _ ?_
 exact .many (.inl rfl) rfl rfl (.agg (.d rfl (A5 al B0) (.d rfl (A5 am B3) (.d rfl (A5 an B2) (.d rfl (A5 ao B1) (.d rfl rfl (.d rfl rfl (.nil))))))) (.d rfl rfl (.nil)))
 conv=>cbv
 refine .add fun bl bp=>?_
 conv=>cbv
 exact .go [] (bl,bb,bc,bd,be,az,a1) (hJ _ ⟨_,_,_,_,al,am,an,ao,by omega,by omega,hg.1,by omega,by rw[hio,hstep,show bl.toNat=ak.toNat+1 by omega];exact if_pos (by omega)⟩ mlt)
 conv=>cbv
 have e:((⟨ah,ai,aj,ac,aa,ab⟩:Aa),0)=Ik (⟨Ae,Ah,Ai,Af,An,Al⟩:Aa) list n:=(by rw[hio,List.drop_of_length_le (by omega)];rfl)
 rw[hr]at e
 simp only[Prod.mk.injEq,Aa.mk.injEq]at e
 obtain⟨⟨rfl,rfl,rfl,rfl,rfl,rfl⟩,rfl⟩:=e
 refine hQ _ _ ?_
 exact .many (.inl rfl) rfl rfl (.agg (.d rfl (A5 a2 B0) (.d rfl (A5 a6 B3) (.d rfl (A5 a7 B2) (.d rfl (A5 a8 B1) (.d rfl rfl (.d rfl rfl (.nil))))))) (.d rfl rfl (.nil)))
theorem Xka(Aj:Ae.map A6=Be)(Ak:Ah.map Ac=Bf)(Ao:Ai.map Ac=A9)(Am:Af.map cS=Bg)(hlist:list.map eOp=xlist)(ba:I9 (⟨Ae,Ah,Ai,Af,An,Al⟩:Aa))(hs:Af.length+list.length≤900000000)(hl:∀x∈list,okO x)(hr:Ik (⟨Ae,Ah,Ai,Af,An,Al⟩:Aa) list n=(⟨G1,G2,G9,G0,G8,G4⟩,ob))(B0:G1.map A6=Eg)(B3:G2.map Ac=Eo)(B2:G9.map Ac=Eh)(B1:G0.map cS=Ef):Fn Tryz.prog 103 [.agg [.d (.row 3 Be),.d (.row 2 Bf),.d (.row 2 A9),.d (.row 1 Bg),I An,I Al],.d (.row 4 xlist),I n] [] ⟨.tup [.agg [.d (.row 3 Eg),.d (.row 2 Eo),.d (.row 2 Eh),.d (.row 1 Ef),I G8,I G4],I ob],[],[]⟩:=by
 refine Fn.go La Tryz.func103 fun P hP Q hQ=>?_
 conv=>cbv
 have bn:Ae.length≤1000000000:=ba.1.1
 have bf:Ah.length≤1000000000:=ba.1.2.2.1
 have bo:Ai.length≤1000000000:=ba.1.2.2.2.2.1
 refine .dd hP (XgI Aj Ak Ao Am (by omega) (by omega) (by omega) (by omega)) ?_
 conv=>cbv
 refine .go hlist fun v2 bk=>?_
 conv=>cbv
 generalize bg:Ct n 0 v2=r3
 refine .dd hP (W3 bg) ?_
 conv=>cbv
 have hbr:0≤r3∧r3≤list.length:=by rw[←bg];unfold Ct;split<;>(try split)<;>(try split)<;>omega
 refine LoopW.lp (κ:=Int×(List (List D))×(List (List D))×(List (List D))×(List (List D))×Int×Int) La hP [] [1,2,3,6] (fun(i8,ah,ai,aj,ak,aa,ab)=>[(8,I i8)]) (fun(i8,ah,ai,aj,ak,aa,ab)=>[(0,.box 40 [.d (.row 3 ah),.d (.row 2 ai),.d (.row 2 aj),.d (.row 1 ak),I aa,I ab])])
  (fun(i8,ah,ai,aj,ak,aa,ab)=>∃(al:List Ax) (am:List Ad) (an:List Ad) (ag:List ByteArray),al.map A6=ah∧am.map Ac=ai∧an.map Ac=aj∧ag.map cS=ak∧0≤i8∧i8≤r3∧I9 (⟨al,am,an,ag,aa,ab⟩:Aa)∧ag.length≤Af.length+i8∧Ik (⟨Ae,Ah,Ai,Af,An,Al⟩:Aa) list n=Xau (⟨al,am,an,ag,aa,ab⟩:Aa) ((list.take r3.toNat).drop i8.toNat))
  (fun(i8,ah,ai,aj,ak,aa,ab)=>(r3 - i8).toNat) (0,Be,Bf,A9,Bg,An,Al) ⟨Ae,Ah,Ai,Af,Aj,Ak,Ao,Am,by omega,by omega,ba,by omega,by unfold Ik;rw[←bk,bg];rfl⟩ ⟨rfl,trivial⟩ rfl ?_
 rintro⟨i8,ah,ai,aj,ak,aa,ab⟩ J ⟨al,am,an,ag,bb,bc,bd,be,h0,h1,bf,hqs,hio⟩ hJ
 have htl:(list.take r3.toNat).length≤list.length:=by rw[List.length_take];omega
 conv=>cbv
 refine .lss (fun h4=>?_) fun h4=>?_
 conv=>cbv
 refine .go i8.toNat hlist fun bh ⟨ao,ap,a1,aq⟩ bi=>?_
 conv=>cbv
 have hox:okO (⟨ao,ap,a1,aq⟩:TOp):=by rw[bi];exact hl _ (List.getElem_mem bh)
 rcases bj:Du (⟨al,am,an,ag,aa,ab⟩:Aa) (⟨ao,ap,a1,aq⟩:TOp)with⟨⟨ar,au,aw,ax,ay,az⟩,bl⟩
 generalize ac:ar.map A6=a2
 generalize ad:au.map Ac=a6
 generalize ae:aw.map Ac=a7
 generalize af:ax.map cS=a8
 refine .dd hP (XlA bb bc bd be bf (by omega) hox bj ac ad ae af) ?_
 conv=>cbv
 have hg:=Zr (d:=(⟨al,am,an,ag,aa,ab⟩:Aa)) bf (by show ag.length<_;omega) hox
 have hstep:=Yl (d:=(⟨al,am,an,ag,aa,ab⟩:Aa)) (x:=(⟨ao,ap,a1,aq⟩:TOp)) (show i8.toNat<(list.take r3.toNat).length by rw[List.length_take];omega) (by rw[List.getElem_take];exact bi)
 rw[bj]at hg hstep
 have bm:=hg.2
 simp only[]at bm
 refine .neq (fun h7=>?_) fun h7=>?_
 conv=>cbv
 have e:((⟨ar,au,aw,ax,ay,az⟩:Aa),bl)=Ik (⟨Ae,Ah,Ai,Af,An,Al⟩:Aa) list n:=(by rw[hio,hstep];symm;exact if_neg (by omega))
 rw[hr]at e
 simp only[Prod.mk.injEq,Aa.mk.injEq]at e
 obtain⟨⟨rfl,rfl,rfl,rfl,rfl,rfl⟩,rfl⟩:=e
 refine hQ _ _ ?_
 exact .many (.inl rfl) rfl rfl (.agg (.d rfl (A5 ac B0) (.d rfl (A5 ad B3) (.d rfl (A5 ae B2) (.d rfl (A5 af B1) (.d rfl rfl (.d rfl rfl (.nil))))))) (.d rfl rfl (.nil)))
 conv=>cbv
 refine .add fun v8 bp=>?_
 conv=>cbv
 exact .go [] (v8,a2,a6,a7,a8,ay,az) (hJ _ ⟨_,_,_,_,ac,ad,ae,af,by omega,by omega,hg.1,by omega,by rw[hio,hstep,show v8.toNat=i8.toNat+1 by omega];exact if_pos (by omega)⟩ mlt)
 conv=>cbv
 have e:((⟨al,am,an,ag,aa,ab⟩:Aa),0)=Ik (⟨Ae,Ah,Ai,Af,An,Al⟩:Aa) list n:=(by rw[hio,List.drop_of_length_le (by rw[List.length_take];omega)];rfl)
 rw[hr]at e
 simp only[Prod.mk.injEq,Aa.mk.injEq]at e
 obtain⟨⟨rfl,rfl,rfl,rfl,rfl,rfl⟩,rfl⟩:=e
 refine hQ _ _ ?_
 exact .many (.inl rfl) rfl rfl (.agg (.d rfl (A5 bb B0) (.d rfl (A5 bc B3) (.d rfl (A5 bd B2) (.d rfl (A5 be B1) (.d rfl rfl (.d rfl rfl (.nil))))))) (.d rfl rfl (.nil)))
theorem XdL{n:ByteArray}(h:(Bv n).1=2∨(Bv n).1=1):n.size≤17:=by
 have h:(Bv n).1≠0:=by omega
 unfold Bv at h
 split at h
 ·split at h
  ·rename_i c;omega
  ·split at h
   ·rename_i c;omega
   ·exact absurd rfl h
 ·exact absurd rfl h
theorem XlK:(tx []).size=0:=by simp[B7]
theorem XbS{l:List ByteArray}(h:∀n∈l,n.size≤17):∀x∈Fp l,okO x:=by
 unfold Fp
 split
 ·simp
 ·intro x hx
  rw[List.mem_append,List.mem_map,List.mem_singleton]at hx
  unfold okO
  rcases hx with⟨n,hn,rfl⟩|rfl
  ·have:=h n hn
   exact⟨by show n.size≤_;omega,by show(tx []).size≤_;rw[XlK];omega,by show(tx []).size≤_;rw[XlK];omega⟩
  ·simp only[XlK];omega
theorem XlF(b:Int){t:ByteArray}(h:t.size≤200000):∀x∈F8 b t,okO x:=by
 have h1:(Au b).size≤13:=Hf rfl
 have h2:(Cg b).size≤17:=Xdq rfl
 intro x hx
 unfold F8 at hx
 simp only[List.mem_cons,List.not_mem_nil,or_false]at hx
 unfold okO
 rcases hx with rfl|rfl|rfl|rfl|rfl<;>(simp only[XlK];omega)
theorem Xi3{d:Aa}{v:Int}:∀x∈Hw d v,okO x:=by
 have hn:∀n∈Cd d,n.size≤17:=fun n h=>XdL (Zb rfl n h)
 intro x hx
 unfold Hw XaO XaK at hx
 simp only[List.mem_append,List.mem_flatMap]at hx
 rcases hx with(((⟨b,_,h⟩|h)|h)|⟨b,_,h⟩)|h
 ·have h1:(Au b).size≤13:=Hf rfl
  unfold Gi at h
  split at h
  ·cases h
  ·rw[List.mem_singleton]at h
   subst h
   unfold okO
   simp only[XlK];omega
 ·split at h
  ·cases h
  ·rw[List.mem_singleton]at h
   subst h
   unfold okO
   simp only[XlK];omega
 ·exact XbS (fun n h=>hn n (List.mem_filter.1 h).1) x h
 ·unfold Fb at h
  split at h
  ·cases h
  ·exact XlF b (Qv rfl) x h
 ·exact XbS (fun n h=>hn n (List.mem_filter.1 (List.mem_reverse.1 h)).1) x h
theorem W0{d:Aa}{v:Int}:(Hw d v).length≤100+2*d.entries_.length:=by
 unfold Hw XaO XaK
 have h1:=Iy (rfl:Ej d=_)
 have h2:(Cd d).length≤d.entries_.length:=by
  unfold Cd
  have:=List.length_filter_le (Ns (Ej d)) (d.entries_.map fun e=>e.name_)
  rw[List.length_map]at this
  exact this
 have h3:=XfQ (fun x=>Q9 (d:=d) x) (Ej d)
 have h4:=XfQ (fun x=>Xh7 (d:=d) (v:=Xd v) x) (Ej d)
 have h5:=Na (l:=(Cd d).filter Ha)
 have h6:=Na (l:=((Cd d).filter (fun n=>!Ha n)).reverse)
 have h7:=List.length_filter_le Ha (Cd d)
 have h8:=List.length_filter_le (fun n=>!Ha n) (Cd d)
 rw[List.length_reverse]at h6
 have h9:(if d.steps_=[]then[]else[(⟨6,tx [],tx [],tx []⟩:TOp)]).length≤1:=by split<;>simp
 simp only[List.length_append]
 omega
theorem XgN(Aj:Ae.map A6=Be)(Ak:Ah.map Ac=Bf)(Ao:Ai.map Ac=A9)(Am:Af.map cS=Bg)(al:I9 (⟨Ae,Ah,Ai,Af,An,Al⟩:Aa))(hes:Ah.length≤100000000)(hst:Af.length≤100000000)(hr:Gp (⟨Ae,Ah,Ai,Af,An,Al⟩:Aa) version n=⟨onod,oent,oold,oste,oroo,onex⟩)(Lv:onod.map A6=K3)(L8:oent.map Ac=K1)(Lq:oold.map Ac=K4)(L4:oste.map cS=K5):Fn Tryz.prog 125 [.agg [.d (.row 3 Be),.d (.row 2 Bf),.d (.row 2 A9),.d (.row 1 Bg),I An,I Al],I version,I n] [] ⟨.agg [.d (.row 3 K3),.d (.row 2 K1),.d (.row 2 K4),.d (.row 1 K5),I oroo,I onex],[],[]⟩:=by
 refine Fn.go La Tryz.func125 fun P hP Q hQ=>?_
 conv=>cbv
 generalize ai:Hw (⟨Ae,Ah,Ai,Af,An,Al⟩:Aa) version=l1
 generalize am:l1.map eOp=au
 refine .dd hP (XjX Aj Ak Ao Am al.1 ai am) ?_
 conv=>cbv
 have hpl:=W0 (d:=(⟨Ae,Ah,Ai,Af,An,Al⟩:Aa)) (v:=version)
 rw[ai]at hpl
 simp only[]at hpl
 rcases an:Ik (⟨Ae,Ah,Ai,Af,An,Al⟩:Aa) l1 n with⟨⟨ae,af,ag,ah,aj,ak⟩,aw⟩
 generalize aa:ae.map A6=ao
 generalize ab:af.map Ac=ap
 generalize ac:ag.map Ac=aq
 generalize ad:ah.map cS=ar
 refine .dd hP (Xi8 Aj Ak Ao Am am al (by omega) (by rw[←ai];exact Xi3) an aa ab ac ad) ?_
 conv=>cbv
 have e:(⟨ae,af,ag,ah,aj,ak⟩:Aa)=Gp (⟨Ae,Ah,Ai,Af,An,Al⟩:Aa) version n:=(by unfold Gp;rw[ai,an])
 rw[hr]at e
 simp only[Aa.mk.injEq]at e
 obtain⟨rfl,rfl,rfl,rfl,rfl,rfl⟩:=e
 exact hQ _ _ (.one (.inl rfl) rfl (.agg (.d rfl (A5 aa Lv) (.d rfl (A5 ab L8) (.d rfl (A5 ac Lq) (.d rfl (A5 ad L4) (.d rfl rfl (.d rfl rfl (.nil))))))) .nil))
theorem Xgh(Aj:Ae.map A6=Be)(Ak:Ah.map Ac=Bf)(Ao:Ai.map Ac=A9)(Am:Af.map cS=Bg)(al:I9 (⟨Ae,Ah,Ai,Af,An,Al⟩:Aa))(hes:Ah.length≤100000000)(hst:Af.length≤100000000)(hr:Gp (⟨Ae,Ah,Ai,Af,An,Al⟩:Aa) version n=⟨onod,oent,oold,oste,oroo,onex⟩)(Lv:onod.map A6=K3)(L8:oent.map Ac=K1)(Lq:oold.map Ac=K4)(L4:oste.map cS=K5):Fn Tryz.prog 122 [.agg [.d (.row 3 Be),.d (.row 2 Bf),.d (.row 2 A9),.d (.row 1 Bg),I An,I Al],I version,I n] [] ⟨.agg [.d (.row 3 K3),.d (.row 2 K1),.d (.row 2 K4),.d (.row 1 K5),I oroo,I onex],[],[]⟩:=by
 refine Fn.go La Tryz.func122 fun P hP Q hQ=>?_
 conv=>cbv
 generalize ai:Hw (⟨Ae,Ah,Ai,Af,An,Al⟩:Aa) version=l1
 generalize am:l1.map eOp=au
 refine .dd hP (XjA Aj Ak Ao Am al.1 ai am) ?_
 conv=>cbv
 have hpl:=W0 (d:=(⟨Ae,Ah,Ai,Af,An,Al⟩:Aa)) (v:=version)
 rw[ai]at hpl
 simp only[]at hpl
 rcases an:Ik (⟨Ae,Ah,Ai,Af,An,Al⟩:Aa) l1 n with⟨⟨ae,af,ag,ah,aj,ak⟩,aw⟩
 generalize aa:ae.map A6=ao
 generalize ab:af.map Ac=ap
 generalize ac:ag.map Ac=aq
 generalize ad:ah.map cS=ar
 refine .dd hP (Xka Aj Ak Ao Am am al (by omega) (by rw[←ai];exact Xi3) an aa ab ac ad) ?_
 conv=>cbv
 have e:(⟨ae,af,ag,ah,aj,ak⟩:Aa)=Gp (⟨Ae,Ah,Ai,Af,An,Al⟩:Aa) version n:=(by unfold Gp;rw[ai,an])
 rw[hr]at e
 simp only[Aa.mk.injEq]at e
 obtain⟨rfl,rfl,rfl,rfl,rfl,rfl⟩:=e
 exact hQ _ _ (.one (.inl rfl) rfl (.agg (.d rfl (A5 aa Lv) (.d rfl (A5 ab L8) (.d rfl (A5 ac Lq) (.d rfl (A5 ad L4) (.d rfl rfl (.d rfl rfl (.nil))))))) .nil))
end
section
open Go Go.Proofs
set_option maxRecDepth 20000
set_option maxHeartbeats 4000000
def XcY:List (Nat×TyRow):=[ty3,ty9,Xay,XeI,XgT,XaS,Xn,Xi,Xe]
theorem Xc4:B8 Tryz.prog XcY:=B8.of (by kernel_rfl)
theorem I6:Setup Tryz.prog XcY:=⟨Xc4,mixed⟩
def E6(n:Ax)(keeps:List Int):Int:=if keeps.length=0 then n.sure_ else n.sure_+Ct (keeps.getD (n.id_%(keeps.length:Int)).toNat 0) 0 ((n.text_.size:Int) - n.sure_)
def Hg(e:Ad)(n:Ax):Bool:=decide (e.id_=n.id_)
def XfS(keeps:List Int)(n:Ax):Ax:=⟨n.id_,n.text_.extract 0 (E6 n keeps).toNat,((n.text_.extract 0 (E6 n keeps).toNat).size:Int)⟩
def Gz(d:Aa)(names:Int)(keeps:List Int):Aa:=if Bk d=false then d else
 ⟨(d.nodes_.filter fun n=>Mv (Dn d.old_ d.steps_ names).1 n.id_).map (XfS keeps),(Dn d.old_ d.steps_ names).1,(Dn d.old_ d.steps_ names).1,[],d.room_,d.next_⟩
theorem U0{a b:Int}(h:0≤b):0≤Ct a 0 b∧Ct a 0 b≤b:=by
 unfold Ct
 split<;>(try split)<;>(try split)<;>omega
theorem XlP{n:Ax}{keeps:List Int}(h0:0≤n.sure_)(h1:n.sure_≤n.text_.size):0≤E6 n keeps∧E6 n keeps≤n.text_.size:=by
 have h2:=U0 (a:=keeps.getD (n.id_%(keeps.length:Int)).toNat 0) (b:=(n.text_.size:Int) - n.sure_) (by omega)
 unfold E6
 split<;>omega
theorem Xk3{α:Type}{p:α→Bool}{l:List α}:l.any p=decide (0≤Su p l):=by
 cases h:l.any p with
 |true=>
  obtain⟨x,hx,hp⟩:=List.any_eq_true.1 h
  symm
  rw[decide_eq_true_eq]
  unfold Su
  rw[if_pos (List.findIdx_lt_length_of_exists ⟨x,hx,hp⟩)]
  omega
 |false=>
  symm
  rw[decide_eq_false_iff_not]
  intro h0
  obtain⟨hi,hp⟩:=Rn (rfl:Su p l=_) h0
  have:=List.any_eq_true.2 ⟨_,List.getElem_mem hi,hp⟩
  rw[h]at this
  cases this
theorem Xid{d:Aa}(h:Bk d=true)(h2:I9 d){i:Nat}(hi:i<d.nodes_.length):1≤d.nodes_[i].id_∧0≤d.nodes_[i].sure_∧d.nodes_[i].sure_≤d.nodes_[i].text_.size∧d.nodes_[i].text_.size≤1000000000:=by
 have h1:=(diskOk_iff.1 h).2.2.1
 unfold Ec at h1
 rw[Bool.and_eq_true]at h1
 have h3:=List.all_eq_true.1 h1.1 i (List.mem_range.2 hi)
 unfold Ep at h3
 rw[decide_eq_true_eq,XiS hi rfl]at h3
 exact⟨h3.2.1.1,h3.2.2.1,h3.2.2.2,h2.1.2.1 _ (List.getElem_mem hi)⟩
theorem XkM:∀(l:List ByteArray) (now:List Ad),(Hr now l).1.length≤now.length+l.length
 |[],_=>Nat.le_refl _
 |s::l,now=>by
  obtain⟨e,b,hy⟩:∃e b,Ap now s=(e,b):=⟨_,_,rfl⟩
  have h1:=Mo hy
  have h2:=XkM l e
  unfold Hr
  rw[hy]
  split
  ·exact Nat.zero_le _
  ·rw[List.length_cons]
   show(Hr e l).1.length≤_
   omega
theorem Xjk(old:List Ad)(steps:List ByteArray)(n:Int):(Dn old steps n).1.length≤old.length+steps.length:=by
 have h1:=XkM (steps.take (Ct n 0 steps.length).toNat) old
 have h2:(steps.take (Ct n 0 steps.length).toNat).length≤steps.length:=by rw[List.length_take];omega
 unfold Dn
 omega
theorem Xhe{d:Aa}{n:Int}(h:Bk d=true):D9 d.old_ d.steps_ n=Dn d.old_ d.steps_ n:=(Up (O5 _ (Ph h).1)).1
theorem Wz{α:Type}{f:α→α}{l:List α}{i:Nat}(h:i<l.length)(h2:i<((l.take i).map f++l.drop i).length):((l.take i).map f++l.drop i)[i]=l[i]:=by
 rw[List.getElem_append_right (by rw[List.length_map,List.length_take];omega)]
 simp only[List.length_map,List.length_take,List.getElem_drop]
 congr 1
 omega
theorem XgV{α:Type}{f:α→α}{l:List α}{i:Nat}(h:i<l.length):((l.take i).map f++l.drop i).set i (f l[i])=(l.take (i+1)).map f++l.drop (i+1):=by
 rw[List.set_append_right _ _ (by rw[List.length_map,List.length_take];omega),List.length_map,List.length_take,show i - min i l.length=0 by omega,List.drop_eq_getElem_cons h,List.set_cons_zero,List.take_succ_eq_append_getElem h,List.map_append,List.append_assoc]
 rfl
theorem XkP{α:Type}{f:α→α}{l:List α}{i:Nat}:((l.take i).map f++l.drop i).length=l.length:=by
 rw[List.length_append,List.length_map,List.length_take,List.length_drop]
 omega
theorem XbF{nodes:List Ax}{l:List Ad}{keeps:List Int}{r x:Int}:En ⟨nodes.map (XfS keeps),l,l,[],r,x⟩=⟨(nodes.filter fun n=>Mv l n.id_).map (XfS keeps),l,l,[],r,x⟩:=by
 unfold En
 dsimp only
 rw[List.filter_map]
 have:nodes.filter ((fun x=>Xbo l [] x.id_)∘XfS keeps)=nodes.filter fun n=>Mv l n.id_:=by
  refine List.filter_congr fun n _=>?_
  show(List.any [0] fun k=>Mv (Cw l (List.take k [])).1 n.id_)=_
  simp[Cw]
 rw[this]
theorem Yn{d:Aa}:∀{l:List ByteArray} {now:List Ad} (k:Nat),Er d now l=true→Bc d (Hr now (l.take k)).1=true
 |[],now,k,h=>by
  rw[List.take_nil]
  unfold Er at h
  rw[Bool.and_eq_true]at h
  exact h.1
 |s::ss,now,0,h=>by
  unfold Er at h
  rw[Bool.and_eq_true,Bool.and_eq_true]at h
  exact h.1.1
 |s::ss,now,k+1,h=>by
  unfold Er at h
  rw[Bool.and_eq_true,Bool.and_eq_true]at h
  rw[List.take_succ_cons,Hx h.1.2]
  exact Yn k h.2
theorem Xc6{d:Aa}(h:Bk d=true)(n:Int):Bc d (Dn d.old_ d.steps_ n).1=true:=Yn _ (diskOk_iff.1 h).2.2.2.2
theorem Yd{d:Aa}(h:Bk d=true)(n:Int):(Dn d.old_ d.steps_ n).1.length≤16:=Uh (Xc6 h n)
theorem Xki{d:Aa}{l:List Ad}(h:Bc d l=true):okL l:=by
 intro e he
 obtain⟨i,hi,rfl⟩:=List.getElem_of_mem he
 have h1:=XdX h hi
 unfold Fm at h1
 rw[XbO hi rfl,Bool.and_eq_true,Bool.and_eq_true]at h1
 have:=Qe h1.1.2
 omega
theorem Xif{d:Aa}{n:Int}{keeps:List Int}(h:I9 d):I9 (Gz d n keeps)∧(Gz d n keeps).steps_.length≤d.steps_.length:=by
 unfold Gz
 split
 ·exact⟨h,Nat.le_refl _⟩
 ·rename_i hr
  have hr:Bk d=true:=by simpa using hr
  have h1:=Yd hr n
  have h2:=Xki (Xc6 hr n)
  refine⟨⟨⟨?_,?_,by show(Dn _ _ _).1.length≤_;omega,h2,by show(Dn _ _ _).1.length≤_;omega,Nat.zero_le _⟩,h2,fun _ hs=>by cases hs⟩,Nat.zero_le _⟩
  ·show(List.map _ _).length≤_
   rw[List.length_map]
   exact Nat.le_trans (List.length_filter_le _ _) h.1.1
  ·intro x hx
   obtain⟨y,hy,rfl⟩:=List.mem_map.1 hx
   have:=h.1.2.1 y (List.mem_filter.1 hy).1
   show(y.text_.extract 0 _).size≤_
   rw[ByteArray.size_extract]
   omega
theorem XeW{t:ByteArray}{k:Int}(h0:0≤k)(h1:k≤t.size):((t.extract 0 k.toNat).size:Int)=k:=by
 rw[ByteArray.size_extract]
 omega
variable {nid nsur An Al names oroo onex:Int} {ntex:ByteArray} {keeps:List Int} {xkeeps xl Be Bf A9 Bg K3 K1 K4 K5:List (List D)} {o:Bool} {l Ah Ai oent oold:List Ad} {Ae onod:List Ax} {Af oste:List ByteArray}
theorem Xgz{o:Int}(hkeeps:keeps.map cI=xkeeps)(ai:1≤nid)(aj:0≤nsur)(ak:nsur≤ntex.size)(al:ntex.size≤1000000000)(am:keeps.length≤1000000000)(hr:E6 (⟨nid,ntex,nsur⟩:Ax) keeps=o):Fn Tryz.prog 168 [.agg [I nid,S ntex,I nsur],.ptr 0 0 0] [.box 29 [.d (.row 1 xkeeps)]] ⟨I o,[],[]⟩:=by
 refine Fn.goR I6 Tryz.func168 fun P hP Q hQ=>?_
 conv=>cbv
 refine .go hkeeps fun v1 an=>?_
 conv=>cbv
 refine .eql (fun h2=>?_) fun h2=>?_
 conv=>cbv
 have e:nsur=E6 (⟨nid,ntex,nsur⟩:Ax) keeps:=(by unfold E6;rw[if_pos (by omega)])
 rw[hr]at e
 subst e
 exact hQ _ _ (.of [] (.inl rfl) rfl rfl rfl rfl)
 conv=>cbv
 refine .go hkeeps fun v3 ac=>?_
 conv=>cbv
 refine .rem fun v4 ad=>?_
 conv=>cbv
 have ao:=Int.emod_nonneg nid (show v3≠0 by omega)
 have ap:=Int.emod_lt_of_pos nid (show 0<v3 by omega)
 refine .go v4.toNat hkeeps fun ab e5 ae=>?_
 conv=>cbv
 refine .go fun v6 af=>?_
 conv=>cbv
 refine .sub fun v7 ag=>?_
 conv=>cbv
 generalize aa:Ct e5 0 v7=r8
 refine .dd hP (We aa) ?_
 conv=>cbv
 have hbr:=U0 (a:=e5) (b:=v7) (by omega)
 rw[aa]at hbr
 refine .add fun v9 ah=>?_
 conv=>cbv
 have e:v9=E6 (⟨nid,ntex,nsur⟩:Ax) keeps:=(by unfold E6;rw[if_neg (by omega)];dsimp only;rw[show keeps.getD (nid%(keeps.length:Int)).toNat 0=e5 by rw[←ac,←ad,ae,gD ab],←af,←ag,aa,ah])
 rw[hr]at e
 subst e
 exact hQ _ _ (.of [] (.inl rfl) rfl rfl rfl rfl)
theorem W4{enam:ByteArray}{eid:Int}(hr:Hg (⟨enam,eid⟩:Ad) (⟨nid,ntex,nsur⟩:Ax)=o):Fn Tryz.prog 247 [.agg [S enam,I eid],.ptr 0 0 0] [.box 129 [I nid,S ntex,I nsur]] ⟨B o,[],[]⟩:=by
 refine Fn.goR I6 Tryz.func247 fun P hP Q hQ=>?_
 conv=>cbv
 refine .eql (fun h1=>?_) fun h1=>?_
 conv=>cbv
 have e:true=Hg (⟨enam,eid⟩:Ad) (⟨nid,ntex,nsur⟩:Ax):=(by unfold Hg;exact(decide_eq_true h1).symm)
 rw[hr]at e
 subst e
 exact hQ _ _ (.of [] (.inl rfl) rfl rfl rfl rfl)
 conv=>cbv
 have e:false=Hg (⟨enam,eid⟩:Ad) (⟨nid,ntex,nsur⟩:Ax):=(by unfold Hg;exact(decide_eq_false h1).symm)
 rw[hr]at e
 subst e
 exact hQ _ _ (.of [] (.inl rfl) rfl rfl rfl rfl)
def E5(l:List Ad)(n:Ax):Int:=Su (fun x=>Hg x n) l
theorem Px{o:Int}(hl:l.map Ac=xl)(hn:l.length<2^40)(hr:E5 l (⟨nid,ntex,nsur⟩:Ax)=o):Fn Tryz.prog 301 [.d (.row 2 xl),.clo 247 [.ptr 0 0 0]] [.box 129 [I nid,S ntex,I nsur]] ⟨I o,[],[]⟩:=by
 refine Fn.goR I6 Tryz.func301 fun P hP Q hQ=>?_
 conv=>cbv
 refine .go hl fun v1 af=>?_
 conv=>cbv
 refine LoopW.lp (κ:=Int) I6 hP [] [0,1,7] (fun i8=>[(8,I i8)]) (fun i8=>[])
  (fun i8=>0≤i8∧i8≤l.length∧∀(j:Nat) (hj:j<l.length),j<i8.toNat→Hg l[j] (⟨nid,ntex,nsur⟩:Ax)=false)
  (fun i8=>(l.length - i8).toNat) (0) ⟨by omega,by omega,fun j _ h=>by simp at h⟩ ⟨rfl,trivial⟩ rfl ?_
 rintro i8 J ⟨h0,h1,hb⟩ hJ
 conv=>cbv
 refine .lss (fun h2=>?_) fun h2=>?_
 conv=>cbv
 refine .go i8.toNat hl fun ae ⟨aa,ac⟩ ad=>?_
 conv=>cbv
 generalize ab:Hg (⟨aa,ac⟩:Ad) (⟨nid,ntex,nsur⟩:Ax)=r4
 refine .bx [0] [] hP (W4 ab) rfl rfl rfl rfl ?_
 cases r4
 conv=>cbv
 refine .add fun v5 ag=>?_
 conv=>cbv
 exact .go [] (v5) (hJ _ ⟨by omega,by omega,fun j hj h=>if e:j=i8.toNat then by subst e;rw[←ad];exact ab else hb j hj (by omega)⟩ mlt)
 conv=>cbv
 have e:i8=E5 l (⟨nid,ntex,nsur⟩:Ax):=(by exact Lu (p:=fun x=>Hg x (⟨nid,ntex,nsur⟩:Ax)) h0 (by omega) (by rw[←ad];exact ab) hb)
 rw[hr]at e
 subst e
 exact hQ _ _ (.of [] (.inl rfl) rfl rfl rfl rfl)
 conv=>cbv
 have e:(-1)=E5 l (⟨nid,ntex,nsur⟩:Ax):=(by exact Hh (p:=fun x=>Hg x (⟨nid,ntex,nsur⟩:Ax)) fun j hj=>hb j hj (by omega))
 rw[hr]at e
 subst e
 exact hQ _ _ (.of [] (.inl rfl) rfl rfl rfl rfl)
def D1(l:List Ad)(n:Ax):Bool:=Mv l n.id_
theorem W8{l:List Ad}{n:Ax}:D1 l n=decide (0≤E5 l n):=Xk3 (p:=fun e:Ad=>decide (e.id_=n.id_))
theorem Ng(hl:l.map Ac=xl)(hn:l.length<2^40)(hr:D1 l (⟨nid,ntex,nsur⟩:Ax)=o):Fn Tryz.prog 246 [.d (.row 2 xl),.clo 247 [.ptr 0 0 0]] [.box 129 [I nid,S ntex,I nsur]] ⟨B o,[],[]⟩:=by
 refine Fn.goR I6 Tryz.func246 fun P hP Q hQ=>?_
 conv=>cbv
 generalize aa:E5 l (⟨nid,ntex,nsur⟩:Ax)=r1
 refine .bx [0] [] hP (Px hl hn aa) rfl rfl rfl rfl ?_
 conv=>cbv
 refine .geq (fun h2=>?_) fun h2=>?_
 conv=>cbv
 have e:true=D1 l (⟨nid,ntex,nsur⟩:Ax):=(by rw[W8,aa];exact(decide_eq_true h2).symm)
 rw[hr]at e
 subst e
 exact hQ _ _ (.of [] (.inl rfl) rfl rfl rfl rfl)
 conv=>cbv
 have e:false=D1 l (⟨nid,ntex,nsur⟩:Ax):=(by rw[W8,aa];exact(decide_eq_false (by omega)).symm)
 rw[hr]at e
 subst e
 exact hQ _ _ (.of [] (.inl rfl) rfl rfl rfl rfl)
theorem Tj{o:List Ax}{xn:List (List D)}{nn:Nat}(Aj:Ae.map A6=Be)(Ak:Ah.map Ac=Bf)(Ao:Ai.map Ac=A9)(Am:Af.map cS=Bg)(hkeeps:keeps.map cI=xkeeps)(ai:I9 (⟨Ae,Ah,Ai,Af,An,Al⟩:Aa))(hri:Bk (⟨Ae,Ah,Ai,Af,An,Al⟩:Aa)=true)(hkl:keeps.length≤1000000000)(hl:(Dn Ai Af names).1=l)(hxl:l.map Ac=xl)(ho:(Ae.filter fun n=>Mv l n.id_).map (XfS keeps)=o)(hxn:o.map A6=xn)(hnn:nn=o.length):Fn Tryz.prog 167 [.agg [.d (.row 3 Be),.d (.row 2 Bf),.d (.row 2 A9),.d (.row 1 Bg),I An,I Al],I names,.clo 168 [.ptr 0 0 0]] [.box 29 [.d (.row 1 xkeeps)]] ⟨.agg [.ref 1 0 nn,.d (.row 2 xl),.d (.row 2 xl),.ref 2 0 0,I An,I Al],[.row 3 false xn,.row 1 false []],[]⟩:=by
 refine Fn.goR I6 Tryz.func167 fun P hP Q hQ=>?_
 conv=>cbv
 rcases an:Dn Ai Af names with⟨ag,bc⟩
 generalize ah:ag.map Ac=ak
 refine .dd hP (Xel Ao Am ai.1.2.2.2.2.1 ai.1.2.2.2.2.2 ai.2.2 an ah) ?_
 conv=>cbv
 have ar:=Xjk Ai Af names
 rw[an]at ar
 simp only[]at ar
 have bd:Ai.length≤1000000000:=ai.1.2.2.2.2.1
 have be:Af.length≤1000000000:=ai.1.2.2.2.2.2
 have bf:Ae.length≤1000000000:=ai.1.1
 generalize au:D4 ag=l2
 generalize aw:l2.map Ac=ax
 refine .dd hP (Cb ah (by omega) au aw) ?_
 conv=>cbv
 refine .go Aj fun v3 bg=>?_
 conv=>cbv
 refine LoopW.lp (κ:=Int×(List (List D))×Nat) I6 hP [7] [2,6,7,9,31,32] (fun(aa,ab,ac)=>[(33,I aa)]) (fun(aa,ab,ac)=>[(15,.box 40 [.ref 16 0 ac,.d (.row 2 ak),.d (.row 2 ax),.ref 10 0 0,I An,I Al]),(16,.row 3 false ab)])
  (fun(aa,ab,ac)=>∃(aj:List Ax),aj.map A6=ab∧ac=aj.length∧0≤aa∧aa≤Ae.length∧aj=((Ae.take aa.toNat).filter (fun n=>Mv ag n.id_)).map (XfS keeps)∧aj.length≤aa)
  (fun(aa,ab,ac)=>(Ae.length - aa).toNat) (0,[],0) ⟨[],rfl,rfl,by omega,by omega,rfl,by simp⟩ ⟨rfl,trivial⟩ rfl ?_
 rintro⟨aa,ab,ac⟩ J ⟨aj,al,a2,h0,h1,hx,hxl_⟩ hJ
 conv=>cbv
 refine .lss (fun h4=>?_) fun h4=>?_
 conv=>cbv
 refine .go aa.toNat Aj fun am ⟨ad,ae,af⟩ ao=>?_
 conv=>cbv
 have hnf:=Xid hri ai am
 simp only[]at hnf
 rw[←ao]at hnf
 simp only[]at hnf
 generalize ap:D1 ag (⟨ad,ae,af⟩:Ax)=r6
 refine .bx [17] [] hP (Ng ah (by omega) ap) rfl rfl rfl rfl ?_
 cases r6
 conv=>cbv
 refine .add fun v7 bh=>?_
 conv=>cbv
 have hha:Mv ag ad=false:=ap
 exact .go [16] (v7,ab,ac) (hJ _ ⟨_,al,Hm,by omega,by omega,by rw[show v7.toNat=aa.toNat+1 by omega,Dp am,←ao];simp only[];rw[hha,hx];simp,by omega⟩ mlt)
 conv=>cbv
 generalize aq:E6 (⟨ad,ae,af⟩:Ax) keeps=r7
 refine .bx [0] [] hP (Xgz hkeeps (by omega) (by omega) (by omega) (by omega) hkl aq) rfl rfl rfl rfl ?_
 conv=>cbv
 have hkb:=XlP (n:=⟨ad,ae,af⟩) (keeps:=keeps) hnf.2.1 hnf.2.2.1
 rw[aq]at hkb
 simp only[]at hkb
 refine .hi fun s8 a6=>?_
 conv=>cbv
 refine .go fun v9 a7=>?_
 conv=>cbv
 refine .one (⟨ad,s8,v9⟩:Ax) al rfl fun ay a8 ba az=>?_
 conv=>cbv
 refine .add fun a1 bb=>?_
 conv=>cbv
 have hha:Mv ag ad=true:=ap
 have hcu:XfS keeps ⟨ad,ae,af⟩=⟨ad,s8,v9⟩:=by unfold XfS;rw[aq,←a6,←a7]
 exact .go [19] (a1,a8,ay) (hJ _ ⟨_,az,Hm,by omega,by omega,by rw[show a1.toNat=aa.toNat+1 by omega,Dp am,←ao];simp only[];rw[hha,if_pos rfl,List.map_append,←hx,←hcu];rfl,by rw[List.length_append,List.length_singleton];omega⟩ mlt)
 conv=>cbv
 obtain rfl:ag=l:=by rw[←hl,an]
 obtain rfl:ak=xl:=by rw[←ah,hxl]
 have e2:l2=ag:=au.symm
 subst e2
 obtain rfl:ax=ak:=by rw[←aw,ah]
 obtain rfl:aj=o:=by rw[hx,←ho,List.take_of_length_le (by omega)]
 obtain rfl:ab=xn:=by rw[←al,hxn]
 obtain rfl:ac=nn:=by omega
 exact hQ _ _ (.of [16,10] (.inl rfl) rfl rfl rfl rfl)
theorem Xjw(Aj:Ae.map A6=Be)(Ak:Ah.map Ac=Bf)(Ao:Ai.map Ac=A9)(Am:Af.map cS=Bg)(hkeeps:keeps.map cI=xkeeps)(aa:I9 (⟨Ae,Ah,Ai,Af,An,Al⟩:Aa))(hkl:keeps.length≤1000000000)(hr:Gz (⟨Ae,Ah,Ai,Af,An,Al⟩:Aa) names keeps=⟨onod,oent,oold,oste,oroo,onex⟩)(Lv:onod.map A6=K3)(L8:oent.map Ac=K1)(Lq:oold.map Ac=K4)(L4:oste.map cS=K5):Fn Tryz.prog 82 [.agg [.d (.row 3 Be),.d (.row 2 Bf),.d (.row 2 A9),.d (.row 1 Bg),I An,I Al],I names,.d (.row 1 xkeeps)] [] ⟨.agg [.d (.row 3 K3),.d (.row 2 K1),.d (.row 2 K4),.d (.row 1 K5),I oroo,I onex],[],[]⟩:=by
 refine Fn.go I6 Tryz.func82 fun P hP Q hQ=>?_
 conv=>cbv
 have ac:Ae.length≤1000000000:=aa.1.1
 have ad:Ah.length≤1000000000:=aa.1.2.2.1
 have ae:Ai.length≤1000000000:=aa.1.2.2.2.2.1
 have af:Af.length≤1000000000:=aa.1.2.2.2.2.2
 generalize ab:Bk (⟨Ae,Ah,Ai,Af,An,Al⟩:Aa)=r1
 refine .dd hP (My Aj Ak Ao Am aa ab) ?_
 cases r1
 conv=>cbv
 refine .dd hP (U5 Aj Ak Ao Am (by omega) (by omega) (by omega) (by omega)) ?_
 conv=>cbv
 have e:(⟨Ae,Ah,Ai,Af,An,Al⟩:Aa)=Gz (⟨Ae,Ah,Ai,Af,An,Al⟩:Aa) names keeps:=(by unfold Gz;rw[if_pos ab])
 rw[hr]at e
 simp only[Aa.mk.injEq]at e
 obtain⟨rfl,rfl,rfl,rfl,rfl,rfl⟩:=e
 exact hQ _ _ (.one (.inl rfl) rfl (.agg (.d rfl (A5 Aj Lv) (.d rfl (A5 Ak L8) (.d rfl (A5 Ao Lq) (.d rfl (A5 Am L4) (.d rfl rfl (.d rfl rfl (.nil))))))) .nil))
 conv=>cbv
 generalize hfl:(Dn Ai Af names).1=fl
 generalize hfx:fl.map Ac=xfl
 generalize hfo:(Ae.filter fun n=>Mv fl n.id_).map (XfS keeps)=fo
 generalize hfy:fo.map A6=xfo
 obtain⟨nfo,hfn⟩:∃m,m=fo.length:=⟨_,rfl⟩
 refine .bx [1] [] hP (Tj Aj Ak Ao Am hkeeps aa ab hkl hfl hfx hfo hfy hfn) rfl rfl rfl rfl ?_
 conv=>cbv
 have e:(⟨fo,fl,fl,[],An,Al⟩:Aa)=Gz (⟨Ae,Ah,Ai,Af,An,Al⟩:Aa) names keeps:=(by unfold Gz;rw[if_neg (by rw[ab];decide)];dsimp only;rw[hfl,hfo])
 rw[hr]at e
 simp only[Aa.mk.injEq]at e
 obtain⟨rfl,rfl,rfl,rfl,rfl,rfl⟩:=e
 exact hQ _ _ (.one (.inl rfl) rfl (.agg (.ref rfl (Ag hfy) (Bm hfy Lv) (.d rfl (A5 hfx L8) (.d rfl (A5 hfx Lq) (.ref rfl rfl (by rw[←L4];rfl) (.d rfl rfl (.d rfl rfl (.nil))))))) .nil))
theorem Xj2(Aj:Ae.map A6=Be)(Ak:Ah.map Ac=Bf)(Ao:Ai.map Ac=A9)(Am:Af.map cS=Bg)(hkeeps:keeps.map cI=xkeeps)(ai:I9 (⟨Ae,Ah,Ai,Af,An,Al⟩:Aa))(hkl:keeps.length≤1000000000)(hr:Gz (⟨Ae,Ah,Ai,Af,An,Al⟩:Aa) names keeps=⟨onod,oent,oold,oste,oroo,onex⟩)(Lv:onod.map A6=K3)(L8:oent.map Ac=K1)(Lq:oold.map Ac=K4)(L4:oste.map cS=K5):Fn Tryz.prog 80 [.agg [.d (.row 3 Be),.d (.row 2 Bf),.d (.row 2 A9),.d (.row 1 Bg),I An,I Al],I names,.d (.row 1 xkeeps)] [] ⟨.agg [.d (.row 3 K3),.d (.row 2 K1),.d (.row 2 K4),.d (.row 1 K5),I oroo,I onex],[],[]⟩:=by
 refine Fn.go I6 Tryz.func80 fun P hP Q hQ=>?_
 conv=>cbv
 have dj:Ae.length≤1000000000:=ai.1.1
 have dk:Ah.length≤1000000000:=ai.1.2.2.1
 have dl:Ai.length≤1000000000:=ai.1.2.2.2.2.1
 have dm:Af.length≤1000000000:=ai.1.2.2.2.2.2
 obtain⟨n2,cv⟩:∃m,m=Ae.length:=⟨_,rfl⟩
 obtain⟨n3,cw⟩:∃m,m=Ah.length:=⟨_,rfl⟩
 obtain⟨n4,cx⟩:∃m,m=Ai.length:=⟨_,rfl⟩
 obtain⟨n5,cy⟩:∃m,m=Af.length:=⟨_,rfl⟩
 refine .ddN hP (Jh Aj Ak Ao Am (by omega) (by omega) (by omega) (by omega) cv cw cx cy) rfl ?_
 conv=>cbv
 generalize bh:Bk (⟨Ae,Ah,Ai,Af,An,Al⟩:Aa)=r6
 refine .lnt hP (M9 Aj Ak Ao Am ai bh) (.agg (.ref rfl (Ag Aj) (.ref rfl (Ag Ak) (.ref rfl (Ag Ao) (.ref rfl (Ag Am) (.d rfl (.d rfl .nil)))))) .nil) ?_
 cases r6
 conv=>cbv
 have e:(⟨Ae,Ah,Ai,Af,An,Al⟩:Aa)=Gz (⟨Ae,Ah,Ai,Af,An,Al⟩:Aa) names keeps:=(by unfold Gz;rw[if_pos bh])
 rw[hr]at e
 simp only[Aa.mk.injEq]at e
 obtain⟨rfl,rfl,rfl,rfl,rfl,rfl⟩:=e
 exact hQ _ _ (.one (.inl rfl) rfl (.agg (.ref rfl (Ag Aj) (Bm Aj Lv) (.ref rfl (Ag Ak) (Bm Ak L8) (.ref rfl (Ag Ao) (Bm Ao Lq) (.ref rfl (Ag Am) (Bm Am L4) (.d rfl rfl (.d rfl rfl (.nil))))))) .nil))
 conv=>cbv
 rcases bi:D9 Ai Af names with⟨bq,dn⟩
 generalize bb:bq.map Ac=df
 refine .lntD hP (Qk Ao Am ai.1.2.2.2.2.1 ai.1.2.2.2.2.2 ai.2.2 bi bb) (.ref rfl (Ag Ao) (.ref rfl (Ag Am) (.d rfl .nil))) ?_
 conv=>cbv
 have hri:=bh
 rw[Xhe (d:=(⟨Ae,Ah,Ai,Af,An,Al⟩:Aa)) (n:=names) hri]at bi
 have bt:=Yd (d:=(⟨Ae,Ah,Ai,Af,An,Al⟩:Aa)) hri names
 simp only[]at bt
 rw[bi]at bt
 simp only[]at bt
 refine .row0 bb fun dp z8 dg b6=>?_
 conv=>cbv
 refine LoopW.lp (κ:=Int×(List (List D))) I6 hP [] [2,3,6] (fun(i9,ba)=>[(9,I i9)]) (fun(i9,ba)=>[(6,.row 3 false ba)])
  (fun(i9,ba)=>∃(w6:List Ax),w6.map A6=ba∧0≤i9∧i9≤Ae.length∧w6=(Ae.take i9.toNat).map (XfS keeps)++Ae.drop i9.toNat)
  (fun(i9,ba)=>(Ae.length - i9).toNat) (0,Be) ⟨Ae,Aj,by omega,by omega,rfl⟩ ⟨rfl,trivial⟩ rfl ?_
 rintro⟨i9,ba⟩ J ⟨w6,aj,h0,h1,hx⟩ hJ
 have hwl:w6.length=Ae.length:=by rw[hx,XkP]
 conv=>cbv
 refine .go fun v9 dq=>?_
 conv=>cbv
 refine .lss (fun h10=>?_) fun h10=>?_
 conv=>cbv
 refine .go i9.toNat fun dr b7 cz=>?_
 conv=>cbv
 refine .go aj fun c0 ⟨au,ak,al⟩ b8=>?_
 conv=>cbv
 have af:i9.toNat<Ae.length:=by omega
 have aw:(⟨au,ak,al⟩:Ax)=Ae[i9.toNat]'af:=by subst b7;rw[b8];simp only[hx];exact Wz af _
 have hnf:=Xid hri ai af
 simp only[]at hnf
 rw[←aw]at hnf
 simp only[]at hnf
 refine .go hkeeps fun ds dh=>?_
 conv=>cbv
 refine .gtr (fun h14=>?_) fun h14=>?_
 conv=>cbv
 refine .go i9.toNat fun c1 ay bu=>?_
 conv=>cbv
 refine .go aj fun bv ⟨ab,ac,aa⟩ az=>?_
 conv=>cbv
 refine .go hkeeps fun b9 ca=>?_
 conv=>cbv
 have ah:(⟨ab,ac,aa⟩:Ax)=Ae[i9.toNat]'af:=by subst ay;rw[az];simp only[hx];exact Wz af _
 obtain⟨rfl,rfl,rfl⟩:ab=au∧ac=ak∧aa=al:=by have:=ah.trans aw.symm;simpa using this
 refine .rem fun c2 cb=>?_
 conv=>cbv
 have dt:=Int.emod_nonneg ab (show b9≠0 by omega)
 have du:=Int.emod_lt_of_pos ab (show 0<b9 by omega)
 refine .go c2.toNat hkeeps fun bw bz cc=>?_
 conv=>cbv
 refine .go i9.toNat fun cd a1 b0=>?_
 conv=>cbv
 refine .go aj fun c3 ⟨ax,am,an⟩ ce=>?_
 conv=>cbv
 have bc:(⟨ax,am,an⟩:Ax)=Ae[i9.toNat]'af:=by subst a1;rw[ce];simp only[hx];exact Wz af _
 obtain⟨rfl,rfl,rfl⟩:ax=ab∧am=ac∧an=aa:=by have:=bc.trans ah.symm;simpa using this
 refine .go fun b2 bl=>?_
 conv=>cbv
 refine .sub fun cf cg=>?_
 conv=>cbv
 generalize bd:Ct bz 0 cf=dv
 refine .dd hP (W3 bd) ?_
 conv=>cbv
 have hbr:=U0 (a:=bz) (b:=cf) (by omega)
 rw[bd]at hbr
 refine .add fun b3 ch=>?_
 conv=>cbv
 refine .go i9.toNat fun dw bm c4=>?_
 conv=>cbv
 refine .go aj fun c5 ⟨ad,ag,ae⟩ bn=>?_
 conv=>cbv
 have be:(⟨ad,ag,ae⟩:Ax)=Ae[i9.toNat]'af:=by subst bm;rw[bn];simp only[hx];exact Wz af _
 obtain⟨rfl,rfl,rfl⟩:ad=ax∧ag=am∧ae=an:=by have:=be.trans bc.symm;simpa using this
 refine .hi fun b4 ci=>?_
 conv=>cbv
 refine .go i9.toNat fun c6 bf c7=>?_
 conv=>cbv
 refine .go (⟨ad,b4,ae⟩:Ax) aj (by omega) (by subst bm bf;rw[←bn];rfl) (show 1+1≤3 by decide) fun dx cj=>?_
 conv=>cbv
 refine .go i9.toNat fun c8 bo c9=>?_
 conv=>cbv
 refine .go (⟨ad,b4,b3⟩:Ax) cj (by rw[List.length_set];omega) (by subst bf bo;rw[List.getElem_set_self];rfl) (show 2+1≤3 by decide) fun da ck=>?_
 conv=>cbv
 refine .add fun cm di=>?_
 conv=>cbv
 have hke:E6 (⟨ad,ag,ae⟩:Ax) keeps=b3:=by unfold E6;rw[if_neg (by omega)];dsimp only;rw[show keeps.getD (ad%(keeps.length:Int)).toNat 0=bz by rw[←ca,←cb,cc,gD bw],←bl,←cg,bd,ch]
 have hcu:XfS keeps (⟨ad,ag,ae⟩:Ax)=⟨ad,b4,b3⟩:=by unfold XfS;dsimp only;rw[hke,ci,XeW (by omega) (by omega)]
 exact .go [] (cm,da) (hJ _ ⟨_,ck,by omega,by omega,by rw[show cm.toNat=i9.toNat+1 by omega,←XgV af,←be,hcu,←hx,show c6=i9.toNat from bf,show c8=i9.toNat from bo,List.set_set]⟩ mlt)
 conv=>cbv
 refine .go i9.toNat fun c1 ay bu=>?_
 conv=>cbv
 refine .go aj fun bv ⟨ab,ac,aa⟩ az=>?_
 conv=>cbv
 have ah:(⟨ab,ac,aa⟩:Ax)=Ae[i9.toNat]'af:=by subst ay;rw[az];simp only[hx];exact Wz af _
 obtain⟨rfl,rfl,rfl⟩:ab=au∧ac=ak∧aa=al:=by have:=ah.trans aw.symm;simpa using this
 refine .hi fun b5 cn=>?_
 conv=>cbv
 refine .go i9.toNat fun db bg dc=>?_
 conv=>cbv
 refine .go (⟨ab,b5,aa⟩:Ax) aj (by omega) (by subst ay bg;rw[←az];rfl) (show 1+1≤3 by decide) fun dy co=>?_
 conv=>cbv
 refine .go i9.toNat fun cd a1 b0=>?_
 conv=>cbv
 refine .go (⟨ab,b5,aa⟩:Ax) co (by rw[List.length_set];omega) (by subst bg a1;rw[List.getElem_set_self];rfl) (show 2+1≤3 by decide) fun de cp=>?_
 conv=>cbv
 refine .add fun b2 bl=>?_
 conv=>cbv
 have hke:E6 (⟨ab,ac,aa⟩:Ax) keeps=aa:=by unfold E6;rw[if_pos (by omega)]
 have hcu:XfS keeps (⟨ab,ac,aa⟩:Ax)=⟨ab,b5,aa⟩:=by unfold XfS;dsimp only;rw[hke,cn,XeW (by omega) (by omega)]
 exact .go [] (b2,de) (hJ _ ⟨_,cp,by omega,by omega,by rw[show b2.toNat=i9.toNat+1 by omega,←XgV af,←ah,hcu,←hx,show db=i9.toNat from bg,show cd=i9.toNat from a1,List.set_set]⟩ mlt)
 conv=>cbv
 rcases bp:En (⟨w6,bq,bq,[],An,Al⟩:Aa)with⟨a2,a6,a7,a8,bj,bk⟩
 generalize ao:a2.map A6=cq
 generalize ap:a6.map Ac=cr
 generalize aq:a7.map Ac=ct
 generalize ar:a8.map cS=cu
 refine .lntD hP (Mt aj b6 bb rfl (by omega) (by omega) (by simp) (fun _ h=>by cases h) bp ao ap aq ar) (.agg (.ref rfl (Ag aj) (.ref rfl (Ag b6) (.d rfl (.ref rfl rfl (.d rfl (.d rfl .nil)))))) .nil) ?_
 conv=>cbv
 have e:(⟨a2,a6,a7,a8,bj,bk⟩:Aa)=Gz (⟨Ae,Ah,Ai,Af,An,Al⟩:Aa) names keeps:=(by unfold Gz;rw[if_neg (by rw[bh];decide)];dsimp only;rw[bi,←bp,hx,List.take_of_length_le (by omega),List.drop_of_length_le (by omega),List.append_nil];exact XbF)
 rw[hr]at e
 simp only[Aa.mk.injEq]at e
 obtain⟨rfl,rfl,rfl,rfl,rfl,rfl⟩:=e
 exact hQ _ _ (.one (.inl rfl) rfl (.agg (.d rfl (A5 ao Lv) (.d rfl (A5 ap L8) (.d rfl (A5 aq Lq) (.d rfl (A5 ar L4) (.d rfl rfl (.d rfl rfl (.nil))))))) .nil))
end
section
open Go Go.Proofs
set_option maxRecDepth 20000
set_option maxHeartbeats 4000000
def Xcb:List (Nat×TyRow):=[ty3,Xay,XeI,Xn,ty43,Xk2]
theorem Xa8:B8 Tryz.prog Xcb:=B8.of (by kernel_rfl)
theorem Uo:Setup Tryz.prog Xcb:=⟨Xa8,mixed⟩
theorem Wo{d:Aa}{v n:Int}(h:I9 d)(he:d.entries_.length≤100000000)(hs:d.steps_.length≤100000000):I9 (Gp d v n):=by
 have:=W0 (d:=d) (v:=v)
 unfold Gp Ik
 exact(XfM h (by rw[List.length_take];omega) (fun x hx=>Xi3 x (List.mem_of_mem_take hx))).1
def Ev(d:Aa)(v n names:Int)(keeps:List Int):Aa:=Gz (Gp d v n) names keeps
theorem P2{d:Aa}{v n m:Int}{keeps:List Int}(h:I9 d)(he:d.entries_.length≤100000000)(hs:d.steps_.length≤100000000):I9 (Ev d v n m keeps):=(Xif (Wo h he hs)).1
def Gv(d:Aa)(v n names:Int)(keeps:List Int):Bool:=decide (Lk (Ev d v n names keeps)=Lk d)
variable {Ae onod:List Ax} {Be Bf A9 Bg xkeeps K3 K1 K4 K5:List (List D)} {Ah Ai oent oold:List Ad} {Af oste:List ByteArray} {An Al version n names oroo onex:Int} {keeps:List Int} {o:Bool}
theorem Xaj(Aj:Ae.map A6=Be)(Ak:Ah.map Ac=Bf)(Ao:Ai.map Ac=A9)(Am:Af.map cS=Bg)(hkeeps:keeps.map cI=xkeeps)(ay:I9 (⟨Ae,Ah,Ai,Af,An,Al⟩:Aa))(hes:Ah.length≤100000000)(hst:Af.length≤100000000)(hkl:keeps.length≤1000000000)(hr:Ev (⟨Ae,Ah,Ai,Af,An,Al⟩:Aa) version n names keeps=⟨onod,oent,oold,oste,oroo,onex⟩)(Lv:onod.map A6=K3)(L8:oent.map Ac=K1)(Lq:oold.map Ac=K4)(L4:oste.map cS=K5):Fn Tryz.prog 53 [.agg [.d (.row 3 Be),.d (.row 2 Bf),.d (.row 2 A9),.d (.row 1 Bg),I An,I Al],I version,I n,I names,.d (.row 1 xkeeps)] [] ⟨.agg [.d (.row 3 K3),.d (.row 2 K1),.d (.row 2 K4),.d (.row 1 K5),I oroo,I onex],[],[]⟩:=by
 refine Fn.go Uo Tryz.func53 fun P hP Q hQ=>?_
 conv=>cbv
 rcases aq:Gp (⟨Ae,Ah,Ai,Af,An,Al⟩:Aa) version n with⟨ai,aj,ak,al,ar,au⟩
 generalize aa:ai.map A6=a1
 generalize ab:aj.map Ac=a2
 generalize ac:ak.map Ac=a6
 generalize ad:al.map cS=a7
 refine .dd hP (XgN Aj Ak Ao Am ay hes hst aq aa ab ac ad) ?_
 conv=>cbv
 have hm:=Wo (d:=(⟨Ae,Ah,Ai,Af,An,Al⟩:Aa)) (v:=version) (n:=n) ay hes hst
 rw[aq]at hm
 rcases az:Gz (⟨ai,aj,ak,al,ar,au⟩:Aa) names keeps with⟨am,an,ao,ap,aw,ax⟩
 generalize ae:am.map A6=a8
 generalize af:an.map Ac=ba
 generalize ag:ao.map Ac=bb
 generalize ah:ap.map cS=bc
 refine .dd hP (Xjw aa ab ac ad hkeeps hm hkl az ae af ag ah) ?_
 conv=>cbv
 have e:(⟨am,an,ao,ap,aw,ax⟩:Aa)=Ev (⟨Ae,Ah,Ai,Af,An,Al⟩:Aa) version n names keeps:=(by unfold Ev;rw[aq,az])
 rw[hr]at e
 simp only[Aa.mk.injEq]at e
 obtain⟨rfl,rfl,rfl,rfl,rfl,rfl⟩:=e
 exact hQ _ _ (.one (.inl rfl) rfl (.agg (.d rfl (A5 ae Lv) (.d rfl (A5 af L8) (.d rfl (A5 ag Lq) (.d rfl (A5 ah L4) (.d rfl rfl (.d rfl rfl (.nil))))))) .nil))
theorem XhL(Aj:Ae.map A6=Be)(Ak:Ah.map Ac=Bf)(Ao:Ai.map Ac=A9)(Am:Af.map cS=Bg)(hkeeps:keeps.map cI=xkeeps)(ai:I9 (⟨Ae,Ah,Ai,Af,An,Al⟩:Aa))(hes:Ah.length≤100000000)(hst:Af.length≤100000000)(hkl:keeps.length≤1000000000)(hr:Gv (⟨Ae,Ah,Ai,Af,An,Al⟩:Aa) version n names keeps=o):Fn Tryz.prog 49 [.agg [.d (.row 3 Be),.d (.row 2 Bf),.d (.row 2 A9),.d (.row 1 Bg),I An,I Al],I version,I n,I names,.d (.row 1 xkeeps)] [] ⟨B o,[],[]⟩:=by
 refine Fn.go Uo Tryz.func49 fun P hP Q hQ=>?_
 conv=>cbv
 rcases aj:Ev (⟨Ae,Ah,Ai,Af,An,Al⟩:Aa) version n names keeps with⟨ae,af,ag,ah,al,am⟩
 generalize aa:ae.map A6=ar
 generalize ab:af.map Ac=au
 generalize ac:ag.map Ac=aw
 generalize ad:ah.map cS=ax
 refine .dd hP (Xaj Aj Ak Ao Am hkeeps ai hes hst hkl aj aa ab ac ad) ?_
 conv=>cbv
 have hm:=P2 (d:=(⟨Ae,Ah,Ai,Af,An,Al⟩:Aa)) (v:=version) (n:=n) (m:=names) (keeps:=keeps) ai hes hst
 rw[aj]at hm
 generalize ak:Lk (⟨ae,af,ag,ah,al,am⟩:Aa)=l2
 generalize ap:l2.map cS=ay
 refine .dd hP (Xhu aa ab ac ad (by first|exact hm.1|exact ai.1) ak ap) ?_
 conv=>cbv
 generalize an:Lk (⟨Ae,Ah,Ai,Af,An,Al⟩:Aa)=l3
 generalize aq:l3.map cS=az
 refine .dd hP (Xhu Aj Ak Ao Am (by first|exact hm.1|exact ai.1) an aq) ?_
 conv=>cbv
 have hb2:=Xfx hm.1 ak
 generalize ao:F9 l2 l3=r4
 refine .dd hP (Jx ap aq (by omega) ao) ?_
 cases r4
 conv=>cbv
 have e:false=Gv (⟨Ae,Ah,Ai,Af,An,Al⟩:Aa) version n names keeps:=(by unfold Gv;rw[aj,ak,an];exact ao.symm)
 rw[hr]at e
 subst e
 exact hQ _ _ (.b rfl rfl)
 conv=>cbv
 have e:true=Gv (⟨Ae,Ah,Ai,Af,An,Al⟩:Aa) version n names keeps:=(by unfold Gv;rw[aj,ak,an];exact ao.symm)
 rw[hr]at e
 subst e
 exact hQ _ _ (.b rfl rfl)
theorem Xac(Aj:Ae.map A6=Be)(Ak:Ah.map Ac=Bf)(Ao:Ai.map Ac=A9)(Am:Af.map cS=Bg)(hkeeps:keeps.map cI=xkeeps)(ay:I9 (⟨Ae,Ah,Ai,Af,An,Al⟩:Aa))(hes:Ah.length≤100000000)(hst:Af.length≤100000000)(hkl:keeps.length≤1000000000)(hr:Ev (⟨Ae,Ah,Ai,Af,An,Al⟩:Aa) version n names keeps=⟨onod,oent,oold,oste,oroo,onex⟩)(Lv:onod.map A6=K3)(L8:oent.map Ac=K1)(Lq:oold.map Ac=K4)(L4:oste.map cS=K5):Fn Tryz.prog 52 [.agg [.d (.row 3 Be),.d (.row 2 Bf),.d (.row 2 A9),.d (.row 1 Bg),I An,I Al],I version,I n,I names,.d (.row 1 xkeeps)] [] ⟨.agg [.d (.row 3 K3),.d (.row 2 K1),.d (.row 2 K4),.d (.row 1 K5),I oroo,I onex],[],[]⟩:=by
 refine Fn.go Uo Tryz.func52 fun P hP Q hQ=>?_
 conv=>cbv
 rcases aq:Gp (⟨Ae,Ah,Ai,Af,An,Al⟩:Aa) version n with⟨ai,aj,ak,al,ar,au⟩
 generalize aa:ai.map A6=a1
 generalize ab:aj.map Ac=a2
 generalize ac:ak.map Ac=a6
 generalize ad:al.map cS=a7
 refine .dd hP (Xgh Aj Ak Ao Am ay hes hst aq aa ab ac ad) ?_
 conv=>cbv
 have hm:=Wo (d:=(⟨Ae,Ah,Ai,Af,An,Al⟩:Aa)) (v:=version) (n:=n) ay hes hst
 rw[aq]at hm
 rcases az:Gz (⟨ai,aj,ak,al,ar,au⟩:Aa) names keeps with⟨am,an,ao,ap,aw,ax⟩
 generalize ae:am.map A6=a8
 generalize af:an.map Ac=ba
 generalize ag:ao.map Ac=bb
 generalize ah:ap.map cS=bc
 refine .dd hP (Xj2 aa ab ac ad hkeeps hm hkl az ae af ag ah) ?_
 conv=>cbv
 have e:(⟨am,an,ao,ap,aw,ax⟩:Aa)=Ev (⟨Ae,Ah,Ai,Af,An,Al⟩:Aa) version n names keeps:=(by unfold Ev;rw[aq,az])
 rw[hr]at e
 simp only[Aa.mk.injEq]at e
 obtain⟨rfl,rfl,rfl,rfl,rfl,rfl⟩:=e
 exact hQ _ _ (.one (.inl rfl) rfl (.agg (.d rfl (A5 ae Lv) (.d rfl (A5 af L8) (.d rfl (A5 ag Lq) (.d rfl (A5 ah L4) (.d rfl rfl (.d rfl rfl (.nil))))))) .nil))
theorem Xhw(Aj:Ae.map A6=Be)(Ak:Ah.map Ac=Bf)(Ao:Ai.map Ac=A9)(Am:Af.map cS=Bg)(hkeeps:keeps.map cI=xkeeps)(ai:I9 (⟨Ae,Ah,Ai,Af,An,Al⟩:Aa))(hes:Ah.length≤100000000)(hst:Af.length≤100000000)(hkl:keeps.length≤1000000000)(hr:Gv (⟨Ae,Ah,Ai,Af,An,Al⟩:Aa) version n names keeps=o):Fn Tryz.prog 48 [.agg [.d (.row 3 Be),.d (.row 2 Bf),.d (.row 2 A9),.d (.row 1 Bg),I An,I Al],I version,I n,I names,.d (.row 1 xkeeps)] [] ⟨B o,[],[]⟩:=by
 refine Fn.go Uo Tryz.func48 fun P hP Q hQ=>?_
 conv=>cbv
 rcases aj:Ev (⟨Ae,Ah,Ai,Af,An,Al⟩:Aa) version n names keeps with⟨ae,af,ag,ah,al,am⟩
 generalize aa:ae.map A6=ar
 generalize ab:af.map Ac=au
 generalize ac:ag.map Ac=aw
 generalize ad:ah.map cS=ax
 refine .dd hP (Xac Aj Ak Ao Am hkeeps ai hes hst hkl aj aa ab ac ad) ?_
 conv=>cbv
 have hm:=P2 (d:=(⟨Ae,Ah,Ai,Af,An,Al⟩:Aa)) (v:=version) (n:=n) (m:=names) (keeps:=keeps) ai hes hst
 rw[aj]at hm
 generalize ak:Lk (⟨ae,af,ag,ah,al,am⟩:Aa)=l2
 generalize ap:l2.map cS=ay
 refine .dd hP (Xg2 aa ab ac ad (by first|exact hm.1|exact ai.1) ak ap) ?_
 conv=>cbv
 generalize an:Lk (⟨Ae,Ah,Ai,Af,An,Al⟩:Aa)=l3
 generalize aq:l3.map cS=az
 refine .dd hP (Xg2 Aj Ak Ao Am (by first|exact hm.1|exact ai.1) an aq) ?_
 conv=>cbv
 have hb2:=Xfx hm.1 ak
 generalize ao:K8 l2 l3=r4
 refine .dd hP (XiF ap aq (by omega) ao) ?_
 cases r4
 conv=>cbv
 have e:false=Gv (⟨Ae,Ah,Ai,Af,An,Al⟩:Aa) version n names keeps:=(by unfold Gv;rw[aj,ak,an];exact ao.symm)
 rw[hr]at e
 subst e
 exact hQ _ _ (.b rfl rfl)
 conv=>cbv
 have e:true=Gv (⟨Ae,Ah,Ai,Af,An,Al⟩:Aa) version n names keeps:=(by unfold Gv;rw[aj,ak,an];exact ao.symm)
 rw[hr]at e
 subst e
 exact hQ _ _ (.b rfl rfl)
end
section
open Go Go.Proofs
set_option maxRecDepth 20000
set_option maxHeartbeats 4000000
end
section
open Go Go.Proofs
set_option maxRecDepth 20000
set_option maxHeartbeats 4000000
end
end Go.Proofs.YtgdmjbcllgmepaaGreatDoor.Ab
