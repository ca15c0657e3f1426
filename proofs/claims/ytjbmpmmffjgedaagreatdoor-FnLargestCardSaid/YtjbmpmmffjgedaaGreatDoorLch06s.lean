/- What functions of the program come to, for all arguments in the given bounds. -/
import Derived.Test.YtjbmpmmffjgedaaGreatDoorLch29
import Derived.Test.YtjbmpmmffjgedaaGreatDoorLZ10
set_option linter.unusedVariables false
set_option linter.unusedSimpArgs false
namespace Go.Proofs.YtjbmpmmffjgedaaGreatDoor.Ab
section
open Go Go.Proofs
set_option maxRecDepth 20000
set_option maxHeartbeats 4000000
def Y7:List (Nat×TyRow):=[ty3,ty9,Xg4,XgU,Xax,Xbj,XcB,Xc0]
theorem Y2:B3 Tryz.prog Y7:=B3.of (by kernel_rfl)
theorem Hv:Setup Tryz.prog Y7:=⟨Y2,mixed⟩
variable {Aj onod F2:List B5} {Bk Bh Bg Bi De Dd Db Dc Co Cn Cm Cp:List (List D)} {An Ao oent oold Fy F3:List Ag} {Al oste Fz:List ByteArray} {As Aq oroo onex G8 G9 ob:Int} {name:ByteArray}
theorem F9{nn ne no ns:Nat}(Av:Aj.map A5=Bk)(At:An.map Ad=Bh)(Ax:Ao.map Ad=Bg)(Ay:Al.map cS=Bi)(hn:Aj.length≤4000000000)(he:An.length≤4000000000)(ho:Ao.length≤4000000000)(hs:Al.length≤4000000000)(hnn:nn=Aj.length)(hne:ne=An.length)(hno:no=Ao.length)(hns:ns=Al.length):Fn Tryz.prog 112 [.agg [.d (.row 3 Bk),.d (.row 2 Bh),.d (.row 2 Bg),.d (.row 1 Bi),I As,I Aq]] [] ⟨.agg [.ref 0 0 nn,.ref 1 0 ne,.ref 2 0 no,.ref 3 0 ns,I As,I Aq],[.row 3 false Bk,.row 2 false Bh,.row 2 false Bg,.row 1 false Bi],[]⟩:=by
 refine Fn.goR Hv Tryz.func112 fun P hP Q hQ=>?_
 conv=>cbv
 refine .row0 Av fun aa z1 ai ab=>?_
 conv=>cbv
 refine .row0 At fun ac z2 aj ad=>?_
 conv=>cbv
 refine .row0 Ax fun ae z3 ak af=>?_
 conv=>cbv
 refine .row0 Ay fun ag z4 al ah=>?_
 conv=>cbv
 obtain rfl:z1=Bk:=by rw[←ab,Av]
 obtain rfl:z2=Bh:=by rw[←ad,At]
 obtain rfl:z3=Bg:=by rw[←af,Ax]
 obtain rfl:z4=Bi:=by rw[←ah,Ay]
 obtain rfl:aa=nn:=by omega
 obtain rfl:ac=ne:=by omega
 obtain rfl:ae=no:=by omega
 obtain rfl:ag=ns:=by omega
 exact hQ _ _ (.of [7,9,11,13] (.inl rfl) rfl rfl rfl rfl)
theorem Ve(Av:Aj.map A5=Bk)(At:An.map Ad=Bh)(Ax:Ao.map Ad=Bg)(Ay:Al.map cS=Bi)(hn:Aj.length≤4000000000)(he:An.length≤4000000000)(ho:Ao.length≤4000000000)(hs:Al.length≤4000000000):Fn Tryz.prog 112 [.agg [.d (.row 3 Bk),.d (.row 2 Bh),.d (.row 2 Bg),.d (.row 1 Bi),I As,I Aq]] [] ⟨.agg [.d (.row 3 Bk),.d (.row 2 Bh),.d (.row 2 Bg),.d (.row 1 Bi),I As,I Aq],[],[]⟩:=by
 refine Fn.go Hv Tryz.func112 fun P hP Q hQ=>?_
 conv=>cbv
 refine .row0 Av fun ai z1 ae aa=>?_
 conv=>cbv
 refine .row0 At fun aj z2 af ab=>?_
 conv=>cbv
 refine .row0 Ax fun ak z3 ag ac=>?_
 conv=>cbv
 refine .row0 Ay fun al z4 ah ad=>?_
 conv=>cbv
 obtain rfl:z1=Bk:=by rw[←aa,Av]
 obtain rfl:z2=Bh:=by rw[←ab,At]
 obtain rfl:z3=Bg:=by rw[←ac,Ax]
 obtain rfl:z4=Bi:=by rw[←ad,Ay]
 exact hQ _ _ (.one (.inl rfl) rfl (.agg (.ref rfl (Ae Av) rfl (.ref rfl (Ae At) rfl (.ref rfl (Ae Ax) rfl (.ref rfl (Ae Ay) rfl (.d rfl rfl (.d rfl rfl .nil)))))) .nil))
theorem Vj(Av:Aj.map A5=Bk)(At:An.map Ad=Bh)(Ax:Ao.map Ad=Bg)(Ay:Al.map cS=Bi)(hn:Aj.length≤2000000000)(hol:Ao.length≤1000000000)(hsl:Al.length≤1000000000)(hss:okS Al)(hr:C9 (⟨Aj,An,Ao,Al,As,Aq⟩:Aa)=⟨onod,oent,oold,oste,oroo,onex⟩)(Eb:onod.map A5=De)(Eg:oent.map Ad=Dd)(Ed:oold.map Ad=Db)(D7:oste.map cS=Dc):Fn Tryz.prog 213 [.agg [.d (.row 3 Bk),.d (.row 2 Bh),.d (.row 2 Bg),.d (.row 1 Bi),I As,I Aq]] [] ⟨.agg [.d (.row 3 De),.d (.row 2 Dd),.d (.row 2 Db),.d (.row 1 Dc),I oroo,I onex],[],[]⟩:=by
 refine Fn.go Hv Tryz.func213 fun P hP Q hQ=>?_
 conv=>cbv
 refine LoopW.lp (κ:=Int×(List (List D))×Nat) Hv hP [6] [1,2] (fun(i4,ad,ae)=>[(3,.ref 7 0 ae),(4,I i4)]) (fun(i4,ad,ae)=>[(7,.row 3 false ad)])
  (fun(i4,ad,ae)=>∃(w7:List B5),w7.map A5=ad∧ae=w7.length∧0≤i4∧i4≤Aj.length∧w7=(Aj.take i4.toNat).filter (fun x=>T2 Ao Al x.id_)∧w7.length≤i4)
  (fun(i4,ad,ae)=>(Aj.length - i4).toNat) (0,[],0) ⟨[],rfl,rfl,by omega,by omega,by simp,by simp⟩ ⟨rfl,rfl,trivial⟩ rfl ?_
 rintro⟨i4,ad,ae⟩ J ⟨w7,ah,a6,h0,h1,hx,hxl⟩ hJ
 conv=>cbv
 refine .go Av fun v1 a9=>?_
 conv=>cbv
 refine .lss (fun h2=>?_) fun h2=>?_
 conv=>cbv
 refine LoopW.lp (κ:=Bool×Int) Hv hP [] [1,2,3,4] (fun(b5,i6)=>[(5,B b5),(6,I i6)]) (fun(b5,i6)=>[])
  (fun(b5,i6)=>0≤i6∧i6≤Al.length+1∧b5=(List.range i6.toNat).any (fun k=>Qu (B0 Ao (Al.take k)).1 (Aj.getD i4.toNat ⟨0,tx [],0⟩).id_))
  (fun(b5,i6)=>(Al.length+1 - i6).toNat) (false,0) ⟨by omega,by omega,rfl⟩ ⟨rfl,rfl,trivial⟩ rfl ?_
 rintro⟨b5,i6⟩ J1 ⟨k0,k1,hu⟩ ay
 conv=>cbv
 refine .go Ay fun v3 ba=>?_
 conv=>cbv
 refine .leq (fun h4=>?_) fun h4=>?_
 conv=>cbv
 cases b5
 conv=>cbv
 rcases ap:Cf Ao Al i6 with⟨aa,az⟩
 generalize ai:aa.map Ad=a7
 have hS:B0 Ao (Al.take i6.toNat)=(aa,az):=by rw[←R7 (by omega) (by omega)];exact ap
 have bb:aa.length≤2000000000:=by
  have:=Xan (Al.take i6.toNat) Ao
  rw[hS,List.length_take]at this
  simp only[]at this
  omega
 refine .dd hP (To Ax Ay hol hsl hss ap ai) ?_
 conv=>cbv
 refine LoopW.lp (κ:=Bool×Int) Hv hP [] [1,2,3,4,6,7,24,25] (fun(b5,i9)=>[(5,B b5),(9,I i9)]) (fun(b5,i9)=>[])
  (fun(b5,i9)=>0≤i9∧i9≤aa.length∧b5=Qu (aa.take i9.toNat) (Aj.getD i4.toNat ⟨0,tx [],0⟩).id_)
  (fun(b5,i9)=>(aa.length - i9).toNat) (false,0) ⟨by omega,by omega,rfl⟩ ⟨rfl,rfl,trivial⟩ rfl ?_
 rintro⟨b5,i9⟩ J2 ⟨m0,m1,hb⟩ am
 conv=>cbv
 refine .go ai fun v6 bc=>?_
 conv=>cbv
 refine .lss (fun h7=>?_) fun h7=>?_
 conv=>cbv
 cases b5
 conv=>cbv
 refine .go i9.toNat ai fun al ⟨a0,a8⟩ aq=>?_
 conv=>cbv
 refine .go i4.toNat Av fun ar ⟨au,a1,a2⟩ a3=>?_
 conv=>cbv
 have hide:(Aj.getD i4.toNat ⟨0,tx [],0⟩).id_=au:=by rw[←gD ar,←a3]
 refine .eql (fun h10=>?_) fun h10=>?_
 conv=>cbv
 refine .add fun aj aw=>?_
 conv=>cbv
 exact .go [] (true,aj) (am _ ⟨by omega,by omega,by rw[show aj.toNat=i9.toNat+1 by omega,Ir al,←aq,hide];simp only[];rw[decide_eq_true h10,Bool.or_true]⟩ mlt)
 conv=>cbv
 refine .add fun aj aw=>?_
 conv=>cbv
 exact .go [] (false,aj) (am _ ⟨by omega,by omega,by rw[show aj.toNat=i9.toNat+1 by omega,Ir al,←aq,←hb,hide];simp only[];rw[decide_eq_false h10];rfl⟩ mlt)
 conv=>cbv
 refine .add fun v8 a4=>?_
 conv=>cbv
 exact .go [] (true,v8) (am _ ⟨by omega,by omega,by rw[show v8.toNat=i9.toNat+1 by omega,Ir (show i9.toNat<aa.length by omega),←hb];rfl⟩ mlt)
 conv=>cbv
 refine .add fun v8 a4=>?_
 conv=>cbv
 exact .go [] (b5,v8) (ay _ ⟨by omega,by omega,by rw[show v8.toNat=i6.toNat+1 by omega,My,←hu,Bool.false_or,hS];show _=Qu aa _;rw[hb,List.take_of_length_le (by omega)]⟩ mlt)
 conv=>cbv
 refine .go i4.toNat Av fun ab ⟨ac,af,ag⟩ ak=>?_
 conv=>cbv
 refine .one (⟨ac,af,ag⟩:B5) ah rfl fun an z6 ax ao=>?_
 conv=>cbv
 refine .add fun v7 a5=>?_
 conv=>cbv
 have hid:(Aj.getD i4.toNat ⟨0,tx [],0⟩).id_=ac:=by rw[←gD ab,←ak]
 have hus:=Mq (show i6.toNat≤Al.length+1 by omega) hu
 rw[hid]at hus
 exact .go [9] (v7,z6,an) (hJ _ ⟨_,ao,Em,by omega,by omega,by rw[show v7.toNat=i4.toNat+1 by omega,Ey ab,←hx,←ak];simp only[];rw[hus];rfl,by rw[List.length_append,List.length_singleton];omega⟩ mlt)
 conv=>cbv
 cases b5
 conv=>cbv
 refine .add fun v5 bd=>?_
 conv=>cbv
 have hj:i4.toNat<Aj.length:=by omega
 have hus:T2 Ao Al Aj[i4.toNat].id_=false:=by rw[gD hj (d:=⟨0,tx [],0⟩)];unfold T2;rw[show Al.length+1=i6.toNat by omega];exact hu.symm
 exact .go [7] (v5,ad,ae) (hJ _ ⟨_,ah,Em,by omega,by omega,by rw[show v5.toNat=i4.toNat+1 by omega,Ey hj,←hx,hus];simp,by omega⟩ mlt)
 conv=>cbv
 refine .go i4.toNat Av fun ab ⟨ac,af,ag⟩ ak=>?_
 conv=>cbv
 refine .one (⟨ac,af,ag⟩:B5) ah rfl fun an z6 ax ao=>?_
 conv=>cbv
 refine .add fun v7 a5=>?_
 conv=>cbv
 have hid:(Aj.getD i4.toNat ⟨0,tx [],0⟩).id_=ac:=by rw[←gD ab,←ak]
 have hus:=Mq (show i6.toNat≤Al.length+1 by omega) hu
 rw[hid]at hus
 exact .go [9] (v7,z6,an) (hJ _ ⟨_,ao,Em,by omega,by omega,by rw[show v7.toNat=i4.toNat+1 by omega,Ey ab,←hx,←ak];simp only[];rw[hus];rfl,by rw[List.length_append,List.length_singleton];omega⟩ mlt)
 conv=>cbv
 have e:(⟨w7,An,Ao,Al,As,Aq⟩:Aa)=C9 (⟨Aj,An,Ao,Al,As,Aq⟩:Aa):=(by unfold C9;dsimp only;rw[hx,List.take_of_length_le (by omega)])
 rw[hr]at e
 simp only[Aa.mk.injEq]at e
 obtain⟨rfl,rfl,rfl,rfl,rfl,rfl⟩:=e
 exact hQ _ _ (.one (.inl rfl) rfl (.agg (.ref rfl (Ae ah) (Cz ah Eb) (.d rfl (Aw At Eg) (.d rfl (Aw Ax Ed) (.d rfl (Aw Ay D7) (.d rfl rfl (.d rfl rfl (.nil))))))) .nil))
theorem P8(Av:Aj.map A5=Bk)(At:An.map Ad=Bh)(Ax:Ao.map Ad=Bg)(Ay:Al.map cS=Bi)(hn:Aj.length≤1000000000)(he:An.length≤1000000000)(ho:Ao.length≤1000000000)(hs:Al.length<1000000000)(hss:okS Al)(a6:Hz (⟨Aj,An,Ao,Al,As,Aq⟩:Aa))(hm:name.size≤1000000000)(hr:Ap (⟨Aj,An,Ao,Al,As,Aq⟩:Aa) name=(⟨F2,Fy,F3,Fz,G8,G9⟩,ob))(A7:F2.map A5=Co)(A9:Fy.map Ad=Cn)(A8:F3.map Ad=Cm)(Ba:Fz.map cS=Cp):Fn Tryz.prog 223 [.agg [.d (.row 3 Bk),.d (.row 2 Bh),.d (.row 2 Bg),.d (.row 1 Bi),I As,I Aq],S name] [] ⟨.tup [.agg [.d (.row 3 Co),.d (.row 2 Cn),.d (.row 2 Cm),.d (.row 1 Cp),I G8,I G9],I ob],[],[]⟩:=by
 refine Fn.go Hv Tryz.func223 fun P hP Q hQ=>?_
 conv=>cbv
 obtain⟨n2,a7⟩:∃m,m=Aj.length:=⟨_,rfl⟩
 obtain⟨n3,a8⟩:∃m,m=An.length:=⟨_,rfl⟩
 obtain⟨n4,a9⟩:∃m,m=Ao.length:=⟨_,rfl⟩
 obtain⟨n5,ba⟩:∃m,m=Al.length:=⟨_,rfl⟩
 refine .ddN hP (F9 Av At Ax Ay (by omega) (by omega) (by omega) (by omega) a7 a8 a9 ba) rfl ?_
 conv=>cbv
 generalize aa:Bp (⟨Aj,An,Ao,Al,As,Aq⟩:Aa)=r6
 refine .lnt hP (Hn Av At Ax Ay a6 aa) (.agg (.ref rfl (Ae Av) (.ref rfl (Ae At) (.ref rfl (Ae Ax) (.ref rfl (Ae Ay) (.d rfl (.d rfl .nil)))))) .nil) ?_
 cases r6
 conv=>cbv
 have e:((⟨Aj,An,Ao,Al,As,Aq⟩:Aa),3)=Ap (⟨Aj,An,Ao,Al,As,Aq⟩:Aa) name:=(by unfold Ap;rw[if_pos aa])
 rw[hr]at e
 simp only[Prod.mk.injEq,Aa.mk.injEq]at e
 obtain⟨⟨rfl,rfl,rfl,rfl,rfl,rfl⟩,rfl⟩:=e
 refine hQ _ _ ?_
 exact .many (.inl rfl) rfl rfl (.agg (.ref rfl (Ae Av) (Cz Av A7) (.ref rfl (Ae At) (Cz At A9) (.ref rfl (Ae Ax) (Cz Ax A8) (.ref rfl (Ae Ay) (Cz Ay Ba) (.d rfl rfl (.d rfl rfl (.nil))))))) (.d rfl rfl (.nil)))
 conv=>cbv
 generalize ab:Bl name=r7
 refine .dd hP (Ii (by omega) ab) ?_
 cases r7
 conv=>cbv
 have e:((⟨Aj,An,Ao,Al,As,Aq⟩:Aa),1)=Ap (⟨Aj,An,Ao,Al,As,Aq⟩:Aa) name:=(by unfold Ap;rw[if_neg (by rw[aa];decide),if_pos ab])
 rw[hr]at e
 simp only[Prod.mk.injEq,Aa.mk.injEq]at e
 obtain⟨⟨rfl,rfl,rfl,rfl,rfl,rfl⟩,rfl⟩:=e
 refine hQ _ _ ?_
 exact .many (.inl rfl) rfl rfl (.agg (.ref rfl (Ae Av) (Cz Av A7) (.ref rfl (Ae At) (Cz At A9) (.ref rfl (Ae Ax) (Cz Ax A8) (.ref rfl (Ae Ay) (Cz Ay Ba) (.d rfl rfl (.d rfl rfl (.nil))))))) (.d rfl rfl (.nil)))
 conv=>cbv
 generalize ak:Dg An name=r8
 refine .lnt hP (Gy At (by omega) ak) (.ref rfl (Ae At) (.d rfl .nil)) ?_
 cases r8
 conv=>cbv
 refine .go fun v9 bl=>?_
 conv=>cbv
 refine .geq (fun h10=>?_) fun h10=>?_
 conv=>cbv
 have e:((⟨Aj,An,Ao,Al,As,Aq⟩:Aa),4)=Ap (⟨Aj,An,Ao,Al,As,Aq⟩:Aa) name:=(by unfold Ap;rw[if_neg (by rw[aa];decide),if_neg (by rw[ab];decide),if_neg (by have:=Ny ak;dsimp only;omega),if_pos (by dsimp only;omega)])
 rw[hr]at e
 simp only[Prod.mk.injEq,Aa.mk.injEq]at e
 obtain⟨⟨rfl,rfl,rfl,rfl,rfl,rfl⟩,rfl⟩:=e
 refine hQ _ _ ?_
 exact .many (.inl rfl) rfl rfl (.agg (.ref rfl (Ae Av) (Cz Av A7) (.ref rfl (Ae At) (Cz At A9) (.ref rfl (Ae Ax) (Cz Ax A8) (.ref rfl (Ae Ay) (Cz Ay Ba) (.d rfl rfl (.d rfl rfl (.nil))))))) (.d rfl rfl (.nil)))
 conv=>cbv
 refine .go fun bm be=>?_
 conv=>cbv
 refine .geq (fun h12=>?_) fun h12=>?_
 conv=>cbv
 have e:((⟨Aj,An,Ao,Al,As,Aq⟩:Aa),4)=Ap (⟨Aj,An,Ao,Al,As,Aq⟩:Aa) name:=(by unfold Ap;rw[if_neg (by rw[aa];decide),if_neg (by rw[ab];decide),if_neg (by have:=Ny ak;dsimp only;omega),if_pos (by dsimp only;omega)])
 rw[hr]at e
 simp only[Prod.mk.injEq,Aa.mk.injEq]at e
 obtain⟨⟨rfl,rfl,rfl,rfl,rfl,rfl⟩,rfl⟩:=e
 refine hQ _ _ ?_
 exact .many (.inl rfl) rfl rfl (.agg (.ref rfl (Ae Av) (Cz Av A7) (.ref rfl (Ae At) (Cz At A9) (.ref rfl (Ae Ax) (Cz Ax A8) (.ref rfl (Ae Ay) (Cz Ay Ba) (.d rfl rfl (.d rfl rfl (.nil))))))) (.d rfl rfl (.nil)))
 conv=>cbv
 refine .geq (fun h13=>?_) fun h13=>?_
 conv=>cbv
 have e:((⟨Aj,An,Ao,Al,As,Aq⟩:Aa),4)=Ap (⟨Aj,An,Ao,Al,As,Aq⟩:Aa) name:=(by unfold Ap;rw[if_neg (by rw[aa];decide),if_neg (by rw[ab];decide),if_neg (by have:=Ny ak;dsimp only;omega),if_pos (by dsimp only;omega)])
 rw[hr]at e
 simp only[Prod.mk.injEq,Aa.mk.injEq]at e
 obtain⟨⟨rfl,rfl,rfl,rfl,rfl,rfl⟩,rfl⟩:=e
 refine hQ _ _ ?_
 exact .many (.inl rfl) rfl rfl (.agg (.ref rfl (Ae Av) (Cz Av A7) (.ref rfl (Ae At) (Cz At A9) (.ref rfl (Ae Ax) (Cz Ax A8) (.ref rfl (Ae Ay) (Cz Ay Ba) (.d rfl rfl (.d rfl rfl (.nil))))))) (.d rfl rfl (.nil)))
 conv=>cbv
 have hri:=Hg aa
 simp only[]at hri
 refine .one (⟨Aq,tx [],0⟩:B5) Av rfl fun bf bn bb ao=>?_
 conv=>cbv
 generalize ap:Ci An (⟨name,Aq⟩:Ag)=ax
 generalize aq:ax.map Ad=bg
 refine .lntD hP (Ig At (by omega) ap aq) (.ref rfl (Ae At) (.agg (.d rfl (.d rfl .nil)) .nil)) ?_
 conv=>cbv
 have hnz:=Rz ab
 refine .litL 1 fun bo ay bh=>?_
 conv=>cbv
 refine .litR 1 fun bp az bi=>?_
 conv=>cbv
 generalize al:Cr Aq=bq
 refine .dd hP (Ss (by unfold XbA;omega) al) ?_
 conv=>cbv
 have zr18:=Pd al (by unfold XbA;omega)
 refine .go fun aw a0 bj=>?_
 conv=>cbv
 refine .one aw Ay rfl fun bk bs bc ar=>?_
 conv=>cbv
 refine .add fun bd a1=>?_
 conv=>cbv
 rcases au:C9 (⟨Aj++[(⟨Aq,tx [],0⟩:B5)],ax,Ao,Al++[aw],As,bd⟩:Aa)with⟨ag,ah,ai,aj,am,an⟩
 generalize ac:ag.map A5=a2
 generalize ad:ah.map Ad=a3
 generalize ae:ai.map Ad=a4
 generalize af:aj.map cS=a5
 refine .lntD hP (Vj ao aq Ax ar (by rw[List.length_append,List.length_singleton];omega) (by omega) (by rw[List.length_append,List.length_singleton];omega) (N9 hss (by omega)) au ac ad ae af) (.agg (.ref rfl (Ae ao) (.d rfl (.ref rfl (Ae Ax) (.ref rfl (Ae ar) (.d rfl (.d rfl .nil)))))) .nil) ?_
 conv=>cbv
 have e:((⟨ag,ah,ai,aj,am,an⟩:Aa),0)=Ap (⟨Aj,An,Ao,Al,As,Aq⟩:Aa) name:=(by unfold Ap;rw[if_neg (by rw[aa];decide),if_neg (by rw[ab];decide),if_neg (by have:=Ny ak;dsimp only;omega),if_neg (by dsimp only;omega)];exact congrArg (fun x:Aa=>(x,(0:Int))) (au.symm.trans (by rw[←ap,a1,show aw=tx [43]++name++tx [58]++Cr Aq from(by rw[a0,az,ay,al];rfl)];exact Sa aa ab)))
 rw[hr]at e
 simp only[Prod.mk.injEq,Aa.mk.injEq]at e
 obtain⟨⟨rfl,rfl,rfl,rfl,rfl,rfl⟩,rfl⟩:=e
 refine hQ _ _ ?_
 exact .many (.inl rfl) rfl rfl (.agg (.d rfl (Aw ac A7) (.d rfl (Aw ad A9) (.d rfl (Aw ae A8) (.d rfl (Aw af Ba) (.d rfl rfl (.d rfl rfl (.nil))))))) (.d rfl rfl (.nil)))
 conv=>cbv
 have e:((⟨Aj,An,Ao,Al,As,Aq⟩:Aa),2)=Ap (⟨Aj,An,Ao,Al,As,Aq⟩:Aa) name:=(by unfold Ap;rw[if_neg (by rw[aa];decide),if_neg (by rw[ab];decide),if_pos (Qt ak)])
 rw[hr]at e
 simp only[Prod.mk.injEq,Aa.mk.injEq]at e
 obtain⟨⟨rfl,rfl,rfl,rfl,rfl,rfl⟩,rfl⟩:=e
 refine hQ _ _ ?_
 exact .many (.inl rfl) rfl rfl (.agg (.ref rfl (Ae Av) (Cz Av A7) (.ref rfl (Ae At) (Cz At A9) (.ref rfl (Ae Ax) (Cz Ax A8) (.ref rfl (Ae Ay) (Cz Ay Ba) (.d rfl rfl (.d rfl rfl (.nil))))))) (.d rfl rfl (.nil)))
theorem Dp{text:ByteArray}(Av:Aj.map A5=Bk)(At:An.map Ad=Bh)(Ax:Ao.map Ad=Bg)(Ay:Al.map cS=Bi)(hn:Aj.length≤1000000000)(he:An.length≤1000000000)(ho:Ao.length≤1000000000)(hs:Al.length<1000000000)(hss:okS Al)(aj:Hz (⟨Aj,An,Ao,Al,As,Aq⟩:Aa))(ht:text.size≤1000000000)(hr:Ai (⟨Aj,An,Ao,Al,As,Aq⟩:Aa) name text=(⟨F2,Fy,F3,Fz,G8,G9⟩,ob))(A7:F2.map A5=Co)(A9:Fy.map Ad=Cn)(A8:F3.map Ad=Cm)(Ba:Fz.map cS=Cp):Fn Tryz.prog 145 [.agg [.d (.row 3 Bk),.d (.row 2 Bh),.d (.row 2 Bg),.d (.row 1 Bi),I As,I Aq],S name,S text] [] ⟨.tup [.agg [.d (.row 3 Co),.d (.row 2 Cn),.d (.row 2 Cm),.d (.row 1 Cp),I G8,I G9],I ob],[],[]⟩:=by
 refine Fn.go Hv Tryz.func145 fun P hP Q hQ=>?_
 conv=>cbv
 obtain⟨n2,a4⟩:∃m,m=Aj.length:=⟨_,rfl⟩
 obtain⟨n3,a5⟩:∃m,m=An.length:=⟨_,rfl⟩
 obtain⟨n4,a6⟩:∃m,m=Ao.length:=⟨_,rfl⟩
 obtain⟨n5,a7⟩:∃m,m=Al.length:=⟨_,rfl⟩
 refine .ddN hP (F9 Av At Ax Ay (by omega) (by omega) (by omega) (by omega) a4 a5 a6 a7) rfl ?_
 conv=>cbv
 generalize ah:Bp (⟨Aj,An,Ao,Al,As,Aq⟩:Aa)=r6
 refine .lnt hP (Hn Av At Ax Ay aj ah) (.agg (.ref rfl (Ae Av) (.ref rfl (Ae At) (.ref rfl (Ae Ax) (.ref rfl (Ae Ay) (.d rfl (.d rfl .nil)))))) .nil) ?_
 cases r6
 conv=>cbv
 have e:((⟨Aj,An,Ao,Al,As,Aq⟩:Aa),3)=Ai (⟨Aj,An,Ao,Al,As,Aq⟩:Aa) name text:=(by unfold Ai;rw[if_pos (.inl ah)])
 rw[hr]at e
 simp only[Prod.mk.injEq,Aa.mk.injEq]at e
 obtain⟨⟨rfl,rfl,rfl,rfl,rfl,rfl⟩,rfl⟩:=e
 refine hQ _ _ ?_
 exact .many (.inl rfl) rfl rfl (.agg (.ref rfl (Ae Av) (Cz Av A7) (.ref rfl (Ae At) (Cz At A9) (.ref rfl (Ae Ax) (Cz Ax A8) (.ref rfl (Ae Ay) (Cz Ay Ba) (.d rfl rfl (.d rfl rfl (.nil))))))) (.d rfl rfl (.nil)))
 conv=>cbv
 generalize ao:Dg An name=r7
 refine .lnt hP (Gy At (by omega) ao) (.ref rfl (Ae At) (.d rfl .nil)) ?_
 cases r7
 conv=>cbv
 have e:((⟨Aj,An,Ao,Al,As,Aq⟩:Aa),3)=Ai (⟨Aj,An,Ao,Al,As,Aq⟩:Aa) name text:=(by unfold Ai;rw[if_pos (.inr (L9 (Ny ao)))])
 rw[hr]at e
 simp only[Prod.mk.injEq,Aa.mk.injEq]at e
 obtain⟨⟨rfl,rfl,rfl,rfl,rfl,rfl⟩,rfl⟩:=e
 refine hQ _ _ ?_
 exact .many (.inl rfl) rfl rfl (.agg (.ref rfl (Ae Av) (Cz Av A7) (.ref rfl (Ae At) (Cz At A9) (.ref rfl (Ae Ax) (Cz Ax A8) (.ref rfl (Ae Ay) (Cz Ay Ba) (.d rfl rfl (.d rfl rfl (.nil))))))) (.d rfl rfl (.nil)))
 conv=>cbv
 generalize ar:B6 An name=r8
 refine .lnt hP (Ga At (by omega) ar) (.ref rfl (Ae At) (.d rfl .nil)) ?_
 conv=>cbv
 generalize au:Ez (⟨Aj,An,Ao,Al,As,Aq⟩:Aa) r8=r9
 refine .lnt hP (Kb Av At Ax Ay (by omega) au) (.agg (.ref rfl (Ae Av) (.ref rfl (Ae At) (.ref rfl (Ae Ax) (.ref rfl (Ae Ay) (.d rfl (.d rfl .nil)))))) (.d rfl .nil)) ?_
 conv=>cbv
 have hpl:=Qt ao
 have hk:Cj (⟨Aj,An,Ao,Al,As,Aq⟩:Aa) name=r9:=by rw[←Md (d:=(⟨Aj,An,Ao,Al,As,Aq⟩:Aa)) hpl];show Ez _ (B6 An name)=r9;rw[ar,au]
 have hb:=Gr hk
 have a8:=(Ue ah hpl).2
 rw[hk]at a8
 simp only[]at hb
 generalize af:Gf (⟨Aj,An,Ao,Al,As,Aq⟩:Aa)=aw
 refine .lnt hP (Wy Av At Ax Ay aj.1 af) (.agg (.ref rfl (Ae Av) (.ref rfl (Ae At) (.ref rfl (Ae Ax) (.ref rfl (Ae Ay) (.d rfl (.d rfl .nil)))))) .nil) ?_
 conv=>cbv
 have hri:=Hg ah
 simp only[af]at hri
 refine .sub fun bf ax=>?_
 conv=>cbv
 refine .go fun bg bb=>?_
 conv=>cbv
 refine .gtr (fun h13=>?_) fun h13=>?_
 conv=>cbv
 refine .go r9.toNat fun ai ay ap=>?_
 conv=>cbv
 refine .go Av fun ae ⟨aq,aa,ak⟩ ab=>?_
 conv=>cbv
 have az:aa.size≤1000000000:=by have h9:=aj.1.2.1 _ (List.getElem_mem ae);rw[←ab]at h9;exact h9
 refine .hi fun al ag=>?_
 conv=>cbv
 have bc:al.size≤text.size:=by rw[ag,ByteArray.size_extract];omega
 refine .go fun a0 a1 bd=>?_
 conv=>cbv
 refine .go r9.toNat fun ac a2 a9=>?_
 conv=>cbv
 refine .go (⟨(Aj.getD ac ⟨0,tx [],0⟩).id_,a0,(Aj.getD ac ⟨0,tx [],0⟩).sure_⟩:B5) Av (by omega) (by rw[←gD (show ac<Aj.length by omega)];rfl) (show 1+1≤3 by decide) fun bh am=>?_
 conv=>cbv
 have e:((⟨Aj.set ac (⟨(Aj.getD ac ⟨0,tx [],0⟩).id_,a0,(Aj.getD ac ⟨0,tx [],0⟩).sure_⟩:B5),An,Ao,Al,As,Aq⟩:Aa),5)=Ai (⟨Aj,An,Ao,Al,As,Aq⟩:Aa) name text:=(by unfold Ai;rw[if_neg (by rintro(h|h);rw[ah]at h;cases h;rw[hk]at h;omega),hk,af];dsimp only;rw[if_pos (by omega)];unfold XhW gN;dsimp only;have e9:aa=(Aj.getD ac ⟨0,tx [],0⟩).text_:=(by have h9:ai=ac:=(by omega);subst h9;rw[←gD (show ai<Aj.length by omega),←ab]);rw[←a2,a1,e9,ag,ax,show min (text.size:Int) (As - aw)=As - aw by omega])
 rw[hr]at e
 simp only[Prod.mk.injEq,Aa.mk.injEq]at e
 obtain⟨⟨rfl,rfl,rfl,rfl,rfl,rfl⟩,rfl⟩:=e
 refine hQ _ _ ?_
 exact .many (.inl rfl) rfl rfl (.agg (.ref rfl (Ae am) (Cz am A7) (.ref rfl (Ae At) (Cz At A9) (.ref rfl (Ae Ax) (Cz Ax A8) (.ref rfl (Ae Ay) (Cz Ay Ba) (.d rfl rfl (.d rfl rfl (.nil))))))) (.d rfl rfl (.nil)))
 conv=>cbv
 refine .go r9.toNat fun ai ay ap=>?_
 conv=>cbv
 refine .go Av fun ae ⟨aq,aa,ak⟩ ab=>?_
 conv=>cbv
 have az:aa.size≤1000000000:=by have h9:=aj.1.2.1 _ (List.getElem_mem ae);rw[←ab]at h9;exact h9
 refine .go fun al ag be=>?_
 conv=>cbv
 refine .go r9.toNat fun ad a3 ba=>?_
 conv=>cbv
 refine .go (⟨(Aj.getD ad ⟨0,tx [],0⟩).id_,al,(Aj.getD ad ⟨0,tx [],0⟩).sure_⟩:B5) Av (by omega) (by rw[←gD (show ad<Aj.length by omega)];rfl) (show 1+1≤3 by decide) fun bi an=>?_
 conv=>cbv
 have e:((⟨Aj.set ad (⟨(Aj.getD ad ⟨0,tx [],0⟩).id_,al,(Aj.getD ad ⟨0,tx [],0⟩).sure_⟩:B5),An,Ao,Al,As,Aq⟩:Aa),0)=Ai (⟨Aj,An,Ao,Al,As,Aq⟩:Aa) name text:=(by unfold Ai;rw[if_neg (by rintro(h|h);rw[ah]at h;cases h;rw[hk]at h;omega),hk,af];dsimp only;rw[if_neg (by omega)];unfold XhW gN;dsimp only;have e9:aa=(Aj.getD ad ⟨0,tx [],0⟩).text_:=(by have h9:ai=ad:=(by omega);subst h9;rw[←gD (show ai<Aj.length by omega),←ab]);rw[←a3,ag,e9,Oh (t:=text) (by omega)])
 rw[hr]at e
 simp only[Prod.mk.injEq,Aa.mk.injEq]at e
 obtain⟨⟨rfl,rfl,rfl,rfl,rfl,rfl⟩,rfl⟩:=e
 refine hQ _ _ ?_
 exact .many (.inl rfl) rfl rfl (.agg (.ref rfl (Ae an) (Cz an A7) (.ref rfl (Ae At) (Cz At A9) (.ref rfl (Ae Ax) (Cz Ax A8) (.ref rfl (Ae Ay) (Cz Ay Ba) (.d rfl rfl (.d rfl rfl (.nil))))))) (.d rfl rfl (.nil)))
theorem Pb(Av:Aj.map A5=Bk)(At:An.map Ad=Bh)(Ax:Ao.map Ad=Bg)(Ay:Al.map cS=Bi)(hn:Aj.length≤1000000000)(he:An.length≤1000000000)(ho:Ao.length≤1000000000)(hs:Al.length<1000000000)(hss:okS Al)(an:Hz (⟨Aj,An,Ao,Al,As,Aq⟩:Aa))(hr:By (⟨Aj,An,Ao,Al,As,Aq⟩:Aa) name=(⟨F2,Fy,F3,Fz,G8,G9⟩,ob))(A7:F2.map A5=Co)(A9:Fy.map Ad=Cn)(A8:F3.map Ad=Cm)(Ba:Fz.map cS=Cp):Fn Tryz.prog 222 [.agg [.d (.row 3 Bk),.d (.row 2 Bh),.d (.row 2 Bg),.d (.row 1 Bi),I As,I Aq],S name] [] ⟨.tup [.agg [.d (.row 3 Co),.d (.row 2 Cn),.d (.row 2 Cm),.d (.row 1 Cp),I G8,I G9],I ob],[],[]⟩:=by
 refine Fn.go Hv Tryz.func222 fun P hP Q hQ=>?_
 conv=>cbv
 obtain⟨n2,ao⟩:∃m,m=Aj.length:=⟨_,rfl⟩
 obtain⟨n3,ap⟩:∃m,m=An.length:=⟨_,rfl⟩
 obtain⟨n4,aq⟩:∃m,m=Ao.length:=⟨_,rfl⟩
 obtain⟨n5,ar⟩:∃m,m=Al.length:=⟨_,rfl⟩
 refine .ddN hP (F9 Av At Ax Ay (by omega) (by omega) (by omega) (by omega) ao ap aq ar) rfl ?_
 conv=>cbv
 generalize ab:Bp (⟨Aj,An,Ao,Al,As,Aq⟩:Aa)=r6
 refine .lnt hP (Hn Av At Ax Ay an ab) (.agg (.ref rfl (Ae Av) (.ref rfl (Ae At) (.ref rfl (Ae Ax) (.ref rfl (Ae Ay) (.d rfl (.d rfl .nil)))))) .nil) ?_
 cases r6
 conv=>cbv
 have e:((⟨Aj,An,Ao,Al,As,Aq⟩:Aa),3)=By (⟨Aj,An,Ao,Al,As,Aq⟩:Aa) name:=(by unfold By;rw[if_pos (.inl ab)])
 rw[hr]at e
 simp only[Prod.mk.injEq,Aa.mk.injEq]at e
 obtain⟨⟨rfl,rfl,rfl,rfl,rfl,rfl⟩,rfl⟩:=e
 refine hQ _ _ ?_
 exact .many (.inl rfl) rfl rfl (.agg (.ref rfl (Ae Av) (Cz Av A7) (.ref rfl (Ae At) (Cz At A9) (.ref rfl (Ae Ax) (Cz Ax A8) (.ref rfl (Ae Ay) (Cz Ay Ba) (.d rfl rfl (.d rfl rfl (.nil))))))) (.d rfl rfl (.nil)))
 conv=>cbv
 generalize ae:Dg An name=r7
 refine .lnt hP (Gy At (by omega) ae) (.ref rfl (Ae At) (.d rfl .nil)) ?_
 cases r7
 conv=>cbv
 have e:((⟨Aj,An,Ao,Al,As,Aq⟩:Aa),3)=By (⟨Aj,An,Ao,Al,As,Aq⟩:Aa) name:=(by unfold By;rw[if_pos (.inr (L9 (Ny ae)))])
 rw[hr]at e
 simp only[Prod.mk.injEq,Aa.mk.injEq]at e
 obtain⟨⟨rfl,rfl,rfl,rfl,rfl,rfl⟩,rfl⟩:=e
 refine hQ _ _ ?_
 exact .many (.inl rfl) rfl rfl (.agg (.ref rfl (Ae Av) (Cz Av A7) (.ref rfl (Ae At) (Cz At A9) (.ref rfl (Ae Ax) (Cz Ax A8) (.ref rfl (Ae Ay) (Cz Ay Ba) (.d rfl rfl (.d rfl rfl (.nil))))))) (.d rfl rfl (.nil)))
 conv=>cbv
 generalize af:B6 An name=r8
 refine .lnt hP (Ga At (by omega) af) (.ref rfl (Ae At) (.d rfl .nil)) ?_
 conv=>cbv
 generalize ag:Ez (⟨Aj,An,Ao,Al,As,Aq⟩:Aa) r8=r9
 refine .lnt hP (Kb Av At Ax Ay (by omega) ag) (.agg (.ref rfl (Ae Av) (.ref rfl (Ae At) (.ref rfl (Ae Ax) (.ref rfl (Ae Ay) (.d rfl (.d rfl .nil)))))) (.d rfl .nil)) ?_
 conv=>cbv
 have hpl:=Qt ae
 have hk:Cj (⟨Aj,An,Ao,Al,As,Aq⟩:Aa) name=r9:=by rw[←Md (d:=(⟨Aj,An,Ao,Al,As,Aq⟩:Aa)) hpl];show Ez _ (B6 An name)=r9;rw[af,ag]
 have hb:=Gr hk
 have au:=(Ue ab hpl).2
 rw[hk]at au
 simp only[]at hb
 refine .go r9.toNat fun ah a0 aw=>?_
 conv=>cbv
 refine .go Av fun ax ⟨ay,ac,am⟩ ai=>?_
 conv=>cbv
 refine .go fun aj ak=>?_
 conv=>cbv
 refine .go r9.toNat fun aa al az=>?_
 conv=>cbv
 refine .go (⟨(Aj.getD aa ⟨0,tx [],0⟩).id_,(Aj.getD aa ⟨0,tx [],0⟩).text_,aj⟩:B5) Av (by omega) (by rw[←gD (show aa<Aj.length by omega)];rfl) (show 2+1≤3 by decide) fun a1 ad=>?_
 conv=>cbv
 have e:((⟨Aj.set aa (⟨(Aj.getD aa ⟨0,tx [],0⟩).id_,(Aj.getD aa ⟨0,tx [],0⟩).text_,aj⟩:B5),An,Ao,Al,As,Aq⟩:Aa),0)=By (⟨Aj,An,Ao,Al,As,Aq⟩:Aa) name:=(by unfold By;rw[if_neg (by rintro(h|h);rw[ab]at h;cases h;rw[hk]at h;omega),hk];dsimp only;have e9:ac=(Aj.getD aa ⟨0,tx [],0⟩).text_:=(by have h9:ah=aa:=(by omega);subst h9;rw[←gD (show ah<Aj.length by omega),←ai]);rw[ak,e9,←al])
 rw[hr]at e
 simp only[Prod.mk.injEq,Aa.mk.injEq]at e
 obtain⟨⟨rfl,rfl,rfl,rfl,rfl,rfl⟩,rfl⟩:=e
 refine hQ _ _ ?_
 exact .many (.inl rfl) rfl rfl (.agg (.ref rfl (Ae ad) (Cz ad A7) (.ref rfl (Ae At) (Cz At A9) (.ref rfl (Ae Ax) (Cz Ax A8) (.ref rfl (Ae Ay) (Cz Ay Ba) (.d rfl rfl (.d rfl rfl (.nil))))))) (.d rfl rfl (.nil)))
theorem S3(Av:Aj.map A5=Bk)(At:An.map Ad=Bh)(Ax:Ao.map Ad=Bg)(Ay:Al.map cS=Bi)(hn:Aj.length≤1000000000)(he:An.length≤1000000000)(ho:Ao.length≤1000000000)(hs:Al.length<1000000000)(hss:okS Al)(ar:Hz (⟨Aj,An,Ao,Al,As,Aq⟩:Aa))(hr:Cc (⟨Aj,An,Ao,Al,As,Aq⟩:Aa)=⟨onod,oent,oold,oste,oroo,onex⟩)(Eb:onod.map A5=De)(Eg:oent.map Ad=Dd)(Ed:oold.map Ad=Db)(D7:oste.map cS=Dc):Fn Tryz.prog 224 [.agg [.d (.row 3 Bk),.d (.row 2 Bh),.d (.row 2 Bg),.d (.row 1 Bi),I As,I Aq]] [] ⟨.agg [.d (.row 3 De),.d (.row 2 Dd),.d (.row 2 Db),.d (.row 1 Dc),I oroo,I onex],[],[]⟩:=by
 refine Fn.go Hv Tryz.func224 fun P hP Q hQ=>?_
 conv=>cbv
 obtain⟨n2,au⟩:∃m,m=Aj.length:=⟨_,rfl⟩
 obtain⟨n3,aw⟩:∃m,m=An.length:=⟨_,rfl⟩
 obtain⟨n4,ax⟩:∃m,m=Ao.length:=⟨_,rfl⟩
 obtain⟨n5,ay⟩:∃m,m=Al.length:=⟨_,rfl⟩
 refine .ddN hP (F9 Av At Ax Ay (by omega) (by omega) (by omega) (by omega) au aw ax ay) rfl ?_
 conv=>cbv
 generalize ai:Bp (⟨Aj,An,Ao,Al,As,Aq⟩:Aa)=r6
 refine .lnt hP (Hn Av At Ax Ay ar ai) (.agg (.ref rfl (Ae Av) (.ref rfl (Ae At) (.ref rfl (Ae Ax) (.ref rfl (Ae Ay) (.d rfl (.d rfl .nil)))))) .nil) ?_
 cases r6
 conv=>cbv
 have e:(⟨Aj,An,Ao,Al,As,Aq⟩:Aa)=Cc (⟨Aj,An,Ao,Al,As,Aq⟩:Aa):=(by unfold Cc;rw[if_pos ai])
 rw[hr]at e
 simp only[Aa.mk.injEq]at e
 obtain⟨rfl,rfl,rfl,rfl,rfl,rfl⟩:=e
 exact hQ _ _ (.one (.inl rfl) rfl (.agg (.ref rfl (Ae Av) (Cz Av Eb) (.ref rfl (Ae At) (Cz At Eg) (.ref rfl (Ae Ax) (Cz Ax Ed) (.ref rfl (Ae Ay) (Cz Ay D7) (.d rfl rfl (.d rfl rfl (.nil))))))) .nil))
 conv=>cbv
 refine .sub0 At fun a0 z7 az al=>?_
 conv=>cbv
 rcases am:C9 (⟨Aj,An,An,[],As,Aq⟩:Aa)with⟨ae,af,ag,ah,aj,ak⟩
 generalize aa:ae.map A5=an
 generalize ab:af.map Ad=ao
 generalize ac:ag.map Ad=ap
 generalize ad:ah.map cS=aq
 refine .lntD hP (Vj Av At al rfl (by omega) (by omega) (by simp) (fun _ h=>by cases h) am aa ab ac ad) (.agg (.ref rfl (Ae Av) (.ref rfl (Ae At) (.ref rfl (Ae al) (.ref rfl rfl (.d rfl (.d rfl .nil)))))) .nil) ?_
 conv=>cbv
 have e:(⟨ae,af,ag,ah,aj,ak⟩:Aa)=Cc (⟨Aj,An,Ao,Al,As,Aq⟩:Aa):=(by unfold Cc;rw[if_neg (by rw[ai];decide)];dsimp only;rw[←am];exact Py (d:=⟨Aj,An,An,[],As,Aq⟩) trivial)
 rw[hr]at e
 simp only[Aa.mk.injEq]at e
 obtain⟨rfl,rfl,rfl,rfl,rfl,rfl⟩:=e
 exact hQ _ _ (.one (.inl rfl) rfl (.agg (.d rfl (Aw aa Eb) (.d rfl (Aw ab Eg) (.d rfl (Aw ac Ed) (.d rfl (Aw ad D7) (.d rfl rfl (.d rfl rfl (.nil))))))) .nil))
end
section
open Go Go.Proofs
set_option maxRecDepth 20000
set_option maxHeartbeats 4000000
theorem Xbl{α:Type}{f:α→Int}(h0:∀x,0≤f x):∀{l:List α} {x:α},x∈l→∀a,a+f x≤(l.map f).foldl (·+·) a
 |[],_,h,_=>by cases h
 |y::l,x,h,a=>by
  rw[List.map_cons,List.foldl_cons]
  rcases List.mem_cons.1 h with rfl|h
  ·exact Xag h0
  ·have h1:=Xbl h0 h (a+f y)
   have:=h0 y
   omega
theorem XfV{d:Aa}{n:B5}(h:n∈d.nodes_):(n.text_.size:Int)≤Gf d:=by
 have:=Xbl (f:=fun n:B5=>(n.text_.size:Int)) (fun x=>by omega) h 0
 unfold Gf XhT
 omega
theorem XdV{d:Aa}{i:Int}{x:B5}(h:Hz d)(hx:x.text_.size≤1000000000):Hz (XhW d i x):=by
 obtain⟨⟨h1,h2,h3⟩,h4⟩:=h
 refine⟨⟨by show(d.nodes_.set _ _).length≤_;rw[List.length_set];exact h1,?_,h3⟩,h4⟩
 intro n hn
 rcases List.mem_or_eq_of_mem_set hn with hn|rfl
 ·exact h2 n hn
 ·exact hx
theorem XgT{d:Aa}{i:Int}(h0:0≤i)(h1:i<d.nodes_.length):gN d i∈d.nodes_:=by
 unfold gN
 have hk:i.toNat<d.nodes_.length:=by omega
 rw[←gD hk]
 exact List.getElem_mem hk
theorem Vz{d:Aa}{s:ByteArray}(h:Hz d)(he:d.entries_.length≤1000000)(hs:s.size≤1000000000)(hl:d.steps_.length<1000000000):Hz (K2 d s):=by
 obtain⟨⟨h1,h2,h3,h4,h5,h6⟩,h7,h8⟩:=h
 obtain⟨e,b,hy⟩:∃e b,Bb d.entries_ s=(e,b):=⟨_,_,rfl⟩
 have hlen:=Te hy
 have hok:=Xbu (l:=d.entries_) h4 hs hy
 unfold K2
 rw[hy]
 refine⟨⟨?_,?_,by show e.length≤_;omega,hok,h5,by rw[List.length_append,List.length_singleton];omega⟩,h7,N9 h8 hs⟩
 ·exact Nat.le_trans (List.length_filter_le _ _) h1
 ·intro n hn
  exact h2 n (List.mem_filter.1 hn).1
def okG(d d':Aa):Prop:=Hz d'∧d'.steps_.length≤d.steps_.length+1
theorem Hu{d:Aa}(h:Hz d):okG d d:=⟨h,Nat.le_succ _⟩
theorem U7{d:Aa}(h:Bp d=true):d.entries_.length≤16:=Xbz (Nu h).2.2
section
variable {d:Aa} {name text a b:ByteArray}
theorem Gb(h:Hz d)(hl:d.steps_.length<1000000000)(hm:name.size≤500000000):okG d (Ap d name).1:=by
 unfold Ap
 split
 ·exact Hu h
 ·rename_i hr
  have hr:=by simpa using hr
  split
  ·exact Hu h
  ·split
   ·exact Hu h
   ·split
    ·exact Hu h
    ·rename_i hc
     have hri:=Hg hr
     have hz:=Pd (rfl:Cr d.next_=_) (by unfold XbA;omega)
     refine⟨Vz ?_ (by show d.entries_.length≤_;omega) ?_ hl,by show(d.steps_++[_]).length≤_;rw[List.length_append];exact Nat.le_refl _⟩
     ·obtain⟨⟨h1,h2,h3⟩,h4⟩:=h
      refine⟨⟨by show(d.nodes_++[_]).length≤_;rw[List.length_append,List.length_singleton];omega,?_,h3⟩,h4⟩
      intro n hn
      rcases List.mem_append.1 hn with hn|hn
      ·exact h2 n hn
      ·rw[List.mem_singleton.1 hn]
       exact Nat.zero_le _
     ·simp only[ByteArray.size_append,Bo,List.length_singleton]
      omega
theorem O4(h:Hz d)(hl:d.steps_.length<1000000000)(hm:name.size≤500000000):okG d (Ce d name).1:=by
 unfold Ce
 split
 ·exact Hu h
 ·rename_i hr
  have hr:Bp d=true:=by
   cases hc:Bp d
   ·exact absurd (.inl hc) hr
   ·rfl
  refine⟨Vz h (by have:=U7 hr;omega) ?_ hl,by show(d.steps_++[_]).length≤_;rw[List.length_append];exact Nat.le_refl _⟩
  simp only[ByteArray.size_append,Bo,List.length_singleton]
  omega
theorem Xh(h:Hz d)(hl:d.steps_.length<1000000000)(ha:a.size≤400000000)(hb:b.size≤400000000):okG d (Cu d a b).1:=by
 unfold Cu
 split
 ·exact Hu h
 ·rename_i hr
  have hr:Bp d=true:=by
   cases hc:Bp d
   ·exact absurd (.inl hc) hr
   ·rfl
  split
  ·exact Hu h
  ·refine⟨Vz h (by have:=U7 hr;omega) ?_ hl,by show(d.steps_++[_]).length≤_;rw[List.length_append];exact Nat.le_refl _⟩
   simp only[ByteArray.size_append,Bo,List.length_singleton]
   omega
theorem F7(h:Hz d):okG d (Ai d name text).1:=by
 unfold Ai
 split
 ·exact Hu h
 ·rename_i hr
  have hk:0≤Cj d name:=Int.not_lt.1 fun k=>hr (.inr k)
  have hr:Bp d=true:=by
   cases hc:Bp d
   ·exact absurd (.inl hc) hr
   ·rfl
  have hri:=Hg hr
  have hu:=XfV (XgT hk (Gr rfl).2)
  refine⟨XdV h ?_,Nat.le_succ _⟩
  show((gN d (Cj d name)).text_++text.extract 0 _).size≤_
  rw[ByteArray.size_append,ByteArray.size_extract]
  omega
theorem L6(h:Hz d):okG d (By d name).1:=by
 unfold By
 split
 ·exact Hu h
 ·rename_i hr
  have hk:0≤Cj d name:=Int.not_lt.1 fun k=>hr (.inr k)
  refine⟨XdV (i:=Cj d name) h ?_,Nat.le_succ _⟩
  show(gN d (Cj d name)).text_.size≤_
  exact h.1.2.1 _ (XgT hk (Gr rfl).2)
theorem Mr(h:Hz d):okG d (Cc d):=by
 unfold Cc
 split
 ·exact Hu h
 ·obtain⟨⟨h1,h2,h3,h4,h5,h6⟩,h7,h8⟩:=h
  refine⟨⟨⟨Nat.le_trans (List.length_filter_le _ _) h1,fun n hn=>h2 n (List.mem_filter.1 hn).1,h3,h4,h3,Nat.zero_le _⟩,h4,fun _ hs=>by cases hs⟩,Nat.zero_le _⟩
end
end
section
open Go Go.Proofs
set_option maxRecDepth 20000
set_option maxHeartbeats 4000000
end
section
open Go Go.Proofs
set_option maxRecDepth 20000
set_option maxHeartbeats 4000000
end
section
open Go Go.Proofs
set_option maxRecDepth 20000
set_option maxHeartbeats 4000000
def XeS:List (Nat×TyRow):=[ty3,ty5,ty9,XfZ,XaE,Xin,Xit]
theorem Xde:B3 Tryz.prog XeS:=B3.of (by kernel_rfl)
theorem P7:Setup Tryz.prog XeS:=⟨Xde,mixed⟩
theorem Xfn(a:Int):0≤Jz .and .i64 a 255∧Jz .and .i64 a 255≤255:=by
 have h:Jz .and .i64 a 255=IntKind.i64.wrap (BitVec.ofInt 64 a&&&BitVec.ofInt 64 255).toNat:=rfl
 have h2:(BitVec.ofInt 64 a&&&BitVec.ofInt 64 255).toNat≤255:=by
  rw[BitVec.toNat_and]
  exact Nat.le_trans Nat.and_le_right (by decide)
 rw[h,IntKind.wrap_i64]
 omega
theorem and30(a:Int):0≤Jz .and .i64 a 1073741823∧Jz .and .i64 a 1073741823≤1073741823:=by
 have h:Jz .and .i64 a 1073741823=IntKind.i64.wrap (BitVec.ofInt 64 a&&&BitVec.ofInt 64 1073741823).toNat:=rfl
 have h2:(BitVec.ofInt 64 a&&&BitVec.ofInt 64 1073741823).toNat≤1073741823:=by
  rw[BitVec.toNat_and]
  exact Nat.le_trans Nat.and_le_right (by decide)
 rw[h,IntKind.wrap_i64]
 omega
def drH(h:Int):Int:=IntKind.i64.wrap (IntKind.i64.wrap (h*6364136223846793005)+1442695040888963407)
def drX(h:Int):Int:=Jz .and .i64 (Jz .xor .i64 (h/2^ (33:Int).toNat) (h/2^ (45:Int).toNat)) 255
def C1(b:List UInt8)(i h:Int):Int×Int×Int:=if i<b.length then(Jz .and .i64 (drX (drH h)+(b.getD i.toNat 0).toNat) 255,i+1,drH h)else(drX (drH h),i,drH h)
def Ak(b:List UInt8)(i h n:Int):Int×Int×Int:=
 if n≤0 then(0,i,h)else if n≤256 then match C1 b i h with|(x,i,h)=>(x% n,i,h)
 else match C1 b i h with|(x,i,h)=>match C1 b i h with|(y,i,h)=>match C1 b i h with|(z,i,h)=>match C1 b i h with|(w,i,h)=>((x*16777216+y*65536+z*256+w)% n,i,h)
def Bq(b:List UInt8)(i h n:Int):Bool×Int×Int:=match Ak b i h n with|(x,i,h)=>(decide (x=0),i,h)
def B9(b:List UInt8)(i h:Int)(l:List Int):Int×Int×Int:=match Ak b i h l.length with|(x,i,h)=>(l.getD x.toNat 0,i,h)
def XcY(b:List UInt8):Nat→Int→Int→List UInt8×Int×Int
 |0,i,h=>([],i,h)
 |k+1,i,h=>match C1 b i h with|(x,i,h)=>match XcY b k i h with|(l,i,h)=>(UInt8.ofNat x.toNat::l,i,h)
def D6(b:List UInt8)(i h n:Int):ByteArray×Int×Int:=match XcY b (min n 5000).toNat i h with|(l,i,h)=>(tx l,i,h)
def Du(b:List UInt8)(i h:Int):ByteArray×Int×Int:=
 match Ak b i h 6 with|(x,i,h)=>if x=0 then(tx [],i,h)else if x=1 then match Ak b i h 41 with|(y,i,h)=>D6 b i h (20+y)else match Ak b i h 12 with|(y,i,h)=>D6 b i h y
theorem Ef{b:List UInt8}{i h o oi oh:Int}(e:C1 b i h=(o,oi,oh))(hc:0≤i∧i≤b.length∧b.length≤1000000000000):(0≤o∧o≤255)∧0≤oi∧oi≤b.length:=by
 unfold C1 at e
 split at e
 ·simp only[Prod.mk.injEq]at e
  have:=Xfn (drX (drH h)+(b.getD i.toNat 0).toNat)
  omega
 ·simp only[Prod.mk.injEq]at e
  have:0≤drX (drH h)∧drX (drH h)≤255:=Xfn _
  omega
theorem Au{b:List UInt8}{i h n o oi oh:Int}(e:Ak b i h n=(o,oi,oh))(hc:0≤i∧i≤b.length∧b.length≤1000000000000):(0≤o∧(n≤0→o=0)∧(0<n→o<n))∧0≤oi∧oi≤b.length:=by
 unfold Ak at e
 split at e
 ·simp only[Prod.mk.injEq]at e
  omega
 ·split at e
  ·rcases h1:C1 b i h with⟨x,i1,h1'⟩
   have z1:=Ef h1 hc
   simp only[h1,Prod.mk.injEq]at e
   have:=Int.emod_nonneg x (show n≠0 by omega)
   have:=Int.emod_lt_of_pos x (show 0<n by omega)
   omega
  ·rcases h1:C1 b i h with⟨x,i1,h1'⟩
   have z1:=Ef h1 hc
   rcases h2:C1 b i1 h1' with⟨y,i2,h2'⟩
   have z2:=Ef h2 (by omega)
   rcases h3:C1 b i2 h2' with⟨z,i3,h3'⟩
   have z3:=Ef h3 (by omega)
   rcases h4:C1 b i3 h3' with⟨w,i4,h4'⟩
   have z4:=Ef h4 (by omega)
   simp only[h1,h2,h3,h4,Prod.mk.injEq]at e
   have:=Int.emod_nonneg (x*16777216+y*65536+z*256+w) (show n≠0 by omega)
   have:=Int.emod_lt_of_pos (x*16777216+y*65536+z*256+w) (show 0<n by omega)
   omega
theorem Cd{b:List UInt8}{i h n oi oh:Int}{o:Bool}(e:Bq b i h n=(o,oi,oh))(hc:0≤i∧i≤b.length∧b.length≤1000000000000):0≤oi∧oi≤b.length:=by
 unfold Bq at e
 rcases h1:Ak b i h n with⟨x,i1,h1'⟩
 have z1:=Au h1 hc
 simp only[h1,Prod.mk.injEq]at e
 omega
theorem Dy{b:List UInt8}{i h o oi oh:Int}{l:List Int}(e:B9 b i h l=(o,oi,oh))(hc:0≤i∧i≤b.length∧b.length≤1000000000000):0≤oi∧oi≤b.length:=by
 unfold B9 at e
 rcases h1:Ak b i h l.length with⟨x,i1,h1'⟩
 have z1:=Au h1 hc
 simp only[h1,Prod.mk.injEq]at e
 omega
theorem Xg1{b:List UInt8}:∀{k:Nat} {i h oi oh:Int} {l:List UInt8},XcY b k i h=(l,oi,oh)→(0≤i∧i≤b.length∧b.length≤1000000000000)→l.length=k∧0≤oi∧oi≤b.length
 |0,i,h,oi,oh,l,e,hc=>by
  simp only[XcY,Prod.mk.injEq]at e
  rw[←e.1]
  exact⟨rfl,by omega,by omega⟩
 |k+1,i,h,oi,oh,l,e,hc=>by
  rcases h1:C1 b i h with⟨x,i1,h1'⟩
  have z1:=Ef h1 hc
  rcases h2:XcY b k i1 h1' with⟨l2,i2,h2'⟩
  have z2:=Xg1 h2 (by omega)
  simp only[XcY,h1,h2,Prod.mk.injEq]at e
  rw[←e.1,List.length_cons]
  omega
theorem Gq{b:List UInt8}{i h n oi oh:Int}{o:ByteArray}(e:D6 b i h n=(o,oi,oh))(hc:0≤i∧i≤b.length∧b.length≤1000000000000):(o.size≤5000∧(0≤n→(o.size:Int)≤n))∧0≤oi∧oi≤b.length:=by
 unfold D6 at e
 rcases h1:XcY b (min n 5000).toNat i h with⟨l,i1,h1'⟩
 have z1:=Xg1 h1 hc
 simp only[h1,Prod.mk.injEq]at e
 have:o.size=l.length:=by rw[←e.1,Bo]
 omega
theorem Jf{b:List UInt8}{i h oi oh:Int}{o:ByteArray}(e:Du b i h=(o,oi,oh))(hc:0≤i∧i≤b.length∧b.length≤1000000000000):o.size≤60∧0≤oi∧oi≤b.length:=by
 unfold Du at e
 rcases h1:Ak b i h 6 with⟨x,i1,h1'⟩
 have z1:=Au h1 hc
 simp only[h1]at e
 split at e
 ·simp only[Prod.mk.injEq]at e
  rw[←e.1]
  exact⟨by decide,by omega,by omega⟩
 ·split at e
  ·rcases h2:Ak b i1 h1' 41 with⟨y,i2,h2'⟩
   have z2:=Au h2 (by omega)
   simp only[h2]at e
   have z3:=Gq e (by omega)
   omega
  ·rcases h2:Ak b i1 h1' 12 with⟨y,i2,h2'⟩
   have z2:=Au h2 (by omega)
   simp only[h2]at e
   have z3:=Gq e (by omega)
   omega
theorem Ow{v:Int}(h:0≤v∧v<256):[D.sc (.int .u8 v)]=cB (UInt8.ofNat v.toNat):=by
 have e:((UInt8.ofNat v.toNat).toNat:Int)=v:=by
  rw[UInt8.toNat_ofNat',Nat.mod_eq_of_lt (by omega)]
  omega
 show[D.sc (.int .u8 v)]=[D.sc (.int .u8 ((UInt8.ofNat v.toNat).toNat:Int))]
 rw[e]
variable {cb:List UInt8} {xcb:List (List D)} {ci ch o oi oh n:Int}
theorem I0(hcb:cb.map cB=xcb)(hc:0≤ci∧ci≤cb.length∧cb.length≤1000000000000)(hr:C1 cb ci ch=(o,oi,oh)):Fn Tryz.prog 239 [.ptr 0 0 0] [.box 140 [.d (.row 1 xcb),I ci,I ch]] ⟨I o,[],[(0,.box 140 [.d (.row 1 xcb),I oi,I oh])]⟩:=by
 refine Fn.goR P7 Tryz.func239 fun P hP Q hQ=>?_
 conv=>cbv
 refine .mulW fun v1 ab=>?_
 conv=>cbv
 refine .addW fun v2 ac=>?_
 conv=>cbv
 refine .shr fun v3 ad=>?_
 conv=>cbv
 refine .shr fun v4 ae=>?_
 conv=>cbv
 refine .xor fun v5 af=>?_
 conv=>cbv
 refine .and fun v6 aa=>?_
 conv=>cbv
 refine .go hcb fun v7 ao=>?_
 conv=>cbv
 refine .lss (fun h8=>?_) fun h8=>?_
 conv=>cbv
 refine .go ci.toNat hcb fun ag e9 al=>?_
 conv=>cbv
 have ap:=e9.toNat_lt
 refine .id (a:=(e9.toNat:Int)) fun aq ah=>?_
 conv=>cbv
 have hx6:0≤v6∧v6≤255:=by rw[aa];exact Xfn _
 refine .add fun ar ai=>?_
 conv=>cbv
 refine .and fun am aj=>?_
 conv=>cbv
 refine .add fun an ak=>?_
 conv=>cbv
 have e:(am,an,v2)=C1 cb ci ch:=(by unfold C1;rw[if_pos (by omega),List.getD_eq_getElem?_getD,List.getElem?_eq_getElem ag,Option.getD_some,←al,aj,ai,ah,ak];unfold drX drH;rw[aa,af,ae,ad,ac,ab])
 rw[hr]at e
 simp only[Prod.mk.injEq]at e
 obtain⟨rfl,rfl,rfl⟩:=e
 exact hQ _ _ (.of [] (.inl rfl) rfl rfl rfl rfl)
 conv=>cbv
 have e:(v6,ci,v2)=C1 cb ci ch:=(by unfold C1;rw[if_neg (by omega)];unfold drX drH;rw[aa,af,ae,ad,ac,ab])
 rw[hr]at e
 simp only[Prod.mk.injEq]at e
 obtain⟨rfl,rfl,rfl⟩:=e
 exact hQ _ _ (.of [] (.inl rfl) rfl rfl rfl rfl)
theorem Bw(hcb:cb.map cB=xcb)(hc:0≤ci∧ci≤cb.length∧cb.length≤1000000000000)(hr:Ak cb ci ch n=(o,oi,oh)):Fn Tryz.prog 174 [.ptr 0 0 0,I n] [.box 140 [.d (.row 1 xcb),I ci,I ch]] ⟨I o,[],[(0,.box 140 [.d (.row 1 xcb),I oi,I oh])]⟩:=by
 refine Fn.goR P7 Tryz.func174 fun P hP Q hQ=>?_
 conv=>cbv
 refine .leq (fun h1=>?_) fun h1=>?_
 conv=>cbv
 have e:(0,ci,ch)=Ak cb ci ch n:=(by unfold Ak;rw[if_pos (by omega)])
 rw[hr]at e
 simp only[Prod.mk.injEq]at e
 obtain⟨rfl,rfl,rfl⟩:=e
 exact hQ _ _ (.of [] (.inl rfl) rfl rfl rfl rfl)
 conv=>cbv
 refine .leq (fun h2=>?_) fun h2=>?_
 conv=>cbv
 rcases aa:C1 cb ci ch with⟨d4,ri4,rh4⟩
 have zr4:=Ef aa (by omega)
 refine .bx [0] [] hP (I0 hcb (by omega) aa) rfl rfl rfl rfl ?_
 conv=>cbv
 refine .rem fun v5 al=>?_
 conv=>cbv
 have e:(v5,ri4,rh4)=Ak cb ci ch n:=(by unfold Ak;rw[if_neg (by omega),if_pos (by omega)];simp only[aa];rw[al])
 rw[hr]at e
 simp only[Prod.mk.injEq]at e
 obtain⟨rfl,rfl,rfl⟩:=e
 exact hQ _ _ (.of [] (.inl rfl) rfl rfl rfl rfl)
 conv=>cbv
 rcases aa:C1 cb ci ch with⟨d4,ri4,rh4⟩
 have zr4:=Ef aa (by omega)
 refine .bx [0] [] hP (I0 hcb (by omega) aa) rfl rfl rfl rfl ?_
 conv=>cbv
 rcases ac:C1 cb ri4 rh4 with⟨d6,ri6,rh6⟩
 have zr6:=Ef ac (by omega)
 refine .bx [0] [] hP (I0 hcb (by omega) ac) rfl rfl rfl rfl ?_
 conv=>cbv
 rcases ad:C1 cb ri6 rh6 with⟨d8,ri8,rh8⟩
 have zr8:=Ef ad (by omega)
 refine .bx [0] [] hP (I0 hcb (by omega) ad) rfl rfl rfl rfl ?_
 conv=>cbv
 rcases ab:C1 cb ri8 rh8 with⟨d10,ri10,rh10⟩
 have zr10:=Ef ab (by omega)
 refine .bx [0] [] hP (I0 hcb (by omega) ab) rfl rfl rfl rfl ?_
 conv=>cbv
 refine .mul fun an ae=>?_
 conv=>cbv
 refine .mul fun ao af=>?_
 conv=>cbv
 refine .add fun ap ag=>?_
 conv=>cbv
 refine .mul fun aq ah=>?_
 conv=>cbv
 refine .add fun ar ai=>?_
 conv=>cbv
 refine .add fun au aj=>?_
 conv=>cbv
 refine .rem fun am ak=>?_
 conv=>cbv
 have e:(am,ri10,rh10)=Ak cb ci ch n:=(by unfold Ak;rw[if_neg (by omega),if_neg (by omega)];simp only[aa,ac,ad,ab];rw[ak,aj,ai,ah,ag,af,ae])
 rw[hr]at e
 simp only[Prod.mk.injEq]at e
 obtain⟨rfl,rfl,rfl⟩:=e
 exact hQ _ _ (.of [] (.inl rfl) rfl rfl rfl rfl)
theorem E5{o:Bool}(hcb:cb.map cB=xcb)(hc:0≤ci∧ci≤cb.length∧cb.length≤1000000000000)(hr:Bq cb ci ch n=(o,oi,oh)):Fn Tryz.prog 140 [.ptr 0 0 0,I n] [.box 140 [.d (.row 1 xcb),I ci,I ch]] ⟨B o,[],[(0,.box 140 [.d (.row 1 xcb),I oi,I oh])]⟩:=by
 refine Fn.goR P7 Tryz.func140 fun P hP Q hQ=>?_
 conv=>cbv
 rcases aa:Ak cb ci ch n with⟨d2,ri2,rh2⟩
 have zr2:=Au aa (by omega)
 refine .bx [0] [] hP (Bw hcb (by omega) aa) rfl rfl rfl rfl ?_
 conv=>cbv
 refine .eql (fun h3=>?_) fun h3=>?_
 conv=>cbv
 have e:(true,ri2,rh2)=Bq cb ci ch n:=(by unfold Bq;simp only[aa];rw[decide_eq_true h3])
 rw[hr]at e
 simp only[Prod.mk.injEq]at e
 obtain⟨rfl,rfl,rfl⟩:=e
 exact hQ _ _ (.of [] (.inl rfl) rfl rfl rfl rfl)
 conv=>cbv
 have e:(false,ri2,rh2)=Bq cb ci ch n:=(by unfold Bq;simp only[aa];rw[decide_eq_false h3])
 rw[hr]at e
 simp only[Prod.mk.injEq]at e
 obtain⟨rfl,rfl,rfl⟩:=e
 exact hQ _ _ (.of [] (.inl rfl) rfl rfl rfl rfl)
theorem Hx{list:List Int}{xlist:List (List D)}(hcb:cb.map cB=xcb)(hlist:list.map cI=xlist)(hc:0≤ci∧ci≤cb.length∧cb.length≤1000000000000)(hl:0<list.length∧list.length≤1000)(hr:B9 cb ci ch list=(o,oi,oh)):Fn Tryz.prog 175 [.ptr 0 0 0,.d (.row 1 xlist)] [.box 140 [.d (.row 1 xcb),I ci,I ch]] ⟨I o,[],[(0,.box 140 [.d (.row 1 xcb),I oi,I oh])]⟩:=by
 refine Fn.goR P7 Tryz.func175 fun P hP Q hQ=>?_
 conv=>cbv
 refine .go hlist fun v1 ab=>?_
 conv=>cbv
 have ae:v1=(list.length:Int):=ab
 rcases aa:Ak cb ci ch v1 with⟨d3,ri3,rh3⟩
 have zr3:=Au aa (by omega)
 refine .bx [0] [] hP (Bw hcb (by omega) aa) rfl rfl rfl rfl ?_
 conv=>cbv
 refine .go d3.toNat hlist fun ac e4 ad=>?_
 conv=>cbv
 have e:(e4,ri3,rh3)=B9 cb ci ch list:=(by unfold B9;rw[←ab];simp only[aa];rw[List.getD_eq_getElem?_getD,List.getElem?_eq_getElem ac,Option.getD_some,←ad])
 rw[hr]at e
 simp only[Prod.mk.injEq]at e
 obtain⟨rfl,rfl,rfl⟩:=e
 exact hQ _ _ (.of [] (.inl rfl) rfl rfl rfl rfl)
theorem Nx{o:ByteArray}(hcb:cb.map cB=xcb)(hc:0≤ci∧ci≤cb.length∧cb.length≤1000000000000)(hr:D6 cb ci ch n=(o,oi,oh)):Fn Tryz.prog 181 [.ptr 0 0 0,I n] [.box 140 [.d (.row 1 xcb),I ci,I ch]] ⟨S o,[],[(0,.box 140 [.d (.row 1 xcb),I oi,I oh])]⟩:=by
 refine Fn.goR P7 Tryz.func181 fun P hP Q hQ=>?_
 conv=>cbv
 refine .gtr (fun h1=>?_) fun h1=>?_
 conv=>cbv
 refine LoopW.lp (κ:=Int×Int×Int×(List (List D))×Nat) P7 hP [1] [0,1] (fun(i6,aa,ab,ac,ad)=>[(5,.ref 2 0 ad),(6,I i6)]) (fun(i6,aa,ab,ac,ad)=>[(0,.box 140 [.d (.row 1 xcb),I aa,I ab]),(2,.row 1 false ac)])
  (fun(i6,aa,ab,ac,ad)=>∃(w2:List UInt8),w2.map cB=ac∧ad=w2.length∧0≤i6∧(0≤aa∧aa≤cb.length)∧w2.length=i6.toNat∧i6≤5000∧D6 cb ci ch n=(match XcY cb ((min n 5000).toNat - i6.toNat) aa ab with|(l,i,h)=>(tx (w2++l),i,h)))
  (fun(i6,aa,ab,ac,ad)=>(5000 - i6).toNat) (0,ci,ch,[],0) ⟨[],rfl,rfl,by omega,by omega,rfl,by omega,by unfold D6;simp⟩ ⟨rfl,rfl,trivial⟩ rfl ?_
 rintro⟨i6,aa,ab,ac,ad⟩ J ⟨w2,af,ak,h0,hcu,hwl,h5,hw⟩ hJ
 conv=>cbv
 refine .lss (fun h2=>?_) fun h2=>?_
 conv=>cbv
 rcases ae:C1 cb aa ab with⟨d4,ri4,rh4⟩
 have zr4:=Ef ae (by omega)
 refine .bx [0] [] hP (I0 hcb (by omega) ae) rfl rfl rfl rfl ?_
 conv=>cbv
 refine .go fun v5 ag=>?_
 conv=>cbv
 refine .one (UInt8.ofNat v5.toNat) af (Ow (by rw[ag,Gj];omega)) fun ah z6 al ai=>?_
 conv=>cbv
 refine .add fun v7 am=>?_
 conv=>cbv
 exact .go [4] (v7,ri4,rh4,z6,ah) (hJ _ ⟨_,ai,Em,by omega,by omega,by rw[List.length_append,hwl];simp;omega,by omega,by rw[hw,show(min n 5000).toNat - i6.toNat=((min n 5000).toNat - v7.toNat)+1 by omega];simp only[XcY,ae];rw[show UInt8.ofNat d4.toNat=UInt8.ofNat v5.toNat by rw[ag,Gj];congr 1;omega];simp⟩ mlt)
 conv=>cbv
 refine .go af fun s3 aj=>?_
 conv=>cbv
 have e:(s3,aa,ab)=D6 cb ci ch n:=(by rw[hw,show(min n 5000).toNat - i6.toNat=0 by omega];simp only[XcY,List.append_nil];rw[aj])
 rw[hr]at e
 simp only[Prod.mk.injEq]at e
 obtain⟨rfl,rfl,rfl⟩:=e
 exact hQ _ _ (.of [] (.inl rfl) rfl rfl rfl rfl)
 conv=>cbv
 refine LoopW.lp (κ:=Int×Int×Int×(List (List D))×Nat) P7 hP [1] [0,1] (fun(i6,aa,ab,ac,ad)=>[(5,.ref 2 0 ad),(6,I i6)]) (fun(i6,aa,ab,ac,ad)=>[(0,.box 140 [.d (.row 1 xcb),I aa,I ab]),(2,.row 1 false ac)])
  (fun(i6,aa,ab,ac,ad)=>∃(w2:List UInt8),w2.map cB=ac∧ad=w2.length∧0≤i6∧(0≤aa∧aa≤cb.length)∧w2.length=i6.toNat∧i6≤5000∧D6 cb ci ch n=(match XcY cb ((min n 5000).toNat - i6.toNat) aa ab with|(l,i,h)=>(tx (w2++l),i,h)))
  (fun(i6,aa,ab,ac,ad)=>(5000 - i6).toNat) (0,ci,ch,[],0) ⟨[],rfl,rfl,by omega,by omega,rfl,by omega,by unfold D6;simp⟩ ⟨rfl,rfl,trivial⟩ rfl ?_
 rintro⟨i6,aa,ab,ac,ad⟩ J ⟨w2,af,ak,h0,hcu,hwl,h5,hw⟩ hJ
 conv=>cbv
 refine .lss (fun h2=>?_) fun h2=>?_
 conv=>cbv
 rcases ae:C1 cb aa ab with⟨d4,ri4,rh4⟩
 have zr4:=Ef ae (by omega)
 refine .bx [0] [] hP (I0 hcb (by omega) ae) rfl rfl rfl rfl ?_
 conv=>cbv
 refine .go fun v5 ag=>?_
 conv=>cbv
 refine .one (UInt8.ofNat v5.toNat) af (Ow (by rw[ag,Gj];omega)) fun ah z6 al ai=>?_
 conv=>cbv
 refine .add fun v7 am=>?_
 conv=>cbv
 exact .go [4] (v7,ri4,rh4,z6,ah) (hJ _ ⟨_,ai,Em,by omega,by omega,by rw[List.length_append,hwl];simp;omega,by omega,by rw[hw,show(min n 5000).toNat - i6.toNat=((min n 5000).toNat - v7.toNat)+1 by omega];simp only[XcY,ae];rw[show UInt8.ofNat d4.toNat=UInt8.ofNat v5.toNat by rw[ag,Gj];congr 1;omega];simp⟩ mlt)
 conv=>cbv
 refine .go af fun s3 aj=>?_
 conv=>cbv
 have e:(s3,aa,ab)=D6 cb ci ch n:=(by rw[hw,show(min n 5000).toNat - i6.toNat=0 by omega];simp only[XcY,List.append_nil];rw[aj])
 rw[hr]at e
 simp only[Prod.mk.injEq]at e
 obtain⟨rfl,rfl,rfl⟩:=e
 exact hQ _ _ (.of [] (.inl rfl) rfl rfl rfl rfl)
theorem Sh{o:ByteArray}(hcb:cb.map cB=xcb)(hc:0≤ci∧ci≤cb.length∧cb.length≤1000000000000)(hr:Du cb ci ch=(o,oi,oh)):Fn Tryz.prog 179 [.ptr 0 0 0] [.box 140 [.d (.row 1 xcb),I ci,I ch]] ⟨S o,[],[(0,.box 140 [.d (.row 1 xcb),I oi,I oh])]⟩:=by
 refine Fn.goR P7 Tryz.func179 fun P hP Q hQ=>?_
 conv=>cbv
 rcases ab:Ak cb ci ch 6 with⟨d2,ri2,rh2⟩
 have zr2:=Au ab (by omega)
 refine .bx [0] [] hP (Bw hcb (by omega) ab) rfl rfl rfl rfl ?_
 conv=>cbv
 refine .eql (fun h3=>?_) fun h3=>?_
 conv=>cbv
 have e:((tx []),ri2,rh2)=Du cb ci ch:=(by unfold Du;simp only[ab];repeat (first|rw[if_pos (by omega)]|rw[if_neg (by omega)]))
 rw[hr]at e
 simp only[Prod.mk.injEq]at e
 obtain⟨rfl,rfl,rfl⟩:=e
 exact hQ _ _ (.of [] (.inl rfl) rfl rfl rfl rfl)
 conv=>cbv
 refine .eql (fun h4=>?_) fun h4=>?_
 conv=>cbv
 rcases aa:Ak cb ri2 rh2 41 with⟨d6,ri6,rh6⟩
 have zr6:=Au aa (by omega)
 refine .bx [0] [] hP (Bw hcb (by omega) aa) rfl rfl rfl rfl ?_
 conv=>cbv
 refine .add fun v7 ae=>?_
 conv=>cbv
 rcases ac:D6 cb ri6 rh6 v7 with⟨d9,ri9,rh9⟩
 have zr9:=Gq ac (by omega)
 refine .bx [0] [] hP (Nx hcb (by omega) ac) rfl rfl rfl rfl ?_
 conv=>cbv
 have e:(d9,ri9,rh9)=Du cb ci ch:=(by unfold Du;simp only[ab,aa,ac];rw[if_neg (by omega),if_pos (by omega),←ae];simp only[ab,aa,ac])
 rw[hr]at e
 simp only[Prod.mk.injEq]at e
 obtain⟨rfl,rfl,rfl⟩:=e
 exact hQ _ _ (.of [] (.inl rfl) rfl rfl rfl rfl)
 conv=>cbv
 rcases aa:Ak cb ri2 rh2 12 with⟨d6,ri6,rh6⟩
 have zr6:=Au aa (by omega)
 refine .bx [0] [] hP (Bw hcb (by omega) aa) rfl rfl rfl rfl ?_
 conv=>cbv
 rcases ad:D6 cb ri6 rh6 d6 with⟨d8,ri8,rh8⟩
 have zr8:=Gq ad (by omega)
 refine .bx [0] [] hP (Nx hcb (by omega) ad) rfl rfl rfl rfl ?_
 conv=>cbv
 have e:(d8,ri8,rh8)=Du cb ci ch:=(by unfold Du;simp only[ab,aa,ad];repeat (first|rw[if_pos (by omega)]|rw[if_neg (by omega)]))
 rw[hr]at e
 simp only[Prod.mk.injEq]at e
 obtain⟨rfl,rfl,rfl⟩:=e
 exact hQ _ _ (.of [] (.inl rfl) rfl rfl rfl rfl)
end
end Go.Proofs.YtjbmpmmffjgedaaGreatDoor.Ab
