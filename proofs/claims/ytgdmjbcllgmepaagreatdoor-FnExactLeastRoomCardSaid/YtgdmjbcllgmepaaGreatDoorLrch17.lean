/- What functions of the program come to, for all arguments in the given bounds. -/
import Derived.Test.YtgdmjbcllgmepaaGreatDoorLrch16b
import Derived.Test.YtgdmjbcllgmepaaGreatDoorLrZ9
set_option linter.unusedVariables false
set_option linter.unusedSimpArgs false
namespace Go.Proofs.YtgdmjbcllgmepaaGreatDoor.Ab
section
open Go Go.Proofs
set_option maxRecDepth 20000
set_option maxHeartbeats 4000000
def XcY:List (Nat×TyRow):=[ty3,ty9,Xc3,XaI,ty41]
theorem XaO:By Tryz.prog XcY:=By.of (by kernel_rfl)
theorem Pv:Setup Tryz.prog XcY:=⟨XaO,mixed⟩
def XaW(v s r:Int):Prop:=(1≤v∧v≤2)∧(1≤s∧s≤20)∧(1≤r∧r≤50)
instance {v s r:Int}:Decidable (XaW v s r):=by unfold XaW;infer_instance
def C7(d:Ac)(w:Aa):Ac×Aa×Int:=((Bv d w).1,if(Bv d w).2.2=0 then⟨(Bv d w).2.1.version_,(Bv d w).2.1.stride_,(Bv d w).2.1.roll_,(Bv d w).2.1.base_,(Bv d w).2.1.link_,(Bv d w).2.1.offsets_,(Bv d w).2.1.end_,(Bv d w).2.1.open_,3⟩else(Bv d w).2.1,(Bv d w).2.2)
def So(d:Ac)(w:Aa):List ByteArray→Ac×Aa×Int
 |[]=>(d,w,0)
 |r::rs=>if(Ad d w r).2.2≠0 then Ad d w r else So (Ad d w r).1 (Ad d w r).2.1 rs
theorem X2{d:Ac}{w:Aa}{l:List ByteArray}{k:Nat}(h:k<l.length){x:ByteArray}(hx:l[k]=x):So d w (l.drop k)=if(Ad d w x).2.2≠0 then Ad d w x else So (Ad d w x).1 (Ad d w x).2.1 (l.drop (k+1)):=by
 rw[List.drop_eq_getElem_cons h,hx];rfl
def Bt(room v s r:Int)(records:List ByteArray):Ac×Int:=
 if XaW v s r then((C7 (So (C9 room) (Bf v s r).1 (records.take 200)).1 (So (C9 room) (Bf v s r).1 (records.take 200)).2.1).1,
  if(So (C9 room) (Bf v s r).1 (records.take 200)).2.2=0 then(C7 (So (C9 room) (Bf v s r).1 (records.take 200)).1 (So (C9 room) (Bf v s r).1 (records.take 200)).2.1).2.2 else(So (C9 room) (Bf v s r).1 (records.take 200)).2.2)
 else(C9 room,3)
theorem Xh0{room:Int}{d:Ac}(h:C9 room=d):H0 d∧d.steps_.length=0:=by
 subst h
 exact⟨by simp[H0,okD,okL,okS,C9],rfl⟩
theorem XhH{v s r:Int}{w:Aa}{b:Bool}(h:Bf v s r=(w,b)):Nt 0 w:=by
 unfold Bf at h
 split at h<;>(cases h;simp[Nt])
variable {Ah Fx:List Bs} {Bo Bm Bl Bn xwoff Di Da Db Dd xoboff xrecords:List (List D)} {Al Ak F3 Fr:List Aj} {Ai Fw records:List ByteArray} {An Am wver wstr wrol wbas wlin wend wcod Ft Fz obver obstr obrol obbas oblin obend obcod oc room version stride roll ob:Int} {woff oboff:List Int} {wope obope:Bool} {k:Nat}
theorem Ut(Aq:Ah.map A5=Bo)(As:Al.map Ae=Bm)(Av:Ak.map Ae=Bl)(At:Ai.map cS=Bn)(hwoff:woff.map cI=xwoff)(a4:H0 (⟨Ah,Al,Ak,Ai,An,Am⟩:Ac))(hst:Ai.length<800000000)(hw:Nt k (⟨wver,wstr,wrol,wbas,wlin,woff,wend,wope,wcod⟩:Aa))(hk:k≤1000000)(hr:C7 (⟨Ah,Al,Ak,Ai,An,Am⟩:Ac) (⟨wver,wstr,wrol,wbas,wlin,woff,wend,wope,wcod⟩:Aa)=(⟨Fx,F3,Fr,Fw,Ft,Fz⟩,⟨obver,obstr,obrol,obbas,oblin,oboff,obend,obope,obcod⟩,oc))(A2:Fx.map A5=Di)(A1:F3.map Ae=Da)(A3:Fr.map Ae=Db)(A0:Fw.map cS=Dd)(hoboff:oboff.map cI=xoboff):Fn Tryz.prog 181 [.agg [.d (.row 3 Bo),.d (.row 2 Bm),.d (.row 2 Bl),.d (.row 1 Bn),I An,I Am],.agg [I wver,I wstr,I wrol,I wbas,I wlin,.d (.row 1 xwoff),I wend,B wope,I wcod]] [] ⟨.tup [.agg [.d (.row 3 Di),.d (.row 2 Da),.d (.row 2 Db),.d (.row 1 Dd),I Ft,I Fz],.agg [I obver,I obstr,I obrol,I obbas,I oblin,.d (.row 1 xoboff),I obend,B obope,I obcod],I oc],[],[]⟩:=by
 refine Fn.go Pv Tryz.func181 fun P hP Q hQ=>?_
 conv=>cbv
 rcases ax:Bv (⟨Ah,Al,Ak,Ai,An,Am⟩:Ac) (⟨wver,wstr,wrol,wbas,wlin,woff,wend,wope,wcod⟩:Aa)with⟨⟨af,ag,ah,ai,ak,al⟩,⟨am,an,ao,ap,aq,aj,ar,au,aw⟩,ay⟩
 generalize aa:af.map A5=az
 generalize ab:ag.map Ae=a0
 generalize ac:ah.map Ae=a1
 generalize ad:ai.map cS=a2
 generalize ae:aj.map cI=a3
 refine .dd hP (Y5 Aq As Av At hwoff a4 (by omega) hw hk ax aa ab ac ad ae) ?_
 conv=>cbv
 refine .eql (fun h2=>?_) fun h2=>?_
 conv=>cbv
 have e:((⟨af,ag,ah,ai,ak,al⟩:Ac),(⟨am,an,ao,ap,aq,aj,ar,au,3⟩:Aa),ay)=C7 (⟨Ah,Al,Ak,Ai,An,Am⟩:Ac) (⟨wver,wstr,wrol,wbas,wlin,woff,wend,wope,wcod⟩:Aa):=(by unfold C7;rw[ax];dsimp only;rw[if_pos h2])
 rw[hr]at e
 simp only[Prod.mk.injEq,Ac.mk.injEq,Aa.mk.injEq]at e
 obtain⟨⟨rfl,rfl,rfl,rfl,rfl,rfl⟩,⟨rfl,rfl,rfl,rfl,rfl,rfl,rfl,rfl,rfl⟩,rfl⟩:=e
 refine hQ _ _ ?_
 exact .many (.inl rfl) rfl rfl (.agg (.d rfl (Ag aa A2) (.d rfl (Ag ab A1) (.d rfl (Ag ac A3) (.d rfl (Ag ad A0) (.d rfl rfl (.d rfl rfl (.nil))))))) (.agg (.d rfl rfl (.d rfl rfl (.d rfl rfl (.d rfl rfl (.d rfl rfl (.d rfl (Ag ae hoboff) (.d rfl rfl (.d rfl rfl (.d rfl rfl (.nil)))))))))) (.d rfl rfl (.nil))))
 conv=>cbv
 have e:((⟨af,ag,ah,ai,ak,al⟩:Ac),(⟨am,an,ao,ap,aq,aj,ar,au,aw⟩:Aa),ay)=C7 (⟨Ah,Al,Ak,Ai,An,Am⟩:Ac) (⟨wver,wstr,wrol,wbas,wlin,woff,wend,wope,wcod⟩:Aa):=(by unfold C7;rw[ax];dsimp only;rw[if_neg h2])
 rw[hr]at e
 simp only[Prod.mk.injEq,Ac.mk.injEq,Aa.mk.injEq]at e
 obtain⟨⟨rfl,rfl,rfl,rfl,rfl,rfl⟩,⟨rfl,rfl,rfl,rfl,rfl,rfl,rfl,rfl,rfl⟩,rfl⟩:=e
 refine hQ _ _ ?_
 exact .many (.inl rfl) rfl rfl (.agg (.d rfl (Ag aa A2) (.d rfl (Ag ab A1) (.d rfl (Ag ac A3) (.d rfl (Ag ad A0) (.d rfl rfl (.d rfl rfl (.nil))))))) (.agg (.d rfl rfl (.d rfl rfl (.d rfl rfl (.d rfl rfl (.d rfl rfl (.d rfl (Ag ae hoboff) (.d rfl rfl (.d rfl rfl (.d rfl rfl (.nil)))))))))) (.d rfl rfl (.nil))))
theorem Pu(Aq:Ah.map A5=Bo)(As:Al.map Ae=Bm)(Av:Ak.map Ae=Bl)(At:Ai.map cS=Bn)(hwoff:woff.map cI=xwoff)(a4:H0 (⟨Ah,Al,Ak,Ai,An,Am⟩:Ac))(hst:Ai.length<800000000)(hw:Nt k (⟨wver,wstr,wrol,wbas,wlin,woff,wend,wope,wcod⟩:Aa))(hk:k≤1000000)(hr:C7 (⟨Ah,Al,Ak,Ai,An,Am⟩:Ac) (⟨wver,wstr,wrol,wbas,wlin,woff,wend,wope,wcod⟩:Aa)=(⟨Fx,F3,Fr,Fw,Ft,Fz⟩,⟨obver,obstr,obrol,obbas,oblin,oboff,obend,obope,obcod⟩,oc))(A2:Fx.map A5=Di)(A1:F3.map Ae=Da)(A3:Fr.map Ae=Db)(A0:Fw.map cS=Dd)(hoboff:oboff.map cI=xoboff):Fn Tryz.prog 180 [.agg [.d (.row 3 Bo),.d (.row 2 Bm),.d (.row 2 Bl),.d (.row 1 Bn),I An,I Am],.agg [I wver,I wstr,I wrol,I wbas,I wlin,.d (.row 1 xwoff),I wend,B wope,I wcod]] [] ⟨.tup [.agg [.d (.row 3 Di),.d (.row 2 Da),.d (.row 2 Db),.d (.row 1 Dd),I Ft,I Fz],.agg [I obver,I obstr,I obrol,I obbas,I oblin,.d (.row 1 xoboff),I obend,B obope,I obcod],I oc],[],[]⟩:=by
 refine Fn.go Pv Tryz.func180 fun P hP Q hQ=>?_
 conv=>cbv
 rcases ax:Bv (⟨Ah,Al,Ak,Ai,An,Am⟩:Ac) (⟨wver,wstr,wrol,wbas,wlin,woff,wend,wope,wcod⟩:Aa)with⟨⟨af,ag,ah,ai,ak,al⟩,⟨am,an,ao,ap,aq,aj,ar,au,aw⟩,ay⟩
 generalize aa:af.map A5=az
 generalize ab:ag.map Ae=a0
 generalize ac:ah.map Ae=a1
 generalize ad:ai.map cS=a2
 generalize ae:aj.map cI=a3
 refine .dd hP (Zi Aq As Av At hwoff a4 (by omega) hw hk ax aa ab ac ad ae) ?_
 conv=>cbv
 refine .eql (fun h2=>?_) fun h2=>?_
 conv=>cbv
 have e:((⟨af,ag,ah,ai,ak,al⟩:Ac),(⟨am,an,ao,ap,aq,aj,ar,au,3⟩:Aa),ay)=C7 (⟨Ah,Al,Ak,Ai,An,Am⟩:Ac) (⟨wver,wstr,wrol,wbas,wlin,woff,wend,wope,wcod⟩:Aa):=(by unfold C7;rw[ax];dsimp only;rw[if_pos h2])
 rw[hr]at e
 simp only[Prod.mk.injEq,Ac.mk.injEq,Aa.mk.injEq]at e
 obtain⟨⟨rfl,rfl,rfl,rfl,rfl,rfl⟩,⟨rfl,rfl,rfl,rfl,rfl,rfl,rfl,rfl,rfl⟩,rfl⟩:=e
 refine hQ _ _ ?_
 exact .many (.inl rfl) rfl rfl (.agg (.d rfl (Ag aa A2) (.d rfl (Ag ab A1) (.d rfl (Ag ac A3) (.d rfl (Ag ad A0) (.d rfl rfl (.d rfl rfl (.nil))))))) (.agg (.d rfl rfl (.d rfl rfl (.d rfl rfl (.d rfl rfl (.d rfl rfl (.d rfl (Ag ae hoboff) (.d rfl rfl (.d rfl rfl (.d rfl rfl (.nil)))))))))) (.d rfl rfl (.nil))))
 conv=>cbv
 have e:((⟨af,ag,ah,ai,ak,al⟩:Ac),(⟨am,an,ao,ap,aq,aj,ar,au,aw⟩:Aa),ay)=C7 (⟨Ah,Al,Ak,Ai,An,Am⟩:Ac) (⟨wver,wstr,wrol,wbas,wlin,woff,wend,wope,wcod⟩:Aa):=(by unfold C7;rw[ax];dsimp only;rw[if_neg h2])
 rw[hr]at e
 simp only[Prod.mk.injEq,Ac.mk.injEq,Aa.mk.injEq]at e
 obtain⟨⟨rfl,rfl,rfl,rfl,rfl,rfl⟩,⟨rfl,rfl,rfl,rfl,rfl,rfl,rfl,rfl,rfl⟩,rfl⟩:=e
 refine hQ _ _ ?_
 exact .many (.inl rfl) rfl rfl (.agg (.d rfl (Ag aa A2) (.d rfl (Ag ab A1) (.d rfl (Ag ac A3) (.d rfl (Ag ad A0) (.d rfl rfl (.d rfl rfl (.nil))))))) (.agg (.d rfl rfl (.d rfl rfl (.d rfl rfl (.d rfl rfl (.d rfl rfl (.d rfl (Ag ae hoboff) (.d rfl rfl (.d rfl rfl (.d rfl rfl (.nil)))))))))) (.d rfl rfl (.nil))))
theorem Ux(hrecords:records.map cS=xrecords)(hr:Bt room version stride roll records=(⟨Fx,F3,Fr,Fw,Ft,Fz⟩,ob))(A2:Fx.map A5=Di)(A1:F3.map Ae=Da)(A3:Fr.map Ae=Db)(A0:Fw.map cS=Dd):Fn Tryz.prog 93 [I room,I version,I stride,I roll,.d (.row 1 xrecords)] [] ⟨.tup [.agg [.d (.row 3 Di),.d (.row 2 Da),.d (.row 2 Db),.d (.row 1 Dd),I Ft,I Fz],I ob],[],[]⟩:=by
 refine Fn.go Pv Tryz.func93 fun P hP Q hQ=>?_
 conv=>cbv
 rcases cw:C9 room with⟨ak,al,am,an,a5,a6⟩
 generalize bt:ak.map A5=c6
 generalize bu:al.map Ae=c8
 generalize bv:am.map Ae=c9
 generalize bw:an.map cS=da
 refine .dd hP (Xei cw bt bu bv bw) ?_
 conv=>cbv
 rcases cu:Bf version stride roll with⟨⟨ax,ay,az,a0,a1,aj,a2,a3,a4⟩,ej⟩
 generalize cj:aj.map cI=cx
 refine .dd hP (Xbm cu cj) ?_
 conv=>cbv
 obtain⟨ek,eo⟩:=Xh0 cw
 have ep:=XhH cu
 simp only[]at eo
 cases ej
 conv=>cbv
 have e:((⟨ak,al,am,an,a5,a6⟩:Ac),3)=Bt room version stride roll records:=(by have hnk:¬XaW version stride roll:=of_decide_eq_false (Jt cu).symm;unfold Bt;rw[if_neg hnk,cw])
 rw[hr]at e
 simp only[Prod.mk.injEq,Ac.mk.injEq]at e
 obtain⟨⟨rfl,rfl,rfl,rfl,rfl,rfl⟩,rfl⟩:=e
 refine hQ _ _ ?_
 exact .many (.inl rfl) rfl rfl (.agg (.d rfl (Ag bt A2) (.d rfl (Ag bu A1) (.d rfl (Ag bv A3) (.d rfl (Ag bw A0) (.d rfl rfl (.d rfl rfl (.nil))))))) (.d rfl rfl (.nil)))
 conv=>cbv
 refine .go hrecords fun v3 eu=>?_
 conv=>cbv
 refine .go fun v4 ew=>?_
 conv=>cbv
 refine .hi hrecords fun x5 hx5=>?_
 conv=>cbv
 refine .go hx5 fun v6 ex=>?_
 conv=>cbv
 have hok:XaW version stride roll:=of_decide_eq_true (Jt cu).symm
 have htk:records.take v4.toNat=records.take 200:=by rw[List.take_eq_take_iff];omega
 have htl:(records.take v4.toNat).length=min v4.toNat records.length:=List.length_take
 refine LoopW.lp (κ:=Int×Int×(List (List D))×(List (List D))×(List (List D))×(List (List D))×Int×Int×Int×Int×Int×Int×Int×(List (List D))×Int×Bool×Int) Pv hP [] [10,12,13,36,37] (fun(cq,ai,bn,bo,bp,bq,a7,a8,aa,ab,ac,ad,ae,ao,af,ag,ah)=>[(15,I cq),(38,I ai)]) (fun(cq,ai,bn,bo,bp,bq,a7,a8,aa,ab,ac,ad,ae,ao,af,ag,ah)=>[(9,.box 40 [.d (.row 3 bn),.d (.row 2 bo),.d (.row 2 bp),.d (.row 1 bq),I a7,I a8]),(11,.box 41 [I aa,I ab,I ac,I ad,I ae,.d (.row 1 ao),I af,B ag,I ah])])
  (fun(cq,ai,bn,bo,bp,bq,a7,a8,aa,ab,ac,ad,ae,ao,af,ag,ah)=>∃(ck:List Bs) (cm:List Aj) (cn:List Aj) (bm:List ByteArray) (aw:List Int),ck.map A5=bn∧cm.map Ae=bo∧cn.map Ae=bp∧bm.map cS=bq∧aw.map cI=ao∧0≤ai∧ai≤(records.take v4.toNat).length∧H0 (⟨ck,cm,cn,bm,a7,a8⟩:Ac)∧bm.length≤10*ai.toNat∧Nt ai.toNat (⟨aa,ab,ac,ad,ae,aw,af,ag,ah⟩:Aa)∧cq=0∧So (⟨ak,al,am,an,a5,a6⟩:Ac) (⟨ax,ay,az,a0,a1,aj,a2,a3,a4⟩:Aa) (records.take 200)=So (⟨ck,cm,cn,bm,a7,a8⟩:Ac) (⟨aa,ab,ac,ad,ae,aw,af,ag,ah⟩:Aa) ((records.take v4.toNat).drop ai.toNat))
  (fun(cq,ai,bn,bo,bp,bq,a7,a8,aa,ab,ac,ad,ae,ao,af,ag,ah)=>((records.take v4.toNat).length - ai).toNat) (0,0,c6,c8,c9,da,a5,a6,ax,ay,az,a0,a1,cx,a2,a3,a4) ⟨ak,al,am,an,aj,bt,bu,bv,bw,cj,by omega,by omega,ek,by omega,ep,rfl,by rw[htk];rfl⟩ ⟨rfl,rfl,trivial⟩ rfl ?_
 rintro⟨cq,ai,bn,bo,bp,bq,a7,a8,aa,ab,ac,ad,ae,ao,af,ag,ah⟩ J ⟨ck,cm,cn,bm,aw,dg,dh,di,dj,cy,h0,h1,db,hqs,hqw,hcz,hio⟩ hJ
 conv=>cbv
 refine .lss (fun h7=>?_) fun h7=>?_
 conv=>cbv
 refine .go ai.toNat hx5 fun dt e8 er=>?_
 conv=>cbv
 rcases du:Ad (⟨ck,cm,cn,bm,a7,a8⟩:Ac) (⟨aa,ab,ac,ad,ae,aw,af,ag,ah⟩:Aa) e8 with⟨⟨bz,b0,b2,b3,b4,b5⟩,⟨b6,b7,b8,b9,ca,cb,cc,cd,ce⟩,dl⟩
 generalize a9:bz.map A5=cz
 generalize ba:b0.map Ae=c0
 generalize bb:b2.map Ae=c1
 generalize bc:b3.map cS=c2
 generalize bd:cb.map cI=c3
 refine .dd hP (XbI dg dh di dj cy db (by omega) hqw (by omega) du a9 ba bb bc bd) ?_
 conv=>cbv
 obtain⟨dc,dv,de⟩:=Xeb (r:=e8) db (by show bm.length<_;omega) hqw
 have hstep:=X2 (d:=(⟨ck,cm,cn,bm,a7,a8⟩:Ac)) (w:=(⟨aa,ab,ac,ad,ae,aw,af,ag,ah⟩:Aa)) (l:=(records.take v4.toNat)) (k:=ai.toNat) (x:=e8) dt er.symm
 rw[du]at dc dv de hstep
 simp only[]at dv
 dsimp only at hstep
 refine .neq (fun h10=>?_) fun h10=>?_
 conv=>cbv
 rcases dk:C7 (⟨bz,b0,b2,b3,b4,b5⟩:Ac) (⟨b6,b7,b8,b9,ca,cb,cc,cd,ce⟩:Aa)with⟨⟨be,bf,bg,bh,co,cp⟩,⟨dw,dx,dy,dz,d0,c4,d1,d2,d3⟩,d4⟩
 generalize ap:be.map A5=dn
 generalize aq:bf.map Ae=dp
 generalize ar:bg.map Ae=dq
 generalize au:bh.map cS=dr
 generalize cv:c4.map cI=ds
 refine .dd hP (Ut a9 ba bb bc bd (by first|exact dc|exact db) (by omega) (by first|exact de|exact hqw) (by omega) dk ap aq ar au cv) ?_
 conv=>cbv
 refine .eql (fun h12=>?_) fun h12=>?_
 conv=>cbv
 have e:((⟨be,bf,bg,bh,co,cp⟩:Ac),d4)=Bt room version stride roll records:=(by exact absurd h12 (by omega))
 rw[hr]at e
 simp only[Prod.mk.injEq,Ac.mk.injEq]at e
 obtain⟨⟨rfl,rfl,rfl,rfl,rfl,rfl⟩,rfl⟩:=e
 refine hQ _ _ ?_
 exact .many (.inl rfl) rfl rfl (.agg (.d rfl (Ag ap A2) (.d rfl (Ag aq A1) (.d rfl (Ag ar A3) (.d rfl (Ag au A0) (.d rfl rfl (.d rfl rfl (.nil))))))) (.d rfl rfl (.nil)))
 conv=>cbv
 have e:((⟨be,bf,bg,bh,co,cp⟩:Ac),dl)=Bt room version stride roll records:=(by have hwa:So (⟨ak,al,am,an,a5,a6⟩:Ac) (⟨ax,ay,az,a0,a1,aj,a2,a3,a4⟩:Aa) (records.take 200)=((⟨bz,b0,b2,b3,b4,b5⟩:Ac),(⟨b6,b7,b8,b9,ca,cb,cc,cd,ce⟩:Aa),dl):=(by exact hio.trans (hstep.trans (if_pos h10)));unfold Bt;rw[if_pos hok,cw,cu];dsimp only;rw[hwa];dsimp only;rw[if_neg h12,dk])
 rw[hr]at e
 simp only[Prod.mk.injEq,Ac.mk.injEq]at e
 obtain⟨⟨rfl,rfl,rfl,rfl,rfl,rfl⟩,rfl⟩:=e
 refine hQ _ _ ?_
 exact .many (.inl rfl) rfl rfl (.agg (.d rfl (Ag ap A2) (.d rfl (Ag aq A1) (.d rfl (Ag ar A3) (.d rfl (Ag au A0) (.d rfl rfl (.d rfl rfl (.nil))))))) (.d rfl rfl (.nil)))
 conv=>cbv
 refine .add fun dm et=>?_
 conv=>cbv
 exact .go [] (dl,dm,cz,c0,c1,c2,b4,b5,b6,b7,b8,b9,ca,c3,cc,cd,ce) (hJ _ ⟨_,_,_,_,_,a9,ba,bb,bc,bd,by omega,by omega,dc,by omega,by rw[show dm.toNat=ai.toNat+1 by omega];exact de,by omega,by rw[hio,hstep,show dm.toNat=ai.toNat+1 by omega];exact if_neg (by omega)⟩ mlt)
 conv=>cbv
 rcases d5:C7 (⟨ck,cm,cn,bm,a7,a8⟩:Ac) (⟨aa,ab,ac,ad,ae,aw,af,ag,ah⟩:Aa)with⟨⟨cf,cg,ch,ci,cr,ct⟩,⟨eb,ec,ed,ee,ef,df,eg,eh,ei⟩,es⟩
 generalize bi:cf.map A5=d6
 generalize bj:cg.map Ae=d7
 generalize bk:ch.map Ae=d8
 generalize bl:ci.map cS=d9
 generalize c5:df.map cI=ea
 refine .dd hP (Ut dg dh di dj cy (by first|exact dc|exact db) (by omega) (by first|exact de|exact hqw) (by omega) d5 bi bj bk bl c5) ?_
 conv=>cbv
 refine .eql (fun h9=>?_) fun h9=>?_
 conv=>cbv
 have e:((⟨cf,cg,ch,ci,cr,ct⟩:Ac),es)=Bt room version stride roll records:=(by have hwa:So (⟨ak,al,am,an,a5,a6⟩:Ac) (⟨ax,ay,az,a0,a1,aj,a2,a3,a4⟩:Aa) (records.take 200)=((⟨ck,cm,cn,bm,a7,a8⟩:Ac),(⟨aa,ab,ac,ad,ae,aw,af,ag,ah⟩:Aa),0):=(by rw[hio,List.drop_of_length_le (by omega)];rfl);unfold Bt;rw[if_pos hok,cw,cu];dsimp only;rw[hwa];dsimp only;rw[if_pos rfl,d5])
 rw[hr]at e
 simp only[Prod.mk.injEq,Ac.mk.injEq]at e
 obtain⟨⟨rfl,rfl,rfl,rfl,rfl,rfl⟩,rfl⟩:=e
 refine hQ _ _ ?_
 exact .many (.inl rfl) rfl rfl (.agg (.d rfl (Ag bi A2) (.d rfl (Ag bj A1) (.d rfl (Ag bk A3) (.d rfl (Ag bl A0) (.d rfl rfl (.d rfl rfl (.nil))))))) (.d rfl rfl (.nil)))
 conv=>cbv
 have e:((⟨cf,cg,ch,ci,cr,ct⟩:Ac),cq)=Bt room version stride roll records:=(by exact absurd hcz h9)
 rw[hr]at e
 simp only[Prod.mk.injEq,Ac.mk.injEq]at e
 obtain⟨⟨rfl,rfl,rfl,rfl,rfl,rfl⟩,rfl⟩:=e
 refine hQ _ _ ?_
 exact .many (.inl rfl) rfl rfl (.agg (.d rfl (Ag bi A2) (.d rfl (Ag bj A1) (.d rfl (Ag bk A3) (.d rfl (Ag bl A0) (.d rfl rfl (.d rfl rfl (.nil))))))) (.d rfl rfl (.nil)))
theorem U9(hrecords:records.map cS=xrecords)(hr:Bt room version stride roll records=(⟨Fx,F3,Fr,Fw,Ft,Fz⟩,ob))(A2:Fx.map A5=Di)(A1:F3.map Ae=Da)(A3:Fr.map Ae=Db)(A0:Fw.map cS=Dd):Fn Tryz.prog 91 [I room,I version,I stride,I roll,.d (.row 1 xrecords)] [] ⟨.tup [.agg [.d (.row 3 Di),.d (.row 2 Da),.d (.row 2 Db),.d (.row 1 Dd),I Ft,I Fz],I ob],[],[]⟩:=by
 refine Fn.go Pv Tryz.func91 fun P hP Q hQ=>?_
 conv=>cbv
 rcases cd:C9 room with⟨ak,al,am,an,a2,a3⟩
 generalize bq:ak.map A5=c9
 generalize bt:al.map Ae=da
 generalize bu:am.map Ae=db
 generalize bv:an.map cS=dc
 refine .dd hP (Xeg cd bq bt bu bv) ?_
 conv=>cbv
 rcases bw:Bf version stride roll with⟨⟨ao,ap,aq,ar,au,aj,aw,ax,ay⟩,fd⟩
 generalize ce:aj.map cI=cw
 refine .dd hP (Xa6 bw ce) ?_
 conv=>cbv
 obtain⟨fe,ff⟩:=Xh0 cd
 have fg:=XhH bw
 simp only[]at ff
 cases fd
 conv=>cbv
 have e:((⟨ak,al,am,an,a2,a3⟩:Ac),3)=Bt room version stride roll records:=(by have hnk:¬XaW version stride roll:=of_decide_eq_false (Jt bw).symm;unfold Bt;rw[if_neg hnk,cd])
 rw[hr]at e
 simp only[Prod.mk.injEq,Ac.mk.injEq]at e
 obtain⟨⟨rfl,rfl,rfl,rfl,rfl,rfl⟩,rfl⟩:=e
 refine hQ _ _ ?_
 exact .many (.inl rfl) rfl rfl (.agg (.d rfl (Ag bq A2) (.d rfl (Ag bt A1) (.d rfl (Ag bu A3) (.d rfl (Ag bv A0) (.d rfl rfl (.d rfl rfl (.nil))))))) (.d rfl rfl (.nil)))
 conv=>cbv
 have hok:XaW version stride roll:=of_decide_eq_true (Jt bw).symm
 have htl:(records.take 200).length=min 200 records.length:=List.length_take
 refine LoopW.lp (κ:=Int×Int×(List (List D))×(List (List D))×(List (List D))×(List (List D))×Int×Int×Int×Int×Int×Int×Int×(List (List D))×Int×Bool×Int) Pv hP [] [4,10,12,13] (fun(az,a5,bm,bn,bo,bp,a0,a1,aa,ab,ac,ad,ae,a9,af,ag,ah)=>[(15,I az),(16,I a5)]) (fun(az,a5,bm,bn,bo,bp,a0,a1,aa,ab,ac,ad,ae,a9,af,ag,ah)=>[(9,.box 40 [.d (.row 3 bm),.d (.row 2 bn),.d (.row 2 bo),.d (.row 1 bp),I a0,I a1]),(11,.box 41 [I aa,I ab,I ac,I ad,I ae,.d (.row 1 a9),I af,B ag,I ah])])
  (fun(az,a5,bm,bn,bo,bp,a0,a1,aa,ab,ac,ad,ae,a9,af,ag,ah)=>∃(a6:List Bs) (a7:List Aj) (a8:List Aj) (a4:List ByteArray) (ai:List Int),a6.map A5=bm∧a7.map Ae=bn∧a8.map Ae=bo∧a4.map cS=bp∧ai.map cI=a9∧0≤a5∧a5≤(records.take 200).length∧H0 (⟨a6,a7,a8,a4,a0,a1⟩:Ac)∧a4.length≤10*a5.toNat∧Nt a5.toNat (⟨aa,ab,ac,ad,ae,ai,af,ag,ah⟩:Aa)∧So (⟨ak,al,am,an,a2,a3⟩:Ac) (⟨ao,ap,aq,ar,au,aj,aw,ax,ay⟩:Aa) (records.take 200)=if az=0 then So (⟨a6,a7,a8,a4,a0,a1⟩:Ac) (⟨aa,ab,ac,ad,ae,ai,af,ag,ah⟩:Aa) ((records.take 200).drop a5.toNat)else((⟨a6,a7,a8,a4,a0,a1⟩:Ac),(⟨aa,ab,ac,ad,ae,ai,af,ag,ah⟩:Aa),az))
  (fun(az,a5,bm,bn,bo,bp,a0,a1,aa,ab,ac,ad,ae,a9,af,ag,ah)=>((records.take 200).length - a5).toNat) (0,0,c9,da,db,dc,a2,a3,ao,ap,aq,ar,au,cw,aw,ax,ay) ⟨ak,al,am,an,aj,bq,bt,bu,bv,ce,by omega,by omega,fe,by omega,fg,rfl⟩ ⟨rfl,rfl,trivial⟩ rfl ?_
 rintro⟨az,a5,bm,bn,bo,bp,a0,a1,aa,ab,ac,ad,ae,a9,af,ag,ah⟩ J ⟨a6,a7,a8,a4,ai,ck,cm,cn,co,bz,h0,h1,cx,hqs,hqw,hio⟩ hJ
 conv=>cbv
 refine .go hrecords fun v3 fm=>?_
 conv=>cbv
 refine .lss (fun h4=>?_) fun h4=>?_
 conv=>cbv
 refine .lss (fun h5=>?_) fun h5=>?_
 conv=>cbv
 refine .eql (fun h6=>?_) fun h6=>?_
 conv=>cbv
 refine .go a5.toNat hrecords fun fl e7 fh=>?_
 conv=>cbv
 rcases dz:Ad (⟨a6,a7,a8,a4,a0,a1⟩:Ac) (⟨aa,ab,ac,ad,ae,ai,af,ag,ah⟩:Aa) e7 with⟨⟨de,df,dg,dh,di,dj⟩,⟨dk,dl,dm,dn,dp,dq,dr,ds,dt⟩,d0⟩
 generalize cf:de.map A5=cy
 generalize cg:df.map Ae=cz
 generalize ch:dg.map Ae=c0
 generalize ci:dh.map cS=c1
 generalize cj:dq.map cI=c2
 refine .dd hP (Xbx ck cm cn co bz cx (by omega) hqw (by omega) dz cf cg ch ci cj) ?_
 conv=>cbv
 obtain⟨c3,d1,c4⟩:=Xeb (r:=e7) cx (by show a4.length<_;omega) hqw
 have hstep:=X2 (d:=(⟨a6,a7,a8,a4,a0,a1⟩:Ac)) (w:=(⟨aa,ab,ac,ad,ae,ai,af,ag,ah⟩:Aa)) (l:=(records.take 200)) (k:=a5.toNat) (x:=e7) (show a5.toNat<(records.take 200).length by omega) (by rw[List.getElem_take];exact fh.symm)
 rw[dz]at c3 d1 c4 hstep
 simp only[]at d1
 dsimp only at hstep
 refine .add fun v9 fn=>?_
 conv=>cbv
 exact .go [] (d0,v9,cy,cz,c0,c1,di,dj,dk,dl,dm,dn,dp,c2,dr,ds,dt) (hJ _ ⟨_,_,_,_,_,cf,cg,ch,ci,cj,by omega,by omega,c3,by omega,by rw[show v9.toNat=a5.toNat+1 by omega];exact c4,by rw[hio,if_pos (by omega),hstep,show v9.toNat=a5.toNat+1 by omega];by_cases hz:d0=0<;>simp[hz]⟩ mlt)
 conv=>cbv
 rcases d2:C7 (⟨a6,a7,a8,a4,a0,a1⟩:Ac) (⟨aa,ab,ac,ad,ae,ai,af,ag,ah⟩:Aa)with⟨⟨b0,b2,b3,b4,cp,cq⟩,⟨ei,ej,ek,eo,ep,du,er,es,et⟩,fi⟩
 generalize ba:b0.map A5=d3
 generalize bb:b2.map Ae=d4
 generalize bc:b3.map Ae=d5
 generalize bd:b4.map cS=d6
 generalize c5:du.map cI=d7
 refine .dd hP (Pu ck cm cn co bz (by first|exact c3|exact cx) (by omega) (by first|exact c4|exact hqw) (by omega) d2 ba bb bc bd c5) ?_
 conv=>cbv
 refine .eql (fun h8=>?_) fun h8=>?_
 conv=>cbv
 have e:((⟨b0,b2,b3,b4,cp,cq⟩:Ac),fi)=Bt room version stride roll records:=(by exact absurd h8 h6)
 rw[hr]at e
 simp only[Prod.mk.injEq,Ac.mk.injEq]at e
 obtain⟨⟨rfl,rfl,rfl,rfl,rfl,rfl⟩,rfl⟩:=e
 refine hQ _ _ ?_
 exact .many (.inl rfl) rfl rfl (.agg (.d rfl (Ag ba A2) (.d rfl (Ag bb A1) (.d rfl (Ag bc A3) (.d rfl (Ag bd A0) (.d rfl rfl (.d rfl rfl (.nil))))))) (.d rfl rfl (.nil)))
 conv=>cbv
 have e:((⟨b0,b2,b3,b4,cp,cq⟩:Ac),az)=Bt room version stride roll records:=(by have hwa:So (⟨ak,al,am,an,a2,a3⟩:Ac) (⟨ao,ap,aq,ar,au,aj,aw,ax,ay⟩:Aa) (records.take 200)=((⟨a6,a7,a8,a4,a0,a1⟩:Ac),(⟨aa,ab,ac,ad,ae,ai,af,ag,ah⟩:Aa),az):=(by exact hio.trans (if_neg h6));unfold Bt;rw[if_pos hok,cd,bw];dsimp only;rw[hwa];dsimp only;rw[if_neg h6,d2])
 rw[hr]at e
 simp only[Prod.mk.injEq,Ac.mk.injEq]at e
 obtain⟨⟨rfl,rfl,rfl,rfl,rfl,rfl⟩,rfl⟩:=e
 refine hQ _ _ ?_
 exact .many (.inl rfl) rfl rfl (.agg (.d rfl (Ag ba A2) (.d rfl (Ag bb A1) (.d rfl (Ag bc A3) (.d rfl (Ag bd A0) (.d rfl rfl (.d rfl rfl (.nil))))))) (.d rfl rfl (.nil)))
 conv=>cbv
 rcases dx:C7 (⟨a6,a7,a8,a4,a0,a1⟩:Ac) (⟨aa,ab,ac,ad,ae,ai,af,ag,ah⟩:Aa)with⟨⟨b5,b6,b7,b8,cr,ct⟩,⟨eu,ew,ex,ey,e0,dv,e1,e2,e3⟩,fj⟩
 generalize be:b5.map A5=d8
 generalize bf:b6.map Ae=d9
 generalize bg:b7.map Ae=ea
 generalize bh:b8.map cS=eb
 generalize c6:dv.map cI=ec
 refine .dd hP (Pu ck cm cn co bz (by first|exact c3|exact cx) (by omega) (by first|exact c4|exact hqw) (by omega) dx be bf bg bh c6) ?_
 conv=>cbv
 refine .eql (fun h7=>?_) fun h7=>?_
 conv=>cbv
 have e:((⟨b5,b6,b7,b8,cr,ct⟩:Ac),fj)=Bt room version stride roll records:=(by have hwa:So (⟨ak,al,am,an,a2,a3⟩:Ac) (⟨ao,ap,aq,ar,au,aj,aw,ax,ay⟩:Aa) (records.take 200)=((⟨a6,a7,a8,a4,a0,a1⟩:Ac),(⟨aa,ab,ac,ad,ae,ai,af,ag,ah⟩:Aa),az):=(by rw[hio];rcases Decidable.em (az=0)with hz|hz;(rw[if_pos hz,List.drop_of_length_le (by omega),hz];rfl);exact if_neg hz);unfold Bt;rw[if_pos hok,cd,bw];dsimp only;rw[hwa];dsimp only;rw[if_pos h7,dx])
 rw[hr]at e
 simp only[Prod.mk.injEq,Ac.mk.injEq]at e
 obtain⟨⟨rfl,rfl,rfl,rfl,rfl,rfl⟩,rfl⟩:=e
 refine hQ _ _ ?_
 exact .many (.inl rfl) rfl rfl (.agg (.d rfl (Ag be A2) (.d rfl (Ag bf A1) (.d rfl (Ag bg A3) (.d rfl (Ag bh A0) (.d rfl rfl (.d rfl rfl (.nil))))))) (.d rfl rfl (.nil)))
 conv=>cbv
 have e:((⟨b5,b6,b7,b8,cr,ct⟩:Ac),az)=Bt room version stride roll records:=(by have hwa:So (⟨ak,al,am,an,a2,a3⟩:Ac) (⟨ao,ap,aq,ar,au,aj,aw,ax,ay⟩:Aa) (records.take 200)=((⟨a6,a7,a8,a4,a0,a1⟩:Ac),(⟨aa,ab,ac,ad,ae,ai,af,ag,ah⟩:Aa),az):=(by rw[hio];rcases Decidable.em (az=0)with hz|hz;(rw[if_pos hz,List.drop_of_length_le (by omega),hz];rfl);exact if_neg hz);unfold Bt;rw[if_pos hok,cd,bw];dsimp only;rw[hwa];dsimp only;rw[if_neg h7,dx])
 rw[hr]at e
 simp only[Prod.mk.injEq,Ac.mk.injEq]at e
 obtain⟨⟨rfl,rfl,rfl,rfl,rfl,rfl⟩,rfl⟩:=e
 refine hQ _ _ ?_
 exact .many (.inl rfl) rfl rfl (.agg (.d rfl (Ag be A2) (.d rfl (Ag bf A1) (.d rfl (Ag bg A3) (.d rfl (Ag bh A0) (.d rfl rfl (.d rfl rfl (.nil))))))) (.d rfl rfl (.nil)))
 conv=>cbv
 rcases dy:C7 (⟨a6,a7,a8,a4,a0,a1⟩:Ac) (⟨aa,ab,ac,ad,ae,ai,af,ag,ah⟩:Aa)with⟨⟨b9,ca,cb,cc,cu,cv⟩,⟨e4,e5,e6,e8,e9,dw,fa,fb,fc⟩,fk⟩
 generalize bi:b9.map A5=ed
 generalize bj:ca.map Ae=ee
 generalize bk:cb.map Ae=ef
 generalize bl:cc.map cS=eg
 generalize c8:dw.map cI=eh
 refine .dd hP (Pu ck cm cn co bz (by first|exact c3|exact cx) (by omega) (by first|exact c4|exact hqw) (by omega) dy bi bj bk bl c8) ?_
 conv=>cbv
 refine .eql (fun h6=>?_) fun h6=>?_
 conv=>cbv
 have e:((⟨b9,ca,cb,cc,cu,cv⟩:Ac),fk)=Bt room version stride roll records:=(by have hwa:So (⟨ak,al,am,an,a2,a3⟩:Ac) (⟨ao,ap,aq,ar,au,aj,aw,ax,ay⟩:Aa) (records.take 200)=((⟨a6,a7,a8,a4,a0,a1⟩:Ac),(⟨aa,ab,ac,ad,ae,ai,af,ag,ah⟩:Aa),az):=(by rw[hio];rcases Decidable.em (az=0)with hz|hz;(rw[if_pos hz,List.drop_of_length_le (by omega),hz];rfl);exact if_neg hz);unfold Bt;rw[if_pos hok,cd,bw];dsimp only;rw[hwa];dsimp only;rw[if_pos h6,dy])
 rw[hr]at e
 simp only[Prod.mk.injEq,Ac.mk.injEq]at e
 obtain⟨⟨rfl,rfl,rfl,rfl,rfl,rfl⟩,rfl⟩:=e
 refine hQ _ _ ?_
 exact .many (.inl rfl) rfl rfl (.agg (.d rfl (Ag bi A2) (.d rfl (Ag bj A1) (.d rfl (Ag bk A3) (.d rfl (Ag bl A0) (.d rfl rfl (.d rfl rfl (.nil))))))) (.d rfl rfl (.nil)))
 conv=>cbv
 have e:((⟨b9,ca,cb,cc,cu,cv⟩:Ac),az)=Bt room version stride roll records:=(by have hwa:So (⟨ak,al,am,an,a2,a3⟩:Ac) (⟨ao,ap,aq,ar,au,aj,aw,ax,ay⟩:Aa) (records.take 200)=((⟨a6,a7,a8,a4,a0,a1⟩:Ac),(⟨aa,ab,ac,ad,ae,ai,af,ag,ah⟩:Aa),az):=(by rw[hio];rcases Decidable.em (az=0)with hz|hz;(rw[if_pos hz,List.drop_of_length_le (by omega),hz];rfl);exact if_neg hz);unfold Bt;rw[if_pos hok,cd,bw];dsimp only;rw[hwa];dsimp only;rw[if_neg h6,dy])
 rw[hr]at e
 simp only[Prod.mk.injEq,Ac.mk.injEq]at e
 obtain⟨⟨rfl,rfl,rfl,rfl,rfl,rfl⟩,rfl⟩:=e
 refine hQ _ _ ?_
 exact .many (.inl rfl) rfl rfl (.agg (.d rfl (Ag bi A2) (.d rfl (Ag bj A1) (.d rfl (Ag bk A3) (.d rfl (Ag bl A0) (.d rfl rfl (.d rfl rfl (.nil))))))) (.d rfl rfl (.nil)))
end
section
open Go Go.Proofs
set_option maxRecDepth 20000
set_option maxHeartbeats 4000000
def XcL:List (Nat×TyRow):=[ty3,Xc3,XaI,XiT,Xgy,Xij]
theorem XaN:By Tryz.prog XcL:=By.of (by kernel_rfl)
theorem Wt:Setup Tryz.prog XcL:=⟨XaN,mixed⟩
theorem Xhk{l:List ByteArray}:∀{d:Ac} {w:Aa} {k:Nat},H0 d→d.steps_.length+10*l.length≤800000000→Nt k w→H0 (So d w l).1∧(So d w l).1.steps_.length≤d.steps_.length+10*l.length:=by
 induction l with
 |nil=>exact fun h _ _=>⟨h,Nat.le_add_right _ _⟩
 |cons x l ih=>
  intro d w k h hl hw
  rw[List.length_cons]at hl⊢
  have h1:=Xeb (r:=x) h (by omega) hw
  have h2:=h1.2.1
  unfold So
  split
  ·exact⟨h1.1,by omega⟩
  ·have h3:=ih h1.1 (by omega) h1.2.2
   exact⟨h3.1,by have:=h3.2;omega⟩
theorem XiI{room v s r:Int}{l:List ByteArray}:H0 (Bt room v s r l).1:=by
 have hd:=Xh0 (rfl:C9 room=_)
 unfold Bt
 split
 ·have h:=Xhk (l:=l.take 200) hd.1 (by rw[hd.2,List.length_take];omega) (XhH (rfl:Bf v s r=((Bf v s r).1,(Bf v s r).2)))
  show H0 (Bv _ _).1
  unfold Bv
  split
  ·exact h.1
  ·exact(Ri h.1).1
 ·exact hd.1
def C3(v s r:Int)(records:List ByteArray):Int:=if(Bt 1000000000 v s r records).2≠0 then 0 else D4 (Bt 1000000000 v s r records).1
def Dr(v s r:Int)(records:List ByteArray):Int:=if(Bt 1000000000 v s r records).2≠0 then -1 else C3 v s r records
variable {version stride roll o:Int} {records:List ByteArray} {xrecords:List (List D)}
theorem X0(hrecords:records.map cS=xrecords)(hr:C3 version stride roll records=o):Fn Tryz.prog 94 [I version,I stride,I roll,.d (.row 1 xrecords)] [] ⟨I o,[],[]⟩:=by
 refine Fn.go Wt Tryz.func94 fun P hP Q hQ=>?_
 conv=>cbv
 rcases ai:Bt 1000000000 version stride roll records with⟨⟨ae,af,ag,ah,aj,ak⟩,aq⟩
 generalize aa:ae.map A5=al
 generalize ab:af.map Ae=am
 generalize ac:ag.map Ae=an
 generalize ad:ah.map cS=ao
 refine .dd hP (Ux hrecords ai aa ab ac ad) ?_
 conv=>cbv
 have hwa:=XiI (room:=1000000000) (v:=version) (s:=stride) (r:=roll) (l:=records)
 rw[ai]at hwa
 refine .neq (fun h2=>?_) fun h2=>?_
 conv=>cbv
 have e:0=C3 version stride roll records:=(by unfold C3;rw[ai];dsimp only;rw[if_pos h2])
 rw[hr]at e
 subst e
 exact hQ _ _ (.i rfl rfl)
 conv=>cbv
 generalize ap:D4 (⟨ae,af,ag,ah,aj,ak⟩:Ac)=r3
 refine .dd hP (Wi aa ab ac ad hwa.1 ap) ?_
 conv=>cbv
 have e:r3=C3 version stride roll records:=(by unfold C3;rw[ai];dsimp only;rw[if_neg (by omega)];exact ap.symm)
 rw[hr]at e
 subst e
 exact hQ _ _ (.i rfl rfl)
theorem XbF(hrecords:records.map cS=xrecords)(hr:Dr version stride roll records=o):Fn Tryz.prog 34 [I version,I stride,I roll,.d (.row 1 xrecords)] [] ⟨I o,[],[]⟩:=by
 refine Fn.go Wt Tryz.func34 fun P hP Q hQ=>?_
 conv=>cbv
 rcases ai:Bt 1000000000 version stride roll records with⟨⟨ae,af,ag,ah,ao,ap⟩,aq⟩
 generalize aa:ae.map A5=aj
 generalize ab:af.map Ae=ak
 generalize ac:ag.map Ae=al
 generalize ad:ah.map cS=am
 refine .dd hP (Ux hrecords ai aa ab ac ad) ?_
 conv=>cbv
 refine .neq (fun h2=>?_) fun h2=>?_
 conv=>cbv
 have e:(-1)=Dr version stride roll records:=(by unfold Dr;rw[ai];dsimp only;rw[if_pos h2])
 rw[hr]at e
 subst e
 exact hQ _ _ (.i rfl rfl)
 conv=>cbv
 generalize an:C3 version stride roll records=r3
 refine .dd hP (X0 hrecords an) ?_
 conv=>cbv
 have e:r3=Dr version stride roll records:=(by unfold Dr;rw[ai];dsimp only;rw[if_neg (by omega)];exact an.symm)
 rw[hr]at e
 subst e
 exact hQ _ _ (.i rfl rfl)
theorem X4(hrecords:records.map cS=xrecords)(hr:C3 version stride roll records=o):Fn Tryz.prog 92 [I version,I stride,I roll,.d (.row 1 xrecords)] [] ⟨I o,[],[]⟩:=by
 refine Fn.go Wt Tryz.func92 fun P hP Q hQ=>?_
 conv=>cbv
 rcases ai:Bt 1000000000 version stride roll records with⟨⟨ae,af,ag,ah,aj,ak⟩,aq⟩
 generalize aa:ae.map A5=al
 generalize ab:af.map Ae=am
 generalize ac:ag.map Ae=an
 generalize ad:ah.map cS=ao
 refine .dd hP (U9 hrecords ai aa ab ac ad) ?_
 conv=>cbv
 have hwa:=XiI (room:=1000000000) (v:=version) (s:=stride) (r:=roll) (l:=records)
 rw[ai]at hwa
 refine .neq (fun h2=>?_) fun h2=>?_
 conv=>cbv
 have e:0=C3 version stride roll records:=(by unfold C3;rw[ai];dsimp only;rw[if_pos h2])
 rw[hr]at e
 subst e
 exact hQ _ _ (.i rfl rfl)
 conv=>cbv
 generalize ap:D4 (⟨ae,af,ag,ah,aj,ak⟩:Ac)=r3
 refine .dd hP (Xj aa ab ac ad hwa.1 ap) ?_
 conv=>cbv
 have e:r3=C3 version stride roll records:=(by unfold C3;rw[ai];dsimp only;rw[if_neg (by omega)];exact ap.symm)
 rw[hr]at e
 subst e
 exact hQ _ _ (.i rfl rfl)
theorem Xba(hrecords:records.map cS=xrecords)(hr:Dr version stride roll records=o):Fn Tryz.prog 33 [I version,I stride,I roll,.d (.row 1 xrecords)] [] ⟨I o,[],[]⟩:=by
 refine Fn.go Wt Tryz.func33 fun P hP Q hQ=>?_
 conv=>cbv
 rcases ai:Bt 1000000000 version stride roll records with⟨⟨ae,af,ag,ah,ao,ap⟩,aq⟩
 generalize aa:ae.map A5=aj
 generalize ab:af.map Ae=ak
 generalize ac:ag.map Ae=al
 generalize ad:ah.map cS=am
 refine .dd hP (U9 hrecords ai aa ab ac ad) ?_
 conv=>cbv
 refine .neq (fun h2=>?_) fun h2=>?_
 conv=>cbv
 have e:(-1)=Dr version stride roll records:=(by unfold Dr;rw[ai];dsimp only;rw[if_pos h2])
 rw[hr]at e
 subst e
 exact hQ _ _ (.i rfl rfl)
 conv=>cbv
 generalize an:C3 version stride roll records=r3
 refine .dd hP (X4 hrecords an) ?_
 conv=>cbv
 have e:r3=Dr version stride roll records:=(by unfold Dr;rw[ai];dsimp only;rw[if_neg (by omega)];exact an.symm)
 rw[hr]at e
 subst e
 exact hQ _ _ (.i rfl rfl)
end
section
open Go Go.Proofs
set_option maxRecDepth 20000
set_option maxHeartbeats 4000000
end
end Go.Proofs.YtgdmjbcllgmepaaGreatDoor.Ab
