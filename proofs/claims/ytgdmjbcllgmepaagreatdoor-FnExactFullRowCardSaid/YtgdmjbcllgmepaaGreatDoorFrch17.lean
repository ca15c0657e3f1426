/- What functions of the program come to, for all arguments in the given bounds. -/
import Derived.Test.YtgdmjbcllgmepaaGreatDoorFrch16b
import Derived.Test.YtgdmjbcllgmepaaGreatDoorFrZ9
set_option linter.unusedVariables false
set_option linter.unusedSimpArgs false
namespace Go.Proofs.YtgdmjbcllgmepaaGreatDoor.Ab
section
open Go Go.Proofs
set_option maxRecDepth 20000
set_option maxHeartbeats 4000000
def XdC:List (Nat×TyRow):=[ty3,ty9,Xdq,Xbd,ty41]
theorem XbN:B1 Tryz.prog XdC:=B1.of (by kernel_rfl)
theorem Qa:Setup Tryz.prog XdC:=⟨XbN,mixed⟩
def XbQ(v s r:Int):Prop:=(1≤v∧v≤2)∧(1≤s∧s≤20)∧(1≤r∧r≤50)
instance {v s r:Int}:Decidable (XbQ v s r):=by unfold XbQ;infer_instance
def Dt(d:Ac)(w:Aa):Ac×Aa×Int:=((Bx d w).1,if(Bx d w).2.2=0 then⟨(Bx d w).2.1.version_,(Bx d w).2.1.stride_,(Bx d w).2.1.roll_,(Bx d w).2.1.base_,(Bx d w).2.1.link_,(Bx d w).2.1.offsets_,(Bx d w).2.1.end_,(Bx d w).2.1.open_,3⟩else(Bx d w).2.1,(Bx d w).2.2)
def Tw(d:Ac)(w:Aa):List ByteArray→Ac×Aa×Int
 |[]=>(d,w,0)
 |r::rs=>if(Ad d w r).2.2≠0 then Ad d w r else Tw (Ad d w r).1 (Ad d w r).2.1 rs
theorem Zp{d:Ac}{w:Aa}{l:List ByteArray}{k:Nat}(h:k<l.length){x:ByteArray}(hx:l[k]=x):Tw d w (l.drop k)=if(Ad d w x).2.2≠0 then Ad d w x else Tw (Ad d w x).1 (Ad d w x).2.1 (l.drop (k+1)):=by
 rw[List.drop_eq_getElem_cons h,hx];rfl
def Cb(room v s r:Int)(records:List ByteArray):Ac×Int:=
 if XbQ v s r then((Dt (Tw (Dv room) (Bi v s r).1 (records.take 200)).1 (Tw (Dv room) (Bi v s r).1 (records.take 200)).2.1).1,
  if(Tw (Dv room) (Bi v s r).1 (records.take 200)).2.2=0 then(Dt (Tw (Dv room) (Bi v s r).1 (records.take 200)).1 (Tw (Dv room) (Bi v s r).1 (records.take 200)).2.1).2.2 else(Tw (Dv room) (Bi v s r).1 (records.take 200)).2.2)
 else(Dv room,3)
theorem XiU{room:Int}{d:Ac}(h:Dv room=d):H2 d∧d.steps_.length=0:=by
 subst h
 exact⟨by simp[H2,okD,okL,okS,Dv],rfl⟩
theorem Xiw{v s r:Int}{w:Aa}{b:Bool}(h:Bi v s r=(w,b)):Oi 0 w:=by
 unfold Bi at h
 split at h<;>(cases h;simp[Oi])
variable {Ah F4:List Bs} {Bk Bh Bf Bl xwoff D5 D3 D0 Dz xoboff xrecords:List (List D)} {Ak Aj F6 F9:List Al} {Ai Ga records:List ByteArray} {An Am wver wstr wrol wbas wlin wend wcod F7 F5 obver obstr obrol obbas oblin obend obcod oc room version stride roll ob:Int} {woff oboff:List Int} {wope obope:Bool} {k:Nat}
theorem Wi(Ap:Ah.map A5=Bk)(As:Ak.map Ae=Bh)(Au:Aj.map Ae=Bf)(At:Ai.map cS=Bl)(hwoff:woff.map cI=xwoff)(a4:H2 (⟨Ah,Ak,Aj,Ai,An,Am⟩:Ac))(hst:Ai.length<800000000)(hw:Oi k (⟨wver,wstr,wrol,wbas,wlin,woff,wend,wope,wcod⟩:Aa))(hk:k≤1000000)(hr:Dt (⟨Ah,Ak,Aj,Ai,An,Am⟩:Ac) (⟨wver,wstr,wrol,wbas,wlin,woff,wend,wope,wcod⟩:Aa)=(⟨F4,F6,F9,Ga,F7,F5⟩,⟨obver,obstr,obrol,obbas,oblin,oboff,obend,obope,obcod⟩,oc))(A0:F4.map A5=D5)(A3:F6.map Ae=D3)(A1:F9.map Ae=D0)(A2:Ga.map cS=Dz)(hoboff:oboff.map cI=xoboff):Fn Tryz.prog 181 [.agg [.d (.row 3 Bk),.d (.row 2 Bh),.d (.row 2 Bf),.d (.row 1 Bl),I An,I Am],.agg [I wver,I wstr,I wrol,I wbas,I wlin,.d (.row 1 xwoff),I wend,B wope,I wcod]] [] ⟨.tup [.agg [.d (.row 3 D5),.d (.row 2 D3),.d (.row 2 D0),.d (.row 1 Dz),I F7,I F5],.agg [I obver,I obstr,I obrol,I obbas,I oblin,.d (.row 1 xoboff),I obend,B obope,I obcod],I oc],[],[]⟩:=by
 refine Fn.go Qa Tryz.func181 fun P hP Q hQ=>?_
 conv=>cbv
 rcases ax:Bx (⟨Ah,Ak,Aj,Ai,An,Am⟩:Ac) (⟨wver,wstr,wrol,wbas,wlin,woff,wend,wope,wcod⟩:Aa)with⟨⟨af,ag,ah,ai,ak,al⟩,⟨am,an,ao,ap,aq,aj,ar,au,aw⟩,ay⟩
 generalize aa:af.map A5=az
 generalize ab:ag.map Ae=a0
 generalize ac:ah.map Ae=a1
 generalize ad:ai.map cS=a2
 generalize ae:aj.map cI=a3
 refine .dd hP (Xa6 Ap As Au At hwoff a4 (by omega) hw hk ax aa ab ac ad ae) ?_
 conv=>cbv
 refine .eql (fun h2=>?_) fun h2=>?_
 conv=>cbv
 have e:((⟨af,ag,ah,ai,ak,al⟩:Ac),(⟨am,an,ao,ap,aq,aj,ar,au,3⟩:Aa),ay)=Dt (⟨Ah,Ak,Aj,Ai,An,Am⟩:Ac) (⟨wver,wstr,wrol,wbas,wlin,woff,wend,wope,wcod⟩:Aa):=(by unfold Dt;rw[ax];dsimp only;rw[if_pos h2])
 rw[hr]at e
 simp only[Prod.mk.injEq,Ac.mk.injEq,Aa.mk.injEq]at e
 obtain⟨⟨rfl,rfl,rfl,rfl,rfl,rfl⟩,⟨rfl,rfl,rfl,rfl,rfl,rfl,rfl,rfl,rfl⟩,rfl⟩:=e
 refine hQ _ _ ?_
 exact .many (.inl rfl) rfl rfl (.agg (.d rfl (Ag aa A0) (.d rfl (Ag ab A3) (.d rfl (Ag ac A1) (.d rfl (Ag ad A2) (.d rfl rfl (.d rfl rfl (.nil))))))) (.agg (.d rfl rfl (.d rfl rfl (.d rfl rfl (.d rfl rfl (.d rfl rfl (.d rfl (Ag ae hoboff) (.d rfl rfl (.d rfl rfl (.d rfl rfl (.nil)))))))))) (.d rfl rfl (.nil))))
 conv=>cbv
 have e:((⟨af,ag,ah,ai,ak,al⟩:Ac),(⟨am,an,ao,ap,aq,aj,ar,au,aw⟩:Aa),ay)=Dt (⟨Ah,Ak,Aj,Ai,An,Am⟩:Ac) (⟨wver,wstr,wrol,wbas,wlin,woff,wend,wope,wcod⟩:Aa):=(by unfold Dt;rw[ax];dsimp only;rw[if_neg h2])
 rw[hr]at e
 simp only[Prod.mk.injEq,Ac.mk.injEq,Aa.mk.injEq]at e
 obtain⟨⟨rfl,rfl,rfl,rfl,rfl,rfl⟩,⟨rfl,rfl,rfl,rfl,rfl,rfl,rfl,rfl,rfl⟩,rfl⟩:=e
 refine hQ _ _ ?_
 exact .many (.inl rfl) rfl rfl (.agg (.d rfl (Ag aa A0) (.d rfl (Ag ab A3) (.d rfl (Ag ac A1) (.d rfl (Ag ad A2) (.d rfl rfl (.d rfl rfl (.nil))))))) (.agg (.d rfl rfl (.d rfl rfl (.d rfl rfl (.d rfl rfl (.d rfl rfl (.d rfl (Ag ae hoboff) (.d rfl rfl (.d rfl rfl (.d rfl rfl (.nil)))))))))) (.d rfl rfl (.nil))))
theorem Qm(Ap:Ah.map A5=Bk)(As:Ak.map Ae=Bh)(Au:Aj.map Ae=Bf)(At:Ai.map cS=Bl)(hwoff:woff.map cI=xwoff)(a4:H2 (⟨Ah,Ak,Aj,Ai,An,Am⟩:Ac))(hst:Ai.length<800000000)(hw:Oi k (⟨wver,wstr,wrol,wbas,wlin,woff,wend,wope,wcod⟩:Aa))(hk:k≤1000000)(hr:Dt (⟨Ah,Ak,Aj,Ai,An,Am⟩:Ac) (⟨wver,wstr,wrol,wbas,wlin,woff,wend,wope,wcod⟩:Aa)=(⟨F4,F6,F9,Ga,F7,F5⟩,⟨obver,obstr,obrol,obbas,oblin,oboff,obend,obope,obcod⟩,oc))(A0:F4.map A5=D5)(A3:F6.map Ae=D3)(A1:F9.map Ae=D0)(A2:Ga.map cS=Dz)(hoboff:oboff.map cI=xoboff):Fn Tryz.prog 180 [.agg [.d (.row 3 Bk),.d (.row 2 Bh),.d (.row 2 Bf),.d (.row 1 Bl),I An,I Am],.agg [I wver,I wstr,I wrol,I wbas,I wlin,.d (.row 1 xwoff),I wend,B wope,I wcod]] [] ⟨.tup [.agg [.d (.row 3 D5),.d (.row 2 D3),.d (.row 2 D0),.d (.row 1 Dz),I F7,I F5],.agg [I obver,I obstr,I obrol,I obbas,I oblin,.d (.row 1 xoboff),I obend,B obope,I obcod],I oc],[],[]⟩:=by
 refine Fn.go Qa Tryz.func180 fun P hP Q hQ=>?_
 conv=>cbv
 rcases ax:Bx (⟨Ah,Ak,Aj,Ai,An,Am⟩:Ac) (⟨wver,wstr,wrol,wbas,wlin,woff,wend,wope,wcod⟩:Aa)with⟨⟨af,ag,ah,ai,ak,al⟩,⟨am,an,ao,ap,aq,aj,ar,au,aw⟩,ay⟩
 generalize aa:af.map A5=az
 generalize ab:ag.map Ae=a0
 generalize ac:ah.map Ae=a1
 generalize ad:ai.map cS=a2
 generalize ae:aj.map cI=a3
 refine .dd hP (Yz Ap As Au At hwoff a4 (by omega) hw hk ax aa ab ac ad ae) ?_
 conv=>cbv
 refine .eql (fun h2=>?_) fun h2=>?_
 conv=>cbv
 have e:((⟨af,ag,ah,ai,ak,al⟩:Ac),(⟨am,an,ao,ap,aq,aj,ar,au,3⟩:Aa),ay)=Dt (⟨Ah,Ak,Aj,Ai,An,Am⟩:Ac) (⟨wver,wstr,wrol,wbas,wlin,woff,wend,wope,wcod⟩:Aa):=(by unfold Dt;rw[ax];dsimp only;rw[if_pos h2])
 rw[hr]at e
 simp only[Prod.mk.injEq,Ac.mk.injEq,Aa.mk.injEq]at e
 obtain⟨⟨rfl,rfl,rfl,rfl,rfl,rfl⟩,⟨rfl,rfl,rfl,rfl,rfl,rfl,rfl,rfl,rfl⟩,rfl⟩:=e
 refine hQ _ _ ?_
 exact .many (.inl rfl) rfl rfl (.agg (.d rfl (Ag aa A0) (.d rfl (Ag ab A3) (.d rfl (Ag ac A1) (.d rfl (Ag ad A2) (.d rfl rfl (.d rfl rfl (.nil))))))) (.agg (.d rfl rfl (.d rfl rfl (.d rfl rfl (.d rfl rfl (.d rfl rfl (.d rfl (Ag ae hoboff) (.d rfl rfl (.d rfl rfl (.d rfl rfl (.nil)))))))))) (.d rfl rfl (.nil))))
 conv=>cbv
 have e:((⟨af,ag,ah,ai,ak,al⟩:Ac),(⟨am,an,ao,ap,aq,aj,ar,au,aw⟩:Aa),ay)=Dt (⟨Ah,Ak,Aj,Ai,An,Am⟩:Ac) (⟨wver,wstr,wrol,wbas,wlin,woff,wend,wope,wcod⟩:Aa):=(by unfold Dt;rw[ax];dsimp only;rw[if_neg h2])
 rw[hr]at e
 simp only[Prod.mk.injEq,Ac.mk.injEq,Aa.mk.injEq]at e
 obtain⟨⟨rfl,rfl,rfl,rfl,rfl,rfl⟩,⟨rfl,rfl,rfl,rfl,rfl,rfl,rfl,rfl,rfl⟩,rfl⟩:=e
 refine hQ _ _ ?_
 exact .many (.inl rfl) rfl rfl (.agg (.d rfl (Ag aa A0) (.d rfl (Ag ab A3) (.d rfl (Ag ac A1) (.d rfl (Ag ad A2) (.d rfl rfl (.d rfl rfl (.nil))))))) (.agg (.d rfl rfl (.d rfl rfl (.d rfl rfl (.d rfl rfl (.d rfl rfl (.d rfl (Ag ae hoboff) (.d rfl rfl (.d rfl rfl (.d rfl rfl (.nil)))))))))) (.d rfl rfl (.nil))))
theorem Xem(hrecords:records.map cS=xrecords)(hr:Cb room version stride roll records=(⟨F4,F6,F9,Ga,F7,F5⟩,ob))(A0:F4.map A5=D5)(A3:F6.map Ae=D3)(A1:F9.map Ae=D0)(A2:Ga.map cS=Dz):Fn Tryz.prog 93 [I room,I version,I stride,I roll,.d (.row 1 xrecords)] [] ⟨.tup [.agg [.d (.row 3 D5),.d (.row 2 D3),.d (.row 2 D0),.d (.row 1 Dz),I F7,I F5],I ob],[],[]⟩:=by
 refine Fn.go Qa Tryz.func93 fun P hP Q hQ=>?_
 conv=>cbv
 rcases cw:Dv room with⟨ak,al,am,an,a5,a6⟩
 generalize bt:ak.map A5=c6
 generalize bu:al.map Ae=c7
 generalize bv:am.map Ae=c9
 generalize bw:an.map cS=da
 refine .dd hP (XeE cw bt bu bv bw) ?_
 conv=>cbv
 rcases cu:Bi version stride roll with⟨⟨ax,ay,az,a0,a1,aj,a2,a3,a4⟩,ej⟩
 generalize cj:aj.map cI=cx
 refine .dd hP (Xb1 cu cj) ?_
 conv=>cbv
 obtain⟨ek,eo⟩:=XiU cw
 have ep:=Xiw cu
 simp only[]at eo
 cases ej
 conv=>cbv
 have e:((⟨ak,al,am,an,a5,a6⟩:Ac),3)=Cb room version stride roll records:=(by have hnk:¬XbQ version stride roll:=of_decide_eq_false (Ju cu).symm;unfold Cb;rw[if_neg hnk,cw])
 rw[hr]at e
 simp only[Prod.mk.injEq,Ac.mk.injEq]at e
 obtain⟨⟨rfl,rfl,rfl,rfl,rfl,rfl⟩,rfl⟩:=e
 refine hQ _ _ ?_
 exact .many (.inl rfl) rfl rfl (.agg (.d rfl (Ag bt A0) (.d rfl (Ag bu A3) (.d rfl (Ag bv A1) (.d rfl (Ag bw A2) (.d rfl rfl (.d rfl rfl (.nil))))))) (.d rfl rfl (.nil)))
 conv=>cbv
 refine .go hrecords fun v3 eu=>?_
 conv=>cbv
 refine .go fun v4 ew=>?_
 conv=>cbv
 refine .hi hrecords fun x5 hx5=>?_
 conv=>cbv
 refine .go hx5 fun v6 ex=>?_
 conv=>cbv
 have hok:XbQ version stride roll:=of_decide_eq_true (Ju cu).symm
 have htk:records.take v4.toNat=records.take 200:=by rw[List.take_eq_take_iff];omega
 have htl:(records.take v4.toNat).length=min v4.toNat records.length:=List.length_take
 refine LoopW.lp (κ:=Int×Int×(List (List D))×(List (List D))×(List (List D))×(List (List D))×Int×Int×Int×Int×Int×Int×Int×(List (List D))×Int×Bool×Int) Qa hP [] [10,12,13,36,37] (fun(cq,ai,bn,bo,bp,bq,a7,a8,aa,ab,ac,ad,ae,ao,af,ag,ah)=>[(15,I cq),(38,I ai)]) (fun(cq,ai,bn,bo,bp,bq,a7,a8,aa,ab,ac,ad,ae,ao,af,ag,ah)=>[(9,.box 40 [.d (.row 3 bn),.d (.row 2 bo),.d (.row 2 bp),.d (.row 1 bq),I a7,I a8]),(11,.box 41 [I aa,I ab,I ac,I ad,I ae,.d (.row 1 ao),I af,B ag,I ah])])
  (fun(cq,ai,bn,bo,bp,bq,a7,a8,aa,ab,ac,ad,ae,ao,af,ag,ah)=>∃(ck:List Bs) (cm:List Al) (cn:List Al) (bm:List ByteArray) (aw:List Int),ck.map A5=bn∧cm.map Ae=bo∧cn.map Ae=bp∧bm.map cS=bq∧aw.map cI=ao∧0≤ai∧ai≤(records.take v4.toNat).length∧H2 (⟨ck,cm,cn,bm,a7,a8⟩:Ac)∧bm.length≤10*ai.toNat∧Oi ai.toNat (⟨aa,ab,ac,ad,ae,aw,af,ag,ah⟩:Aa)∧cq=0∧Tw (⟨ak,al,am,an,a5,a6⟩:Ac) (⟨ax,ay,az,a0,a1,aj,a2,a3,a4⟩:Aa) (records.take 200)=Tw (⟨ck,cm,cn,bm,a7,a8⟩:Ac) (⟨aa,ab,ac,ad,ae,aw,af,ag,ah⟩:Aa) ((records.take v4.toNat).drop ai.toNat))
  (fun(cq,ai,bn,bo,bp,bq,a7,a8,aa,ab,ac,ad,ae,ao,af,ag,ah)=>((records.take v4.toNat).length - ai).toNat) (0,0,c6,c7,c9,da,a5,a6,ax,ay,az,a0,a1,cx,a2,a3,a4) ⟨ak,al,am,an,aj,bt,bu,bv,bw,cj,by omega,by omega,ek,by omega,ep,rfl,by rw[htk];rfl⟩ ⟨rfl,rfl,trivial⟩ rfl ?_
 rintro⟨cq,ai,bn,bo,bp,bq,a7,a8,aa,ab,ac,ad,ae,ao,af,ag,ah⟩ J ⟨ck,cm,cn,bm,aw,dg,dh,di,dj,cy,h0,h1,db,hqs,hqw,hcz,hio⟩ hJ
 conv=>cbv
 refine .lss (fun h7=>?_) fun h7=>?_
 conv=>cbv
 refine .go ai.toNat hx5 fun dt e8 er=>?_
 conv=>cbv
 rcases du:Ad (⟨ck,cm,cn,bm,a7,a8⟩:Ac) (⟨aa,ab,ac,ad,ae,aw,af,ag,ah⟩:Aa) e8 with⟨⟨bz,b0,b2,b3,b4,b5⟩,⟨b6,b7,b8,b9,ca,cb,cc,cd,ce⟩,dl⟩
 generalize a9:bz.map A5=cz
 generalize ba:b0.map Ae=c0
 generalize bb:b2.map Ae=c1
 generalize bc:b3.map cS=c2
 generalize bd:cb.map cI=c3
 refine .dd hP (Xbg dg dh di dj cy db (by omega) hqw (by omega) du a9 ba bb bc bd) ?_
 conv=>cbv
 obtain⟨dc,dv,de⟩:=XeL (r:=e8) db (by show bm.length<_;omega) hqw
 have hstep:=Zp (d:=(⟨ck,cm,cn,bm,a7,a8⟩:Ac)) (w:=(⟨aa,ab,ac,ad,ae,aw,af,ag,ah⟩:Aa)) (l:=(records.take v4.toNat)) (k:=ai.toNat) (x:=e8) dt er.symm
 rw[du]at dc dv de hstep
 simp only[]at dv
 dsimp only at hstep
 refine .neq (fun h10=>?_) fun h10=>?_
 conv=>cbv
 rcases dk:Dt (⟨bz,b0,b2,b3,b4,b5⟩:Ac) (⟨b6,b7,b8,b9,ca,cb,cc,cd,ce⟩:Aa)with⟨⟨be,bf,bg,bh,co,cp⟩,⟨dw,dx,dy,dz,d0,c4,d1,d2,d3⟩,d4⟩
 generalize ap:be.map A5=dn
 generalize aq:bf.map Ae=dp
 generalize ar:bg.map Ae=dq
 generalize au:bh.map cS=dr
 generalize cv:c4.map cI=ds
 refine .dd hP (Wi a9 ba bb bc bd (by first|exact dc|exact db) (by omega) (by first|exact de|exact hqw) (by omega) dk ap aq ar au cv) ?_
 conv=>cbv
 refine .eql (fun h12=>?_) fun h12=>?_
 conv=>cbv
 have e:((⟨be,bf,bg,bh,co,cp⟩:Ac),d4)=Cb room version stride roll records:=(by exact absurd h12 (by omega))
 rw[hr]at e
 simp only[Prod.mk.injEq,Ac.mk.injEq]at e
 obtain⟨⟨rfl,rfl,rfl,rfl,rfl,rfl⟩,rfl⟩:=e
 refine hQ _ _ ?_
 exact .many (.inl rfl) rfl rfl (.agg (.d rfl (Ag ap A0) (.d rfl (Ag aq A3) (.d rfl (Ag ar A1) (.d rfl (Ag au A2) (.d rfl rfl (.d rfl rfl (.nil))))))) (.d rfl rfl (.nil)))
 conv=>cbv
 have e:((⟨be,bf,bg,bh,co,cp⟩:Ac),dl)=Cb room version stride roll records:=(by have hwa:Tw (⟨ak,al,am,an,a5,a6⟩:Ac) (⟨ax,ay,az,a0,a1,aj,a2,a3,a4⟩:Aa) (records.take 200)=((⟨bz,b0,b2,b3,b4,b5⟩:Ac),(⟨b6,b7,b8,b9,ca,cb,cc,cd,ce⟩:Aa),dl):=(by exact hio.trans (hstep.trans (if_pos h10)));unfold Cb;rw[if_pos hok,cw,cu];dsimp only;rw[hwa];dsimp only;rw[if_neg h12,dk])
 rw[hr]at e
 simp only[Prod.mk.injEq,Ac.mk.injEq]at e
 obtain⟨⟨rfl,rfl,rfl,rfl,rfl,rfl⟩,rfl⟩:=e
 refine hQ _ _ ?_
 exact .many (.inl rfl) rfl rfl (.agg (.d rfl (Ag ap A0) (.d rfl (Ag aq A3) (.d rfl (Ag ar A1) (.d rfl (Ag au A2) (.d rfl rfl (.d rfl rfl (.nil))))))) (.d rfl rfl (.nil)))
 conv=>cbv
 refine .add fun dm et=>?_
 conv=>cbv
 exact .go [] (dl,dm,cz,c0,c1,c2,b4,b5,b6,b7,b8,b9,ca,c3,cc,cd,ce) (hJ _ ⟨_,_,_,_,_,a9,ba,bb,bc,bd,by omega,by omega,dc,by omega,by rw[show dm.toNat=ai.toNat+1 by omega];exact de,by omega,by rw[hio,hstep,show dm.toNat=ai.toNat+1 by omega];exact if_neg (by omega)⟩ mlt)
 conv=>cbv
 rcases d5:Dt (⟨ck,cm,cn,bm,a7,a8⟩:Ac) (⟨aa,ab,ac,ad,ae,aw,af,ag,ah⟩:Aa)with⟨⟨cf,cg,ch,ci,cr,ct⟩,⟨eb,ec,ed,ee,ef,df,eg,eh,ei⟩,es⟩
 generalize bi:cf.map A5=d6
 generalize bj:cg.map Ae=d7
 generalize bk:ch.map Ae=d8
 generalize bl:ci.map cS=d9
 generalize c5:df.map cI=ea
 refine .dd hP (Wi dg dh di dj cy (by first|exact dc|exact db) (by omega) (by first|exact de|exact hqw) (by omega) d5 bi bj bk bl c5) ?_
 conv=>cbv
 refine .eql (fun h9=>?_) fun h9=>?_
 conv=>cbv
 have e:((⟨cf,cg,ch,ci,cr,ct⟩:Ac),es)=Cb room version stride roll records:=(by have hwa:Tw (⟨ak,al,am,an,a5,a6⟩:Ac) (⟨ax,ay,az,a0,a1,aj,a2,a3,a4⟩:Aa) (records.take 200)=((⟨ck,cm,cn,bm,a7,a8⟩:Ac),(⟨aa,ab,ac,ad,ae,aw,af,ag,ah⟩:Aa),0):=(by rw[hio,List.drop_of_length_le (by omega)];rfl);unfold Cb;rw[if_pos hok,cw,cu];dsimp only;rw[hwa];dsimp only;rw[if_pos rfl,d5])
 rw[hr]at e
 simp only[Prod.mk.injEq,Ac.mk.injEq]at e
 obtain⟨⟨rfl,rfl,rfl,rfl,rfl,rfl⟩,rfl⟩:=e
 refine hQ _ _ ?_
 exact .many (.inl rfl) rfl rfl (.agg (.d rfl (Ag bi A0) (.d rfl (Ag bj A3) (.d rfl (Ag bk A1) (.d rfl (Ag bl A2) (.d rfl rfl (.d rfl rfl (.nil))))))) (.d rfl rfl (.nil)))
 conv=>cbv
 have e:((⟨cf,cg,ch,ci,cr,ct⟩:Ac),cq)=Cb room version stride roll records:=(by exact absurd hcz h9)
 rw[hr]at e
 simp only[Prod.mk.injEq,Ac.mk.injEq]at e
 obtain⟨⟨rfl,rfl,rfl,rfl,rfl,rfl⟩,rfl⟩:=e
 refine hQ _ _ ?_
 exact .many (.inl rfl) rfl rfl (.agg (.d rfl (Ag bi A0) (.d rfl (Ag bj A3) (.d rfl (Ag bk A1) (.d rfl (Ag bl A2) (.d rfl rfl (.d rfl rfl (.nil))))))) (.d rfl rfl (.nil)))
theorem XdX(hrecords:records.map cS=xrecords)(hr:Cb room version stride roll records=(⟨F4,F6,F9,Ga,F7,F5⟩,ob))(A0:F4.map A5=D5)(A3:F6.map Ae=D3)(A1:F9.map Ae=D0)(A2:Ga.map cS=Dz):Fn Tryz.prog 91 [I room,I version,I stride,I roll,.d (.row 1 xrecords)] [] ⟨.tup [.agg [.d (.row 3 D5),.d (.row 2 D3),.d (.row 2 D0),.d (.row 1 Dz),I F7,I F5],I ob],[],[]⟩:=by
 refine Fn.go Qa Tryz.func91 fun P hP Q hQ=>?_
 conv=>cbv
 rcases cd:Dv room with⟨ak,al,am,an,a2,a3⟩
 generalize bq:ak.map A5=c9
 generalize bt:al.map Ae=da
 generalize bu:am.map Ae=db
 generalize bv:an.map cS=dc
 refine .dd hP (XeZ cd bq bt bu bv) ?_
 conv=>cbv
 rcases bw:Bi version stride roll with⟨⟨ao,ap,aq,ar,au,aj,aw,ax,ay⟩,fd⟩
 generalize ce:aj.map cI=cw
 refine .dd hP (Xbz bw ce) ?_
 conv=>cbv
 obtain⟨fe,ff⟩:=XiU cd
 have fg:=Xiw bw
 simp only[]at ff
 cases fd
 conv=>cbv
 have e:((⟨ak,al,am,an,a2,a3⟩:Ac),3)=Cb room version stride roll records:=(by have hnk:¬XbQ version stride roll:=of_decide_eq_false (Ju bw).symm;unfold Cb;rw[if_neg hnk,cd])
 rw[hr]at e
 simp only[Prod.mk.injEq,Ac.mk.injEq]at e
 obtain⟨⟨rfl,rfl,rfl,rfl,rfl,rfl⟩,rfl⟩:=e
 refine hQ _ _ ?_
 exact .many (.inl rfl) rfl rfl (.agg (.d rfl (Ag bq A0) (.d rfl (Ag bt A3) (.d rfl (Ag bu A1) (.d rfl (Ag bv A2) (.d rfl rfl (.d rfl rfl (.nil))))))) (.d rfl rfl (.nil)))
 conv=>cbv
 have hok:XbQ version stride roll:=of_decide_eq_true (Ju bw).symm
 have htl:(records.take 200).length=min 200 records.length:=List.length_take
 refine LoopW.lp (κ:=Int×Int×(List (List D))×(List (List D))×(List (List D))×(List (List D))×Int×Int×Int×Int×Int×Int×Int×(List (List D))×Int×Bool×Int) Qa hP [] [4,10,12,13] (fun(az,a5,bm,bn,bo,bp,a0,a1,aa,ab,ac,ad,ae,a9,af,ag,ah)=>[(15,I az),(16,I a5)]) (fun(az,a5,bm,bn,bo,bp,a0,a1,aa,ab,ac,ad,ae,a9,af,ag,ah)=>[(9,.box 40 [.d (.row 3 bm),.d (.row 2 bn),.d (.row 2 bo),.d (.row 1 bp),I a0,I a1]),(11,.box 41 [I aa,I ab,I ac,I ad,I ae,.d (.row 1 a9),I af,B ag,I ah])])
  (fun(az,a5,bm,bn,bo,bp,a0,a1,aa,ab,ac,ad,ae,a9,af,ag,ah)=>∃(a6:List Bs) (a7:List Al) (a8:List Al) (a4:List ByteArray) (ai:List Int),a6.map A5=bm∧a7.map Ae=bn∧a8.map Ae=bo∧a4.map cS=bp∧ai.map cI=a9∧0≤a5∧a5≤(records.take 200).length∧H2 (⟨a6,a7,a8,a4,a0,a1⟩:Ac)∧a4.length≤10*a5.toNat∧Oi a5.toNat (⟨aa,ab,ac,ad,ae,ai,af,ag,ah⟩:Aa)∧Tw (⟨ak,al,am,an,a2,a3⟩:Ac) (⟨ao,ap,aq,ar,au,aj,aw,ax,ay⟩:Aa) (records.take 200)=if az=0 then Tw (⟨a6,a7,a8,a4,a0,a1⟩:Ac) (⟨aa,ab,ac,ad,ae,ai,af,ag,ah⟩:Aa) ((records.take 200).drop a5.toNat)else((⟨a6,a7,a8,a4,a0,a1⟩:Ac),(⟨aa,ab,ac,ad,ae,ai,af,ag,ah⟩:Aa),az))
  (fun(az,a5,bm,bn,bo,bp,a0,a1,aa,ab,ac,ad,ae,a9,af,ag,ah)=>((records.take 200).length - a5).toNat) (0,0,c9,da,db,dc,a2,a3,ao,ap,aq,ar,au,cw,aw,ax,ay) ⟨ak,al,am,an,aj,bq,bt,bu,bv,ce,by omega,by omega,fe,by omega,fg,rfl⟩ ⟨rfl,rfl,trivial⟩ rfl ?_
 rintro⟨az,a5,bm,bn,bo,bp,a0,a1,aa,ab,ac,ad,ae,a9,af,ag,ah⟩ J ⟨a6,a7,a8,a4,ai,ck,cm,cn,co,bz,h0,h1,cx,hqs,hqw,hio⟩ hJ
 conv=>cbv
 refine .go hrecords fun v3 fm=>?_
 conv=>cbv
 refine .lss (fun h4=>?_) fun h4=>?_
 conv=>cbv
 refine .lss (fun h5=>?_) fun h5=>?_
 conv=>cbv
 refine .eql (fun h6=>?_) fun h6=>?_
 conv=>cbv
 refine .go a5.toNat hrecords fun fl e7 fh=>?_
 conv=>cbv
 rcases dz:Ad (⟨a6,a7,a8,a4,a0,a1⟩:Ac) (⟨aa,ab,ac,ad,ae,ai,af,ag,ah⟩:Aa) e7 with⟨⟨de,df,dg,dh,di,dj⟩,⟨dk,dl,dm,dn,dp,dq,dr,ds,dt⟩,d0⟩
 generalize cf:de.map A5=cy
 generalize cg:df.map Ae=cz
 generalize ch:dg.map Ae=c0
 generalize ci:dh.map cS=c1
 generalize cj:dq.map cI=c2
 refine .dd hP (Xbt ck cm cn co bz cx (by omega) hqw (by omega) dz cf cg ch ci cj) ?_
 conv=>cbv
 obtain⟨c3,d1,c4⟩:=XeL (r:=e7) cx (by show a4.length<_;omega) hqw
 have hstep:=Zp (d:=(⟨a6,a7,a8,a4,a0,a1⟩:Ac)) (w:=(⟨aa,ab,ac,ad,ae,ai,af,ag,ah⟩:Aa)) (l:=(records.take 200)) (k:=a5.toNat) (x:=e7) (show a5.toNat<(records.take 200).length by omega) (by rw[List.getElem_take];exact fh.symm)
 rw[dz]at c3 d1 c4 hstep
 simp only[]at d1
 dsimp only at hstep
 refine .add fun v9 fn=>?_
 conv=>cbv
 exact .go [] (d0,v9,cy,cz,c0,c1,di,dj,dk,dl,dm,dn,dp,c2,dr,ds,dt) (hJ _ ⟨_,_,_,_,_,cf,cg,ch,ci,cj,by omega,by omega,c3,by omega,by rw[show v9.toNat=a5.toNat+1 by omega];exact c4,by rw[hio,if_pos (by omega),hstep,show v9.toNat=a5.toNat+1 by omega];by_cases hz:d0=0<;>simp[hz]⟩ mlt)
 conv=>cbv
 rcases d2:Dt (⟨a6,a7,a8,a4,a0,a1⟩:Ac) (⟨aa,ab,ac,ad,ae,ai,af,ag,ah⟩:Aa)with⟨⟨b0,b2,b3,b4,cp,cq⟩,⟨ei,ej,ek,eo,ep,du,er,es,et⟩,fi⟩
 generalize ba:b0.map A5=d3
 generalize bb:b2.map Ae=d4
 generalize bc:b3.map Ae=d5
 generalize bd:b4.map cS=d6
 generalize c5:du.map cI=d7
 refine .dd hP (Qm ck cm cn co bz (by first|exact c3|exact cx) (by omega) (by first|exact c4|exact hqw) (by omega) d2 ba bb bc bd c5) ?_
 conv=>cbv
 refine .eql (fun h8=>?_) fun h8=>?_
 conv=>cbv
 have e:((⟨b0,b2,b3,b4,cp,cq⟩:Ac),fi)=Cb room version stride roll records:=(by exact absurd h8 h6)
 rw[hr]at e
 simp only[Prod.mk.injEq,Ac.mk.injEq]at e
 obtain⟨⟨rfl,rfl,rfl,rfl,rfl,rfl⟩,rfl⟩:=e
 refine hQ _ _ ?_
 exact .many (.inl rfl) rfl rfl (.agg (.d rfl (Ag ba A0) (.d rfl (Ag bb A3) (.d rfl (Ag bc A1) (.d rfl (Ag bd A2) (.d rfl rfl (.d rfl rfl (.nil))))))) (.d rfl rfl (.nil)))
 conv=>cbv
 have e:((⟨b0,b2,b3,b4,cp,cq⟩:Ac),az)=Cb room version stride roll records:=(by have hwa:Tw (⟨ak,al,am,an,a2,a3⟩:Ac) (⟨ao,ap,aq,ar,au,aj,aw,ax,ay⟩:Aa) (records.take 200)=((⟨a6,a7,a8,a4,a0,a1⟩:Ac),(⟨aa,ab,ac,ad,ae,ai,af,ag,ah⟩:Aa),az):=(by exact hio.trans (if_neg h6));unfold Cb;rw[if_pos hok,cd,bw];dsimp only;rw[hwa];dsimp only;rw[if_neg h6,d2])
 rw[hr]at e
 simp only[Prod.mk.injEq,Ac.mk.injEq]at e
 obtain⟨⟨rfl,rfl,rfl,rfl,rfl,rfl⟩,rfl⟩:=e
 refine hQ _ _ ?_
 exact .many (.inl rfl) rfl rfl (.agg (.d rfl (Ag ba A0) (.d rfl (Ag bb A3) (.d rfl (Ag bc A1) (.d rfl (Ag bd A2) (.d rfl rfl (.d rfl rfl (.nil))))))) (.d rfl rfl (.nil)))
 conv=>cbv
 rcases dx:Dt (⟨a6,a7,a8,a4,a0,a1⟩:Ac) (⟨aa,ab,ac,ad,ae,ai,af,ag,ah⟩:Aa)with⟨⟨b5,b6,b7,b8,cr,ct⟩,⟨eu,ew,ex,ey,e0,dv,e1,e2,e3⟩,fj⟩
 generalize be:b5.map A5=d8
 generalize bf:b6.map Ae=d9
 generalize bg:b7.map Ae=ea
 generalize bh:b8.map cS=eb
 generalize c6:dv.map cI=ec
 refine .dd hP (Qm ck cm cn co bz (by first|exact c3|exact cx) (by omega) (by first|exact c4|exact hqw) (by omega) dx be bf bg bh c6) ?_
 conv=>cbv
 refine .eql (fun h7=>?_) fun h7=>?_
 conv=>cbv
 have e:((⟨b5,b6,b7,b8,cr,ct⟩:Ac),fj)=Cb room version stride roll records:=(by have hwa:Tw (⟨ak,al,am,an,a2,a3⟩:Ac) (⟨ao,ap,aq,ar,au,aj,aw,ax,ay⟩:Aa) (records.take 200)=((⟨a6,a7,a8,a4,a0,a1⟩:Ac),(⟨aa,ab,ac,ad,ae,ai,af,ag,ah⟩:Aa),az):=(by rw[hio];rcases Decidable.em (az=0)with hz|hz;(rw[if_pos hz,List.drop_of_length_le (by omega),hz];rfl);exact if_neg hz);unfold Cb;rw[if_pos hok,cd,bw];dsimp only;rw[hwa];dsimp only;rw[if_pos h7,dx])
 rw[hr]at e
 simp only[Prod.mk.injEq,Ac.mk.injEq]at e
 obtain⟨⟨rfl,rfl,rfl,rfl,rfl,rfl⟩,rfl⟩:=e
 refine hQ _ _ ?_
 exact .many (.inl rfl) rfl rfl (.agg (.d rfl (Ag be A0) (.d rfl (Ag bf A3) (.d rfl (Ag bg A1) (.d rfl (Ag bh A2) (.d rfl rfl (.d rfl rfl (.nil))))))) (.d rfl rfl (.nil)))
 conv=>cbv
 have e:((⟨b5,b6,b7,b8,cr,ct⟩:Ac),az)=Cb room version stride roll records:=(by have hwa:Tw (⟨ak,al,am,an,a2,a3⟩:Ac) (⟨ao,ap,aq,ar,au,aj,aw,ax,ay⟩:Aa) (records.take 200)=((⟨a6,a7,a8,a4,a0,a1⟩:Ac),(⟨aa,ab,ac,ad,ae,ai,af,ag,ah⟩:Aa),az):=(by rw[hio];rcases Decidable.em (az=0)with hz|hz;(rw[if_pos hz,List.drop_of_length_le (by omega),hz];rfl);exact if_neg hz);unfold Cb;rw[if_pos hok,cd,bw];dsimp only;rw[hwa];dsimp only;rw[if_neg h7,dx])
 rw[hr]at e
 simp only[Prod.mk.injEq,Ac.mk.injEq]at e
 obtain⟨⟨rfl,rfl,rfl,rfl,rfl,rfl⟩,rfl⟩:=e
 refine hQ _ _ ?_
 exact .many (.inl rfl) rfl rfl (.agg (.d rfl (Ag be A0) (.d rfl (Ag bf A3) (.d rfl (Ag bg A1) (.d rfl (Ag bh A2) (.d rfl rfl (.d rfl rfl (.nil))))))) (.d rfl rfl (.nil)))
 conv=>cbv
 rcases dy:Dt (⟨a6,a7,a8,a4,a0,a1⟩:Ac) (⟨aa,ab,ac,ad,ae,ai,af,ag,ah⟩:Aa)with⟨⟨b9,ca,cb,cc,cu,cv⟩,⟨e4,e5,e6,e8,e9,dw,fa,fb,fc⟩,fk⟩
 generalize bi:b9.map A5=ed
 generalize bj:ca.map Ae=ee
 generalize bk:cb.map Ae=ef
 generalize bl:cc.map cS=eg
 generalize c7:dw.map cI=eh
 refine .dd hP (Qm ck cm cn co bz (by first|exact c3|exact cx) (by omega) (by first|exact c4|exact hqw) (by omega) dy bi bj bk bl c7) ?_
 conv=>cbv
 refine .eql (fun h6=>?_) fun h6=>?_
 conv=>cbv
 have e:((⟨b9,ca,cb,cc,cu,cv⟩:Ac),fk)=Cb room version stride roll records:=(by have hwa:Tw (⟨ak,al,am,an,a2,a3⟩:Ac) (⟨ao,ap,aq,ar,au,aj,aw,ax,ay⟩:Aa) (records.take 200)=((⟨a6,a7,a8,a4,a0,a1⟩:Ac),(⟨aa,ab,ac,ad,ae,ai,af,ag,ah⟩:Aa),az):=(by rw[hio];rcases Decidable.em (az=0)with hz|hz;(rw[if_pos hz,List.drop_of_length_le (by omega),hz];rfl);exact if_neg hz);unfold Cb;rw[if_pos hok,cd,bw];dsimp only;rw[hwa];dsimp only;rw[if_pos h6,dy])
 rw[hr]at e
 simp only[Prod.mk.injEq,Ac.mk.injEq]at e
 obtain⟨⟨rfl,rfl,rfl,rfl,rfl,rfl⟩,rfl⟩:=e
 refine hQ _ _ ?_
 exact .many (.inl rfl) rfl rfl (.agg (.d rfl (Ag bi A0) (.d rfl (Ag bj A3) (.d rfl (Ag bk A1) (.d rfl (Ag bl A2) (.d rfl rfl (.d rfl rfl (.nil))))))) (.d rfl rfl (.nil)))
 conv=>cbv
 have e:((⟨b9,ca,cb,cc,cu,cv⟩:Ac),az)=Cb room version stride roll records:=(by have hwa:Tw (⟨ak,al,am,an,a2,a3⟩:Ac) (⟨ao,ap,aq,ar,au,aj,aw,ax,ay⟩:Aa) (records.take 200)=((⟨a6,a7,a8,a4,a0,a1⟩:Ac),(⟨aa,ab,ac,ad,ae,ai,af,ag,ah⟩:Aa),az):=(by rw[hio];rcases Decidable.em (az=0)with hz|hz;(rw[if_pos hz,List.drop_of_length_le (by omega),hz];rfl);exact if_neg hz);unfold Cb;rw[if_pos hok,cd,bw];dsimp only;rw[hwa];dsimp only;rw[if_neg h6,dy])
 rw[hr]at e
 simp only[Prod.mk.injEq,Ac.mk.injEq]at e
 obtain⟨⟨rfl,rfl,rfl,rfl,rfl,rfl⟩,rfl⟩:=e
 refine hQ _ _ ?_
 exact .many (.inl rfl) rfl rfl (.agg (.d rfl (Ag bi A0) (.d rfl (Ag bj A3) (.d rfl (Ag bk A1) (.d rfl (Ag bl A2) (.d rfl rfl (.d rfl rfl (.nil))))))) (.d rfl rfl (.nil)))
end
section
open Go Go.Proofs
set_option maxRecDepth 20000
set_option maxHeartbeats 4000000
def Xc8:List (Nat×TyRow):=[ty3,Xdq,Xbd,Xjz,XhA,XjJ]
theorem XbH:B1 Tryz.prog Xc8:=B1.of (by kernel_rfl)
theorem W5:Setup Tryz.prog Xc8:=⟨XbH,mixed⟩
theorem Xh7{l:List ByteArray}:∀{d:Ac} {w:Aa} {k:Nat},H2 d→d.steps_.length+10*l.length≤800000000→Oi k w→H2 (Tw d w l).1∧(Tw d w l).1.steps_.length≤d.steps_.length+10*l.length:=by
 induction l with
 |nil=>exact fun h _ _=>⟨h,Nat.le_add_right _ _⟩
 |cons x l ih=>
  intro d w k h hl hw
  rw[List.length_cons]at hl⊢
  have h1:=XeL (r:=x) h (by omega) hw
  have h2:=h1.2.1
  unfold Tw
  split
  ·exact⟨h1.1,by omega⟩
  ·have h3:=ih h1.1 (by omega) h1.2.2
   exact⟨h3.1,by have:=h3.2;omega⟩
theorem Xiq{room v s r:Int}{l:List ByteArray}:H2 (Cb room v s r l).1:=by
 have hd:=XiU (rfl:Dv room=_)
 unfold Cb
 split
 ·have h:=Xh7 (l:=l.take 200) hd.1 (by rw[hd.2,List.length_take];omega) (Xiw (rfl:Bi v s r=((Bi v s r).1,(Bi v s r).2)))
  show H2 (Bx _ _).1
  unfold Bx
  split
  ·exact h.1
  ·exact(Sf h.1).1
 ·exact hd.1
def Fi(room v s r:Int)(records:List ByteArray):List ByteArray:=N0 (Cb room v s r records).1
variable {o records:List ByteArray} {xo xrecords:List (List D)} {no:Nat} {room version stride roll:Int}
theorem Xhe{Ah:List Bs}{Bk:List (List D)}{Ak:List Al}{Bh:List (List D)}{Aj:List Al}{Bf:List (List D)}{Ai:List ByteArray}{Bl:List (List D)}{An:Int}{Am:Int}(Ap:Ah.map A5=Bk)(As:Ak.map Ae=Bh)(Au:Aj.map Ae=Bf)(At:Ai.map cS=Bl)(hd:okD ⟨Ah,Ak,Aj,Ai,An,Am⟩)(hr:N0 (⟨Ah,Ak,Aj,Ai,An,Am⟩:Ac)=o)(ho:o.map cS=xo)(hno:no=o.length):Fn Tryz.prog 67 [.agg [.d (.row 3 Bk),.d (.row 2 Bh),.d (.row 2 Bf),.d (.row 1 Bl),I An,I Am]] [] ⟨.ref 0 0 no,[.row 1 false xo],[]⟩:=by
 refine Fn.goR W5 Tryz.func67 fun P hP Q hQ=>?_
 conv=>cbv
 generalize ap:Md (⟨Ah,Ak,Aj,Ai,An,Am⟩:Ac)=l1
 generalize ar:l1.map Xi1=a8
 refine .dd hP (XiC Ap As Au At hd ap ar) ?_
 conv=>cbv
 refine .go ar fun v2 a9=>?_
 conv=>cbv
 refine LoopW.lp (κ:=Int×(List (List D))×Nat) W5 hP [2] [8,9] (fun(ae,ak,al)=>[(3,.ref 3 0 al),(10,I ae)]) (fun(ae,ak,al)=>[(3,.row 1 false ak)])
  (fun(ae,ak,al)=>∃(w3:List ByteArray),w3.map cS=ak∧al=w3.length∧0≤ae∧ae≤l1.length∧w3.length≤1000000000*ae.toNat∧w3=(l1.take ae.toNat).flatMap fun x=>x.scan_.records_)
  (fun(ae,ak,al)=>(l1.length - ae).toNat) (0,[],0) ⟨[],rfl,rfl,by omega,by omega,by simp,by simp⟩ ⟨rfl,rfl,trivial⟩ rfl ?_
 rintro⟨ae,ak,al⟩ J ⟨w3,ay,a5,h0,h1,hb,hw⟩ hJ
 have a6:=Xeb ap
 conv=>cbv
 refine .lss (fun h3=>?_) fun h3=>?_
 conv=>cbv
 refine .goX ae.toNat ar fun az ⟨ao,am,⟨aj,⟨aa,ab,ac,ad⟩,af,ag,ah,ai⟩⟩ fe4 a0 hfe4=>?_
 replace hfe4:[.sc (.int .i64 ao),.sc (.string am),.sc (.bool aj),.sc (.int .i64 aa),.sc (.int .i64 ab),.sc (.int .i64 ac),.sc (.int .i64 ad),.row 1 (af.map cS),.row 1 (ag.map cI),.sc (.int .i64 ah),.sc (.bool ai)]=fe4:=hfe4
 generalize an:af.map cS=au at hfe4
 generalize aw:ag.map cI=ax at hfe4
 subst hfe4
 conv=>cbv
 have hm:=Vc ap (x:=⟨ao,am,⟨aj,⟨aa,ab,ac,ad⟩,af,ag,ah,ai⟩⟩) (by rw[a0];exact List.getElem_mem _)
 obtain⟨aq,a1,s9,a2⟩:=hm
 simp only[]at aq a1 a2
 have hz:=Hk hd aq.symm
 have zr:=I4 (b:=am)
 rw[aq,←a1]at zr
 simp only[]at zr
 rw[←aq]at zr
 refine .row ay an fun a3 z5 a7 a4=>?_
 conv=>cbv
 refine .add fun v6 ba=>?_
 conv=>cbv
 exact .go [7] (v6,z5,a3) (hJ _ ⟨_,a4,Ot,by omega,by omega,by rw[List.length_append,show v6.toNat=ae.toNat+1 by omega];omega,by rw[hw,show v6.toNat=ae.toNat+1 by omega,Xfp az,←a0]⟩ mlt)
 conv=>cbv
 have e:w3=N0 (⟨Ah,Ak,Aj,Ai,An,Am⟩:Ac):=(by unfold N0;rw[hw,ap,List.take_of_length_le (by omega)])
 rw[hr]at e
 subst e
 obtain rfl:ak=xo:=by rw[←ay,←ho]
 obtain rfl:al=no:=by first|omega|(rw[hno];simp;done)|(rw[hno];simp;omega)
 exact hQ _ _ (.of [3] (.inl rfl) rfl rfl rfl rfl)
theorem XdV(hrecords:records.map cS=xrecords)(hr:Fi room version stride roll records=o)(ho:o.map cS=xo)(hno:no=o.length):Fn Tryz.prog 36 [I room,I version,I stride,I roll,.d (.row 1 xrecords)] [] ⟨.ref 0 0 no,[.row 1 false xo],[]⟩:=by
 refine Fn.goR W5 Tryz.func36 fun P hP Q hQ=>?_
 conv=>cbv
 rcases ak:Cb room version stride roll records with⟨⟨ae,af,ag,ah,ai,aj⟩,au⟩
 generalize aa:ae.map A5=am
 generalize ab:af.map Ae=an
 generalize ac:ag.map Ae=ao
 generalize ad:ah.map cS=ap
 refine .dd hP (Xem hrecords ak aa ab ac ad) ?_
 conv=>cbv
 have hwa:=Xiq (room:=room) (v:=version) (s:=stride) (r:=roll) (l:=records)
 rw[ak]at hwa
 generalize aq:N0 (⟨ae,af,ag,ah,ai,aj⟩:Ac)=l2
 generalize al:l2.map cS=ar
 obtain⟨nl2,hnl2⟩:∃m,m=l2.length:=⟨_,rfl⟩
 refine .ddA hP (Xhe aa ab ac ad hwa.1 aq al hnl2) rfl rfl rfl (al▸Ld (fun _=>rfl) l2) ?_
 conv=>cbv
 have e:l2=Fi room version stride roll records:=(by unfold Fi;rw[ak];exact aq.symm)
 rw[hr]at e
 subst e
 obtain rfl:ar=xo:=by rw[←al,←ho]
 obtain rfl:nl2=no:=by first|omega|(rw[hno];simp;done)|(rw[hno];simp;omega)
 exact hQ _ _ (.of [6] (.inl rfl) rfl rfl rfl rfl)
theorem Xf8(hrecords:records.map cS=xrecords)(hr:Fi room version stride roll records=o)(ho:o.map cS=xo):Fn Tryz.prog 35 [I room,I version,I stride,I roll,.d (.row 1 xrecords)] [] ⟨.d (.row 1 xo),[],[]⟩:=by
 refine Fn.go W5 Tryz.func35 fun P hP Q hQ=>?_
 conv=>cbv
 rcases ak:Cb room version stride roll records with⟨⟨ae,af,ag,ah,ai,aj⟩,ar⟩
 generalize aa:ae.map A5=al
 generalize ab:af.map Ae=am
 generalize ac:ag.map Ae=an
 generalize ad:ah.map cS=ao
 refine .dd hP (XdX hrecords ak aa ab ac ad) ?_
 conv=>cbv
 have hwa:=Xiq (room:=room) (v:=version) (s:=stride) (r:=roll) (l:=records)
 rw[ak]at hwa
 generalize ap:N0 (⟨ae,af,ag,ah,ai,aj⟩:Ac)=l2
 generalize aq:l2.map cS=au
 refine .dd hP (XiH aa ab ac ad hwa.1 ap aq) ?_
 conv=>cbv
 have e:l2=Fi room version stride roll records:=(by unfold Fi;rw[ak];exact ap.symm)
 rw[hr]at e
 subst e
 exact hQ _ _ (.d rfl (by rw[←aq,←ho]))
end
section
open Go Go.Proofs
set_option maxRecDepth 20000
set_option maxHeartbeats 4000000
end
end Go.Proofs.YtgdmjbcllgmepaaGreatDoor.Ab
