/- What functions of the program come to, for all arguments in the given bounds. -/
import Derived.Test.YtgdmjbcllgmepaaGreatDoorTich16b
import Derived.Test.YtgdmjbcllgmepaaGreatDoorTiZ9
set_option linter.unusedVariables false
set_option linter.unusedSimpArgs false
namespace Go.Proofs.YtgdmjbcllgmepaaGreatDoor.Ab
section
open Go Go.Proofs
set_option maxRecDepth 20000
set_option maxHeartbeats 4000000
def XcI:List (Nat×TyRow):=[ty3,ty9,Xdu,Xa1,ty41]
theorem XaM:Bx Tryz.prog XcI:=Bx.of (by kernel_rfl)
theorem Xd:Setup Tryz.prog XcI:=⟨XaM,mixed⟩
def Xd9(v s r:Int):Prop:=(1≤v∧v≤2)∧(1≤s∧s≤20)∧(1≤r∧r≤50)
instance {v s r:Int}:Decidable (Xd9 v s r):=by unfold Xd9;infer_instance
def waGo(d:Ac)(w:Aa):List ByteArray→Ac×Aa×Int
 |[]=>(d,w,0)
 |r::rs=>if(Ad d w r).2.2≠0 then Ad d w r else waGo (Ad d w r).1 (Ad d w r).2.1 rs
def waN(d:Ac)(w:Aa):List ByteArray→Int
 |[]=>0
 |r::rs=>if(Ad d w r).2.2≠0 then 0 else 1+waN (Ad d w r).1 (Ad d w r).2.1 rs
theorem XbA{d:Ac}{w:Aa}{l:List ByteArray}{k:Nat}(h:k<l.length){x:ByteArray}(hx:l[k]=x):waN d w (l.drop k)=if(Ad d w x).2.2≠0 then 0 else 1+waN (Ad d w x).1 (Ad d w x).2.1 (l.drop (k+1)):=by
 rw[List.drop_eq_getElem_cons h,hx];rfl
def Dx(room v s r:Int)(records:List ByteArray):Int:=if Xd9 v s r then waN (Fm room) (B1 v s r).1 (records.take 200)else 0
theorem Xih{room:Int}{d:Ac}(h:Fm room=d):Is d∧d.steps_.length=0:=by
 subst h
 exact⟨by simp[Is,okD,okL,okS,Fm],rfl⟩
theorem XiC{v s r:Int}{w:Aa}{b:Bool}(h:B1 v s r=(w,b)):Pe 0 w:=by
 unfold B1 at h
 split at h<;>(cases h;simp[Pe])
variable {room version stride roll o:Int} {records:List ByteArray} {xrecords:List (List D)}
theorem XdR(hrecords:records.map cS=xrecords)(hr:Dx room version stride roll records=o):Fn Tryz.prog 26 [I room,I version,I stride,I roll,.d (.row 1 xrecords)] [] ⟨I o,[],[]⟩:=by
 refine Fn.go Xd Tryz.func26 fun P hP Q hQ=>?_
 conv=>cbv
 rcases cg:Fm room with⟨a9,ba,bb,bc,ch,ci⟩
 generalize a0:a9.map A8=bk
 generalize a1:ba.map Ae=bl
 generalize a2:bb.map Ae=bm
 generalize a3:bc.map cS=bn
 refine .dd hP (XdH cg a0 a1 a2 a3) ?_
 conv=>cbv
 rcases bd:B1 version stride roll with⟨⟨bo,bp,bq,bt,bu,a4,bv,bw,bz⟩,cx⟩
 generalize aq:a4.map cI=be
 refine .dd hP (Xbf bd aq) ?_
 conv=>cbv
 obtain⟨cy,cz⟩:=Xih cg
 have c0:=XiC bd
 simp only[]at cz
 cases cx
 conv=>cbv
 have e:0=Dx room version stride roll records:=(by have hnk:¬Xd9 version stride roll:=of_decide_eq_false (Mj bd).symm;unfold Dx;exact(if_neg hnk).symm)
 rw[hr]at e
 subst e
 exact hQ _ _ (.i rfl rfl)
 conv=>cbv
 refine .go hrecords fun v3 c3=>?_
 conv=>cbv
 refine .go fun v4 c5=>?_
 conv=>cbv
 refine .hi hrecords fun x5 hx5=>?_
 conv=>cbv
 refine .go hx5 fun v6 c6=>?_
 conv=>cbv
 have hok:Xd9 version stride roll:=of_decide_eq_true (Mj bd).symm
 have htk:records.take v4.toNat=records.take 200:=by rw[List.take_eq_take_iff];omega
 have htl:(records.take v4.toNat).length=min v4.toNat records.length:=List.length_take
 refine LoopW.lp (κ:=Int×(List (List D))×(List (List D))×(List (List D))×(List (List D))×Int×Int×Int×Int×Int×Int×Int×(List (List D))×Int×Bool×Int) Xd hP [] [4,11,12,32,33] (fun(aa,ab,ac,ad,ae,ag,ah,ai,aj,ak,al,am,af,an,ao,ap)=>[(34,I aa)]) (fun(aa,ab,ac,ad,ae,ag,ah,ai,aj,ak,al,am,af,an,ao,ap)=>[(4,.box 40 [.d (.row 3 ab),.d (.row 2 ac),.d (.row 2 ad),.d (.row 1 ae),I ag,I ah]),(6,.box 41 [I ai,I aj,I ak,I al,I am,.d (.row 1 af),I an,B ao,I ap])])
  (fun(aa,ab,ac,ad,ae,ag,ah,ai,aj,ak,al,am,af,an,ao,ap)=>∃(a5:List Br) (a6:List Ai) (a7:List Ai) (ar:List ByteArray) (a8:List Int),a5.map A8=ab∧a6.map Ae=ac∧a7.map Ae=ad∧ar.map cS=ae∧a8.map cI=af∧0≤aa∧aa≤(records.take v4.toNat).length∧Is (⟨a5,a6,a7,ar,ag,ah⟩:Ac)∧ar.length≤10*aa.toNat∧Pe aa.toNat (⟨ai,aj,ak,al,am,a8,an,ao,ap⟩:Aa)∧Dx room version stride roll records=aa+waN (⟨a5,a6,a7,ar,ag,ah⟩:Ac) (⟨ai,aj,ak,al,am,a8,an,ao,ap⟩:Aa) ((records.take v4.toNat).drop aa.toNat))
  (fun(aa,ab,ac,ad,ae,ag,ah,ai,aj,ak,al,am,af,an,ao,ap)=>((records.take v4.toNat).length - aa).toNat) (0,bk,bl,bm,bn,ch,ci,bo,bp,bq,bt,bu,be,bv,bw,bz) ⟨a9,ba,bb,bc,a4,a0,a1,a2,a3,aq,by omega,by omega,cy,by omega,c0,by unfold Dx;rw[if_pos hok,cg,bd,←htk];exact(Int.zero_add _).symm⟩ ⟨rfl,trivial⟩ rfl ?_
 rintro⟨aa,ab,ac,ad,ae,ag,ah,ai,aj,ak,al,am,af,an,ao,ap⟩ J ⟨a5,a6,a7,ar,a8,ck,cm,cn,co,cp,h0,h1,cq,hqs,hqw,hio⟩ hJ
 conv=>cbv
 refine .lss (fun h7=>?_) fun h7=>?_
 conv=>cbv
 refine .go aa.toNat hx5 fun cr e8 c1=>?_
 conv=>cbv
 rcases ct:Ad (⟨a5,a6,a7,ar,ag,ah⟩:Ac) (⟨ai,aj,ak,al,am,a8,an,ao,ap⟩:Aa) e8 with⟨⟨b0,b2,b3,b4,b5,b6⟩,⟨b7,b8,b9,ca,cb,cc,cd,ce,cf⟩,c7⟩
 generalize au:b0.map A8=bf
 generalize aw:b2.map Ae=bg
 generalize ax:b3.map Ae=bh
 generalize ay:b4.map cS=bi
 generalize az:cc.map cI=bj
 refine .dd hP (Xaz ck cm cn co cp cq (by omega) hqw (by omega) ct au aw ax ay az) ?_
 conv=>cbv
 obtain⟨cu,cv,cw⟩:=XgZ (r:=e8) cq (by show ar.length<_;omega) hqw
 have hstep:=XbA (d:=(⟨a5,a6,a7,ar,ag,ah⟩:Ac)) (w:=(⟨ai,aj,ak,al,am,a8,an,ao,ap⟩:Aa)) (l:=(records.take v4.toNat)) (k:=aa.toNat) (x:=e8) cr c1.symm
 rw[ct]at cu cv cw hstep
 simp only[]at cv
 dsimp only at hstep
 refine .neq (fun h10=>?_) fun h10=>?_
 conv=>cbv
 have e:aa=Dx room version stride roll records:=(by rw[hio,hstep,if_pos h10]<;>omega)
 rw[hr]at e
 subst e
 exact hQ _ _ (.i rfl rfl)
 conv=>cbv
 refine .add fun cj c2=>?_
 conv=>cbv
 exact .go [] (cj,bf,bg,bh,bi,b5,b6,b7,b8,b9,ca,cb,bj,cd,ce,cf) (hJ _ ⟨_,_,_,_,_,au,aw,ax,ay,az,by omega,by omega,cu,by omega,by rw[show cj.toNat=aa.toNat+1 by omega];exact cw,by rw[hio,hstep,if_neg (by omega),show cj.toNat=aa.toNat+1 by omega];omega⟩ mlt)
 conv=>cbv
 refine .go hrecords fun v8 c8=>?_
 conv=>cbv
 refine .go fun v9 c9=>?_
 conv=>cbv
 have e:v9=Dx room version stride roll records:=(by rw[hio,List.drop_of_length_le (by omega)];show v9=_+(0:Int);omega)
 rw[hr]at e
 subst e
 exact hQ _ _ (.i rfl rfl)
theorem Xfd(hrecords:records.map cS=xrecords)(hr:Dx room version stride roll records=o):Fn Tryz.prog 24 [I room,I version,I stride,I roll,.d (.row 1 xrecords)] [] ⟨I o,[],[]⟩:=by
 refine Fn.go Xd Tryz.func24 fun P hP Q hQ=>?_
 conv=>cbv
 rcases ci:Fm room with⟨bb,bc,bd,be,cj,ck⟩
 generalize a2:bb.map A8=bl
 generalize a3:bc.map Ae=bm
 generalize a4:bd.map Ae=bn
 generalize a5:be.map cS=bo
 refine .dd hP (Xe5 ci a2 a3 a4 a5) ?_
 conv=>cbv
 rcases bp:B1 version stride roll with⟨⟨bq,bt,bu,bv,bw,a6,bz,b0,b2⟩,co⟩
 generalize au:a6.map cI=bf
 refine .dd hP (XaK bp au) ?_
 conv=>cbv
 obtain⟨c0,c1⟩:=Xih ci
 have c2:=XiC bp
 simp only[]at c1
 have htl:(records.take 200).length=min 200 records.length:=List.length_take
 refine LoopW.lp (κ:=Bool×Int×Int×(List (List D))×(List (List D))×(List (List D))×(List (List D))×Int×Int×Int×Int×Int×Int×Int×(List (List D))×Int×Bool×Int) Xd hP [] [4,11,12] (fun(ab,ac,aa,ad,ae,af,ag,ai,aj,ak,al,am,an,ao,ah,ap,aq,ar)=>[(13,B ab),(14,I ac),(15,I aa)]) (fun(ab,ac,aa,ad,ae,af,ag,ai,aj,ak,al,am,an,ao,ah,ap,aq,ar)=>[(4,.box 40 [.d (.row 3 ad),.d (.row 2 ae),.d (.row 2 af),.d (.row 1 ag),I ai,I aj]),(6,.box 41 [I ak,I al,I am,I an,I ao,.d (.row 1 ah),I ap,B aq,I ar])])
  (fun(ab,ac,aa,ad,ae,af,ag,ai,aj,ak,al,am,an,ao,ah,ap,aq,ar)=>∃(a7:List Br) (a8:List Ai) (a9:List Ai) (aw:List ByteArray) (ba:List Int),a7.map A8=ad∧a8.map Ae=ae∧a9.map Ae=af∧aw.map cS=ag∧ba.map cI=ah∧0≤aa∧aa≤(records.take 200).length∧Is (⟨a7,a8,a9,aw,ai,aj⟩:Ac)∧aw.length≤10*aa.toNat∧Pe aa.toNat (⟨ak,al,am,an,ao,ba,ap,aq,ar⟩:Aa)∧ac=aa∧(ab=false→aa=0)∧Dx room version stride roll records=if ab=true then aa+waN (⟨a7,a8,a9,aw,ai,aj⟩:Ac) (⟨ak,al,am,an,ao,ba,ap,aq,ar⟩:Aa) ((records.take 200).drop aa.toNat)else 0)
  (fun(ab,ac,aa,ad,ae,af,ag,ai,aj,ak,al,am,an,ao,ah,ap,aq,ar)=>((records.take 200).length - aa).toNat) (co,0,0,bl,bm,bn,bo,cj,ck,bq,bt,bu,bv,bw,bf,bz,b0,b2) ⟨bb,bc,bd,be,a6,a2,a3,a4,a5,au,by omega,by omega,c0,by omega,c2,rfl,fun _=>rfl,by unfold Dx;rw[ci,bp];have hb:=Mj bp;cases co;exact if_neg (of_decide_eq_false hb.symm);exact(if_pos (of_decide_eq_true hb.symm)).trans (Int.zero_add _).symm⟩ ⟨rfl,rfl,rfl,trivial⟩ rfl ?_
 rintro⟨ab,ac,aa,ad,ae,af,ag,ai,aj,ak,al,am,an,ao,ah,ap,aq,ar⟩ J ⟨a7,a8,a9,aw,ba,cp,cq,cr,ct,cu,h0,h1,cv,hqs,hqw,hie,cm,hio⟩ hJ
 conv=>cbv
 refine .go hrecords fun v3 c7=>?_
 conv=>cbv
 refine .lss (fun h4=>?_) fun h4=>?_
 conv=>cbv
 refine .lss (fun h5=>?_) fun h5=>?_
 conv=>cbv
 cases ab
 conv=>cbv
 have e:ac=Dx room version stride roll records:=(by rw[hio];exact hie.trans (cm rfl))
 rw[hr]at e
 subst e
 exact hQ _ _ (.i rfl rfl)
 conv=>cbv
 refine .go aa.toNat hrecords fun c5 e6 c3=>?_
 conv=>cbv
 rcases cw:Ad (⟨a7,a8,a9,aw,ai,aj⟩:Ac) (⟨ak,al,am,an,ao,ba,ap,aq,ar⟩:Aa) e6 with⟨⟨b3,b4,b5,b6,b7,b8⟩,⟨b9,ca,cb,cc,cd,ce,cf,cg,ch⟩,c8⟩
 generalize ax:b3.map A8=bg
 generalize ay:b4.map Ae=bh
 generalize az:b5.map Ae=bi
 generalize a0:b6.map cS=bj
 generalize a1:ce.map cI=bk
 refine .dd hP (XaP cp cq cr ct cu cv (by omega) hqw (by omega) cw ax ay az a0 a1) ?_
 conv=>cbv
 obtain⟨cx,cy,cz⟩:=XgZ (r:=e6) cv (by show aw.length<_;omega) hqw
 have hstep:=XbA (d:=(⟨a7,a8,a9,aw,ai,aj⟩:Ac)) (w:=(⟨ak,al,am,an,ao,ba,ap,aq,ar⟩:Aa)) (l:=(records.take 200)) (k:=aa.toNat) (x:=e6) (show aa.toNat<(records.take 200).length by omega) (by rw[List.getElem_take];exact c3.symm)
 rw[cw]at cx cy cz hstep
 simp only[]at cy
 dsimp only at hstep
 refine .neq (fun h8=>?_) fun h8=>?_
 conv=>cbv
 have e:ac=Dx room version stride roll records:=(by rw[hio,if_pos rfl,hstep,if_pos h8]<;>omega)
 rw[hr]at e
 subst e
 exact hQ _ _ (.i rfl rfl)
 conv=>cbv
 refine .add fun v9 c9=>?_
 conv=>cbv
 refine .add fun cn c6=>?_
 conv=>cbv
 exact .go [] (true,v9,cn,bg,bh,bi,bj,b7,b8,b9,ca,cb,cc,cd,bk,cf,cg,ch) (hJ _ ⟨_,_,_,_,_,ax,ay,az,a0,a1,by omega,by omega,cx,by omega,by rw[show cn.toNat=aa.toNat+1 by omega];exact cz,by omega,fun h=>absurd h (by decide),by rw[hio,if_pos rfl,if_pos rfl,hstep,if_neg (by omega),show cn.toNat=aa.toNat+1 by omega];omega⟩ mlt)
 conv=>cbv
 have e:ac=Dx room version stride roll records:=(by rw[hio];cases ab;exact hie.trans (cm rfl);rw[if_pos rfl,List.drop_of_length_le (by omega)];show _=_+(0:Int);omega)
 rw[hr]at e
 subst e
 exact hQ _ _ (.i rfl rfl)
 conv=>cbv
 have e:ac=Dx room version stride roll records:=(by rw[hio];cases ab;exact hie.trans (cm rfl);rw[if_pos rfl,List.drop_of_length_le (by omega)];show _=_+(0:Int);omega)
 rw[hr]at e
 subst e
 exact hQ _ _ (.i rfl rfl)
end
section
open Go Go.Proofs
set_option maxRecDepth 20000
set_option maxHeartbeats 4000000
end
end Go.Proofs.YtgdmjbcllgmepaaGreatDoor.Ab
