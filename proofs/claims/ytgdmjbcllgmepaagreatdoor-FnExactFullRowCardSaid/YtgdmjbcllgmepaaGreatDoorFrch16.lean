/- What functions of the program come to, for all arguments in the given bounds. -/
import Derived.Test.YtgdmjbcllgmepaaGreatDoorFrch06j
import Derived.Test.YtgdmjbcllgmepaaGreatDoorFrZ9
set_option linter.unusedVariables false
set_option linter.unusedSimpArgs false
namespace Go.Proofs.YtgdmjbcllgmepaaGreatDoor.Ab
section
open Go Go.Proofs
set_option maxRecDepth 20000
set_option maxHeartbeats 4000000
def R7:List (Nat×TyRow):=[ty3,ty4,ty9,Xdq,XhQ,Xbd,ty41,Xeh,XhA,ty198]
theorem XbR:B1 Tryz.prog R7:=B1.of (by kernel_rfl)
theorem Fu:Setup Tryz.prog R7:=⟨XbR,mixed⟩
def Dv(room:Int):Ac:=⟨[],[],[],[],max 0 room,1⟩
def Pg(w:Aa):Ca:=⟨w.version_,w.stride_,w.base_,w.link_⟩
def I0(w:Aa):Ca:=⟨w.version_,w.stride_,w.base_,w.link_⟩
def Sl(d:Ac)(w:Aa):Int:=if(Ao d (Af w.base_) (Bu (I0 w) w.offsets_ w.end_)).2≠0 then 2 else 0
def U4(d:Ac)(w:Aa):Ac:=if Sl d w=0 then(Cv (Ao d (Af w.base_) (Bu (I0 w) w.offsets_ w.end_)).1 (Af w.base_)).1 else(Ao d (Af w.base_) (Bu (I0 w) w.offsets_ w.end_)).1
def Rv(d:Ac)(w:Aa):Aa:=if Sl d w=0 then⟨w.version_,w.stride_,w.roll_,w.base_+w.offsets_.length,Eb (Cz d w.base_),[],0,false,w.code_⟩else⟨w.version_,w.stride_,w.roll_,w.base_,w.link_,w.offsets_,w.end_,w.open_,2⟩
def Bx(d:Ac)(w:Aa):Ac×Aa×Int:=if w.open_=false∨w.code_≠0 then(d,w,w.code_)else(U4 d w,Rv d w,Sl d w)
def Nd(d:Ac)(w:Aa):Int:=if(Ax d (Af w.base_)).2≠0 then 4 else if(Ao (Ax d (Af w.base_)).1 (Af w.base_) (B5 (I0 w))).2≠0 then 2 else 0
def K4(d:Ac)(w:Aa):Ac:=if(Ax d (Af w.base_)).2≠0 then(Ax d (Af w.base_)).1 else if(Ao (Ax d (Af w.base_)).1 (Af w.base_) (B5 (I0 w))).2≠0 then(Ao (Ax d (Af w.base_)).1 (Af w.base_) (B5 (I0 w))).1
 else Db (Cv (Ao (Ax d (Af w.base_)).1 (Af w.base_) (B5 (I0 w))).1 (Af w.base_)).1
def Xan(d:Ac)(w:Aa):Aa:=if Nd d w=0 then⟨w.version_,w.stride_,w.roll_,w.base_,w.link_,[],24,true,w.code_⟩else⟨w.version_,w.stride_,w.roll_,w.base_,w.link_,w.offsets_,w.end_,w.open_,Nd d w⟩
def Hw(w:Aa)(r:ByteArray):ByteArray:=Aw w.version_ (w.base_+w.offsets_.length) r
def L6(d:Ac)(w:Aa)(r:ByteArray):Int:=if(Ao d (Af w.base_) (Hw w r)).2≠0 then 2 else 0
def Kz(d:Ac)(w:Aa)(r:ByteArray):Ac:=(Ao d (Af w.base_) (Hw w r)).1
def R9(d:Ac)(w:Aa)(r:ByteArray):Aa:=if L6 d w r=0 then⟨w.version_,w.stride_,w.roll_,w.base_,w.link_,w.offsets_++[w.end_],w.end_+(Hw w r).size,w.open_,w.code_⟩else⟨w.version_,w.stride_,w.roll_,w.base_,w.link_,w.offsets_,w.end_,w.open_,2⟩
def Pu(d:Ac)(w:Aa):Ac×Aa:=if w.open_=true∧w.roll_≤w.offsets_.length then(U4 d w,Rv d w)else(d,w)
def appB(s:Ac×Aa):Ac×Aa:=if s.2.code_=0∧s.2.open_=false then(K4 s.1 s.2,Xan s.1 s.2)else s
def Im(s:Ac×Aa)(r:ByteArray):Ac×Aa:=if s.2.code_=0 then(Kz s.1 s.2 r,R9 s.1 s.2 r)else s
def Ad(d:Ac)(w:Aa)(r:ByteArray):Ac×Aa×Int:=if 60<r.size then(d,w,1)else if w.code_≠0 then(d,w,w.code_)else((Im (appB (Pu d w)) r).1,(Im (appB (Pu d w)) r).2,(Im (appB (Pu d w)) r).2.code_)
def Oi(k:Nat)(w:Aa):Prop:=0≤w.base_∧w.base_+w.offsets_.length≤k∧0≤w.end_∧w.end_≤24+84*(k:Int)∧∀x∈w.offsets_,0≤x∧x≤24+84*(k:Int)
theorem Qp{k:Nat}{w:Aa}(h:Oi k w)(hk:k≤1000000):w.offsets_.length≤1000000∧(∀x∈w.offsets_,wfI x)∧w.end_<9223372036854775808:=by
 obtain⟨h1,h2,h3,h4,h5⟩:=h
 exact⟨by omega,fun x hx=>⟨by have:=h5 x hx;omega,by have:=h5 x hx;omega⟩,by omega⟩
theorem W8{k:Nat}{d:Ac}{w:Aa}(h:Oi k w):Oi k (Rv d w):=by
 obtain⟨h1,h2,h3,h4,h5⟩:=h
 unfold Rv
 split
 ·exact⟨by show 0≤w.base_+_;omega,by show w.base_+_+(([]:List Int).length:Int)≤_;simp;omega,Int.le_refl _,by show(0:Int)≤_;omega,fun x hx=>by cases hx⟩
 ·exact⟨h1,h2,h3,h4,h5⟩
theorem Og{k:Nat}{d:Ac}{w:Aa}(h:Oi k w):Oi k (Xan d w):=by
 obtain⟨h1,h2,h3,h4,h5⟩:=h
 unfold Xan
 split
 ·exact⟨h1,by show w.base_+(([]:List Int).length:Int)≤_;simp;omega,by show(0:Int)≤24;omega,by show(24:Int)≤_;omega,fun x hx=>by cases hx⟩
 ·exact⟨h1,h2,h3,h4,h5⟩
theorem XiT{k:Nat}{d:Ac}{w:Aa}{r:ByteArray}(h:Oi k w):Oi (k+1) (R9 d w r):=by
 obtain⟨h1,h2,h3,h4,h5⟩:=h
 have hf:(Hw w r).size≤84:=Cu rfl
 unfold R9
 split
 ·refine⟨h1,by show w.base_+((w.offsets_++[w.end_]).length:Int)≤_;rw[List.length_append,List.length_singleton];omega,by show 0≤w.end_+_;omega,by show w.end_+_≤_;omega,fun x hx=>?_⟩
  rcases List.mem_append.1 hx with hx|hx
  ·have:=h5 x hx
   omega
  ·rw[List.mem_singleton.1 hx]
   omega
 ·exact⟨h1,by show w.base_+(w.offsets_.length:Int)≤((k+1:Nat):Int);omega,h3,by show w.end_≤_;omega,fun x hx=>by have:=h5 x hx;omega⟩
theorem Oy(b:Int):(Af b).size≤13:=U6 rfl
theorem Sf{d:Ac}{w:Aa}(h:H2 d):H2 (U4 d w)∧(U4 d w).steps_.length≤d.steps_.length+2:=by
 have h1:=G4 (name:=Af w.base_) (text:=Bu (I0 w) w.offsets_ w.end_) h
 have h2:=Qy (name:=Af w.base_) h1.1
 have a:=h1.2
 have b:=h2.2
 unfold U4
 split
 ·exact⟨h2.1,by omega⟩
 ·exact⟨h1.1,by omega⟩
theorem Oa{d:Ac}{w:Aa}(h:H2 d)(hl:d.steps_.length<1000000000):H2 (K4 d w)∧(K4 d w).steps_.length≤d.steps_.length+4:=by
 have hz:=Oy w.base_
 have h0:=Mq (name:=Af w.base_) h hl (by omega)
 have h1:=G4 (name:=Af w.base_) (text:=B5 (I0 w)) h0.1
 have h2:=Qy (name:=Af w.base_) h1.1
 have h3:=Xg7 h2.1
 have a:=h0.2
 have b:=h1.2
 have c:=h2.2
 have e:=h3.2
 unfold K4
 split
 ·exact⟨h0.1,by omega⟩
 ·split
  ·exact⟨h1.1,by omega⟩
  ·exact⟨h3.1,by omega⟩
theorem XiY{d:Ac}{w:Aa}{r:ByteArray}(h:H2 d):H2 (Kz d w r)∧(Kz d w r).steps_.length≤d.steps_.length+1:=G4 h
theorem XeL{k:Nat}{d:Ac}{w:Aa}{r:ByteArray}(h:H2 d)(hl:d.steps_.length<900000000)(hw:Oi k w):H2 (Ad d w r).1∧(Ad d w r).1.steps_.length≤d.steps_.length+7∧Oi (k+1) (Ad d w r).2.1:=by
 have up:∀{w:Aa},Oi k w→Oi (k+1) w:=fun h=>⟨h.1,by have:=h.2.1;omega,h.2.2.1,by have:=h.2.2.2.1;omega,fun x hx=>by have:=h.2.2.2.2 x hx;omega⟩
 have hA:H2 (Pu d w).1∧(Pu d w).1.steps_.length≤d.steps_.length+2∧Oi k (Pu d w).2:=by
  unfold Pu
  split
  ·have:=Sf (w:=w) h
   exact⟨this.1,this.2,W8 hw⟩
  ·exact⟨h,Nat.le_add_right _ _,hw⟩
 generalize hA0:Pu d w=s at hA
 have hB:H2 (appB s).1∧(appB s).1.steps_.length≤d.steps_.length+6∧Oi k (appB s).2:=by
  unfold appB
  split
  ·have:=Oa (w:=s.2) hA.1 (by omega)
   exact⟨this.1,by have:=this.2;show(K4 s.1 s.2).steps_.length≤_;omega,Og hA.2.2⟩
  ·exact⟨hA.1,by omega,hA.2.2⟩
 generalize hB0:appB s=s2 at hB
 have hC:H2 (Im s2 r).1∧(Im s2 r).1.steps_.length≤d.steps_.length+7∧Oi (k+1) (Im s2 r).2:=by
  unfold Im
  split
  ·have:=XiY (w:=s2.2) (r:=r) hB.1
   exact⟨this.1,by have:=this.2;show(Kz s2.1 s2.2 r).steps_.length≤_;omega,XiT hB.2.2⟩
  ·exact⟨hB.1,by omega,up hB.2.2⟩
 unfold Ad
 split
 ·exact⟨h,Nat.le_add_right _ _,up hw⟩
 ·split
  ·exact⟨h,Nat.le_add_right _ _,up hw⟩
  ·rw[hA0,hB0]
   exact hC
variable {room oroo onex wver wstr wrol wbas wlin wend wcod Xi8 ostr obas olin An Am F7 F5 obver obstr obrol obbas oblin obend obcod oc c:Int} {onod Ah F4:List Bs} {Gh Gk Gl Gj xwoff Bk Bh Bf Bl D5 D3 D0 Dz xoboff:List (List D)} {oent oold Ak Aj F6 F9:List Al} {oste Ai Ga:List ByteArray} {woff oboff:List Int} {wope obope:Bool} {nw k nwoff:Nat} {record:ByteArray}
theorem XeE(hr:Dv room=⟨onod,oent,oold,oste,oroo,onex⟩)(H8:onod.map A5=Gh)(H4:oent.map Ae=Gk)(Ib:oold.map Ae=Gl)(H3:oste.map cS=Gj):Fn Tryz.prog 77 [I room] [] ⟨.agg [.d (.row 3 Gh),.d (.row 2 Gk),.d (.row 2 Gl),.d (.row 1 Gj),I oroo,I onex],[],[]⟩:=by
 refine Fn.go Fu Tryz.func77 fun P hP Q hQ=>?_
 conv=>cbv
 refine .go fun v1 aa=>?_
 conv=>cbv
 have e:(⟨[],[],[],[],v1,1⟩:Ac)=Dv room:=(by unfold Dv;rw[aa])
 rw[hr]at e
 simp only[Ac.mk.injEq]at e
 obtain⟨rfl,rfl,rfl,rfl,rfl,rfl⟩:=e
 exact hQ _ _ (.one (.inl rfl) rfl (.agg (.ref rfl rfl (by rw[←H8];rfl) (.ref rfl rfl (by rw[←H4];rfl) (.ref rfl rfl (by rw[←Ib];rfl) (.ref rfl rfl (by rw[←H3];rfl) (.d rfl rfl (.d rfl rfl (.nil))))))) .nil))
theorem XeZ(hr:Dv room=⟨onod,oent,oold,oste,oroo,onex⟩)(H8:onod.map A5=Gh)(H4:oent.map Ae=Gk)(Ib:oold.map Ae=Gl)(H3:oste.map cS=Gj):Fn Tryz.prog 74 [I room] [] ⟨.agg [.d (.row 3 Gh),.d (.row 2 Gk),.d (.row 2 Gl),.d (.row 1 Gj),I oroo,I onex],[],[]⟩:=by
 refine Fn.go Fu Tryz.func74 fun P hP Q hQ=>?_
 conv=>cbv
 refine .lss (fun h1=>?_) fun h1=>?_
 conv=>cbv
 have e:(⟨[],[],[],[],0,1⟩:Ac)=Dv room:=(by unfold Dv;rw[show max 0 room=0 by omega])
 rw[hr]at e
 simp only[Ac.mk.injEq]at e
 obtain⟨rfl,rfl,rfl,rfl,rfl,rfl⟩:=e
 exact hQ _ _ (.one (.inl rfl) rfl (.agg (.ref rfl rfl (by rw[←H8];rfl) (.ref rfl rfl (by rw[←H4];rfl) (.ref rfl rfl (by rw[←Ib];rfl) (.ref rfl rfl (by rw[←H3];rfl) (.d rfl rfl (.d rfl rfl (.nil))))))) .nil))
 conv=>cbv
 have e:(⟨[],[],[],[],room,1⟩:Ac)=Dv room:=(by unfold Dv;rw[show max 0 room=room by omega])
 rw[hr]at e
 simp only[Ac.mk.injEq]at e
 obtain⟨rfl,rfl,rfl,rfl,rfl,rfl⟩:=e
 exact hQ _ _ (.one (.inl rfl) rfl (.agg (.ref rfl rfl (by rw[←H8];rfl) (.ref rfl rfl (by rw[←H4];rfl) (.ref rfl rfl (by rw[←Ib];rfl) (.ref rfl rfl (by rw[←H3];rfl) (.d rfl rfl (.d rfl rfl (.nil))))))) .nil))
theorem K0(hwoff:woff.map cI=xwoff)(hr:I0 (⟨wver,wstr,wrol,wbas,wlin,woff,wend,wope,wcod⟩:Aa)=⟨Xi8,ostr,obas,olin⟩):Fn Tryz.prog 235 [.agg [I wver,I wstr,I wrol,I wbas,I wlin,.d (.row 1 xwoff),I wend,B wope,I wcod]] [] ⟨.agg [I Xi8,I ostr,I obas,I olin],[],[]⟩:=by
 refine Fn.go Fu Tryz.func235 fun P hP Q hQ=>?_
 conv=>cbv
 have e:(⟨wver,wstr,wbas,wlin⟩:Ca)=I0 (⟨wver,wstr,wrol,wbas,wlin,woff,wend,wope,wcod⟩:Aa):=(by rfl)
 rw[hr]at e
 simp only[Ca.mk.injEq]at e
 obtain⟨rfl,rfl,rfl,rfl⟩:=e
 exact hQ _ _ (.one (.inl rfl) rfl (.agg (.d rfl rfl (.d rfl rfl (.d rfl rfl (.d rfl rfl (.nil))))) .nil))
theorem Tk(hwoff:woff.map cI=xwoff)(hr:Pg (⟨wver,wstr,wrol,wbas,wlin,woff,wend,wope,wcod⟩:Aa)=⟨Xi8,ostr,obas,olin⟩):Fn Tryz.prog 224 [.agg [I wver,I wstr,I wrol,I wbas,I wlin,.d (.row 1 xwoff),I wend,B wope,I wcod]] [] ⟨.agg [I Xi8,I ostr,I obas,I olin],[],[]⟩:=by
 refine Fn.go Fu Tryz.func224 fun P hP Q hQ=>?_
 conv=>cbv
 have e:(⟨wver,wstr,wbas,wlin⟩:Ca)=Pg (⟨wver,wstr,wrol,wbas,wlin,woff,wend,wope,wcod⟩:Aa):=(by rfl)
 rw[hr]at e
 simp only[Ca.mk.injEq]at e
 obtain⟨rfl,rfl,rfl,rfl⟩:=e
 exact hQ _ _ (.one (.inl rfl) rfl (.agg (.d rfl rfl (.d rfl rfl (.d rfl rfl (.d rfl rfl (.nil))))) .nil))
theorem O3(hwoff:woff.map cI=xwoff)(hn:woff.length≤4000000000):Fn Tryz.prog 159 [.agg [I wver,I wstr,I wrol,I wbas,I wlin,.d (.row 1 xwoff),I wend,B wope,I wcod]] [] ⟨.agg [I wver,I wstr,I wrol,I wbas,I wlin,.d (.row 1 xwoff),I wend,B wope,I wcod],[],[]⟩:=by
 refine Fn.go Fu Tryz.func159 fun P hP Q hQ=>?_
 conv=>cbv
 generalize aa:C2 woff=l1
 generalize ab:l1.map cI=ac
 refine .dd hP (L5 hwoff (by omega) aa ab) ?_
 conv=>cbv
 obtain rfl:l1=woff:=aa.symm
 obtain rfl:ac=xwoff:=by rw[←ab,hwoff]
 exact hQ _ _ (.one (.inl rfl) rfl (.agg (.d rfl rfl (.d rfl rfl (.d rfl rfl (.d rfl rfl (.d rfl rfl (.d rfl rfl (.d rfl rfl (.d rfl rfl (.d rfl rfl (.nil)))))))))) .nil))
theorem Xaw(hwoff:woff.map cI=xwoff)(hn:woff.length≤4000000000)(hnw:nw=woff.length):Fn Tryz.prog 159 [.agg [I wver,I wstr,I wrol,I wbas,I wlin,.d (.row 1 xwoff),I wend,B wope,I wcod]] [] ⟨.agg [I wver,I wstr,I wrol,I wbas,I wlin,.ref 0 0 nw,I wend,B wope,I wcod],[.row 1 false xwoff],[]⟩:=by
 refine Fn.goR Fu Tryz.func159 fun P hP Q hQ=>?_
 conv=>cbv
 generalize ab:C2 woff=l1
 generalize aa:l1.map cI=ac
 obtain⟨nl1,hnl1⟩:∃m,m=l1.length:=⟨_,rfl⟩
 refine .ddA hP (Ll hwoff (by omega) ab aa hnl1) rfl rfl rfl (aa▸Ld (fun _=>rfl) l1) ?_
 conv=>cbv
 obtain rfl:l1=woff:=ab.symm
 obtain rfl:ac=xwoff:=by rw[←aa,hwoff]
 obtain rfl:nl1=nw:=by omega
 exact hQ _ _ (.of [3] (.inl rfl) rfl rfl rfl rfl)
theorem Vm(hwoff:woff.map cI=xwoff)(hn:woff.length≤4000000000):Fn Tryz.prog 152 [.agg [I wver,I wstr,I wrol,I wbas,I wlin,.d (.row 1 xwoff),I wend,B wope,I wcod]] [] ⟨.agg [I wver,I wstr,I wrol,I wbas,I wlin,.d (.row 1 xwoff),I wend,B wope,I wcod],[],[]⟩:=by
 refine Fn.go Fu Tryz.func152 fun P hP Q hQ=>?_
 conv=>cbv
 refine .row0 hwoff fun ac z1 ab aa=>?_
 conv=>cbv
 obtain rfl:z1=xwoff:=by rw[←aa,hwoff]
 exact hQ _ _ (.one (.inl rfl) rfl (.agg (.d rfl rfl (.d rfl rfl (.d rfl rfl (.d rfl rfl (.d rfl rfl (.ref rfl (Aq hwoff) rfl (.d rfl rfl (.d rfl rfl (.d rfl rfl (.nil)))))))))) .nil))
theorem Xfv(hwoff:woff.map cI=xwoff)(hn:woff.length≤4000000000)(hnw:nw=woff.length):Fn Tryz.prog 152 [.agg [I wver,I wstr,I wrol,I wbas,I wlin,.d (.row 1 xwoff),I wend,B wope,I wcod]] [] ⟨.agg [I wver,I wstr,I wrol,I wbas,I wlin,.ref 0 0 nw,I wend,B wope,I wcod],[.row 1 false xwoff],[]⟩:=by
 refine Fn.goR Fu Tryz.func152 fun P hP Q hQ=>?_
 conv=>cbv
 refine .row0 hwoff fun aa z1 ac ab=>?_
 conv=>cbv
 obtain rfl:z1=xwoff:=by rw[←ab,hwoff]
 obtain rfl:aa=nw:=by omega
 exact hQ _ _ (.of [4] (.inl rfl) rfl rfl rfl rfl)
theorem XbI{b:ByteArray}{o:Int}(hs:b.size<2^40)(hr:Eb b=o):Fn Tryz.prog 232 [S b] [] ⟨I o,[],[]⟩:=by
 refine Fn.go Fu Tryz.func232 fun P hP Q hQ=>?_
 conv=>cbv
 rcases ae:Bq b with⟨ao,⟨ag,ah,ai,ab⟩,ac,af,am,an⟩
 generalize aa:ac.map cS=ak
 generalize ad:af.map cI=al
 refine .dd hP (Wt (by omega) ae aa ad) ?_
 conv=>cbv
 have zs:=X2 (b:=b)
 have zl:=I4 (b:=b)
 rw[ae]at zs zl
 simp only[]at zs zl
 generalize aj:E8 ab ac=r2
 refine .dd hP (Z7 aa (by omega) zs aj) ?_
 conv=>cbv
 have e:r2=Eb b:=(by unfold Eb;rw[ae];exact aj.symm)
 rw[hr]at e
 subst e
 exact hQ _ _ (.i rfl rfl)
theorem Xs:Setup Tryz.prog ((3000006,Em Tryz.prog 3000006)::((3000003,Em Tryz.prog 3000003)::((3000011,Em Tryz.prog 3000011)::R7))):=(Setup.mark 3000006 (Setup.mark 3000003 (Setup.mark 3000011 Fu)))
theorem Xa6(Ap:Ah.map A5=Bk)(As:Ak.map Ae=Bh)(Au:Aj.map Ae=Bf)(At:Ai.map cS=Bl)(hwoff:woff.map cI=xwoff)(ae:H2 (⟨Ah,Ak,Aj,Ai,An,Am⟩:Ac))(hst:Ai.length<900000000)(hw:Oi k (⟨wver,wstr,wrol,wbas,wlin,woff,wend,wope,wcod⟩:Aa))(hk:k≤1000000)(hr:Bx (⟨Ah,Ak,Aj,Ai,An,Am⟩:Ac) (⟨wver,wstr,wrol,wbas,wlin,woff,wend,wope,wcod⟩:Aa)=(⟨F4,F6,F9,Ga,F7,F5⟩,⟨obver,obstr,obrol,obbas,oblin,oboff,obend,obope,obcod⟩,oc))(A0:F4.map A5=D5)(A3:F6.map Ae=D3)(A1:F9.map Ae=D0)(A2:Ga.map cS=Dz)(hoboff:oboff.map cI=xoboff):Fn Tryz.prog 160 [.agg [.d (.row 3 Bk),.d (.row 2 Bh),.d (.row 2 Bf),.d (.row 1 Bl),I An,I Am],.agg [I wver,I wstr,I wrol,I wbas,I wlin,.d (.row 1 xwoff),I wend,B wope,I wcod]] [] ⟨.tup [.agg [.d (.row 3 D5),.d (.row 2 D3),.d (.row 2 D0),.d (.row 1 Dz),I F7,I F5],.agg [I obver,I obstr,I obrol,I obbas,I oblin,.d (.row 1 xoboff),I obend,B obope,I obcod],I oc],[],[]⟩:=by
 refine Fn.go Xs Tryz.func160 fun P hP Q hQ=>?_
 conv=>cbv
 have bu:Ah.length≤1000000000:=ae.1.1
 have bv:Ak.length≤1000000000:=ae.1.2.2.1
 have bw:Aj.length≤1000000000:=ae.1.2.2.2.2.1
 have hwf:=Qp hw hk
 simp only[]at hwf
 obtain⟨bk,bl,bm,bn,bz⟩:=hw
 simp only[]at bk bl bm bn
 refine .dd hP (O3 hwoff (by omega)) ?_
 conv=>cbv
 cases wope
 conv=>cbv
 refine .dd hP (Lu Ap As Au At (by omega) (by omega) (by omega) (by omega)) ?_
 conv=>cbv
 refine .go2 (by kernel_rfl) ?_
 conv=>cbv
 have e:((⟨Ah,Ak,Aj,Ai,An,Am⟩:Ac),(⟨wver,wstr,wrol,wbas,wlin,woff,wend,false,wcod⟩:Aa),wcod)=Bx (⟨Ah,Ak,Aj,Ai,An,Am⟩:Ac) (⟨wver,wstr,wrol,wbas,wlin,woff,wend,false,wcod⟩:Aa):=(by unfold Bx;rw[if_pos (.inl rfl)])
 rw[hr]at e
 simp only[Prod.mk.injEq,Ac.mk.injEq,Aa.mk.injEq]at e
 obtain⟨⟨rfl,rfl,rfl,rfl,rfl,rfl⟩,⟨rfl,rfl,rfl,rfl,rfl,rfl,rfl,rfl,rfl⟩,rfl⟩:=e
 refine hQ _ _ ?_
 exact .many (.inl rfl) rfl rfl (.agg (.d rfl (Ag Ap A0) (.d rfl (Ag As A3) (.d rfl (Ag Au A1) (.d rfl (Ag At A2) (.d rfl rfl (.d rfl rfl (.nil))))))) (.agg (.d rfl rfl (.d rfl rfl (.d rfl rfl (.d rfl rfl (.d rfl rfl (.d rfl (Ag hwoff hoboff) (.d rfl rfl (.d rfl rfl (.d rfl rfl (.nil)))))))))) (.d rfl rfl (.nil))))
 conv=>cbv
 refine .neq (fun h2=>?_) fun h2=>?_
 conv=>cbv
 refine .dd hP (Lu Ap As Au At (by omega) (by omega) (by omega) (by omega)) ?_
 conv=>cbv
 refine .go2 (by kernel_rfl) ?_
 conv=>cbv
 have e:((⟨Ah,Ak,Aj,Ai,An,Am⟩:Ac),(⟨wver,wstr,wrol,wbas,wlin,woff,wend,true,wcod⟩:Aa),wcod)=Bx (⟨Ah,Ak,Aj,Ai,An,Am⟩:Ac) (⟨wver,wstr,wrol,wbas,wlin,woff,wend,true,wcod⟩:Aa):=(by unfold Bx;rw[if_pos (.inr (by dsimp only;omega))])
 rw[hr]at e
 simp only[Prod.mk.injEq,Ac.mk.injEq,Aa.mk.injEq]at e
 obtain⟨⟨rfl,rfl,rfl,rfl,rfl,rfl⟩,⟨rfl,rfl,rfl,rfl,rfl,rfl,rfl,rfl,rfl⟩,rfl⟩:=e
 refine hQ _ _ ?_
 exact .many (.inl rfl) rfl rfl (.agg (.d rfl (Ag Ap A0) (.d rfl (Ag As A3) (.d rfl (Ag Au A1) (.d rfl (Ag At A2) (.d rfl rfl (.d rfl rfl (.nil))))))) (.agg (.d rfl rfl (.d rfl rfl (.d rfl rfl (.d rfl rfl (.d rfl rfl (.d rfl (Ag hwoff hoboff) (.d rfl rfl (.d rfl rfl (.d rfl rfl (.nil)))))))))) (.d rfl rfl (.nil))))
 conv=>cbv
 generalize a0:Af wbas=r3
 refine .dd hP (F1 a0) ?_
 conv=>cbv
 generalize a1:Cz (⟨Ah,Ak,Aj,Ai,An,Am⟩:Ac) wbas=r4
 refine .dd hP (Xc6 Ap As Au At ae.1 a1) ?_
 conv=>cbv
 have ht4:=Hk ae.1 a1
 generalize bc:Eb r4=r5
 refine .dd hP (XbI (by omega) bc) ?_
 conv=>cbv
 rcases bd:I0 (⟨wver,wstr,wrol,wbas,wlin,woff,wend,true,wcod⟩:Aa)with⟨a2,a3,a4,a5⟩
 refine .dd hP (K0 hwoff bd) ?_
 conv=>cbv
 generalize a6:Bu (⟨a2,a3,a4,a5⟩:Ca) woff wend=r7
 have zr7:=Tm a6
 refine .dd hP (XdU hwoff (by omega) hwf.2.1 (by omega) a6) ?_
 conv=>cbv
 rcases a7:Ao (⟨Ah,Ak,Aj,Ai,An,Am⟩:Ac) r3 r7 with⟨⟨aa,ab,ac,ad,an,ao⟩,bo⟩
 generalize af:aa.map A5=be
 generalize ag:ab.map Ae=bf
 generalize ah:ac.map Ae=bg
 generalize ai:ad.map cS=bh
 have aw:=G4 (d:=(⟨Ah,Ak,Aj,Ai,An,Am⟩:Ac)) (name:=r3) (text:=r7) ae
 rw[a7]at aw
 have bp:=aw.2
 simp only[]at bp
 have haq:Ao (⟨Ah,Ak,Aj,Ai,An,Am⟩:Ac) (Af wbas) (Bu (I0 (⟨wver,wstr,wrol,wbas,wlin,woff,wend,true,wcod⟩:Aa)) woff wend)=(⟨aa,ab,ac,ad,an,ao⟩,bo):=by rw[a0,show I0 (⟨wver,wstr,wrol,wbas,wlin,woff,wend,true,wcod⟩:Aa)=_ from bd,a6,a7]
 refine .dd hP (H6 Ap As Au At ae.1.1 ae.1.2.2.1 ae.1.2.2.2.2.1 (by omega) ae.2.2 ae (by omega) a7 af ag ah ai) ?_
 conv=>cbv
 refine .go2 (by kernel_rfl) ?_
 conv=>cbv
 refine .neq (fun h9=>?_) fun h9=>?_
 conv=>cbv
 have e:((⟨aa,ab,ac,ad,an,ao⟩:Ac),(⟨wver,wstr,wrol,wbas,wlin,woff,wend,true,2⟩:Aa),2)=Bx (⟨Ah,Ak,Aj,Ai,An,Am⟩:Ac) (⟨wver,wstr,wrol,wbas,wlin,woff,wend,true,wcod⟩:Aa):=(by have hc:Sl (⟨Ah,Ak,Aj,Ai,An,Am⟩:Ac) (⟨wver,wstr,wrol,wbas,wlin,woff,wend,true,wcod⟩:Aa)=2:=(by unfold Sl;dsimp only;rw[haq];exact if_pos (by dsimp only;omega));unfold Bx;rw[if_neg (by simp;omega)];unfold U4 Rv;rw[hc,if_neg (by decide),if_neg (by decide)];dsimp only;rw[haq])
 rw[hr]at e
 simp only[Prod.mk.injEq,Ac.mk.injEq,Aa.mk.injEq]at e
 obtain⟨⟨rfl,rfl,rfl,rfl,rfl,rfl⟩,⟨rfl,rfl,rfl,rfl,rfl,rfl,rfl,rfl,rfl⟩,rfl⟩:=e
 refine hQ _ _ ?_
 exact .many (.inl rfl) rfl rfl (.agg (.d rfl (Ag af A0) (.d rfl (Ag ag A3) (.d rfl (Ag ah A1) (.d rfl (Ag ai A2) (.d rfl rfl (.d rfl rfl (.nil))))))) (.agg (.d rfl rfl (.d rfl rfl (.d rfl rfl (.d rfl rfl (.d rfl rfl (.d rfl (Ag hwoff hoboff) (.d rfl rfl (.d rfl rfl (.d rfl rfl (.nil)))))))))) (.d rfl rfl (.nil))))
 conv=>cbv
 rcases az:Cv (⟨aa,ab,ac,ad,an,ao⟩:Ac) r3 with⟨⟨ap,aq,ar,au,ax,ay⟩,bt⟩
 generalize aj:ap.map A5=a8
 generalize ak:aq.map Ae=a9
 generalize al:ar.map Ae=ba
 generalize am:au.map cS=bb
 refine .dd hP (Qo af ag ah ai aw.1.1.1 aw.1.1.2.2.1 aw.1.1.2.2.2.2.1 (by omega) aw.1.2.2 aw.1 az aj ak al am) ?_
 conv=>cbv
 refine .go hwoff fun b0 bi=>?_
 conv=>cbv
 refine .add fun bq bj=>?_
 conv=>cbv
 refine .go2 (by kernel_rfl) ?_
 conv=>cbv
 have e:((⟨ap,aq,ar,au,ax,ay⟩:Ac),(⟨wver,wstr,wrol,bq,r5,[],0,false,wcod⟩:Aa),0)=Bx (⟨Ah,Ak,Aj,Ai,An,Am⟩:Ac) (⟨wver,wstr,wrol,wbas,wlin,woff,wend,true,wcod⟩:Aa):=(by have hc:Sl (⟨Ah,Ak,Aj,Ai,An,Am⟩:Ac) (⟨wver,wstr,wrol,wbas,wlin,woff,wend,true,wcod⟩:Aa)=0:=(by unfold Sl;dsimp only;rw[haq];exact if_neg (by dsimp only;omega));unfold Bx;rw[if_neg (by simp;omega)];unfold U4 Rv;rw[hc,if_pos rfl,if_pos rfl];dsimp only;rw[haq];dsimp only;rw[a0,az,a1,bc,bj,bi])
 rw[hr]at e
 simp only[Prod.mk.injEq,Ac.mk.injEq,Aa.mk.injEq]at e
 obtain⟨⟨rfl,rfl,rfl,rfl,rfl,rfl⟩,⟨rfl,rfl,rfl,rfl,rfl,rfl,rfl,rfl,rfl⟩,rfl⟩:=e
 refine hQ _ _ ?_
 exact .many (.inl rfl) rfl rfl (.agg (.d rfl (Ag aj A0) (.d rfl (Ag ak A3) (.d rfl (Ag al A1) (.d rfl (Ag am A2) (.d rfl rfl (.d rfl rfl (.nil))))))) (.agg (.d rfl rfl (.d rfl rfl (.d rfl rfl (.d rfl rfl (.d rfl rfl (.ref rfl rfl (by rw[←hoboff];rfl) (.d rfl rfl (.d rfl rfl (.d rfl rfl (.nil)))))))))) (.d rfl rfl (.nil))))
theorem Xn:Setup Tryz.prog ((3000008,Em Tryz.prog 3000008)::((3000004,Em Tryz.prog 3000004)::R7)):=(Setup.mark 3000008 (Setup.mark 3000004 Fu))
theorem Yz(Ap:Ah.map A5=Bk)(As:Ak.map Ae=Bh)(Au:Aj.map Ae=Bf)(At:Ai.map cS=Bl)(hwoff:woff.map cI=xwoff)(ae:H2 (⟨Ah,Ak,Aj,Ai,An,Am⟩:Ac))(hst:Ai.length<900000000)(hw:Oi k (⟨wver,wstr,wrol,wbas,wlin,woff,wend,wope,wcod⟩:Aa))(hk:k≤1000000)(hr:Bx (⟨Ah,Ak,Aj,Ai,An,Am⟩:Ac) (⟨wver,wstr,wrol,wbas,wlin,woff,wend,wope,wcod⟩:Aa)=(⟨F4,F6,F9,Ga,F7,F5⟩,⟨obver,obstr,obrol,obbas,oblin,oboff,obend,obope,obcod⟩,oc))(A0:F4.map A5=D5)(A3:F6.map Ae=D3)(A1:F9.map Ae=D0)(A2:Ga.map cS=Dz)(hoboff:oboff.map cI=xoboff):Fn Tryz.prog 153 [.agg [.d (.row 3 Bk),.d (.row 2 Bh),.d (.row 2 Bf),.d (.row 1 Bl),I An,I Am],.agg [I wver,I wstr,I wrol,I wbas,I wlin,.d (.row 1 xwoff),I wend,B wope,I wcod]] [] ⟨.tup [.agg [.d (.row 3 D5),.d (.row 2 D3),.d (.row 2 D0),.d (.row 1 Dz),I F7,I F5],.agg [I obver,I obstr,I obrol,I obbas,I oblin,.d (.row 1 xoboff),I obend,B obope,I obcod],I oc],[],[]⟩:=by
 refine Fn.go Xn Tryz.func153 fun P hP Q hQ=>?_
 conv=>cbv
 have bu:Ah.length≤1000000000:=ae.1.1
 have bv:Ak.length≤1000000000:=ae.1.2.2.1
 have bw:Aj.length≤1000000000:=ae.1.2.2.2.2.1
 have hwf:=Qp hw hk
 simp only[]at hwf
 obtain⟨bk,bl,bm,bn,bz⟩:=hw
 simp only[]at bk bl bm bn
 refine .dd hP (Vu Ap As Au At (by omega) (by omega) (by omega) (by omega)) ?_
 conv=>cbv
 refine .dd hP (Vm hwoff (by omega)) ?_
 conv=>cbv
 cases wope
 conv=>cbv
 refine .go2 (by kernel_rfl) ?_
 conv=>cbv
 have e:((⟨Ah,Ak,Aj,Ai,An,Am⟩:Ac),(⟨wver,wstr,wrol,wbas,wlin,woff,wend,false,wcod⟩:Aa),wcod)=Bx (⟨Ah,Ak,Aj,Ai,An,Am⟩:Ac) (⟨wver,wstr,wrol,wbas,wlin,woff,wend,false,wcod⟩:Aa):=(by unfold Bx;rw[if_pos (.inl rfl)])
 rw[hr]at e
 simp only[Prod.mk.injEq,Ac.mk.injEq,Aa.mk.injEq]at e
 obtain⟨⟨rfl,rfl,rfl,rfl,rfl,rfl⟩,⟨rfl,rfl,rfl,rfl,rfl,rfl,rfl,rfl,rfl⟩,rfl⟩:=e
 refine hQ _ _ ?_
 exact .many (.inl rfl) rfl rfl (.agg (.d rfl (Ag Ap A0) (.d rfl (Ag As A3) (.d rfl (Ag Au A1) (.d rfl (Ag At A2) (.d rfl rfl (.d rfl rfl (.nil))))))) (.agg (.d rfl rfl (.d rfl rfl (.d rfl rfl (.d rfl rfl (.d rfl rfl (.d rfl (Ag hwoff hoboff) (.d rfl rfl (.d rfl rfl (.d rfl rfl (.nil)))))))))) (.d rfl rfl (.nil))))
 conv=>cbv
 refine .neq (fun h3=>?_) fun h3=>?_
 conv=>cbv
 refine .go2 (by kernel_rfl) ?_
 conv=>cbv
 have e:((⟨Ah,Ak,Aj,Ai,An,Am⟩:Ac),(⟨wver,wstr,wrol,wbas,wlin,woff,wend,true,wcod⟩:Aa),wcod)=Bx (⟨Ah,Ak,Aj,Ai,An,Am⟩:Ac) (⟨wver,wstr,wrol,wbas,wlin,woff,wend,true,wcod⟩:Aa):=(by unfold Bx;rw[if_pos (.inr (by dsimp only;omega))])
 rw[hr]at e
 simp only[Prod.mk.injEq,Ac.mk.injEq,Aa.mk.injEq]at e
 obtain⟨⟨rfl,rfl,rfl,rfl,rfl,rfl⟩,⟨rfl,rfl,rfl,rfl,rfl,rfl,rfl,rfl,rfl⟩,rfl⟩:=e
 refine hQ _ _ ?_
 exact .many (.inl rfl) rfl rfl (.agg (.d rfl (Ag Ap A0) (.d rfl (Ag As A3) (.d rfl (Ag Au A1) (.d rfl (Ag At A2) (.d rfl rfl (.d rfl rfl (.nil))))))) (.agg (.d rfl rfl (.d rfl rfl (.d rfl rfl (.d rfl rfl (.d rfl rfl (.d rfl (Ag hwoff hoboff) (.d rfl rfl (.d rfl rfl (.d rfl rfl (.nil)))))))))) (.d rfl rfl (.nil))))
 conv=>cbv
 generalize a0:Af wbas=r4
 refine .dd hP (Cy a0) ?_
 conv=>cbv
 generalize a1:Cz (⟨Ah,Ak,Aj,Ai,An,Am⟩:Ac) wbas=r5
 refine .dd hP (Xx Ap As Au At ae.1 a1) ?_
 conv=>cbv
 have ht4:=Hk ae.1 a1
 generalize bc:Eb r5=r6
 refine .dd hP (Ta (by omega) bc) ?_
 conv=>cbv
 rcases bd:Pg (⟨wver,wstr,wrol,wbas,wlin,woff,wend,true,wcod⟩:Aa)with⟨a2,a3,a4,a5⟩
 refine .dd hP (Tk hwoff bd) ?_
 conv=>cbv
 generalize a6:Bu (⟨a2,a3,a4,a5⟩:Ca) woff wend=r8
 have zr8:=Tm a6
 refine .dd hP (Xeo hwoff (by omega) hwf.2.1 (by omega) a6) ?_
 conv=>cbv
 rcases a7:Ao (⟨Ah,Ak,Aj,Ai,An,Am⟩:Ac) r4 r8 with⟨⟨aa,ab,ac,ad,an,ao⟩,bo⟩
 generalize af:aa.map A5=be
 generalize ag:ab.map Ae=bf
 generalize ah:ac.map Ae=bg
 generalize ai:ad.map cS=bh
 have aw:=G4 (d:=(⟨Ah,Ak,Aj,Ai,An,Am⟩:Ac)) (name:=r4) (text:=r8) ae
 rw[a7]at aw
 have bp:=aw.2
 simp only[]at bp
 have haq:Ao (⟨Ah,Ak,Aj,Ai,An,Am⟩:Ac) (Af wbas) (Bu (I0 (⟨wver,wstr,wrol,wbas,wlin,woff,wend,true,wcod⟩:Aa)) woff wend)=(⟨aa,ab,ac,ad,an,ao⟩,bo):=by rw[a0,show I0 (⟨wver,wstr,wrol,wbas,wlin,woff,wend,true,wcod⟩:Aa)=_ from bd,a6,a7]
 refine .dd hP (Dn Ap As Au At ae.1.1 ae.1.2.2.1 ae.1.2.2.2.2.1 (by omega) ae.2.2 ae (by omega) a7 af ag ah ai) ?_
 conv=>cbv
 refine .go2 (by kernel_rfl) ?_
 conv=>cbv
 refine .neq (fun h10=>?_) fun h10=>?_
 conv=>cbv
 have e:((⟨aa,ab,ac,ad,an,ao⟩:Ac),(⟨wver,wstr,wrol,wbas,wlin,woff,wend,true,2⟩:Aa),2)=Bx (⟨Ah,Ak,Aj,Ai,An,Am⟩:Ac) (⟨wver,wstr,wrol,wbas,wlin,woff,wend,true,wcod⟩:Aa):=(by have hc:Sl (⟨Ah,Ak,Aj,Ai,An,Am⟩:Ac) (⟨wver,wstr,wrol,wbas,wlin,woff,wend,true,wcod⟩:Aa)=2:=(by unfold Sl;dsimp only;rw[haq];exact if_pos (by dsimp only;omega));unfold Bx;rw[if_neg (by simp;omega)];unfold U4 Rv;rw[hc,if_neg (by decide),if_neg (by decide)];dsimp only;rw[haq])
 rw[hr]at e
 simp only[Prod.mk.injEq,Ac.mk.injEq,Aa.mk.injEq]at e
 obtain⟨⟨rfl,rfl,rfl,rfl,rfl,rfl⟩,⟨rfl,rfl,rfl,rfl,rfl,rfl,rfl,rfl,rfl⟩,rfl⟩:=e
 refine hQ _ _ ?_
 exact .many (.inl rfl) rfl rfl (.agg (.d rfl (Ag af A0) (.d rfl (Ag ag A3) (.d rfl (Ag ah A1) (.d rfl (Ag ai A2) (.d rfl rfl (.d rfl rfl (.nil))))))) (.agg (.d rfl rfl (.d rfl rfl (.d rfl rfl (.d rfl rfl (.d rfl rfl (.d rfl (Ag hwoff hoboff) (.d rfl rfl (.d rfl rfl (.d rfl rfl (.nil)))))))))) (.d rfl rfl (.nil))))
 conv=>cbv
 rcases az:Cv (⟨aa,ab,ac,ad,an,ao⟩:Ac) r4 with⟨⟨ap,aq,ar,au,ax,ay⟩,bt⟩
 generalize aj:ap.map A5=a8
 generalize ak:aq.map Ae=a9
 generalize al:ar.map Ae=ba
 generalize am:au.map cS=bb
 refine .dd hP (Qf af ag ah ai aw.1.1.1 aw.1.1.2.2.1 aw.1.1.2.2.2.2.1 (by omega) aw.1.2.2 aw.1 az aj ak al am) ?_
 conv=>cbv
 refine .go hwoff fun b0 bi=>?_
 conv=>cbv
 refine .add fun bq bj=>?_
 conv=>cbv
 have e:((⟨ap,aq,ar,au,ax,ay⟩:Ac),(⟨wver,wstr,wrol,bq,r6,[],0,false,wcod⟩:Aa),0)=Bx (⟨Ah,Ak,Aj,Ai,An,Am⟩:Ac) (⟨wver,wstr,wrol,wbas,wlin,woff,wend,true,wcod⟩:Aa):=(by have hc:Sl (⟨Ah,Ak,Aj,Ai,An,Am⟩:Ac) (⟨wver,wstr,wrol,wbas,wlin,woff,wend,true,wcod⟩:Aa)=0:=(by unfold Sl;dsimp only;rw[haq];exact if_neg (by dsimp only;omega));unfold Bx;rw[if_neg (by simp;omega)];unfold U4 Rv;rw[hc,if_pos rfl,if_pos rfl];dsimp only;rw[haq];dsimp only;rw[a0,az,a1,bc,bj,bi])
 rw[hr]at e
 simp only[Prod.mk.injEq,Ac.mk.injEq,Aa.mk.injEq]at e
 obtain⟨⟨rfl,rfl,rfl,rfl,rfl,rfl⟩,⟨rfl,rfl,rfl,rfl,rfl,rfl,rfl,rfl,rfl⟩,rfl⟩:=e
 refine hQ _ _ ?_
 exact .many (.inl rfl) rfl rfl (.agg (.d rfl (Ag aj A0) (.d rfl (Ag ak A3) (.d rfl (Ag al A1) (.d rfl (Ag am A2) (.d rfl rfl (.d rfl rfl (.nil))))))) (.agg (.d rfl rfl (.d rfl rfl (.d rfl rfl (.d rfl rfl (.d rfl rfl (.ref rfl rfl (by rw[←hoboff];rfl) (.d rfl rfl (.d rfl rfl (.d rfl rfl (.nil)))))))))) (.d rfl rfl (.nil))))
def Xa8(w:Aa)(d:Ac):Ac:=K4 d w
def rlay(w:Aa)(d:Ac)(r:ByteArray):Ac:=Kz d w r
theorem Mm(hwoff:woff.map cI=xwoff)(Ap:Ah.map A5=Bk)(As:Ak.map Ae=Bh)(Au:Aj.map Ae=Bf)(At:Ai.map cS=Bl)(ak:H2 (⟨Ah,Ak,Aj,Ai,An,Am⟩:Ac))(hst:Ai.length<900000000)(hw:Oi k (⟨wver,wstr,wrol,wbas,wlin,woff,wend,wope,wcod⟩:Aa))(hk:k≤1000000)(hc:Nd (⟨Ah,Ak,Aj,Ai,An,Am⟩:Ac) (⟨wver,wstr,wrol,wbas,wlin,woff,wend,wope,wcod⟩:Aa)=0)(hr:Xa8 (⟨wver,wstr,wrol,wbas,wlin,woff,wend,wope,wcod⟩:Aa) (⟨Ah,Ak,Aj,Ai,An,Am⟩:Ac)=⟨onod,oent,oold,oste,oroo,onex⟩)(H8:onod.map A5=Gh)(H4:oent.map Ae=Gk)(Ib:oold.map Ae=Gl)(H3:oste.map cS=Gj):Fn Tryz.prog 161 [.ptr 0 0 0,.agg [.d (.row 3 Bk),.d (.row 2 Bh),.d (.row 2 Bf),.d (.row 1 Bl),I An,I Am]] [.box 41 [I wver,I wstr,I wrol,I wbas,I wlin,.d (.row 1 xwoff),I wend,B wope,I wcod]] ⟨.agg [.d (.row 3 Gh),.d (.row 2 Gk),.d (.row 2 Gl),.d (.row 1 Gj),I oroo,I onex],[.row 1 false []],[(0,.box 41 [I wver,I wstr,I wrol,I wbas,I wlin,.ref 1 0 0,I 24,B true,I wcod])]⟩:=by
 refine Fn.goR Fu Tryz.func161 fun P hP Q hQ=>?_
 conv=>cbv
 have co:Ah.length≤1000000000:=ak.1.1
 have cp:Ak.length≤1000000000:=ak.1.2.2.1
 have cq:Aj.length≤1000000000:=ak.1.2.2.2.2.1
 have hzs:=Oy wbas
 generalize bd:Af wbas=r1
 refine .dd hP (F1 bd) ?_
 conv=>cbv
 rcases bo:Ax (⟨Ah,Ak,Aj,Ai,An,Am⟩:Ac) r1 with⟨⟨aa,ab,ac,ad,ae,af⟩,ci⟩
 generalize an:aa.map A5=b4
 generalize ao:ab.map Ae=b5
 generalize ap:ac.map Ae=b6
 generalize aq:ad.map cS=b7
 rw[bd]at hzs
 refine .dd hP (Rg Ap As Au At ak.1.1 ak.1.2.2.1 ak.1.2.2.2.2.1 (by omega) ak.2.2 ak (by omega) bo an ao ap aq) ?_
 conv=>cbv
 have ar:=Mq (d:=(⟨Ah,Ak,Aj,Ai,An,Am⟩:Ac)) (name:=r1) ak (by show Ai.length<_;omega) (by have:=Oy wbas;rw[bd]at this;omega)
 rw[bo]at ar
 have cj:=ar.2
 simp only[]at cj
 have hca:Ax (⟨Ah,Ak,Aj,Ai,An,Am⟩:Ac) (Af wbas)=((⟨aa,ab,ac,ad,ae,af⟩:Ac),ci):=by rw[bd];exact bo
 refine .neq (fun h3=>?_) fun h3=>?_
 conv=>cbv
 have bp:Nd (⟨Ah,Ak,Aj,Ai,An,Am⟩:Ac) (⟨wver,wstr,wrol,wbas,wlin,woff,wend,wope,wcod⟩:Aa)=4:=by unfold Nd;dsimp only;rw[hca];exact if_pos h3
 rw[bp]at hc
 cases hc
 conv=>cbv
 rcases b8:I0 (⟨wver,wstr,wrol,wbas,wlin,woff,wend,wope,wcod⟩:Aa)with⟨bq,bt,bu,bv⟩
 refine .dd hP (K0 hwoff b8) ?_
 conv=>cbv
 generalize bw:B5 (⟨bq,bt,bu,bv⟩:Ca)=r5
 have zr5:=Hl bw
 refine .dd hP (Qv bw) ?_
 conv=>cbv
 rcases bz:Ao (⟨aa,ab,ac,ad,ae,af⟩:Ac) r1 r5 with⟨⟨ag,ah,ai,aj,al,am⟩,ck⟩
 generalize au:ag.map A5=b9
 generalize aw:ah.map Ae=ca
 generalize ax:ai.map Ae=cb
 generalize ay:aj.map cS=cc
 refine .dd hP (H6 an ao ap aq ar.1.1.1 ar.1.1.2.2.1 ar.1.1.2.2.2.2.1 (by omega) ar.1.2.2 ar.1 (by omega) bz au aw ax ay) ?_
 conv=>cbv
 have az:=G4 (d:=(⟨aa,ab,ac,ad,ae,af⟩:Ac)) (name:=r1) (text:=r5) ar.1
 rw[bz]at az
 have cm:=az.2
 simp only[]at cm
 have haa:Ao (⟨aa,ab,ac,ad,ae,af⟩:Ac) (Af wbas) (B5 (I0 (⟨wver,wstr,wrol,wbas,wlin,woff,wend,wope,wcod⟩:Aa)))=((⟨ag,ah,ai,aj,al,am⟩:Ac),ck):=by rw[bd,b8,bw];exact bz
 refine .neq (fun h7=>?_) fun h7=>?_
 conv=>cbv
 have bp:Nd (⟨Ah,Ak,Aj,Ai,An,Am⟩:Ac) (⟨wver,wstr,wrol,wbas,wlin,woff,wend,wope,wcod⟩:Aa)=2:=by unfold Nd;dsimp only;rw[hca,if_neg (by dsimp only;omega),haa];exact if_pos h7
 rw[bp]at hc
 cases hc
 conv=>cbv
 rcases b0:Cv (⟨ag,ah,ai,aj,al,am⟩:Ac) r1 with⟨⟨a5,a6,a7,a8,bi,bj⟩,cr⟩
 generalize a0:a5.map A5=cd
 generalize a1:a6.map Ae=ce
 generalize a2:a7.map Ae=cf
 generalize a3:a8.map cS=cg
 refine .dd hP (Qo au aw ax ay az.1.1.1 az.1.1.2.2.1 az.1.1.2.2.2.2.1 (by omega) az.1.2.2 az.1 b0 a0 a1 a2 a3) ?_
 conv=>cbv
 have a4:=Qy (d:=(⟨ag,ah,ai,aj,al,am⟩:Ac)) (name:=r1) az.1
 rw[b0]at a4
 have cn:=a4.2
 simp only[]at cn
 rcases ch:Db (⟨a5,a6,a7,a8,bi,bj⟩:Ac)with⟨be,bf,bg,bh,b2,b3⟩
 generalize a9:be.map A5=bk
 generalize ba:bf.map Ae=bl
 generalize bb:bg.map Ae=bm
 generalize bc:bh.map cS=bn
 refine .dd hP (Sz a0 a1 a2 a3 a4.1.1.1 a4.1.1.2.2.1 a4.1.1.2.2.2.2.1 (by omega) a4.1.2.2 a4.1 ch a9 ba bb bc) ?_
 conv=>cbv
 have e:K4 (⟨Ah,Ak,Aj,Ai,An,Am⟩:Ac) (⟨wver,wstr,wrol,wbas,wlin,woff,wend,wope,wcod⟩:Aa)=(⟨be,bf,bg,bh,b2,b3⟩:Ac):=(by unfold K4;dsimp only;rw[hca,if_neg (by dsimp only;omega),haa,if_neg (by dsimp only;omega)];dsimp only;rw[bd,b0];exact ch)
 rw[show Xa8 (⟨wver,wstr,wrol,wbas,wlin,woff,wend,wope,wcod⟩:Aa) (⟨Ah,Ak,Aj,Ai,An,Am⟩:Ac)=K4 (⟨Ah,Ak,Aj,Ai,An,Am⟩:Ac) (⟨wver,wstr,wrol,wbas,wlin,woff,wend,wope,wcod⟩:Aa)from rfl,e]at hr
 simp only[Ac.mk.injEq]at hr
 obtain⟨rfl,rfl,rfl,rfl,rfl,rfl⟩:=hr
 obtain rfl:bk=Gh:=by rw[←a9,H8]
 obtain rfl:bl=Gk:=by rw[←ba,H4]
 obtain rfl:bm=Gl:=by rw[←bb,Ib]
 obtain rfl:bn=Gj:=by rw[←bc,H3]
 exact hQ _ _ (.of [7] (.inl rfl) rfl rfl rfl rfl)
theorem M4(hwoff:woff.map cI=xwoff)(Ap:Ah.map A5=Bk)(As:Ak.map Ae=Bh)(Au:Aj.map Ae=Bf)(At:Ai.map cS=Bl)(ax:H2 (⟨Ah,Ak,Aj,Ai,An,Am⟩:Ac))(hst:Ai.length<900000000)(hw:Oi k (⟨wver,wstr,wrol,wbas,wlin,woff,wend,wope,wcod⟩:Aa))(hk:k≤1000000)(hc:Nd (⟨Ah,Ak,Aj,Ai,An,Am⟩:Ac) (⟨wver,wstr,wrol,wbas,wlin,woff,wend,wope,wcod⟩:Aa)=c)(hne:c≠0)(hr:Xa8 (⟨wver,wstr,wrol,wbas,wlin,woff,wend,wope,wcod⟩:Aa) (⟨Ah,Ak,Aj,Ai,An,Am⟩:Ac)=⟨onod,oent,oold,oste,oroo,onex⟩)(H8:onod.map A5=Gh)(H4:oent.map Ae=Gk)(Ib:oold.map Ae=Gl)(H3:oste.map cS=Gj):Fn Tryz.prog 161 [.ptr 0 0 0,.agg [.d (.row 3 Bk),.d (.row 2 Bh),.d (.row 2 Bf),.d (.row 1 Bl),I An,I Am]] [.box 41 [I wver,I wstr,I wrol,I wbas,I wlin,.d (.row 1 xwoff),I wend,B wope,I wcod]] ⟨.agg [.d (.row 3 Gh),.d (.row 2 Gk),.d (.row 2 Gl),.d (.row 1 Gj),I oroo,I onex],[],[(0,.box 41 [I wver,I wstr,I wrol,I wbas,I wlin,.d (.row 1 xwoff),I wend,B wope,I c])]⟩:=by
 refine Fn.goR Fu Tryz.func161 fun P hP Q hQ=>?_
 conv=>cbv
 have co:Ah.length≤1000000000:=ax.1.1
 have cp:Ak.length≤1000000000:=ax.1.2.2.1
 have cq:Aj.length≤1000000000:=ax.1.2.2.2.2.1
 have hzs:=Oy wbas
 generalize a9:Af wbas=r1
 refine .dd hP (F1 a9) ?_
 conv=>cbv
 rcases bp:Ax (⟨Ah,Ak,Aj,Ai,An,Am⟩:Ac) r1 with⟨⟨aa,ab,ac,ad,ae,af⟩,cf⟩
 generalize am:aa.map A5=ba
 generalize an:ab.map Ae=bb
 generalize ao:ac.map Ae=bc
 generalize ap:ad.map cS=bd
 rw[a9]at hzs
 refine .dd hP (Rg Ap As Au At ax.1.1 ax.1.2.2.1 ax.1.2.2.2.2.1 (by omega) ax.2.2 ax (by omega) bp am an ao ap) ?_
 conv=>cbv
 have ay:=Mq (d:=(⟨Ah,Ak,Aj,Ai,An,Am⟩:Ac)) (name:=r1) ax (by show Ai.length<_;omega) (by have:=Oy wbas;rw[a9]at this;omega)
 rw[bp]at ay
 have cg:=ay.2
 simp only[]at cg
 have hca:Ax (⟨Ah,Ak,Aj,Ai,An,Am⟩:Ac) (Af wbas)=((⟨aa,ab,ac,ad,ae,af⟩:Ac),cf):=by rw[a9];exact bp
 refine .neq (fun h3=>?_) fun h3=>?_
 conv=>cbv
 have be:Nd (⟨Ah,Ak,Aj,Ai,An,Am⟩:Ac) (⟨wver,wstr,wrol,wbas,wlin,woff,wend,wope,wcod⟩:Aa)=4:=by unfold Nd;dsimp only;rw[hca];exact if_pos h3
 obtain rfl:4=c:=by rw[←be,hc]
 have e:K4 (⟨Ah,Ak,Aj,Ai,An,Am⟩:Ac) (⟨wver,wstr,wrol,wbas,wlin,woff,wend,wope,wcod⟩:Aa)=(⟨aa,ab,ac,ad,ae,af⟩:Ac):=(by unfold K4;dsimp only;rw[hca,if_pos h3])
 rw[show Xa8 (⟨wver,wstr,wrol,wbas,wlin,woff,wend,wope,wcod⟩:Aa) (⟨Ah,Ak,Aj,Ai,An,Am⟩:Ac)=K4 (⟨Ah,Ak,Aj,Ai,An,Am⟩:Ac) (⟨wver,wstr,wrol,wbas,wlin,woff,wend,wope,wcod⟩:Aa)from rfl,e]at hr
 simp only[Ac.mk.injEq]at hr
 obtain⟨rfl,rfl,rfl,rfl,rfl,rfl⟩:=hr
 obtain rfl:ba=Gh:=by rw[←am,H8]
 obtain rfl:bb=Gk:=by rw[←an,H4]
 obtain rfl:bc=Gl:=by rw[←ao,Ib]
 obtain rfl:bd=Gj:=by rw[←ap,H3]
 exact hQ _ _ (.of [] (.inl rfl) rfl rfl rfl rfl)
 conv=>cbv
 rcases b5:I0 (⟨wver,wstr,wrol,wbas,wlin,woff,wend,wope,wcod⟩:Aa)with⟨bq,bt,bu,bv⟩
 refine .dd hP (K0 hwoff b5) ?_
 conv=>cbv
 generalize bw:B5 (⟨bq,bt,bu,bv⟩:Ca)=r5
 have zr5:=Hl bw
 refine .dd hP (Qv bw) ?_
 conv=>cbv
 rcases bz:Ao (⟨aa,ab,ac,ad,ae,af⟩:Ac) r1 r5 with⟨⟨ag,ah,ai,aj,ak,al⟩,ch⟩
 generalize aq:ag.map A5=bf
 generalize ar:ah.map Ae=bg
 generalize au:ai.map Ae=bh
 generalize aw:aj.map cS=bi
 refine .dd hP (H6 am an ao ap ay.1.1.1 ay.1.1.2.2.1 ay.1.1.2.2.2.2.1 (by omega) ay.1.2.2 ay.1 (by omega) bz aq ar au aw) ?_
 conv=>cbv
 have az:=G4 (d:=(⟨aa,ab,ac,ad,ae,af⟩:Ac)) (name:=r1) (text:=r5) ay.1
 rw[bz]at az
 have ci:=az.2
 simp only[]at ci
 have haa:Ao (⟨aa,ab,ac,ad,ae,af⟩:Ac) (Af wbas) (B5 (I0 (⟨wver,wstr,wrol,wbas,wlin,woff,wend,wope,wcod⟩:Aa)))=((⟨ag,ah,ai,aj,ak,al⟩:Ac),ch):=by rw[a9,b5,bw];exact bz
 refine .neq (fun h7=>?_) fun h7=>?_
 conv=>cbv
 have be:Nd (⟨Ah,Ak,Aj,Ai,An,Am⟩:Ac) (⟨wver,wstr,wrol,wbas,wlin,woff,wend,wope,wcod⟩:Aa)=2:=by unfold Nd;dsimp only;rw[hca,if_neg (by dsimp only;omega),haa];exact if_pos h7
 obtain rfl:2=c:=by rw[←be,hc]
 have e:K4 (⟨Ah,Ak,Aj,Ai,An,Am⟩:Ac) (⟨wver,wstr,wrol,wbas,wlin,woff,wend,wope,wcod⟩:Aa)=(⟨ag,ah,ai,aj,ak,al⟩:Ac):=(by unfold K4;dsimp only;rw[hca,if_neg (by dsimp only;omega),haa,if_pos h7])
 rw[show Xa8 (⟨wver,wstr,wrol,wbas,wlin,woff,wend,wope,wcod⟩:Aa) (⟨Ah,Ak,Aj,Ai,An,Am⟩:Ac)=K4 (⟨Ah,Ak,Aj,Ai,An,Am⟩:Ac) (⟨wver,wstr,wrol,wbas,wlin,woff,wend,wope,wcod⟩:Aa)from rfl,e]at hr
 simp only[Ac.mk.injEq]at hr
 obtain⟨rfl,rfl,rfl,rfl,rfl,rfl⟩:=hr
 obtain rfl:bf=Gh:=by rw[←aq,H8]
 obtain rfl:bg=Gk:=by rw[←ar,H4]
 obtain rfl:bh=Gl:=by rw[←au,Ib]
 obtain rfl:bi=Gj:=by rw[←aw,H3]
 exact hQ _ _ (.of [] (.inl rfl) rfl rfl rfl rfl)
 conv=>cbv
 rcases b6:Cv (⟨ag,ah,ai,aj,ak,al⟩:Ac) r1 with⟨⟨a5,a6,a7,a8,bj,bk⟩,cr⟩
 generalize a0:a5.map A5=b7
 generalize a1:a6.map Ae=b8
 generalize a2:a7.map Ae=b9
 generalize a3:a8.map cS=ca
 refine .dd hP (Qo aq ar au aw az.1.1.1 az.1.1.2.2.1 az.1.1.2.2.2.2.1 (by omega) az.1.2.2 az.1 b6 a0 a1 a2 a3) ?_
 conv=>cbv
 have a4:=Qy (d:=(⟨ag,ah,ai,aj,ak,al⟩:Ac)) (name:=r1) az.1
 rw[b6]at a4
 have cj:=a4.2
 simp only[]at cj
 rcases ck:Db (⟨a5,a6,a7,a8,bj,bk⟩:Ac)with⟨b0,b2,b3,b4,cm,cn⟩
 generalize bl:b0.map A5=cb
 generalize bm:b2.map Ae=cc
 generalize bn:b3.map Ae=cd
 generalize bo:b4.map cS=ce
 refine .dd hP (Sz a0 a1 a2 a3 a4.1.1.1 a4.1.1.2.2.1 a4.1.1.2.2.2.2.1 (by omega) a4.1.2.2 a4.1 ck bl bm bn bo) ?_
 conv=>cbv
 have be:Nd (⟨Ah,Ak,Aj,Ai,An,Am⟩:Ac) (⟨wver,wstr,wrol,wbas,wlin,woff,wend,wope,wcod⟩:Aa)=0:=by unfold Nd;dsimp only;rw[hca,if_neg (by dsimp only;omega),haa];exact if_neg (by dsimp only;omega)
 exact absurd (hc.symm.trans be) hne
theorem V8(Ap:Ah.map A5=Bk)(As:Ak.map Ae=Bh)(Au:Aj.map Ae=Bf)(At:Ai.map cS=Bl)(hwoff:woff.map cI=xwoff)(ak:H2 (⟨Ah,Ak,Aj,Ai,An,Am⟩:Ac))(hst:Ai.length<900000000)(hw:Oi k (⟨wver,wstr,wrol,wbas,wlin,woff,wend,wope,wcod⟩:Aa))(hk:k≤1000000)(hc:Nd (⟨Ah,Ak,Aj,Ai,An,Am⟩:Ac) (⟨wver,wstr,wrol,wbas,wlin,woff,wend,wope,wcod⟩:Aa)=0)(hr:K4 (⟨Ah,Ak,Aj,Ai,An,Am⟩:Ac) (⟨wver,wstr,wrol,wbas,wlin,woff,wend,wope,wcod⟩:Aa)=⟨onod,oent,oold,oste,oroo,onex⟩)(H8:onod.map A5=Gh)(H4:oent.map Ae=Gk)(Ib:oold.map Ae=Gl)(H3:oste.map cS=Gj):Fn Tryz.prog 154 [.agg [.d (.row 3 Bk),.d (.row 2 Bh),.d (.row 2 Bf),.d (.row 1 Bl),I An,I Am],.agg [I wver,I wstr,I wrol,I wbas,I wlin,.d (.row 1 xwoff),I wend,B wope,I wcod]] [] ⟨.tup [.agg [.d (.row 3 Gh),.d (.row 2 Gk),.d (.row 2 Gl),.d (.row 1 Gj),I oroo,I onex],.agg [I wver,I wstr,I wrol,I wbas,I wlin,.ref 0 0 0,I 24,B true,I wcod]],[.row 1 false []],[]⟩:=by
 refine Fn.goR Fu Tryz.func154 fun P hP Q hQ=>?_
 conv=>cbv
 have co:Ah.length≤1000000000:=ak.1.1
 have cp:Ak.length≤1000000000:=ak.1.2.2.1
 have cq:Aj.length≤1000000000:=ak.1.2.2.2.2.1
 have hzs:=Oy wbas
 generalize bd:Af wbas=r1
 refine .dd hP (Cy bd) ?_
 conv=>cbv
 rcases bo:Ax (⟨Ah,Ak,Aj,Ai,An,Am⟩:Ac) r1 with⟨⟨aa,ab,ac,ad,ae,af⟩,ci⟩
 generalize an:aa.map A5=b4
 generalize ao:ab.map Ae=b5
 generalize ap:ac.map Ae=b6
 generalize aq:ad.map cS=b7
 rw[bd]at hzs
 refine .dd hP (Q5 Ap As Au At ak.1.1 ak.1.2.2.1 ak.1.2.2.2.2.1 (by omega) ak.2.2 ak (by omega) bo an ao ap aq) ?_
 conv=>cbv
 have ar:=Mq (d:=(⟨Ah,Ak,Aj,Ai,An,Am⟩:Ac)) (name:=r1) ak (by show Ai.length<_;omega) (by have:=Oy wbas;rw[bd]at this;omega)
 rw[bo]at ar
 have cj:=ar.2
 simp only[]at cj
 have hca:Ax (⟨Ah,Ak,Aj,Ai,An,Am⟩:Ac) (Af wbas)=((⟨aa,ab,ac,ad,ae,af⟩:Ac),ci):=by rw[bd];exact bo
 refine .neq (fun h3=>?_) fun h3=>?_
 conv=>cbv
 have bp:Nd (⟨Ah,Ak,Aj,Ai,An,Am⟩:Ac) (⟨wver,wstr,wrol,wbas,wlin,woff,wend,wope,wcod⟩:Aa)=4:=by unfold Nd;dsimp only;rw[hca];exact if_pos h3
 rw[bp]at hc
 cases hc
 conv=>cbv
 rcases b8:Pg (⟨wver,wstr,wrol,wbas,wlin,woff,wend,wope,wcod⟩:Aa)with⟨bq,bt,bu,bv⟩
 refine .dd hP (Tk hwoff b8) ?_
 conv=>cbv
 generalize bw:B5 (⟨bq,bt,bu,bv⟩:Ca)=r5
 have zr5:=Hl bw
 refine .dd hP (P7 bw) ?_
 conv=>cbv
 rcases bz:Ao (⟨aa,ab,ac,ad,ae,af⟩:Ac) r1 r5 with⟨⟨ag,ah,ai,aj,al,am⟩,ck⟩
 generalize au:ag.map A5=b9
 generalize aw:ah.map Ae=ca
 generalize ax:ai.map Ae=cb
 generalize ay:aj.map cS=cc
 refine .dd hP (Dn an ao ap aq ar.1.1.1 ar.1.1.2.2.1 ar.1.1.2.2.2.2.1 (by omega) ar.1.2.2 ar.1 (by omega) bz au aw ax ay) ?_
 conv=>cbv
 have az:=G4 (d:=(⟨aa,ab,ac,ad,ae,af⟩:Ac)) (name:=r1) (text:=r5) ar.1
 rw[bz]at az
 have cm:=az.2
 simp only[]at cm
 have haa:Ao (⟨aa,ab,ac,ad,ae,af⟩:Ac) (Af wbas) (B5 (I0 (⟨wver,wstr,wrol,wbas,wlin,woff,wend,wope,wcod⟩:Aa)))=((⟨ag,ah,ai,aj,al,am⟩:Ac),ck):=by rw[bd,show I0 (⟨wver,wstr,wrol,wbas,wlin,woff,wend,wope,wcod⟩:Aa)=_ from b8,bw];exact bz
 refine .neq (fun h7=>?_) fun h7=>?_
 conv=>cbv
 have bp:Nd (⟨Ah,Ak,Aj,Ai,An,Am⟩:Ac) (⟨wver,wstr,wrol,wbas,wlin,woff,wend,wope,wcod⟩:Aa)=2:=by unfold Nd;dsimp only;rw[hca,if_neg (by dsimp only;omega),haa];exact if_pos h7
 rw[bp]at hc
 cases hc
 conv=>cbv
 rcases b0:Cv (⟨ag,ah,ai,aj,al,am⟩:Ac) r1 with⟨⟨a5,a6,a7,a8,bi,bj⟩,cr⟩
 generalize a0:a5.map A5=cd
 generalize a1:a6.map Ae=ce
 generalize a2:a7.map Ae=cf
 generalize a3:a8.map cS=cg
 refine .dd hP (Qf au aw ax ay az.1.1.1 az.1.1.2.2.1 az.1.1.2.2.2.2.1 (by omega) az.1.2.2 az.1 b0 a0 a1 a2 a3) ?_
 conv=>cbv
 have a4:=Qy (d:=(⟨ag,ah,ai,aj,al,am⟩:Ac)) (name:=r1) az.1
 rw[b0]at a4
 have cn:=a4.2
 simp only[]at cn
 rcases ch:Db (⟨a5,a6,a7,a8,bi,bj⟩:Ac)with⟨be,bf,bg,bh,b2,b3⟩
 generalize a9:be.map A5=bk
 generalize ba:bf.map Ae=bl
 generalize bb:bg.map Ae=bm
 generalize bc:bh.map cS=bn
 refine .dd hP (Ux a0 a1 a2 a3 a4.1.1.1 a4.1.1.2.2.1 a4.1.1.2.2.2.2.1 (by omega) a4.1.2.2 a4.1 ch a9 ba bb bc) ?_
 conv=>cbv
 have e:K4 (⟨Ah,Ak,Aj,Ai,An,Am⟩:Ac) (⟨wver,wstr,wrol,wbas,wlin,woff,wend,wope,wcod⟩:Aa)=(⟨be,bf,bg,bh,b2,b3⟩:Ac):=(by unfold K4;dsimp only;rw[hca,if_neg (by dsimp only;omega),haa,if_neg (by dsimp only;omega)];dsimp only;rw[bd,b0];exact ch)
 rw[e]at hr
 simp only[Ac.mk.injEq]at hr
 obtain⟨rfl,rfl,rfl,rfl,rfl,rfl⟩:=hr
 obtain rfl:bk=Gh:=by rw[←a9,H8]
 obtain rfl:bl=Gk:=by rw[←ba,H4]
 obtain rfl:bm=Gl:=by rw[←bb,Ib]
 obtain rfl:bn=Gj:=by rw[←bc,H3]
 exact hQ _ _ (.of [9] (.inl rfl) rfl rfl rfl rfl)
theorem Vx(Ap:Ah.map A5=Bk)(As:Ak.map Ae=Bh)(Au:Aj.map Ae=Bf)(At:Ai.map cS=Bl)(hwoff:woff.map cI=xwoff)(ax:H2 (⟨Ah,Ak,Aj,Ai,An,Am⟩:Ac))(hst:Ai.length<900000000)(hw:Oi k (⟨wver,wstr,wrol,wbas,wlin,woff,wend,wope,wcod⟩:Aa))(hk:k≤1000000)(hc:Nd (⟨Ah,Ak,Aj,Ai,An,Am⟩:Ac) (⟨wver,wstr,wrol,wbas,wlin,woff,wend,wope,wcod⟩:Aa)=c)(hne:c≠0)(hr:K4 (⟨Ah,Ak,Aj,Ai,An,Am⟩:Ac) (⟨wver,wstr,wrol,wbas,wlin,woff,wend,wope,wcod⟩:Aa)=⟨onod,oent,oold,oste,oroo,onex⟩)(H8:onod.map A5=Gh)(H4:oent.map Ae=Gk)(Ib:oold.map Ae=Gl)(H3:oste.map cS=Gj):Fn Tryz.prog 154 [.agg [.d (.row 3 Bk),.d (.row 2 Bh),.d (.row 2 Bf),.d (.row 1 Bl),I An,I Am],.agg [I wver,I wstr,I wrol,I wbas,I wlin,.d (.row 1 xwoff),I wend,B wope,I wcod]] [] ⟨.tup [.agg [.d (.row 3 Gh),.d (.row 2 Gk),.d (.row 2 Gl),.d (.row 1 Gj),I oroo,I onex],.agg [I wver,I wstr,I wrol,I wbas,I wlin,.d (.row 1 xwoff),I wend,B wope,I c]],[],[]⟩:=by
 refine Fn.go Fu Tryz.func154 fun P hP Q hQ=>?_
 conv=>cbv
 have co:Ah.length≤1000000000:=ax.1.1
 have cp:Ak.length≤1000000000:=ax.1.2.2.1
 have cq:Aj.length≤1000000000:=ax.1.2.2.2.2.1
 have hzs:=Oy wbas
 generalize a9:Af wbas=r1
 refine .dd hP (Cy a9) ?_
 conv=>cbv
 rcases bp:Ax (⟨Ah,Ak,Aj,Ai,An,Am⟩:Ac) r1 with⟨⟨aa,ab,ac,ad,ae,af⟩,cf⟩
 generalize am:aa.map A5=ba
 generalize an:ab.map Ae=bb
 generalize ao:ac.map Ae=bc
 generalize ap:ad.map cS=bd
 rw[a9]at hzs
 refine .dd hP (Q5 Ap As Au At ax.1.1 ax.1.2.2.1 ax.1.2.2.2.2.1 (by omega) ax.2.2 ax (by omega) bp am an ao ap) ?_
 conv=>cbv
 have ay:=Mq (d:=(⟨Ah,Ak,Aj,Ai,An,Am⟩:Ac)) (name:=r1) ax (by show Ai.length<_;omega) (by have:=Oy wbas;rw[a9]at this;omega)
 rw[bp]at ay
 have cg:=ay.2
 simp only[]at cg
 have hca:Ax (⟨Ah,Ak,Aj,Ai,An,Am⟩:Ac) (Af wbas)=((⟨aa,ab,ac,ad,ae,af⟩:Ac),cf):=by rw[a9];exact bp
 refine .neq (fun h3=>?_) fun h3=>?_
 conv=>cbv
 have be:Nd (⟨Ah,Ak,Aj,Ai,An,Am⟩:Ac) (⟨wver,wstr,wrol,wbas,wlin,woff,wend,wope,wcod⟩:Aa)=4:=by unfold Nd;dsimp only;rw[hca];exact if_pos h3
 obtain rfl:4=c:=by rw[←be,hc]
 have e:K4 (⟨Ah,Ak,Aj,Ai,An,Am⟩:Ac) (⟨wver,wstr,wrol,wbas,wlin,woff,wend,wope,wcod⟩:Aa)=(⟨aa,ab,ac,ad,ae,af⟩:Ac):=(by unfold K4;dsimp only;rw[hca,if_pos h3])
 rw[e]at hr
 simp only[Ac.mk.injEq]at hr
 obtain⟨rfl,rfl,rfl,rfl,rfl,rfl⟩:=hr
 obtain rfl:ba=Gh:=by rw[←am,H8]
 obtain rfl:bb=Gk:=by rw[←an,H4]
 obtain rfl:bc=Gl:=by rw[←ao,Ib]
 obtain rfl:bd=Gj:=by rw[←ap,H3]
 exact hQ _ _ (.many (.inl rfl) rfl rfl (.agg (.d rfl rfl (.d rfl rfl (.d rfl rfl (.d rfl rfl (.d rfl rfl (.d rfl rfl .nil)))))) (.agg (.d rfl rfl (.d rfl rfl (.d rfl rfl (.d rfl rfl (.d rfl rfl (.d rfl rfl (.d rfl rfl (.d rfl rfl (.d rfl rfl .nil))))))))) .nil)))
 conv=>cbv
 rcases b5:Pg (⟨wver,wstr,wrol,wbas,wlin,woff,wend,wope,wcod⟩:Aa)with⟨bq,bt,bu,bv⟩
 refine .dd hP (Tk hwoff b5) ?_
 conv=>cbv
 generalize bw:B5 (⟨bq,bt,bu,bv⟩:Ca)=r5
 have zr5:=Hl bw
 refine .dd hP (P7 bw) ?_
 conv=>cbv
 rcases bz:Ao (⟨aa,ab,ac,ad,ae,af⟩:Ac) r1 r5 with⟨⟨ag,ah,ai,aj,ak,al⟩,ch⟩
 generalize aq:ag.map A5=bf
 generalize ar:ah.map Ae=bg
 generalize au:ai.map Ae=bh
 generalize aw:aj.map cS=bi
 refine .dd hP (Dn am an ao ap ay.1.1.1 ay.1.1.2.2.1 ay.1.1.2.2.2.2.1 (by omega) ay.1.2.2 ay.1 (by omega) bz aq ar au aw) ?_
 conv=>cbv
 have az:=G4 (d:=(⟨aa,ab,ac,ad,ae,af⟩:Ac)) (name:=r1) (text:=r5) ay.1
 rw[bz]at az
 have ci:=az.2
 simp only[]at ci
 have haa:Ao (⟨aa,ab,ac,ad,ae,af⟩:Ac) (Af wbas) (B5 (I0 (⟨wver,wstr,wrol,wbas,wlin,woff,wend,wope,wcod⟩:Aa)))=((⟨ag,ah,ai,aj,ak,al⟩:Ac),ch):=by rw[a9,show I0 (⟨wver,wstr,wrol,wbas,wlin,woff,wend,wope,wcod⟩:Aa)=_ from b5,bw];exact bz
 refine .neq (fun h7=>?_) fun h7=>?_
 conv=>cbv
 have be:Nd (⟨Ah,Ak,Aj,Ai,An,Am⟩:Ac) (⟨wver,wstr,wrol,wbas,wlin,woff,wend,wope,wcod⟩:Aa)=2:=by unfold Nd;dsimp only;rw[hca,if_neg (by dsimp only;omega),haa];exact if_pos h7
 obtain rfl:2=c:=by rw[←be,hc]
 have e:K4 (⟨Ah,Ak,Aj,Ai,An,Am⟩:Ac) (⟨wver,wstr,wrol,wbas,wlin,woff,wend,wope,wcod⟩:Aa)=(⟨ag,ah,ai,aj,ak,al⟩:Ac):=(by unfold K4;dsimp only;rw[hca,if_neg (by dsimp only;omega),haa,if_pos h7])
 rw[e]at hr
 simp only[Ac.mk.injEq]at hr
 obtain⟨rfl,rfl,rfl,rfl,rfl,rfl⟩:=hr
 obtain rfl:bf=Gh:=by rw[←aq,H8]
 obtain rfl:bg=Gk:=by rw[←ar,H4]
 obtain rfl:bh=Gl:=by rw[←au,Ib]
 obtain rfl:bi=Gj:=by rw[←aw,H3]
 exact hQ _ _ (.many (.inl rfl) rfl rfl (.agg (.d rfl rfl (.d rfl rfl (.d rfl rfl (.d rfl rfl (.d rfl rfl (.d rfl rfl .nil)))))) (.agg (.d rfl rfl (.d rfl rfl (.d rfl rfl (.d rfl rfl (.d rfl rfl (.d rfl rfl (.d rfl rfl (.d rfl rfl (.d rfl rfl .nil))))))))) .nil)))
 conv=>cbv
 rcases b6:Cv (⟨ag,ah,ai,aj,ak,al⟩:Ac) r1 with⟨⟨a5,a6,a7,a8,bj,bk⟩,cr⟩
 generalize a0:a5.map A5=b7
 generalize a1:a6.map Ae=b8
 generalize a2:a7.map Ae=b9
 generalize a3:a8.map cS=ca
 refine .dd hP (Qf aq ar au aw az.1.1.1 az.1.1.2.2.1 az.1.1.2.2.2.2.1 (by omega) az.1.2.2 az.1 b6 a0 a1 a2 a3) ?_
 conv=>cbv
 have a4:=Qy (d:=(⟨ag,ah,ai,aj,ak,al⟩:Ac)) (name:=r1) az.1
 rw[b6]at a4
 have cj:=a4.2
 simp only[]at cj
 rcases ck:Db (⟨a5,a6,a7,a8,bj,bk⟩:Ac)with⟨b0,b2,b3,b4,cm,cn⟩
 generalize bl:b0.map A5=cb
 generalize bm:b2.map Ae=cc
 generalize bn:b3.map Ae=cd
 generalize bo:b4.map cS=ce
 refine .dd hP (Ux a0 a1 a2 a3 a4.1.1.1 a4.1.1.2.2.1 a4.1.1.2.2.2.2.1 (by omega) a4.1.2.2 a4.1 ck bl bm bn bo) ?_
 conv=>cbv
 have be:Nd (⟨Ah,Ak,Aj,Ai,An,Am⟩:Ac) (⟨wver,wstr,wrol,wbas,wlin,woff,wend,wope,wcod⟩:Aa)=0:=by unfold Nd;dsimp only;rw[hca,if_neg (by dsimp only;omega),haa];exact if_neg (by dsimp only;omega)
 exact absurd (hc.symm.trans be) hne
theorem Iu{xo:List (List D)}{no:Nat}{en:Int}(hwoff:woff.map cI=xwoff)(hnwoff:nwoff=woff.length)(Ap:Ah.map A5=Bk)(As:Ak.map Ae=Bh)(Au:Aj.map Ae=Bf)(At:Ai.map cS=Bl)(ae:H2 (⟨Ah,Ak,Aj,Ai,An,Am⟩:Ac))(hst:Ai.length<900000000)(hw:Oi k (⟨wver,wstr,wrol,wbas,wlin,woff,wend,wope,wcod⟩:Aa))(hk:k≤1000000)(hz:record.size≤60)(hc:L6 (⟨Ah,Ak,Aj,Ai,An,Am⟩:Ac) (⟨wver,wstr,wrol,wbas,wlin,woff,wend,wope,wcod⟩:Aa) record=0)(hr:rlay (⟨wver,wstr,wrol,wbas,wlin,woff,wend,wope,wcod⟩:Aa) (⟨Ah,Ak,Aj,Ai,An,Am⟩:Ac) record=⟨onod,oent,oold,oste,oroo,onex⟩)(H8:onod.map A5=Gh)(H4:oent.map Ae=Gk)(Ib:oold.map Ae=Gl)(H3:oste.map cS=Gj)(hxo:(woff++[wend]).map cI=xo)(hno:no=woff.length+1)(hen:wend+((Hw (⟨wver,wstr,wrol,wbas,wlin,woff,wend,wope,wcod⟩:Aa) record).size:Int)=en):Fn Tryz.prog 162 [.ptr 0 0 0,.agg [.d (.row 3 Bk),.d (.row 2 Bh),.d (.row 2 Bf),.d (.row 1 Bl),I An,I Am],S record] [.box 41 [I wver,I wstr,I wrol,I wbas,I wlin,.ref 1 0 nwoff,I wend,B wope,I wcod],.row 1 false xwoff] ⟨.agg [.d (.row 3 Gh),.d (.row 2 Gk),.d (.row 2 Gl),.d (.row 1 Gj),I oroo,I onex],[.row 1 false xo],[(0,.box 41 [I wver,I wstr,I wrol,I wbas,I wlin,.ref 2 0 no,I en,B wope,I wcod]),(1,.dead)]⟩:=by
 refine Fn.goR Fu Tryz.func162 fun P hP Q hQ=>?_
 conv=>cbv
 have a8:Ah.length≤1000000000:=ae.1.1
 have a9:Ak.length≤1000000000:=ae.1.2.2.1
 have ba:Aj.length≤1000000000:=ae.1.2.2.2.2.1
 have hwf:=Qp hw hk
 simp only[]at hwf
 obtain⟨au,aw,ax,ay,bb⟩:=hw
 simp only[]at au aw ax ay
 refine .go fun v1 az=>?_
 conv=>cbv
 refine .add fun v2 a0=>?_
 conv=>cbv
 generalize ap:Aw wver v2 record=r3
 have zr3:=Cu ap
 refine .dd hP (Lo (by omega) ap) ?_
 conv=>cbv
 generalize aq:Af wbas=r4
 refine .dd hP (F1 aq) ?_
 conv=>cbv
 rcases ar:Ao (⟨Ah,Ak,Aj,Ai,An,Am⟩:Ac) r4 r3 with⟨⟨aa,ab,ac,ad,aj,ak⟩,a1⟩
 generalize af:aa.map A5=al
 generalize ag:ab.map Ae=am
 generalize ah:ac.map Ae=an
 generalize ai:ad.map cS=ao
 have hlf:Hw (⟨wver,wstr,wrol,wbas,wlin,woff,wend,wope,wcod⟩:Aa) record=r3:=by unfold Hw;dsimp only;rw[←ap,a0,az];congr 1;omega
 have hca:Ao (⟨Ah,Ak,Aj,Ai,An,Am⟩:Ac) (Af wbas) (Hw (⟨wver,wstr,wrol,wbas,wlin,woff,wend,wope,wcod⟩:Aa) record)=((⟨aa,ab,ac,ad,aj,ak⟩:Ac),a1):=by rw[hlf,aq];exact ar
 refine .dd hP (H6 Ap As Au At ae.1.1 ae.1.2.2.1 ae.1.2.2.2.2.1 (by omega) ae.2.2 ae (by omega) ar af ag ah ai) ?_
 conv=>cbv
 refine .neq (fun h6=>?_) fun h6=>?_
 conv=>cbv
 have a2:L6 (⟨Ah,Ak,Aj,Ai,An,Am⟩:Ac) (⟨wver,wstr,wrol,wbas,wlin,woff,wend,wope,wcod⟩:Aa) record=2:=by unfold L6;dsimp only;rw[hca];exact if_pos h6
 rw[a2]at hc
 cases hc
 conv=>cbv
 refine .one wend hwoff rfl fun a3 z7 a7 a4=>?_
 conv=>cbv
 refine .go fun v8 a5=>?_
 conv=>cbv
 refine .add fun v9 a6=>?_
 conv=>cbv
 have e:Kz (⟨Ah,Ak,Aj,Ai,An,Am⟩:Ac) (⟨wver,wstr,wrol,wbas,wlin,woff,wend,wope,wcod⟩:Aa) record=(⟨aa,ab,ac,ad,aj,ak⟩:Ac):=(by unfold Kz;dsimp only;rw[hca])
 rw[show rlay (⟨wver,wstr,wrol,wbas,wlin,woff,wend,wope,wcod⟩:Aa) (⟨Ah,Ak,Aj,Ai,An,Am⟩:Ac) record=Kz (⟨Ah,Ak,Aj,Ai,An,Am⟩:Ac) (⟨wver,wstr,wrol,wbas,wlin,woff,wend,wope,wcod⟩:Aa) record from rfl,e]at hr
 simp only[Ac.mk.injEq]at hr
 obtain⟨rfl,rfl,rfl,rfl,rfl,rfl⟩:=hr
 obtain rfl:al=Gh:=by rw[←af,H8]
 obtain rfl:am=Gk:=by rw[←ag,H4]
 obtain rfl:an=Gl:=by rw[←ah,Ib]
 obtain rfl:ao=Gj:=by rw[←ai,H3]
 obtain rfl:z7=xo:=by rw[←a4,hxo]
 obtain rfl:a3=no:=by omega
 obtain rfl:v9=en:=by rw[←hen,hlf,a6,a5]
 exact hQ _ _ (.of [9] (.inl rfl) rfl rfl rfl rfl)
theorem Iy(hwoff:woff.map cI=xwoff)(hnwoff:nwoff=woff.length)(Ap:Ah.map A5=Bk)(As:Ak.map Ae=Bh)(Au:Aj.map Ae=Bf)(At:Ai.map cS=Bl)(ae:H2 (⟨Ah,Ak,Aj,Ai,An,Am⟩:Ac))(hst:Ai.length<900000000)(hw:Oi k (⟨wver,wstr,wrol,wbas,wlin,woff,wend,wope,wcod⟩:Aa))(hk:k≤1000000)(hz:record.size≤60)(hc:L6 (⟨Ah,Ak,Aj,Ai,An,Am⟩:Ac) (⟨wver,wstr,wrol,wbas,wlin,woff,wend,wope,wcod⟩:Aa) record≠0)(hr:rlay (⟨wver,wstr,wrol,wbas,wlin,woff,wend,wope,wcod⟩:Aa) (⟨Ah,Ak,Aj,Ai,An,Am⟩:Ac) record=⟨onod,oent,oold,oste,oroo,onex⟩)(H8:onod.map A5=Gh)(H4:oent.map Ae=Gk)(Ib:oold.map Ae=Gl)(H3:oste.map cS=Gj):Fn Tryz.prog 162 [.ptr 0 0 0,.agg [.d (.row 3 Bk),.d (.row 2 Bh),.d (.row 2 Bf),.d (.row 1 Bl),I An,I Am],S record] [.box 41 [I wver,I wstr,I wrol,I wbas,I wlin,.ref 1 0 nwoff,I wend,B wope,I wcod],.row 1 false xwoff] ⟨.agg [.d (.row 3 Gh),.d (.row 2 Gk),.d (.row 2 Gl),.d (.row 1 Gj),I oroo,I onex],[],[(0,.box 41 [I wver,I wstr,I wrol,I wbas,I wlin,.ref 1 0 nwoff,I wend,B wope,I 2])]⟩:=by
 refine Fn.goR Fu Tryz.func162 fun P hP Q hQ=>?_
 conv=>cbv
 have a4:Ah.length≤1000000000:=ae.1.1
 have a5:Ak.length≤1000000000:=ae.1.2.2.1
 have a6:Aj.length≤1000000000:=ae.1.2.2.2.2.1
 have hwf:=Qp hw hk
 simp only[]at hwf
 obtain⟨au,aw,ax,ay,a7⟩:=hw
 simp only[]at au aw ax ay
 refine .go fun v1 az=>?_
 conv=>cbv
 refine .add fun v2 a0=>?_
 conv=>cbv
 generalize ap:Aw wver v2 record=r3
 have zr3:=Cu ap
 refine .dd hP (Lo (by omega) ap) ?_
 conv=>cbv
 generalize aq:Af wbas=r4
 refine .dd hP (F1 aq) ?_
 conv=>cbv
 rcases ar:Ao (⟨Ah,Ak,Aj,Ai,An,Am⟩:Ac) r4 r3 with⟨⟨aa,ab,ac,ad,aj,ak⟩,a1⟩
 generalize af:aa.map A5=al
 generalize ag:ab.map Ae=am
 generalize ah:ac.map Ae=an
 generalize ai:ad.map cS=ao
 have hlf:Hw (⟨wver,wstr,wrol,wbas,wlin,woff,wend,wope,wcod⟩:Aa) record=r3:=by unfold Hw;dsimp only;rw[←ap,a0,az];congr 1;omega
 have hca:Ao (⟨Ah,Ak,Aj,Ai,An,Am⟩:Ac) (Af wbas) (Hw (⟨wver,wstr,wrol,wbas,wlin,woff,wend,wope,wcod⟩:Aa) record)=((⟨aa,ab,ac,ad,aj,ak⟩:Ac),a1):=by rw[hlf,aq];exact ar
 refine .dd hP (H6 Ap As Au At ae.1.1 ae.1.2.2.1 ae.1.2.2.2.2.1 (by omega) ae.2.2 ae (by omega) ar af ag ah ai) ?_
 conv=>cbv
 refine .neq (fun h6=>?_) fun h6=>?_
 conv=>cbv
 have e:Kz (⟨Ah,Ak,Aj,Ai,An,Am⟩:Ac) (⟨wver,wstr,wrol,wbas,wlin,woff,wend,wope,wcod⟩:Aa) record=(⟨aa,ab,ac,ad,aj,ak⟩:Ac):=(by unfold Kz;dsimp only;rw[hca])
 rw[show rlay (⟨wver,wstr,wrol,wbas,wlin,woff,wend,wope,wcod⟩:Aa) (⟨Ah,Ak,Aj,Ai,An,Am⟩:Ac) record=Kz (⟨Ah,Ak,Aj,Ai,An,Am⟩:Ac) (⟨wver,wstr,wrol,wbas,wlin,woff,wend,wope,wcod⟩:Aa) record from rfl,e]at hr
 simp only[Ac.mk.injEq]at hr
 obtain⟨rfl,rfl,rfl,rfl,rfl,rfl⟩:=hr
 obtain rfl:al=Gh:=by rw[←af,H8]
 obtain rfl:am=Gk:=by rw[←ag,H4]
 obtain rfl:an=Gl:=by rw[←ah,Ib]
 obtain rfl:ao=Gj:=by rw[←ai,H3]
 exact hQ _ _ (.of [] (.inl rfl) rfl rfl rfl rfl)
 conv=>cbv
 refine .one wend hwoff rfl fun a8 z7 a3 a9=>?_
 conv=>cbv
 refine .go fun v8 ba=>?_
 conv=>cbv
 refine .add fun v9 bb=>?_
 conv=>cbv
 have a2:L6 (⟨Ah,Ak,Aj,Ai,An,Am⟩:Ac) (⟨wver,wstr,wrol,wbas,wlin,woff,wend,wope,wcod⟩:Aa) record=0:=by unfold L6;dsimp only;rw[hca];exact if_neg (by dsimp only;omega)
 exact absurd a2 hc
end
end Go.Proofs.YtgdmjbcllgmepaaGreatDoor.Ab
