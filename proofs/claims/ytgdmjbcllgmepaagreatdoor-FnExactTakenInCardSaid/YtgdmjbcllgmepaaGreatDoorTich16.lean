/- What functions of the program come to, for all arguments in the given bounds. -/
import Derived.Test.YtgdmjbcllgmepaaGreatDoorTich06p
import Derived.Test.YtgdmjbcllgmepaaGreatDoorTiZ9
set_option linter.unusedVariables false
set_option linter.unusedSimpArgs false
namespace Go.Proofs.YtgdmjbcllgmepaaGreatDoor.Ab
section
open Go Go.Proofs
set_option maxRecDepth 20000
set_option maxHeartbeats 4000000
def Q7:List (Nat×TyRow):=[ty3,ty4,ty9,Xdu,XgT,Xa1,ty41,Xdc,Xhq,ty198]
theorem Xbc:Bx Tryz.prog Q7:=Bx.of (by kernel_rfl)
theorem Fc:Setup Tryz.prog Q7:=⟨Xbc,mixed⟩
def Fm(room:Int):Ac:=⟨[],[],[],[],max 0 room,1⟩
def Of(w:Aa):B4:=⟨w.version_,w.stride_,w.base_,w.link_⟩
def Ij(w:Aa):B4:=⟨w.version_,w.stride_,w.base_,w.link_⟩
def Tr(d:Ac)(w:Aa):Int:=if(Ao d (Af w.base_) (Bq (Ij w) w.offsets_ w.end_)).2≠0 then 2 else 0
def T5(d:Ac)(w:Aa):Ac:=if Tr d w=0 then(Ch (Ao d (Af w.base_) (Bq (Ij w) w.offsets_ w.end_)).1 (Af w.base_)).1 else(Ao d (Af w.base_) (Bq (Ij w) w.offsets_ w.end_)).1
def Qy(d:Ac)(w:Aa):Aa:=if Tr d w=0 then⟨w.version_,w.stride_,w.roll_,w.base_+w.offsets_.length,Fj (Jy d w.base_),[],0,false,w.code_⟩else⟨w.version_,w.stride_,w.roll_,w.base_,w.link_,w.offsets_,w.end_,w.open_,2⟩
def Cz(d:Ac)(w:Aa):Ac×Aa×Int:=if w.open_=false∨w.code_≠0 then(d,w,w.code_)else(T5 d w,Qy d w,Tr d w)
def Mr(d:Ac)(w:Aa):Int:=if(Ax d (Af w.base_)).2≠0 then 4 else if(Ao (Ax d (Af w.base_)).1 (Af w.base_) (By (Ij w))).2≠0 then 2 else 0
def Ko(d:Ac)(w:Aa):Ac:=if(Ax d (Af w.base_)).2≠0 then(Ax d (Af w.base_)).1 else if(Ao (Ax d (Af w.base_)).1 (Af w.base_) (By (Ij w))).2≠0 then(Ao (Ax d (Af w.base_)).1 (Af w.base_) (By (Ij w))).1
 else Cs (Ch (Ao (Ax d (Af w.base_)).1 (Af w.base_) (By (Ij w))).1 (Af w.base_)).1
def Yv(d:Ac)(w:Aa):Aa:=if Mr d w=0 then⟨w.version_,w.stride_,w.roll_,w.base_,w.link_,[],24,true,w.code_⟩else⟨w.version_,w.stride_,w.roll_,w.base_,w.link_,w.offsets_,w.end_,w.open_,Mr d w⟩
def Hj(w:Aa)(r:ByteArray):ByteArray:=Aw w.version_ (w.base_+w.offsets_.length) r
def Li(d:Ac)(w:Aa)(r:ByteArray):Int:=if(Ao d (Af w.base_) (Hj w r)).2≠0 then 2 else 0
def Kh(d:Ac)(w:Aa)(r:ByteArray):Ac:=(Ao d (Af w.base_) (Hj w r)).1
def Rm(d:Ac)(w:Aa)(r:ByteArray):Aa:=if Li d w r=0 then⟨w.version_,w.stride_,w.roll_,w.base_,w.link_,w.offsets_++[w.end_],w.end_+(Hj w r).size,w.open_,w.code_⟩else⟨w.version_,w.stride_,w.roll_,w.base_,w.link_,w.offsets_,w.end_,w.open_,2⟩
def O8(d:Ac)(w:Aa):Ac×Aa:=if w.open_=true∧w.roll_≤w.offsets_.length then(T5 d w,Qy d w)else(d,w)
def appB(s:Ac×Aa):Ac×Aa:=if s.2.code_=0∧s.2.open_=false then(Ko s.1 s.2,Yv s.1 s.2)else s
def H0(s:Ac×Aa)(r:ByteArray):Ac×Aa:=if s.2.code_=0 then(Kh s.1 s.2 r,Rm s.1 s.2 r)else s
def Ad(d:Ac)(w:Aa)(r:ByteArray):Ac×Aa×Int:=if 60<r.size then(d,w,1)else if w.code_≠0 then(d,w,w.code_)else((H0 (appB (O8 d w)) r).1,(H0 (appB (O8 d w)) r).2,(H0 (appB (O8 d w)) r).2.code_)
def Pe(k:Nat)(w:Aa):Prop:=0≤w.base_∧w.base_+w.offsets_.length≤k∧0≤w.end_∧w.end_≤24+84*(k:Int)∧∀x∈w.offsets_,0≤x∧x≤24+84*(k:Int)
theorem Pu{k:Nat}{w:Aa}(h:Pe k w)(hk:k≤1000000):w.offsets_.length≤1000000∧(∀x∈w.offsets_,wfI x)∧w.end_<9223372036854775808:=by
 obtain⟨h1,h2,h3,h4,h5⟩:=h
 exact⟨by omega,fun x hx=>⟨by have:=h5 x hx;omega,by have:=h5 x hx;omega⟩,by omega⟩
theorem Wj{k:Nat}{d:Ac}{w:Aa}(h:Pe k w):Pe k (Qy d w):=by
 obtain⟨h1,h2,h3,h4,h5⟩:=h
 unfold Qy
 split
 ·exact⟨by show 0≤w.base_+_;omega,by show w.base_+_+(([]:List Int).length:Int)≤_;simp;omega,Int.le_refl _,by show(0:Int)≤_;omega,fun x hx=>by cases hx⟩
 ·exact⟨h1,h2,h3,h4,h5⟩
theorem Nx{k:Nat}{d:Ac}{w:Aa}(h:Pe k w):Pe k (Yv d w):=by
 obtain⟨h1,h2,h3,h4,h5⟩:=h
 unfold Yv
 split
 ·exact⟨h1,by show w.base_+(([]:List Int).length:Int)≤_;simp;omega,by show(0:Int)≤24;omega,by show(24:Int)≤_;omega,fun x hx=>by cases hx⟩
 ·exact⟨h1,h2,h3,h4,h5⟩
theorem XhL{k:Nat}{d:Ac}{w:Aa}{r:ByteArray}(h:Pe k w):Pe (k+1) (Rm d w r):=by
 obtain⟨h1,h2,h3,h4,h5⟩:=h
 have hf:(Hj w r).size≤84:=Cg rfl
 unfold Rm
 split
 ·refine⟨h1,by show w.base_+((w.offsets_++[w.end_]).length:Int)≤_;rw[List.length_append,List.length_singleton];omega,by show 0≤w.end_+_;omega,by show w.end_+_≤_;omega,fun x hx=>?_⟩
  rcases List.mem_append.1 hx with hx|hx
  ·have:=h5 x hx
   omega
  ·rw[List.mem_singleton.1 hx]
   omega
 ·exact⟨h1,by show w.base_+(w.offsets_.length:Int)≤((k+1:Nat):Int);omega,h3,by show w.end_≤_;omega,fun x hx=>by have:=h5 x hx;omega⟩
theorem Oh(b:Int):(Af b).size≤13:=T3 rfl
theorem W9{d:Ac}{w:Aa}(h:Is d):Is (T5 d w)∧(T5 d w).steps_.length≤d.steps_.length+2:=by
 have h1:=Gk (name:=Af w.base_) (text:=Bq (Ij w) w.offsets_ w.end_) h
 have h2:=P0 (name:=Af w.base_) h1.1
 have a:=h1.2
 have b:=h2.2
 unfold T5
 split
 ·exact⟨h2.1,by omega⟩
 ·exact⟨h1.1,by omega⟩
theorem Nv{d:Ac}{w:Aa}(h:Is d)(hl:d.steps_.length<1000000000):Is (Ko d w)∧(Ko d w).steps_.length≤d.steps_.length+4:=by
 have hz:=Oh w.base_
 have h0:=Ln (name:=Af w.base_) h hl (by omega)
 have h1:=Gk (name:=Af w.base_) (text:=By (Ij w)) h0.1
 have h2:=P0 (name:=Af w.base_) h1.1
 have h3:=XfE h2.1
 have a:=h0.2
 have b:=h1.2
 have c:=h2.2
 have e:=h3.2
 unfold Ko
 split
 ·exact⟨h0.1,by omega⟩
 ·split
  ·exact⟨h1.1,by omega⟩
  ·exact⟨h3.1,by omega⟩
theorem Xhp{d:Ac}{w:Aa}{r:ByteArray}(h:Is d):Is (Kh d w r)∧(Kh d w r).steps_.length≤d.steps_.length+1:=Gk h
theorem XgZ{k:Nat}{d:Ac}{w:Aa}{r:ByteArray}(h:Is d)(hl:d.steps_.length<900000000)(hw:Pe k w):Is (Ad d w r).1∧(Ad d w r).1.steps_.length≤d.steps_.length+7∧Pe (k+1) (Ad d w r).2.1:=by
 have up:∀{w:Aa},Pe k w→Pe (k+1) w:=fun h=>⟨h.1,by have:=h.2.1;omega,h.2.2.1,by have:=h.2.2.2.1;omega,fun x hx=>by have:=h.2.2.2.2 x hx;omega⟩
 have hA:Is (O8 d w).1∧(O8 d w).1.steps_.length≤d.steps_.length+2∧Pe k (O8 d w).2:=by
  unfold O8
  split
  ·have:=W9 (w:=w) h
   exact⟨this.1,this.2,Wj hw⟩
  ·exact⟨h,Nat.le_add_right _ _,hw⟩
 generalize hA0:O8 d w=s at hA
 have hB:Is (appB s).1∧(appB s).1.steps_.length≤d.steps_.length+6∧Pe k (appB s).2:=by
  unfold appB
  split
  ·have:=Nv (w:=s.2) hA.1 (by omega)
   exact⟨this.1,by have:=this.2;show(Ko s.1 s.2).steps_.length≤_;omega,Nx hA.2.2⟩
  ·exact⟨hA.1,by omega,hA.2.2⟩
 generalize hB0:appB s=s2 at hB
 have hC:Is (H0 s2 r).1∧(H0 s2 r).1.steps_.length≤d.steps_.length+7∧Pe (k+1) (H0 s2 r).2:=by
  unfold H0
  split
  ·have:=Xhp (w:=s2.2) (r:=r) hB.1
   exact⟨this.1,by have:=this.2;show(Kh s2.1 s2.2 r).steps_.length≤_;omega,XhL hB.2.2⟩
  ·exact⟨hB.1,by omega,up hB.2.2⟩
 unfold Ad
 split
 ·exact⟨h,Nat.le_add_right _ _,up hw⟩
 ·split
  ·exact⟨h,Nat.le_add_right _ _,up hw⟩
  ·rw[hA0,hB0]
   exact hC
variable {room oroo onex wver wstr wrol wbas wlin wend wcod XhY ostr obas olin An Am Ia H7 obver obstr obrol obbas oblin obend obcod oc c:Int} {onod Ag Ih:List Br} {F2 Fy F3 Fx xwoff Bo Bm Bl Bn Ey Ez Eu Ex xoboff:List (List D)} {oent oold Ak Aj In Ik:List Ai} {oste Ah Ig:List ByteArray} {woff oboff:List Int} {wope obope:Bool} {nw k nwoff:Nat} {record:ByteArray}
theorem XdH(hr:Fm room=⟨onod,oent,oold,oste,oroo,onex⟩)(Hl:onod.map A8=F2)(Hs:oent.map Ae=Fy)(Ho:oold.map Ae=F3)(Hr:oste.map cS=Fx):Fn Tryz.prog 77 [I room] [] ⟨.agg [.d (.row 3 F2),.d (.row 2 Fy),.d (.row 2 F3),.d (.row 1 Fx),I oroo,I onex],[],[]⟩:=by
 refine Fn.go Fc Tryz.func77 fun P hP Q hQ=>?_
 conv=>cbv
 refine .go fun v1 aa=>?_
 conv=>cbv
 have e:(⟨[],[],[],[],v1,1⟩:Ac)=Fm room:=(by unfold Fm;rw[aa])
 rw[hr]at e
 simp only[Ac.mk.injEq]at e
 obtain⟨rfl,rfl,rfl,rfl,rfl,rfl⟩:=e
 exact hQ _ _ (.one (.inl rfl) rfl (.agg (.ref rfl rfl (by rw[←Hl];rfl) (.ref rfl rfl (by rw[←Hs];rfl) (.ref rfl rfl (by rw[←Ho];rfl) (.ref rfl rfl (by rw[←Hr];rfl) (.d rfl rfl (.d rfl rfl (.nil))))))) .nil))
theorem Xe5(hr:Fm room=⟨onod,oent,oold,oste,oroo,onex⟩)(Hl:onod.map A8=F2)(Hs:oent.map Ae=Fy)(Ho:oold.map Ae=F3)(Hr:oste.map cS=Fx):Fn Tryz.prog 74 [I room] [] ⟨.agg [.d (.row 3 F2),.d (.row 2 Fy),.d (.row 2 F3),.d (.row 1 Fx),I oroo,I onex],[],[]⟩:=by
 refine Fn.go Fc Tryz.func74 fun P hP Q hQ=>?_
 conv=>cbv
 refine .lss (fun h1=>?_) fun h1=>?_
 conv=>cbv
 have e:(⟨[],[],[],[],0,1⟩:Ac)=Fm room:=(by unfold Fm;rw[show max 0 room=0 by omega])
 rw[hr]at e
 simp only[Ac.mk.injEq]at e
 obtain⟨rfl,rfl,rfl,rfl,rfl,rfl⟩:=e
 exact hQ _ _ (.one (.inl rfl) rfl (.agg (.ref rfl rfl (by rw[←Hl];rfl) (.ref rfl rfl (by rw[←Hs];rfl) (.ref rfl rfl (by rw[←Ho];rfl) (.ref rfl rfl (by rw[←Hr];rfl) (.d rfl rfl (.d rfl rfl (.nil))))))) .nil))
 conv=>cbv
 have e:(⟨[],[],[],[],room,1⟩:Ac)=Fm room:=(by unfold Fm;rw[show max 0 room=room by omega])
 rw[hr]at e
 simp only[Ac.mk.injEq]at e
 obtain⟨rfl,rfl,rfl,rfl,rfl,rfl⟩:=e
 exact hQ _ _ (.one (.inl rfl) rfl (.agg (.ref rfl rfl (by rw[←Hl];rfl) (.ref rfl rfl (by rw[←Hs];rfl) (.ref rfl rfl (by rw[←Ho];rfl) (.ref rfl rfl (by rw[←Hr];rfl) (.d rfl rfl (.d rfl rfl (.nil))))))) .nil))
theorem Kq(hwoff:woff.map cI=xwoff)(hr:Ij (⟨wver,wstr,wrol,wbas,wlin,woff,wend,wope,wcod⟩:Aa)=⟨XhY,ostr,obas,olin⟩):Fn Tryz.prog 235 [.agg [I wver,I wstr,I wrol,I wbas,I wlin,.d (.row 1 xwoff),I wend,B wope,I wcod]] [] ⟨.agg [I XhY,I ostr,I obas,I olin],[],[]⟩:=by
 refine Fn.go Fc Tryz.func235 fun P hP Q hQ=>?_
 conv=>cbv
 have e:(⟨wver,wstr,wbas,wlin⟩:B4)=Ij (⟨wver,wstr,wrol,wbas,wlin,woff,wend,wope,wcod⟩:Aa):=(by rfl)
 rw[hr]at e
 simp only[B4.mk.injEq]at e
 obtain⟨rfl,rfl,rfl,rfl⟩:=e
 exact hQ _ _ (.one (.inl rfl) rfl (.agg (.d rfl rfl (.d rfl rfl (.d rfl rfl (.d rfl rfl (.nil))))) .nil))
theorem Tu(hwoff:woff.map cI=xwoff)(hr:Of (⟨wver,wstr,wrol,wbas,wlin,woff,wend,wope,wcod⟩:Aa)=⟨XhY,ostr,obas,olin⟩):Fn Tryz.prog 224 [.agg [I wver,I wstr,I wrol,I wbas,I wlin,.d (.row 1 xwoff),I wend,B wope,I wcod]] [] ⟨.agg [I XhY,I ostr,I obas,I olin],[],[]⟩:=by
 refine Fn.go Fc Tryz.func224 fun P hP Q hQ=>?_
 conv=>cbv
 have e:(⟨wver,wstr,wbas,wlin⟩:B4)=Of (⟨wver,wstr,wrol,wbas,wlin,woff,wend,wope,wcod⟩:Aa):=(by rfl)
 rw[hr]at e
 simp only[B4.mk.injEq]at e
 obtain⟨rfl,rfl,rfl,rfl⟩:=e
 exact hQ _ _ (.one (.inl rfl) rfl (.agg (.d rfl rfl (.d rfl rfl (.d rfl rfl (.d rfl rfl (.nil))))) .nil))
theorem Od(hwoff:woff.map cI=xwoff)(hn:woff.length≤4000000000):Fn Tryz.prog 159 [.agg [I wver,I wstr,I wrol,I wbas,I wlin,.d (.row 1 xwoff),I wend,B wope,I wcod]] [] ⟨.agg [I wver,I wstr,I wrol,I wbas,I wlin,.d (.row 1 xwoff),I wend,B wope,I wcod],[],[]⟩:=by
 refine Fn.go Fc Tryz.func159 fun P hP Q hQ=>?_
 conv=>cbv
 generalize aa:Co woff=l1
 generalize ab:l1.map cI=ac
 refine .dd hP (Lm hwoff (by omega) aa ab) ?_
 conv=>cbv
 obtain rfl:l1=woff:=aa.symm
 obtain rfl:ac=xwoff:=by rw[←ab,hwoff]
 exact hQ _ _ (.one (.inl rfl) rfl (.agg (.d rfl rfl (.d rfl rfl (.d rfl rfl (.d rfl rfl (.d rfl rfl (.d rfl rfl (.d rfl rfl (.d rfl rfl (.d rfl rfl (.nil)))))))))) .nil))
theorem Zz(hwoff:woff.map cI=xwoff)(hn:woff.length≤4000000000)(hnw:nw=woff.length):Fn Tryz.prog 159 [.agg [I wver,I wstr,I wrol,I wbas,I wlin,.d (.row 1 xwoff),I wend,B wope,I wcod]] [] ⟨.agg [I wver,I wstr,I wrol,I wbas,I wlin,.ref 0 0 nw,I wend,B wope,I wcod],[.row 1 false xwoff],[]⟩:=by
 refine Fn.goR Fc Tryz.func159 fun P hP Q hQ=>?_
 conv=>cbv
 generalize ab:Co woff=l1
 generalize aa:l1.map cI=ac
 obtain⟨nl1,hnl1⟩:∃m,m=l1.length:=⟨_,rfl⟩
 refine .ddA hP (Kk hwoff (by omega) ab aa hnl1) rfl rfl rfl (aa▸Re (fun _=>rfl) l1) ?_
 conv=>cbv
 obtain rfl:l1=woff:=ab.symm
 obtain rfl:ac=xwoff:=by rw[←aa,hwoff]
 obtain rfl:nl1=nw:=by omega
 exact hQ _ _ (.of [3] (.inl rfl) rfl rfl rfl rfl)
theorem Ul(hwoff:woff.map cI=xwoff)(hn:woff.length≤4000000000):Fn Tryz.prog 152 [.agg [I wver,I wstr,I wrol,I wbas,I wlin,.d (.row 1 xwoff),I wend,B wope,I wcod]] [] ⟨.agg [I wver,I wstr,I wrol,I wbas,I wlin,.d (.row 1 xwoff),I wend,B wope,I wcod],[],[]⟩:=by
 refine Fn.go Fc Tryz.func152 fun P hP Q hQ=>?_
 conv=>cbv
 refine .row0 hwoff fun ac z1 ab aa=>?_
 conv=>cbv
 obtain rfl:z1=xwoff:=by rw[←aa,hwoff]
 exact hQ _ _ (.one (.inl rfl) rfl (.agg (.d rfl rfl (.d rfl rfl (.d rfl rfl (.d rfl rfl (.d rfl rfl (.ref rfl (Ap hwoff) rfl (.d rfl rfl (.d rfl rfl (.d rfl rfl (.nil)))))))))) .nil))
theorem XeU(hwoff:woff.map cI=xwoff)(hn:woff.length≤4000000000)(hnw:nw=woff.length):Fn Tryz.prog 152 [.agg [I wver,I wstr,I wrol,I wbas,I wlin,.d (.row 1 xwoff),I wend,B wope,I wcod]] [] ⟨.agg [I wver,I wstr,I wrol,I wbas,I wlin,.ref 0 0 nw,I wend,B wope,I wcod],[.row 1 false xwoff],[]⟩:=by
 refine Fn.goR Fc Tryz.func152 fun P hP Q hQ=>?_
 conv=>cbv
 refine .row0 hwoff fun aa z1 ac ab=>?_
 conv=>cbv
 obtain rfl:z1=xwoff:=by rw[←ab,hwoff]
 obtain rfl:aa=nw:=by omega
 exact hQ _ _ (.of [4] (.inl rfl) rfl rfl rfl rfl)
theorem XaO{b:ByteArray}{o:Int}(hs:b.size<2^40)(hr:Fj b=o):Fn Tryz.prog 232 [S b] [] ⟨I o,[],[]⟩:=by
 refine Fn.go Fc Tryz.func232 fun P hP Q hQ=>?_
 conv=>cbv
 rcases ae:Cp b with⟨ao,⟨ag,ah,ai,ab⟩,ac,af,am,an⟩
 generalize aa:ac.map cS=ak
 generalize ad:af.map cI=al
 refine .dd hP (XcW (by omega) ae aa ad) ?_
 conv=>cbv
 have zs:=XbF (b:=b)
 have zl:=Us (b:=b)
 rw[ae]at zs zl
 simp only[]at zs zl
 generalize aj:Hb ab ac=r2
 refine .dd hP (Xd2 aa (by omega) zs aj) ?_
 conv=>cbv
 have e:r2=Fj b:=(by unfold Fj;rw[ae];exact aj.symm)
 rw[hr]at e
 subst e
 exact hQ _ _ (.i rfl rfl)
theorem V0:Setup Tryz.prog ((3000006,Dt Tryz.prog 3000006)::((3000003,Dt Tryz.prog 3000003)::((3000011,Dt Tryz.prog 3000011)::Q7))):=(Setup.mark 3000006 (Setup.mark 3000003 (Setup.mark 3000011 Fc)))
theorem Xfb(Aq:Ag.map A8=Bo)(As:Ak.map Ae=Bm)(Av:Aj.map Ae=Bl)(At:Ah.map cS=Bn)(hwoff:woff.map cI=xwoff)(ae:Is (⟨Ag,Ak,Aj,Ah,An,Am⟩:Ac))(hst:Ah.length<900000000)(hw:Pe k (⟨wver,wstr,wrol,wbas,wlin,woff,wend,wope,wcod⟩:Aa))(hk:k≤1000000)(hr:Cz (⟨Ag,Ak,Aj,Ah,An,Am⟩:Ac) (⟨wver,wstr,wrol,wbas,wlin,woff,wend,wope,wcod⟩:Aa)=(⟨Ih,In,Ik,Ig,Ia,H7⟩,⟨obver,obstr,obrol,obbas,oblin,oboff,obend,obope,obcod⟩,oc))(A6:Ih.map A8=Ey)(A5:In.map Ae=Ez)(A4:Ik.map Ae=Eu)(A7:Ig.map cS=Ex)(hoboff:oboff.map cI=xoboff):Fn Tryz.prog 160 [.agg [.d (.row 3 Bo),.d (.row 2 Bm),.d (.row 2 Bl),.d (.row 1 Bn),I An,I Am],.agg [I wver,I wstr,I wrol,I wbas,I wlin,.d (.row 1 xwoff),I wend,B wope,I wcod]] [] ⟨.tup [.agg [.d (.row 3 Ey),.d (.row 2 Ez),.d (.row 2 Eu),.d (.row 1 Ex),I Ia,I H7],.agg [I obver,I obstr,I obrol,I obbas,I oblin,.d (.row 1 xoboff),I obend,B obope,I obcod],I oc],[],[]⟩:=by
 refine Fn.go V0 Tryz.func160 fun P hP Q hQ=>?_
 conv=>cbv
 have bu:Ag.length≤1000000000:=ae.1.1
 have bv:Ak.length≤1000000000:=ae.1.2.2.1
 have bw:Aj.length≤1000000000:=ae.1.2.2.2.2.1
 have hwf:=Pu hw hk
 simp only[]at hwf
 obtain⟨bk,bl,bm,bn,bz⟩:=hw
 simp only[]at bk bl bm bn
 refine .dd hP (Od hwoff (by omega)) ?_
 conv=>cbv
 cases wope
 conv=>cbv
 refine .dd hP (K6 Aq As Av At (by omega) (by omega) (by omega) (by omega)) ?_
 conv=>cbv
 refine .go2 (by kernel_rfl) ?_
 conv=>cbv
 have e:((⟨Ag,Ak,Aj,Ah,An,Am⟩:Ac),(⟨wver,wstr,wrol,wbas,wlin,woff,wend,false,wcod⟩:Aa),wcod)=Cz (⟨Ag,Ak,Aj,Ah,An,Am⟩:Ac) (⟨wver,wstr,wrol,wbas,wlin,woff,wend,false,wcod⟩:Aa):=(by unfold Cz;rw[if_pos (.inl rfl)])
 rw[hr]at e
 simp only[Prod.mk.injEq,Ac.mk.injEq,Aa.mk.injEq]at e
 obtain⟨⟨rfl,rfl,rfl,rfl,rfl,rfl⟩,⟨rfl,rfl,rfl,rfl,rfl,rfl,rfl,rfl,rfl⟩,rfl⟩:=e
 refine hQ _ _ ?_
 exact .many (.inl rfl) rfl rfl (.agg (.d rfl (Al Aq A6) (.d rfl (Al As A5) (.d rfl (Al Av A4) (.d rfl (Al At A7) (.d rfl rfl (.d rfl rfl (.nil))))))) (.agg (.d rfl rfl (.d rfl rfl (.d rfl rfl (.d rfl rfl (.d rfl rfl (.d rfl (Al hwoff hoboff) (.d rfl rfl (.d rfl rfl (.d rfl rfl (.nil)))))))))) (.d rfl rfl (.nil))))
 conv=>cbv
 refine .neq (fun h2=>?_) fun h2=>?_
 conv=>cbv
 refine .dd hP (K6 Aq As Av At (by omega) (by omega) (by omega) (by omega)) ?_
 conv=>cbv
 refine .go2 (by kernel_rfl) ?_
 conv=>cbv
 have e:((⟨Ag,Ak,Aj,Ah,An,Am⟩:Ac),(⟨wver,wstr,wrol,wbas,wlin,woff,wend,true,wcod⟩:Aa),wcod)=Cz (⟨Ag,Ak,Aj,Ah,An,Am⟩:Ac) (⟨wver,wstr,wrol,wbas,wlin,woff,wend,true,wcod⟩:Aa):=(by unfold Cz;rw[if_pos (.inr (by dsimp only;omega))])
 rw[hr]at e
 simp only[Prod.mk.injEq,Ac.mk.injEq,Aa.mk.injEq]at e
 obtain⟨⟨rfl,rfl,rfl,rfl,rfl,rfl⟩,⟨rfl,rfl,rfl,rfl,rfl,rfl,rfl,rfl,rfl⟩,rfl⟩:=e
 refine hQ _ _ ?_
 exact .many (.inl rfl) rfl rfl (.agg (.d rfl (Al Aq A6) (.d rfl (Al As A5) (.d rfl (Al Av A4) (.d rfl (Al At A7) (.d rfl rfl (.d rfl rfl (.nil))))))) (.agg (.d rfl rfl (.d rfl rfl (.d rfl rfl (.d rfl rfl (.d rfl rfl (.d rfl (Al hwoff hoboff) (.d rfl rfl (.d rfl rfl (.d rfl rfl (.nil)))))))))) (.d rfl rfl (.nil))))
 conv=>cbv
 generalize a0:Af wbas=r3
 refine .dd hP (Fk a0) ?_
 conv=>cbv
 generalize a1:Jy (⟨Ag,Ak,Aj,Ah,An,Am⟩:Ac) wbas=r4
 refine .dd hP (Xge Aq As Av At ae.1 a1) ?_
 conv=>cbv
 have ht4:=U2 ae.1 a1
 generalize bc:Fj r4=r5
 refine .dd hP (XaO (by omega) bc) ?_
 conv=>cbv
 rcases bd:Ij (⟨wver,wstr,wrol,wbas,wlin,woff,wend,true,wcod⟩:Aa)with⟨a2,a3,a4,a5⟩
 refine .dd hP (Kq hwoff bd) ?_
 conv=>cbv
 generalize a6:Bq (⟨a2,a3,a4,a5⟩:B4) woff wend=r7
 have zr7:=Sj a6
 refine .dd hP (Xdi hwoff (by omega) hwf.2.1 (by omega) a6) ?_
 conv=>cbv
 rcases a7:Ao (⟨Ag,Ak,Aj,Ah,An,Am⟩:Ac) r3 r7 with⟨⟨aa,ab,ac,ad,an,ao⟩,bo⟩
 generalize af:aa.map A8=be
 generalize ag:ab.map Ae=bf
 generalize ah:ac.map Ae=bg
 generalize ai:ad.map cS=bh
 have aw:=Gk (d:=(⟨Ag,Ak,Aj,Ah,An,Am⟩:Ac)) (name:=r3) (text:=r7) ae
 rw[a7]at aw
 have bp:=aw.2
 simp only[]at bp
 have haq:Ao (⟨Ag,Ak,Aj,Ah,An,Am⟩:Ac) (Af wbas) (Bq (Ij (⟨wver,wstr,wrol,wbas,wlin,woff,wend,true,wcod⟩:Aa)) woff wend)=(⟨aa,ab,ac,ad,an,ao⟩,bo):=by rw[a0,show Ij (⟨wver,wstr,wrol,wbas,wlin,woff,wend,true,wcod⟩:Aa)=_ from bd,a6,a7]
 refine .dd hP (Hn Aq As Av At ae.1.1 ae.1.2.2.1 ae.1.2.2.2.2.1 (by omega) ae.2.2 ae (by omega) a7 af ag ah ai) ?_
 conv=>cbv
 refine .go2 (by kernel_rfl) ?_
 conv=>cbv
 refine .neq (fun h9=>?_) fun h9=>?_
 conv=>cbv
 have e:((⟨aa,ab,ac,ad,an,ao⟩:Ac),(⟨wver,wstr,wrol,wbas,wlin,woff,wend,true,2⟩:Aa),2)=Cz (⟨Ag,Ak,Aj,Ah,An,Am⟩:Ac) (⟨wver,wstr,wrol,wbas,wlin,woff,wend,true,wcod⟩:Aa):=(by have hc:Tr (⟨Ag,Ak,Aj,Ah,An,Am⟩:Ac) (⟨wver,wstr,wrol,wbas,wlin,woff,wend,true,wcod⟩:Aa)=2:=(by unfold Tr;dsimp only;rw[haq];exact if_pos (by dsimp only;omega));unfold Cz;rw[if_neg (by simp;omega)];unfold T5 Qy;rw[hc,if_neg (by decide),if_neg (by decide)];dsimp only;rw[haq])
 rw[hr]at e
 simp only[Prod.mk.injEq,Ac.mk.injEq,Aa.mk.injEq]at e
 obtain⟨⟨rfl,rfl,rfl,rfl,rfl,rfl⟩,⟨rfl,rfl,rfl,rfl,rfl,rfl,rfl,rfl,rfl⟩,rfl⟩:=e
 refine hQ _ _ ?_
 exact .many (.inl rfl) rfl rfl (.agg (.d rfl (Al af A6) (.d rfl (Al ag A5) (.d rfl (Al ah A4) (.d rfl (Al ai A7) (.d rfl rfl (.d rfl rfl (.nil))))))) (.agg (.d rfl rfl (.d rfl rfl (.d rfl rfl (.d rfl rfl (.d rfl rfl (.d rfl (Al hwoff hoboff) (.d rfl rfl (.d rfl rfl (.d rfl rfl (.nil)))))))))) (.d rfl rfl (.nil))))
 conv=>cbv
 rcases az:Ch (⟨aa,ab,ac,ad,an,ao⟩:Ac) r3 with⟨⟨ap,aq,ar,au,ax,ay⟩,bt⟩
 generalize aj:ap.map A8=a8
 generalize ak:aq.map Ae=a9
 generalize al:ar.map Ae=ba
 generalize am:au.map cS=bb
 refine .dd hP (P3 af ag ah ai aw.1.1.1 aw.1.1.2.2.1 aw.1.1.2.2.2.2.1 (by omega) aw.1.2.2 aw.1 az aj ak al am) ?_
 conv=>cbv
 refine .go hwoff fun b0 bi=>?_
 conv=>cbv
 refine .add fun bq bj=>?_
 conv=>cbv
 refine .go2 (by kernel_rfl) ?_
 conv=>cbv
 have e:((⟨ap,aq,ar,au,ax,ay⟩:Ac),(⟨wver,wstr,wrol,bq,r5,[],0,false,wcod⟩:Aa),0)=Cz (⟨Ag,Ak,Aj,Ah,An,Am⟩:Ac) (⟨wver,wstr,wrol,wbas,wlin,woff,wend,true,wcod⟩:Aa):=(by have hc:Tr (⟨Ag,Ak,Aj,Ah,An,Am⟩:Ac) (⟨wver,wstr,wrol,wbas,wlin,woff,wend,true,wcod⟩:Aa)=0:=(by unfold Tr;dsimp only;rw[haq];exact if_neg (by dsimp only;omega));unfold Cz;rw[if_neg (by simp;omega)];unfold T5 Qy;rw[hc,if_pos rfl,if_pos rfl];dsimp only;rw[haq];dsimp only;rw[a0,az,a1,bc,bj,bi])
 rw[hr]at e
 simp only[Prod.mk.injEq,Ac.mk.injEq,Aa.mk.injEq]at e
 obtain⟨⟨rfl,rfl,rfl,rfl,rfl,rfl⟩,⟨rfl,rfl,rfl,rfl,rfl,rfl,rfl,rfl,rfl⟩,rfl⟩:=e
 refine hQ _ _ ?_
 exact .many (.inl rfl) rfl rfl (.agg (.d rfl (Al aj A6) (.d rfl (Al ak A5) (.d rfl (Al al A4) (.d rfl (Al am A7) (.d rfl rfl (.d rfl rfl (.nil))))))) (.agg (.d rfl rfl (.d rfl rfl (.d rfl rfl (.d rfl rfl (.d rfl rfl (.ref rfl rfl (by rw[←hoboff];rfl) (.d rfl rfl (.d rfl rfl (.d rfl rfl (.nil)))))))))) (.d rfl rfl (.nil))))
theorem V9:Setup Tryz.prog ((3000008,Dt Tryz.prog 3000008)::((3000004,Dt Tryz.prog 3000004)::Q7)):=(Setup.mark 3000008 (Setup.mark 3000004 Fc))
theorem Xd5(Aq:Ag.map A8=Bo)(As:Ak.map Ae=Bm)(Av:Aj.map Ae=Bl)(At:Ah.map cS=Bn)(hwoff:woff.map cI=xwoff)(ae:Is (⟨Ag,Ak,Aj,Ah,An,Am⟩:Ac))(hst:Ah.length<900000000)(hw:Pe k (⟨wver,wstr,wrol,wbas,wlin,woff,wend,wope,wcod⟩:Aa))(hk:k≤1000000)(hr:Cz (⟨Ag,Ak,Aj,Ah,An,Am⟩:Ac) (⟨wver,wstr,wrol,wbas,wlin,woff,wend,wope,wcod⟩:Aa)=(⟨Ih,In,Ik,Ig,Ia,H7⟩,⟨obver,obstr,obrol,obbas,oblin,oboff,obend,obope,obcod⟩,oc))(A6:Ih.map A8=Ey)(A5:In.map Ae=Ez)(A4:Ik.map Ae=Eu)(A7:Ig.map cS=Ex)(hoboff:oboff.map cI=xoboff):Fn Tryz.prog 153 [.agg [.d (.row 3 Bo),.d (.row 2 Bm),.d (.row 2 Bl),.d (.row 1 Bn),I An,I Am],.agg [I wver,I wstr,I wrol,I wbas,I wlin,.d (.row 1 xwoff),I wend,B wope,I wcod]] [] ⟨.tup [.agg [.d (.row 3 Ey),.d (.row 2 Ez),.d (.row 2 Eu),.d (.row 1 Ex),I Ia,I H7],.agg [I obver,I obstr,I obrol,I obbas,I oblin,.d (.row 1 xoboff),I obend,B obope,I obcod],I oc],[],[]⟩:=by
 refine Fn.go V9 Tryz.func153 fun P hP Q hQ=>?_
 conv=>cbv
 have bu:Ag.length≤1000000000:=ae.1.1
 have bv:Ak.length≤1000000000:=ae.1.2.2.1
 have bw:Aj.length≤1000000000:=ae.1.2.2.2.2.1
 have hwf:=Pu hw hk
 simp only[]at hwf
 obtain⟨bk,bl,bm,bn,bz⟩:=hw
 simp only[]at bk bl bm bn
 refine .dd hP (Uz Aq As Av At (by omega) (by omega) (by omega) (by omega)) ?_
 conv=>cbv
 refine .dd hP (Ul hwoff (by omega)) ?_
 conv=>cbv
 cases wope
 conv=>cbv
 refine .go2 (by kernel_rfl) ?_
 conv=>cbv
 have e:((⟨Ag,Ak,Aj,Ah,An,Am⟩:Ac),(⟨wver,wstr,wrol,wbas,wlin,woff,wend,false,wcod⟩:Aa),wcod)=Cz (⟨Ag,Ak,Aj,Ah,An,Am⟩:Ac) (⟨wver,wstr,wrol,wbas,wlin,woff,wend,false,wcod⟩:Aa):=(by unfold Cz;rw[if_pos (.inl rfl)])
 rw[hr]at e
 simp only[Prod.mk.injEq,Ac.mk.injEq,Aa.mk.injEq]at e
 obtain⟨⟨rfl,rfl,rfl,rfl,rfl,rfl⟩,⟨rfl,rfl,rfl,rfl,rfl,rfl,rfl,rfl,rfl⟩,rfl⟩:=e
 refine hQ _ _ ?_
 exact .many (.inl rfl) rfl rfl (.agg (.d rfl (Al Aq A6) (.d rfl (Al As A5) (.d rfl (Al Av A4) (.d rfl (Al At A7) (.d rfl rfl (.d rfl rfl (.nil))))))) (.agg (.d rfl rfl (.d rfl rfl (.d rfl rfl (.d rfl rfl (.d rfl rfl (.d rfl (Al hwoff hoboff) (.d rfl rfl (.d rfl rfl (.d rfl rfl (.nil)))))))))) (.d rfl rfl (.nil))))
 conv=>cbv
 refine .neq (fun h3=>?_) fun h3=>?_
 conv=>cbv
 refine .go2 (by kernel_rfl) ?_
 conv=>cbv
 have e:((⟨Ag,Ak,Aj,Ah,An,Am⟩:Ac),(⟨wver,wstr,wrol,wbas,wlin,woff,wend,true,wcod⟩:Aa),wcod)=Cz (⟨Ag,Ak,Aj,Ah,An,Am⟩:Ac) (⟨wver,wstr,wrol,wbas,wlin,woff,wend,true,wcod⟩:Aa):=(by unfold Cz;rw[if_pos (.inr (by dsimp only;omega))])
 rw[hr]at e
 simp only[Prod.mk.injEq,Ac.mk.injEq,Aa.mk.injEq]at e
 obtain⟨⟨rfl,rfl,rfl,rfl,rfl,rfl⟩,⟨rfl,rfl,rfl,rfl,rfl,rfl,rfl,rfl,rfl⟩,rfl⟩:=e
 refine hQ _ _ ?_
 exact .many (.inl rfl) rfl rfl (.agg (.d rfl (Al Aq A6) (.d rfl (Al As A5) (.d rfl (Al Av A4) (.d rfl (Al At A7) (.d rfl rfl (.d rfl rfl (.nil))))))) (.agg (.d rfl rfl (.d rfl rfl (.d rfl rfl (.d rfl rfl (.d rfl rfl (.d rfl (Al hwoff hoboff) (.d rfl rfl (.d rfl rfl (.d rfl rfl (.nil)))))))))) (.d rfl rfl (.nil))))
 conv=>cbv
 generalize a0:Af wbas=r4
 refine .dd hP (Cm a0) ?_
 conv=>cbv
 generalize a1:Jy (⟨Ag,Ak,Aj,Ah,An,Am⟩:Ac) wbas=r5
 refine .dd hP (Xf6 Aq As Av At ae.1 a1) ?_
 conv=>cbv
 have ht4:=U2 ae.1 a1
 generalize bc:Fj r5=r6
 refine .dd hP (XaB (by omega) bc) ?_
 conv=>cbv
 rcases bd:Of (⟨wver,wstr,wrol,wbas,wlin,woff,wend,true,wcod⟩:Aa)with⟨a2,a3,a4,a5⟩
 refine .dd hP (Tu hwoff bd) ?_
 conv=>cbv
 generalize a6:Bq (⟨a2,a3,a4,a5⟩:B4) woff wend=r8
 have zr8:=Sj a6
 refine .dd hP (XcU hwoff (by omega) hwf.2.1 (by omega) a6) ?_
 conv=>cbv
 rcases a7:Ao (⟨Ag,Ak,Aj,Ah,An,Am⟩:Ac) r4 r8 with⟨⟨aa,ab,ac,ad,an,ao⟩,bo⟩
 generalize af:aa.map A8=be
 generalize ag:ab.map Ae=bf
 generalize ah:ac.map Ae=bg
 generalize ai:ad.map cS=bh
 have aw:=Gk (d:=(⟨Ag,Ak,Aj,Ah,An,Am⟩:Ac)) (name:=r4) (text:=r8) ae
 rw[a7]at aw
 have bp:=aw.2
 simp only[]at bp
 have haq:Ao (⟨Ag,Ak,Aj,Ah,An,Am⟩:Ac) (Af wbas) (Bq (Ij (⟨wver,wstr,wrol,wbas,wlin,woff,wend,true,wcod⟩:Aa)) woff wend)=(⟨aa,ab,ac,ad,an,ao⟩,bo):=by rw[a0,show Ij (⟨wver,wstr,wrol,wbas,wlin,woff,wend,true,wcod⟩:Aa)=_ from bd,a6,a7]
 refine .dd hP (Cy Aq As Av At ae.1.1 ae.1.2.2.1 ae.1.2.2.2.2.1 (by omega) ae.2.2 ae (by omega) a7 af ag ah ai) ?_
 conv=>cbv
 refine .go2 (by kernel_rfl) ?_
 conv=>cbv
 refine .neq (fun h10=>?_) fun h10=>?_
 conv=>cbv
 have e:((⟨aa,ab,ac,ad,an,ao⟩:Ac),(⟨wver,wstr,wrol,wbas,wlin,woff,wend,true,2⟩:Aa),2)=Cz (⟨Ag,Ak,Aj,Ah,An,Am⟩:Ac) (⟨wver,wstr,wrol,wbas,wlin,woff,wend,true,wcod⟩:Aa):=(by have hc:Tr (⟨Ag,Ak,Aj,Ah,An,Am⟩:Ac) (⟨wver,wstr,wrol,wbas,wlin,woff,wend,true,wcod⟩:Aa)=2:=(by unfold Tr;dsimp only;rw[haq];exact if_pos (by dsimp only;omega));unfold Cz;rw[if_neg (by simp;omega)];unfold T5 Qy;rw[hc,if_neg (by decide),if_neg (by decide)];dsimp only;rw[haq])
 rw[hr]at e
 simp only[Prod.mk.injEq,Ac.mk.injEq,Aa.mk.injEq]at e
 obtain⟨⟨rfl,rfl,rfl,rfl,rfl,rfl⟩,⟨rfl,rfl,rfl,rfl,rfl,rfl,rfl,rfl,rfl⟩,rfl⟩:=e
 refine hQ _ _ ?_
 exact .many (.inl rfl) rfl rfl (.agg (.d rfl (Al af A6) (.d rfl (Al ag A5) (.d rfl (Al ah A4) (.d rfl (Al ai A7) (.d rfl rfl (.d rfl rfl (.nil))))))) (.agg (.d rfl rfl (.d rfl rfl (.d rfl rfl (.d rfl rfl (.d rfl rfl (.d rfl (Al hwoff hoboff) (.d rfl rfl (.d rfl rfl (.d rfl rfl (.nil)))))))))) (.d rfl rfl (.nil))))
 conv=>cbv
 rcases az:Ch (⟨aa,ab,ac,ad,an,ao⟩:Ac) r4 with⟨⟨ap,aq,ar,au,ax,ay⟩,bt⟩
 generalize aj:ap.map A8=a8
 generalize ak:aq.map Ae=a9
 generalize al:ar.map Ae=ba
 generalize am:au.map cS=bb
 refine .dd hP (Pg af ag ah ai aw.1.1.1 aw.1.1.2.2.1 aw.1.1.2.2.2.2.1 (by omega) aw.1.2.2 aw.1 az aj ak al am) ?_
 conv=>cbv
 refine .go hwoff fun b0 bi=>?_
 conv=>cbv
 refine .add fun bq bj=>?_
 conv=>cbv
 have e:((⟨ap,aq,ar,au,ax,ay⟩:Ac),(⟨wver,wstr,wrol,bq,r6,[],0,false,wcod⟩:Aa),0)=Cz (⟨Ag,Ak,Aj,Ah,An,Am⟩:Ac) (⟨wver,wstr,wrol,wbas,wlin,woff,wend,true,wcod⟩:Aa):=(by have hc:Tr (⟨Ag,Ak,Aj,Ah,An,Am⟩:Ac) (⟨wver,wstr,wrol,wbas,wlin,woff,wend,true,wcod⟩:Aa)=0:=(by unfold Tr;dsimp only;rw[haq];exact if_neg (by dsimp only;omega));unfold Cz;rw[if_neg (by simp;omega)];unfold T5 Qy;rw[hc,if_pos rfl,if_pos rfl];dsimp only;rw[haq];dsimp only;rw[a0,az,a1,bc,bj,bi])
 rw[hr]at e
 simp only[Prod.mk.injEq,Ac.mk.injEq,Aa.mk.injEq]at e
 obtain⟨⟨rfl,rfl,rfl,rfl,rfl,rfl⟩,⟨rfl,rfl,rfl,rfl,rfl,rfl,rfl,rfl,rfl⟩,rfl⟩:=e
 refine hQ _ _ ?_
 exact .many (.inl rfl) rfl rfl (.agg (.d rfl (Al aj A6) (.d rfl (Al ak A5) (.d rfl (Al al A4) (.d rfl (Al am A7) (.d rfl rfl (.d rfl rfl (.nil))))))) (.agg (.d rfl rfl (.d rfl rfl (.d rfl rfl (.d rfl rfl (.d rfl rfl (.ref rfl rfl (by rw[←hoboff];rfl) (.d rfl rfl (.d rfl rfl (.d rfl rfl (.nil)))))))))) (.d rfl rfl (.nil))))
def Xu(w:Aa)(d:Ac):Ac:=Ko d w
def rlay(w:Aa)(d:Ac)(r:ByteArray):Ac:=Kh d w r
theorem Mb(hwoff:woff.map cI=xwoff)(Aq:Ag.map A8=Bo)(As:Ak.map Ae=Bm)(Av:Aj.map Ae=Bl)(At:Ah.map cS=Bn)(ak:Is (⟨Ag,Ak,Aj,Ah,An,Am⟩:Ac))(hst:Ah.length<900000000)(hw:Pe k (⟨wver,wstr,wrol,wbas,wlin,woff,wend,wope,wcod⟩:Aa))(hk:k≤1000000)(hc:Mr (⟨Ag,Ak,Aj,Ah,An,Am⟩:Ac) (⟨wver,wstr,wrol,wbas,wlin,woff,wend,wope,wcod⟩:Aa)=0)(hr:Xu (⟨wver,wstr,wrol,wbas,wlin,woff,wend,wope,wcod⟩:Aa) (⟨Ag,Ak,Aj,Ah,An,Am⟩:Ac)=⟨onod,oent,oold,oste,oroo,onex⟩)(Hl:onod.map A8=F2)(Hs:oent.map Ae=Fy)(Ho:oold.map Ae=F3)(Hr:oste.map cS=Fx):Fn Tryz.prog 161 [.ptr 0 0 0,.agg [.d (.row 3 Bo),.d (.row 2 Bm),.d (.row 2 Bl),.d (.row 1 Bn),I An,I Am]] [.box 41 [I wver,I wstr,I wrol,I wbas,I wlin,.d (.row 1 xwoff),I wend,B wope,I wcod]] ⟨.agg [.d (.row 3 F2),.d (.row 2 Fy),.d (.row 2 F3),.d (.row 1 Fx),I oroo,I onex],[.row 1 false []],[(0,.box 41 [I wver,I wstr,I wrol,I wbas,I wlin,.ref 1 0 0,I 24,B true,I wcod])]⟩:=by
 refine Fn.goR Fc Tryz.func161 fun P hP Q hQ=>?_
 conv=>cbv
 have co:Ag.length≤1000000000:=ak.1.1
 have cp:Ak.length≤1000000000:=ak.1.2.2.1
 have cq:Aj.length≤1000000000:=ak.1.2.2.2.2.1
 have hzs:=Oh wbas
 generalize bd:Af wbas=r1
 refine .dd hP (Fk bd) ?_
 conv=>cbv
 rcases bo:Ax (⟨Ag,Ak,Aj,Ah,An,Am⟩:Ac) r1 with⟨⟨aa,ab,ac,ad,ae,af⟩,ci⟩
 generalize an:aa.map A8=b4
 generalize ao:ab.map Ae=b5
 generalize ap:ac.map Ae=b6
 generalize aq:ad.map cS=b7
 rw[bd]at hzs
 refine .dd hP (Qn Aq As Av At ak.1.1 ak.1.2.2.1 ak.1.2.2.2.2.1 (by omega) ak.2.2 ak (by omega) bo an ao ap aq) ?_
 conv=>cbv
 have ar:=Ln (d:=(⟨Ag,Ak,Aj,Ah,An,Am⟩:Ac)) (name:=r1) ak (by show Ah.length<_;omega) (by have:=Oh wbas;rw[bd]at this;omega)
 rw[bo]at ar
 have cj:=ar.2
 simp only[]at cj
 have hca:Ax (⟨Ag,Ak,Aj,Ah,An,Am⟩:Ac) (Af wbas)=((⟨aa,ab,ac,ad,ae,af⟩:Ac),ci):=by rw[bd];exact bo
 refine .neq (fun h3=>?_) fun h3=>?_
 conv=>cbv
 have bp:Mr (⟨Ag,Ak,Aj,Ah,An,Am⟩:Ac) (⟨wver,wstr,wrol,wbas,wlin,woff,wend,wope,wcod⟩:Aa)=4:=by unfold Mr;dsimp only;rw[hca];exact if_pos h3
 rw[bp]at hc
 cases hc
 conv=>cbv
 rcases b8:Ij (⟨wver,wstr,wrol,wbas,wlin,woff,wend,wope,wcod⟩:Aa)with⟨bq,bt,bu,bv⟩
 refine .dd hP (Kq hwoff b8) ?_
 conv=>cbv
 generalize bw:By (⟨bq,bt,bu,bv⟩:B4)=r5
 have zr5:=G3 bw
 refine .dd hP (Pj bw) ?_
 conv=>cbv
 rcases bz:Ao (⟨aa,ab,ac,ad,ae,af⟩:Ac) r1 r5 with⟨⟨ag,ah,ai,aj,al,am⟩,ck⟩
 generalize au:ag.map A8=b9
 generalize aw:ah.map Ae=ca
 generalize ax:ai.map Ae=cb
 generalize ay:aj.map cS=cc
 refine .dd hP (Hn an ao ap aq ar.1.1.1 ar.1.1.2.2.1 ar.1.1.2.2.2.2.1 (by omega) ar.1.2.2 ar.1 (by omega) bz au aw ax ay) ?_
 conv=>cbv
 have az:=Gk (d:=(⟨aa,ab,ac,ad,ae,af⟩:Ac)) (name:=r1) (text:=r5) ar.1
 rw[bz]at az
 have cm:=az.2
 simp only[]at cm
 have haa:Ao (⟨aa,ab,ac,ad,ae,af⟩:Ac) (Af wbas) (By (Ij (⟨wver,wstr,wrol,wbas,wlin,woff,wend,wope,wcod⟩:Aa)))=((⟨ag,ah,ai,aj,al,am⟩:Ac),ck):=by rw[bd,b8,bw];exact bz
 refine .neq (fun h7=>?_) fun h7=>?_
 conv=>cbv
 have bp:Mr (⟨Ag,Ak,Aj,Ah,An,Am⟩:Ac) (⟨wver,wstr,wrol,wbas,wlin,woff,wend,wope,wcod⟩:Aa)=2:=by unfold Mr;dsimp only;rw[hca,if_neg (by dsimp only;omega),haa];exact if_pos h7
 rw[bp]at hc
 cases hc
 conv=>cbv
 rcases b0:Ch (⟨ag,ah,ai,aj,al,am⟩:Ac) r1 with⟨⟨a5,a6,a7,a8,bi,bj⟩,cr⟩
 generalize a0:a5.map A8=cd
 generalize a1:a6.map Ae=ce
 generalize a2:a7.map Ae=cf
 generalize a3:a8.map cS=cg
 refine .dd hP (P3 au aw ax ay az.1.1.1 az.1.1.2.2.1 az.1.1.2.2.2.2.1 (by omega) az.1.2.2 az.1 b0 a0 a1 a2 a3) ?_
 conv=>cbv
 have a4:=P0 (d:=(⟨ag,ah,ai,aj,al,am⟩:Ac)) (name:=r1) az.1
 rw[b0]at a4
 have cn:=a4.2
 simp only[]at cn
 rcases ch:Cs (⟨a5,a6,a7,a8,bi,bj⟩:Ac)with⟨be,bf,bg,bh,b2,b3⟩
 generalize a9:be.map A8=bk
 generalize ba:bf.map Ae=bl
 generalize bb:bg.map Ae=bm
 generalize bc:bh.map cS=bn
 refine .dd hP (Rr a0 a1 a2 a3 a4.1.1.1 a4.1.1.2.2.1 a4.1.1.2.2.2.2.1 (by omega) a4.1.2.2 a4.1 ch a9 ba bb bc) ?_
 conv=>cbv
 have e:Ko (⟨Ag,Ak,Aj,Ah,An,Am⟩:Ac) (⟨wver,wstr,wrol,wbas,wlin,woff,wend,wope,wcod⟩:Aa)=(⟨be,bf,bg,bh,b2,b3⟩:Ac):=(by unfold Ko;dsimp only;rw[hca,if_neg (by dsimp only;omega),haa,if_neg (by dsimp only;omega)];dsimp only;rw[bd,b0];exact ch)
 rw[show Xu (⟨wver,wstr,wrol,wbas,wlin,woff,wend,wope,wcod⟩:Aa) (⟨Ag,Ak,Aj,Ah,An,Am⟩:Ac)=Ko (⟨Ag,Ak,Aj,Ah,An,Am⟩:Ac) (⟨wver,wstr,wrol,wbas,wlin,woff,wend,wope,wcod⟩:Aa)from rfl,e]at hr
 simp only[Ac.mk.injEq]at hr
 obtain⟨rfl,rfl,rfl,rfl,rfl,rfl⟩:=hr
 obtain rfl:bk=F2:=by rw[←a9,Hl]
 obtain rfl:bl=Fy:=by rw[←ba,Hs]
 obtain rfl:bm=F3:=by rw[←bb,Ho]
 obtain rfl:bn=Fx:=by rw[←bc,Hr]
 exact hQ _ _ (.of [7] (.inl rfl) rfl rfl rfl rfl)
theorem Me(hwoff:woff.map cI=xwoff)(Aq:Ag.map A8=Bo)(As:Ak.map Ae=Bm)(Av:Aj.map Ae=Bl)(At:Ah.map cS=Bn)(ax:Is (⟨Ag,Ak,Aj,Ah,An,Am⟩:Ac))(hst:Ah.length<900000000)(hw:Pe k (⟨wver,wstr,wrol,wbas,wlin,woff,wend,wope,wcod⟩:Aa))(hk:k≤1000000)(hc:Mr (⟨Ag,Ak,Aj,Ah,An,Am⟩:Ac) (⟨wver,wstr,wrol,wbas,wlin,woff,wend,wope,wcod⟩:Aa)=c)(hne:c≠0)(hr:Xu (⟨wver,wstr,wrol,wbas,wlin,woff,wend,wope,wcod⟩:Aa) (⟨Ag,Ak,Aj,Ah,An,Am⟩:Ac)=⟨onod,oent,oold,oste,oroo,onex⟩)(Hl:onod.map A8=F2)(Hs:oent.map Ae=Fy)(Ho:oold.map Ae=F3)(Hr:oste.map cS=Fx):Fn Tryz.prog 161 [.ptr 0 0 0,.agg [.d (.row 3 Bo),.d (.row 2 Bm),.d (.row 2 Bl),.d (.row 1 Bn),I An,I Am]] [.box 41 [I wver,I wstr,I wrol,I wbas,I wlin,.d (.row 1 xwoff),I wend,B wope,I wcod]] ⟨.agg [.d (.row 3 F2),.d (.row 2 Fy),.d (.row 2 F3),.d (.row 1 Fx),I oroo,I onex],[],[(0,.box 41 [I wver,I wstr,I wrol,I wbas,I wlin,.d (.row 1 xwoff),I wend,B wope,I c])]⟩:=by
 refine Fn.goR Fc Tryz.func161 fun P hP Q hQ=>?_
 conv=>cbv
 have co:Ag.length≤1000000000:=ax.1.1
 have cp:Ak.length≤1000000000:=ax.1.2.2.1
 have cq:Aj.length≤1000000000:=ax.1.2.2.2.2.1
 have hzs:=Oh wbas
 generalize a9:Af wbas=r1
 refine .dd hP (Fk a9) ?_
 conv=>cbv
 rcases bp:Ax (⟨Ag,Ak,Aj,Ah,An,Am⟩:Ac) r1 with⟨⟨aa,ab,ac,ad,ae,af⟩,cf⟩
 generalize am:aa.map A8=ba
 generalize an:ab.map Ae=bb
 generalize ao:ac.map Ae=bc
 generalize ap:ad.map cS=bd
 rw[a9]at hzs
 refine .dd hP (Qn Aq As Av At ax.1.1 ax.1.2.2.1 ax.1.2.2.2.2.1 (by omega) ax.2.2 ax (by omega) bp am an ao ap) ?_
 conv=>cbv
 have ay:=Ln (d:=(⟨Ag,Ak,Aj,Ah,An,Am⟩:Ac)) (name:=r1) ax (by show Ah.length<_;omega) (by have:=Oh wbas;rw[a9]at this;omega)
 rw[bp]at ay
 have cg:=ay.2
 simp only[]at cg
 have hca:Ax (⟨Ag,Ak,Aj,Ah,An,Am⟩:Ac) (Af wbas)=((⟨aa,ab,ac,ad,ae,af⟩:Ac),cf):=by rw[a9];exact bp
 refine .neq (fun h3=>?_) fun h3=>?_
 conv=>cbv
 have be:Mr (⟨Ag,Ak,Aj,Ah,An,Am⟩:Ac) (⟨wver,wstr,wrol,wbas,wlin,woff,wend,wope,wcod⟩:Aa)=4:=by unfold Mr;dsimp only;rw[hca];exact if_pos h3
 obtain rfl:4=c:=by rw[←be,hc]
 have e:Ko (⟨Ag,Ak,Aj,Ah,An,Am⟩:Ac) (⟨wver,wstr,wrol,wbas,wlin,woff,wend,wope,wcod⟩:Aa)=(⟨aa,ab,ac,ad,ae,af⟩:Ac):=(by unfold Ko;dsimp only;rw[hca,if_pos h3])
 rw[show Xu (⟨wver,wstr,wrol,wbas,wlin,woff,wend,wope,wcod⟩:Aa) (⟨Ag,Ak,Aj,Ah,An,Am⟩:Ac)=Ko (⟨Ag,Ak,Aj,Ah,An,Am⟩:Ac) (⟨wver,wstr,wrol,wbas,wlin,woff,wend,wope,wcod⟩:Aa)from rfl,e]at hr
 simp only[Ac.mk.injEq]at hr
 obtain⟨rfl,rfl,rfl,rfl,rfl,rfl⟩:=hr
 obtain rfl:ba=F2:=by rw[←am,Hl]
 obtain rfl:bb=Fy:=by rw[←an,Hs]
 obtain rfl:bc=F3:=by rw[←ao,Ho]
 obtain rfl:bd=Fx:=by rw[←ap,Hr]
 exact hQ _ _ (.of [] (.inl rfl) rfl rfl rfl rfl)
 conv=>cbv
 rcases b5:Ij (⟨wver,wstr,wrol,wbas,wlin,woff,wend,wope,wcod⟩:Aa)with⟨bq,bt,bu,bv⟩
 refine .dd hP (Kq hwoff b5) ?_
 conv=>cbv
 generalize bw:By (⟨bq,bt,bu,bv⟩:B4)=r5
 have zr5:=G3 bw
 refine .dd hP (Pj bw) ?_
 conv=>cbv
 rcases bz:Ao (⟨aa,ab,ac,ad,ae,af⟩:Ac) r1 r5 with⟨⟨ag,ah,ai,aj,ak,al⟩,ch⟩
 generalize aq:ag.map A8=bf
 generalize ar:ah.map Ae=bg
 generalize au:ai.map Ae=bh
 generalize aw:aj.map cS=bi
 refine .dd hP (Hn am an ao ap ay.1.1.1 ay.1.1.2.2.1 ay.1.1.2.2.2.2.1 (by omega) ay.1.2.2 ay.1 (by omega) bz aq ar au aw) ?_
 conv=>cbv
 have az:=Gk (d:=(⟨aa,ab,ac,ad,ae,af⟩:Ac)) (name:=r1) (text:=r5) ay.1
 rw[bz]at az
 have ci:=az.2
 simp only[]at ci
 have haa:Ao (⟨aa,ab,ac,ad,ae,af⟩:Ac) (Af wbas) (By (Ij (⟨wver,wstr,wrol,wbas,wlin,woff,wend,wope,wcod⟩:Aa)))=((⟨ag,ah,ai,aj,ak,al⟩:Ac),ch):=by rw[a9,b5,bw];exact bz
 refine .neq (fun h7=>?_) fun h7=>?_
 conv=>cbv
 have be:Mr (⟨Ag,Ak,Aj,Ah,An,Am⟩:Ac) (⟨wver,wstr,wrol,wbas,wlin,woff,wend,wope,wcod⟩:Aa)=2:=by unfold Mr;dsimp only;rw[hca,if_neg (by dsimp only;omega),haa];exact if_pos h7
 obtain rfl:2=c:=by rw[←be,hc]
 have e:Ko (⟨Ag,Ak,Aj,Ah,An,Am⟩:Ac) (⟨wver,wstr,wrol,wbas,wlin,woff,wend,wope,wcod⟩:Aa)=(⟨ag,ah,ai,aj,ak,al⟩:Ac):=(by unfold Ko;dsimp only;rw[hca,if_neg (by dsimp only;omega),haa,if_pos h7])
 rw[show Xu (⟨wver,wstr,wrol,wbas,wlin,woff,wend,wope,wcod⟩:Aa) (⟨Ag,Ak,Aj,Ah,An,Am⟩:Ac)=Ko (⟨Ag,Ak,Aj,Ah,An,Am⟩:Ac) (⟨wver,wstr,wrol,wbas,wlin,woff,wend,wope,wcod⟩:Aa)from rfl,e]at hr
 simp only[Ac.mk.injEq]at hr
 obtain⟨rfl,rfl,rfl,rfl,rfl,rfl⟩:=hr
 obtain rfl:bf=F2:=by rw[←aq,Hl]
 obtain rfl:bg=Fy:=by rw[←ar,Hs]
 obtain rfl:bh=F3:=by rw[←au,Ho]
 obtain rfl:bi=Fx:=by rw[←aw,Hr]
 exact hQ _ _ (.of [] (.inl rfl) rfl rfl rfl rfl)
 conv=>cbv
 rcases b6:Ch (⟨ag,ah,ai,aj,ak,al⟩:Ac) r1 with⟨⟨a5,a6,a7,a8,bj,bk⟩,cr⟩
 generalize a0:a5.map A8=b7
 generalize a1:a6.map Ae=b8
 generalize a2:a7.map Ae=b9
 generalize a3:a8.map cS=ca
 refine .dd hP (P3 aq ar au aw az.1.1.1 az.1.1.2.2.1 az.1.1.2.2.2.2.1 (by omega) az.1.2.2 az.1 b6 a0 a1 a2 a3) ?_
 conv=>cbv
 have a4:=P0 (d:=(⟨ag,ah,ai,aj,ak,al⟩:Ac)) (name:=r1) az.1
 rw[b6]at a4
 have cj:=a4.2
 simp only[]at cj
 rcases ck:Cs (⟨a5,a6,a7,a8,bj,bk⟩:Ac)with⟨b0,b2,b3,b4,cm,cn⟩
 generalize bl:b0.map A8=cb
 generalize bm:b2.map Ae=cc
 generalize bn:b3.map Ae=cd
 generalize bo:b4.map cS=ce
 refine .dd hP (Rr a0 a1 a2 a3 a4.1.1.1 a4.1.1.2.2.1 a4.1.1.2.2.2.2.1 (by omega) a4.1.2.2 a4.1 ck bl bm bn bo) ?_
 conv=>cbv
 have be:Mr (⟨Ag,Ak,Aj,Ah,An,Am⟩:Ac) (⟨wver,wstr,wrol,wbas,wlin,woff,wend,wope,wcod⟩:Aa)=0:=by unfold Mr;dsimp only;rw[hca,if_neg (by dsimp only;omega),haa];exact if_neg (by dsimp only;omega)
 exact absurd (hc.symm.trans be) hne
theorem Vg(Aq:Ag.map A8=Bo)(As:Ak.map Ae=Bm)(Av:Aj.map Ae=Bl)(At:Ah.map cS=Bn)(hwoff:woff.map cI=xwoff)(ak:Is (⟨Ag,Ak,Aj,Ah,An,Am⟩:Ac))(hst:Ah.length<900000000)(hw:Pe k (⟨wver,wstr,wrol,wbas,wlin,woff,wend,wope,wcod⟩:Aa))(hk:k≤1000000)(hc:Mr (⟨Ag,Ak,Aj,Ah,An,Am⟩:Ac) (⟨wver,wstr,wrol,wbas,wlin,woff,wend,wope,wcod⟩:Aa)=0)(hr:Ko (⟨Ag,Ak,Aj,Ah,An,Am⟩:Ac) (⟨wver,wstr,wrol,wbas,wlin,woff,wend,wope,wcod⟩:Aa)=⟨onod,oent,oold,oste,oroo,onex⟩)(Hl:onod.map A8=F2)(Hs:oent.map Ae=Fy)(Ho:oold.map Ae=F3)(Hr:oste.map cS=Fx):Fn Tryz.prog 154 [.agg [.d (.row 3 Bo),.d (.row 2 Bm),.d (.row 2 Bl),.d (.row 1 Bn),I An,I Am],.agg [I wver,I wstr,I wrol,I wbas,I wlin,.d (.row 1 xwoff),I wend,B wope,I wcod]] [] ⟨.tup [.agg [.d (.row 3 F2),.d (.row 2 Fy),.d (.row 2 F3),.d (.row 1 Fx),I oroo,I onex],.agg [I wver,I wstr,I wrol,I wbas,I wlin,.ref 0 0 0,I 24,B true,I wcod]],[.row 1 false []],[]⟩:=by
 refine Fn.goR Fc Tryz.func154 fun P hP Q hQ=>?_
 conv=>cbv
 have co:Ag.length≤1000000000:=ak.1.1
 have cp:Ak.length≤1000000000:=ak.1.2.2.1
 have cq:Aj.length≤1000000000:=ak.1.2.2.2.2.1
 have hzs:=Oh wbas
 generalize bd:Af wbas=r1
 refine .dd hP (Cm bd) ?_
 conv=>cbv
 rcases bo:Ax (⟨Ag,Ak,Aj,Ah,An,Am⟩:Ac) r1 with⟨⟨aa,ab,ac,ad,ae,af⟩,ci⟩
 generalize an:aa.map A8=b4
 generalize ao:ab.map Ae=b5
 generalize ap:ac.map Ae=b6
 generalize aq:ad.map cS=b7
 rw[bd]at hzs
 refine .dd hP (Qs Aq As Av At ak.1.1 ak.1.2.2.1 ak.1.2.2.2.2.1 (by omega) ak.2.2 ak (by omega) bo an ao ap aq) ?_
 conv=>cbv
 have ar:=Ln (d:=(⟨Ag,Ak,Aj,Ah,An,Am⟩:Ac)) (name:=r1) ak (by show Ah.length<_;omega) (by have:=Oh wbas;rw[bd]at this;omega)
 rw[bo]at ar
 have cj:=ar.2
 simp only[]at cj
 have hca:Ax (⟨Ag,Ak,Aj,Ah,An,Am⟩:Ac) (Af wbas)=((⟨aa,ab,ac,ad,ae,af⟩:Ac),ci):=by rw[bd];exact bo
 refine .neq (fun h3=>?_) fun h3=>?_
 conv=>cbv
 have bp:Mr (⟨Ag,Ak,Aj,Ah,An,Am⟩:Ac) (⟨wver,wstr,wrol,wbas,wlin,woff,wend,wope,wcod⟩:Aa)=4:=by unfold Mr;dsimp only;rw[hca];exact if_pos h3
 rw[bp]at hc
 cases hc
 conv=>cbv
 rcases b8:Of (⟨wver,wstr,wrol,wbas,wlin,woff,wend,wope,wcod⟩:Aa)with⟨bq,bt,bu,bv⟩
 refine .dd hP (Tu hwoff b8) ?_
 conv=>cbv
 generalize bw:By (⟨bq,bt,bu,bv⟩:B4)=r5
 have zr5:=G3 bw
 refine .dd hP (Pt bw) ?_
 conv=>cbv
 rcases bz:Ao (⟨aa,ab,ac,ad,ae,af⟩:Ac) r1 r5 with⟨⟨ag,ah,ai,aj,al,am⟩,ck⟩
 generalize au:ag.map A8=b9
 generalize aw:ah.map Ae=ca
 generalize ax:ai.map Ae=cb
 generalize ay:aj.map cS=cc
 refine .dd hP (Cy an ao ap aq ar.1.1.1 ar.1.1.2.2.1 ar.1.1.2.2.2.2.1 (by omega) ar.1.2.2 ar.1 (by omega) bz au aw ax ay) ?_
 conv=>cbv
 have az:=Gk (d:=(⟨aa,ab,ac,ad,ae,af⟩:Ac)) (name:=r1) (text:=r5) ar.1
 rw[bz]at az
 have cm:=az.2
 simp only[]at cm
 have haa:Ao (⟨aa,ab,ac,ad,ae,af⟩:Ac) (Af wbas) (By (Ij (⟨wver,wstr,wrol,wbas,wlin,woff,wend,wope,wcod⟩:Aa)))=((⟨ag,ah,ai,aj,al,am⟩:Ac),ck):=by rw[bd,show Ij (⟨wver,wstr,wrol,wbas,wlin,woff,wend,wope,wcod⟩:Aa)=_ from b8,bw];exact bz
 refine .neq (fun h7=>?_) fun h7=>?_
 conv=>cbv
 have bp:Mr (⟨Ag,Ak,Aj,Ah,An,Am⟩:Ac) (⟨wver,wstr,wrol,wbas,wlin,woff,wend,wope,wcod⟩:Aa)=2:=by unfold Mr;dsimp only;rw[hca,if_neg (by dsimp only;omega),haa];exact if_pos h7
 rw[bp]at hc
 cases hc
 conv=>cbv
 rcases b0:Ch (⟨ag,ah,ai,aj,al,am⟩:Ac) r1 with⟨⟨a5,a6,a7,a8,bi,bj⟩,cr⟩
 generalize a0:a5.map A8=cd
 generalize a1:a6.map Ae=ce
 generalize a2:a7.map Ae=cf
 generalize a3:a8.map cS=cg
 refine .dd hP (Pg au aw ax ay az.1.1.1 az.1.1.2.2.1 az.1.1.2.2.2.2.1 (by omega) az.1.2.2 az.1 b0 a0 a1 a2 a3) ?_
 conv=>cbv
 have a4:=P0 (d:=(⟨ag,ah,ai,aj,al,am⟩:Ac)) (name:=r1) az.1
 rw[b0]at a4
 have cn:=a4.2
 simp only[]at cn
 rcases ch:Cs (⟨a5,a6,a7,a8,bi,bj⟩:Ac)with⟨be,bf,bg,bh,b2,b3⟩
 generalize a9:be.map A8=bk
 generalize ba:bf.map Ae=bl
 generalize bb:bg.map Ae=bm
 generalize bc:bh.map cS=bn
 refine .dd hP (Si a0 a1 a2 a3 a4.1.1.1 a4.1.1.2.2.1 a4.1.1.2.2.2.2.1 (by omega) a4.1.2.2 a4.1 ch a9 ba bb bc) ?_
 conv=>cbv
 have e:Ko (⟨Ag,Ak,Aj,Ah,An,Am⟩:Ac) (⟨wver,wstr,wrol,wbas,wlin,woff,wend,wope,wcod⟩:Aa)=(⟨be,bf,bg,bh,b2,b3⟩:Ac):=(by unfold Ko;dsimp only;rw[hca,if_neg (by dsimp only;omega),haa,if_neg (by dsimp only;omega)];dsimp only;rw[bd,b0];exact ch)
 rw[e]at hr
 simp only[Ac.mk.injEq]at hr
 obtain⟨rfl,rfl,rfl,rfl,rfl,rfl⟩:=hr
 obtain rfl:bk=F2:=by rw[←a9,Hl]
 obtain rfl:bl=Fy:=by rw[←ba,Hs]
 obtain rfl:bm=F3:=by rw[←bb,Ho]
 obtain rfl:bn=Fx:=by rw[←bc,Hr]
 exact hQ _ _ (.of [9] (.inl rfl) rfl rfl rfl rfl)
theorem Ux(Aq:Ag.map A8=Bo)(As:Ak.map Ae=Bm)(Av:Aj.map Ae=Bl)(At:Ah.map cS=Bn)(hwoff:woff.map cI=xwoff)(ax:Is (⟨Ag,Ak,Aj,Ah,An,Am⟩:Ac))(hst:Ah.length<900000000)(hw:Pe k (⟨wver,wstr,wrol,wbas,wlin,woff,wend,wope,wcod⟩:Aa))(hk:k≤1000000)(hc:Mr (⟨Ag,Ak,Aj,Ah,An,Am⟩:Ac) (⟨wver,wstr,wrol,wbas,wlin,woff,wend,wope,wcod⟩:Aa)=c)(hne:c≠0)(hr:Ko (⟨Ag,Ak,Aj,Ah,An,Am⟩:Ac) (⟨wver,wstr,wrol,wbas,wlin,woff,wend,wope,wcod⟩:Aa)=⟨onod,oent,oold,oste,oroo,onex⟩)(Hl:onod.map A8=F2)(Hs:oent.map Ae=Fy)(Ho:oold.map Ae=F3)(Hr:oste.map cS=Fx):Fn Tryz.prog 154 [.agg [.d (.row 3 Bo),.d (.row 2 Bm),.d (.row 2 Bl),.d (.row 1 Bn),I An,I Am],.agg [I wver,I wstr,I wrol,I wbas,I wlin,.d (.row 1 xwoff),I wend,B wope,I wcod]] [] ⟨.tup [.agg [.d (.row 3 F2),.d (.row 2 Fy),.d (.row 2 F3),.d (.row 1 Fx),I oroo,I onex],.agg [I wver,I wstr,I wrol,I wbas,I wlin,.d (.row 1 xwoff),I wend,B wope,I c]],[],[]⟩:=by
 refine Fn.go Fc Tryz.func154 fun P hP Q hQ=>?_
 conv=>cbv
 have co:Ag.length≤1000000000:=ax.1.1
 have cp:Ak.length≤1000000000:=ax.1.2.2.1
 have cq:Aj.length≤1000000000:=ax.1.2.2.2.2.1
 have hzs:=Oh wbas
 generalize a9:Af wbas=r1
 refine .dd hP (Cm a9) ?_
 conv=>cbv
 rcases bp:Ax (⟨Ag,Ak,Aj,Ah,An,Am⟩:Ac) r1 with⟨⟨aa,ab,ac,ad,ae,af⟩,cf⟩
 generalize am:aa.map A8=ba
 generalize an:ab.map Ae=bb
 generalize ao:ac.map Ae=bc
 generalize ap:ad.map cS=bd
 rw[a9]at hzs
 refine .dd hP (Qs Aq As Av At ax.1.1 ax.1.2.2.1 ax.1.2.2.2.2.1 (by omega) ax.2.2 ax (by omega) bp am an ao ap) ?_
 conv=>cbv
 have ay:=Ln (d:=(⟨Ag,Ak,Aj,Ah,An,Am⟩:Ac)) (name:=r1) ax (by show Ah.length<_;omega) (by have:=Oh wbas;rw[a9]at this;omega)
 rw[bp]at ay
 have cg:=ay.2
 simp only[]at cg
 have hca:Ax (⟨Ag,Ak,Aj,Ah,An,Am⟩:Ac) (Af wbas)=((⟨aa,ab,ac,ad,ae,af⟩:Ac),cf):=by rw[a9];exact bp
 refine .neq (fun h3=>?_) fun h3=>?_
 conv=>cbv
 have be:Mr (⟨Ag,Ak,Aj,Ah,An,Am⟩:Ac) (⟨wver,wstr,wrol,wbas,wlin,woff,wend,wope,wcod⟩:Aa)=4:=by unfold Mr;dsimp only;rw[hca];exact if_pos h3
 obtain rfl:4=c:=by rw[←be,hc]
 have e:Ko (⟨Ag,Ak,Aj,Ah,An,Am⟩:Ac) (⟨wver,wstr,wrol,wbas,wlin,woff,wend,wope,wcod⟩:Aa)=(⟨aa,ab,ac,ad,ae,af⟩:Ac):=(by unfold Ko;dsimp only;rw[hca,if_pos h3])
 rw[e]at hr
 simp only[Ac.mk.injEq]at hr
 obtain⟨rfl,rfl,rfl,rfl,rfl,rfl⟩:=hr
 obtain rfl:ba=F2:=by rw[←am,Hl]
 obtain rfl:bb=Fy:=by rw[←an,Hs]
 obtain rfl:bc=F3:=by rw[←ao,Ho]
 obtain rfl:bd=Fx:=by rw[←ap,Hr]
 exact hQ _ _ (.many (.inl rfl) rfl rfl (.agg (.d rfl rfl (.d rfl rfl (.d rfl rfl (.d rfl rfl (.d rfl rfl (.d rfl rfl .nil)))))) (.agg (.d rfl rfl (.d rfl rfl (.d rfl rfl (.d rfl rfl (.d rfl rfl (.d rfl rfl (.d rfl rfl (.d rfl rfl (.d rfl rfl .nil))))))))) .nil)))
 conv=>cbv
 rcases b5:Of (⟨wver,wstr,wrol,wbas,wlin,woff,wend,wope,wcod⟩:Aa)with⟨bq,bt,bu,bv⟩
 refine .dd hP (Tu hwoff b5) ?_
 conv=>cbv
 generalize bw:By (⟨bq,bt,bu,bv⟩:B4)=r5
 have zr5:=G3 bw
 refine .dd hP (Pt bw) ?_
 conv=>cbv
 rcases bz:Ao (⟨aa,ab,ac,ad,ae,af⟩:Ac) r1 r5 with⟨⟨ag,ah,ai,aj,ak,al⟩,ch⟩
 generalize aq:ag.map A8=bf
 generalize ar:ah.map Ae=bg
 generalize au:ai.map Ae=bh
 generalize aw:aj.map cS=bi
 refine .dd hP (Cy am an ao ap ay.1.1.1 ay.1.1.2.2.1 ay.1.1.2.2.2.2.1 (by omega) ay.1.2.2 ay.1 (by omega) bz aq ar au aw) ?_
 conv=>cbv
 have az:=Gk (d:=(⟨aa,ab,ac,ad,ae,af⟩:Ac)) (name:=r1) (text:=r5) ay.1
 rw[bz]at az
 have ci:=az.2
 simp only[]at ci
 have haa:Ao (⟨aa,ab,ac,ad,ae,af⟩:Ac) (Af wbas) (By (Ij (⟨wver,wstr,wrol,wbas,wlin,woff,wend,wope,wcod⟩:Aa)))=((⟨ag,ah,ai,aj,ak,al⟩:Ac),ch):=by rw[a9,show Ij (⟨wver,wstr,wrol,wbas,wlin,woff,wend,wope,wcod⟩:Aa)=_ from b5,bw];exact bz
 refine .neq (fun h7=>?_) fun h7=>?_
 conv=>cbv
 have be:Mr (⟨Ag,Ak,Aj,Ah,An,Am⟩:Ac) (⟨wver,wstr,wrol,wbas,wlin,woff,wend,wope,wcod⟩:Aa)=2:=by unfold Mr;dsimp only;rw[hca,if_neg (by dsimp only;omega),haa];exact if_pos h7
 obtain rfl:2=c:=by rw[←be,hc]
 have e:Ko (⟨Ag,Ak,Aj,Ah,An,Am⟩:Ac) (⟨wver,wstr,wrol,wbas,wlin,woff,wend,wope,wcod⟩:Aa)=(⟨ag,ah,ai,aj,ak,al⟩:Ac):=(by unfold Ko;dsimp only;rw[hca,if_neg (by dsimp only;omega),haa,if_pos h7])
 rw[e]at hr
 simp only[Ac.mk.injEq]at hr
 obtain⟨rfl,rfl,rfl,rfl,rfl,rfl⟩:=hr
 obtain rfl:bf=F2:=by rw[←aq,Hl]
 obtain rfl:bg=Fy:=by rw[←ar,Hs]
 obtain rfl:bh=F3:=by rw[←au,Ho]
 obtain rfl:bi=Fx:=by rw[←aw,Hr]
 exact hQ _ _ (.many (.inl rfl) rfl rfl (.agg (.d rfl rfl (.d rfl rfl (.d rfl rfl (.d rfl rfl (.d rfl rfl (.d rfl rfl .nil)))))) (.agg (.d rfl rfl (.d rfl rfl (.d rfl rfl (.d rfl rfl (.d rfl rfl (.d rfl rfl (.d rfl rfl (.d rfl rfl (.d rfl rfl .nil))))))))) .nil)))
 conv=>cbv
 rcases b6:Ch (⟨ag,ah,ai,aj,ak,al⟩:Ac) r1 with⟨⟨a5,a6,a7,a8,bj,bk⟩,cr⟩
 generalize a0:a5.map A8=b7
 generalize a1:a6.map Ae=b8
 generalize a2:a7.map Ae=b9
 generalize a3:a8.map cS=ca
 refine .dd hP (Pg aq ar au aw az.1.1.1 az.1.1.2.2.1 az.1.1.2.2.2.2.1 (by omega) az.1.2.2 az.1 b6 a0 a1 a2 a3) ?_
 conv=>cbv
 have a4:=P0 (d:=(⟨ag,ah,ai,aj,ak,al⟩:Ac)) (name:=r1) az.1
 rw[b6]at a4
 have cj:=a4.2
 simp only[]at cj
 rcases ck:Cs (⟨a5,a6,a7,a8,bj,bk⟩:Ac)with⟨b0,b2,b3,b4,cm,cn⟩
 generalize bl:b0.map A8=cb
 generalize bm:b2.map Ae=cc
 generalize bn:b3.map Ae=cd
 generalize bo:b4.map cS=ce
 refine .dd hP (Si a0 a1 a2 a3 a4.1.1.1 a4.1.1.2.2.1 a4.1.1.2.2.2.2.1 (by omega) a4.1.2.2 a4.1 ck bl bm bn bo) ?_
 conv=>cbv
 have be:Mr (⟨Ag,Ak,Aj,Ah,An,Am⟩:Ac) (⟨wver,wstr,wrol,wbas,wlin,woff,wend,wope,wcod⟩:Aa)=0:=by unfold Mr;dsimp only;rw[hca,if_neg (by dsimp only;omega),haa];exact if_neg (by dsimp only;omega)
 exact absurd (hc.symm.trans be) hne
theorem H5{xo:List (List D)}{no:Nat}{en:Int}(hwoff:woff.map cI=xwoff)(hnwoff:nwoff=woff.length)(Aq:Ag.map A8=Bo)(As:Ak.map Ae=Bm)(Av:Aj.map Ae=Bl)(At:Ah.map cS=Bn)(ae:Is (⟨Ag,Ak,Aj,Ah,An,Am⟩:Ac))(hst:Ah.length<900000000)(hw:Pe k (⟨wver,wstr,wrol,wbas,wlin,woff,wend,wope,wcod⟩:Aa))(hk:k≤1000000)(hz:record.size≤60)(hc:Li (⟨Ag,Ak,Aj,Ah,An,Am⟩:Ac) (⟨wver,wstr,wrol,wbas,wlin,woff,wend,wope,wcod⟩:Aa) record=0)(hr:rlay (⟨wver,wstr,wrol,wbas,wlin,woff,wend,wope,wcod⟩:Aa) (⟨Ag,Ak,Aj,Ah,An,Am⟩:Ac) record=⟨onod,oent,oold,oste,oroo,onex⟩)(Hl:onod.map A8=F2)(Hs:oent.map Ae=Fy)(Ho:oold.map Ae=F3)(Hr:oste.map cS=Fx)(hxo:(woff++[wend]).map cI=xo)(hno:no=woff.length+1)(hen:wend+((Hj (⟨wver,wstr,wrol,wbas,wlin,woff,wend,wope,wcod⟩:Aa) record).size:Int)=en):Fn Tryz.prog 162 [.ptr 0 0 0,.agg [.d (.row 3 Bo),.d (.row 2 Bm),.d (.row 2 Bl),.d (.row 1 Bn),I An,I Am],S record] [.box 41 [I wver,I wstr,I wrol,I wbas,I wlin,.ref 1 0 nwoff,I wend,B wope,I wcod],.row 1 false xwoff] ⟨.agg [.d (.row 3 F2),.d (.row 2 Fy),.d (.row 2 F3),.d (.row 1 Fx),I oroo,I onex],[.row 1 false xo],[(0,.box 41 [I wver,I wstr,I wrol,I wbas,I wlin,.ref 2 0 no,I en,B wope,I wcod]),(1,.dead)]⟩:=by
 refine Fn.goR Fc Tryz.func162 fun P hP Q hQ=>?_
 conv=>cbv
 have a8:Ag.length≤1000000000:=ae.1.1
 have a9:Ak.length≤1000000000:=ae.1.2.2.1
 have ba:Aj.length≤1000000000:=ae.1.2.2.2.2.1
 have hwf:=Pu hw hk
 simp only[]at hwf
 obtain⟨au,aw,ax,ay,bb⟩:=hw
 simp only[]at au aw ax ay
 refine .go fun v1 az=>?_
 conv=>cbv
 refine .add fun v2 a0=>?_
 conv=>cbv
 generalize ap:Aw wver v2 record=r3
 have zr3:=Cg ap
 refine .dd hP (Kw (by omega) ap) ?_
 conv=>cbv
 generalize aq:Af wbas=r4
 refine .dd hP (Fk aq) ?_
 conv=>cbv
 rcases ar:Ao (⟨Ag,Ak,Aj,Ah,An,Am⟩:Ac) r4 r3 with⟨⟨aa,ab,ac,ad,aj,ak⟩,a1⟩
 generalize af:aa.map A8=al
 generalize ag:ab.map Ae=am
 generalize ah:ac.map Ae=an
 generalize ai:ad.map cS=ao
 have hlf:Hj (⟨wver,wstr,wrol,wbas,wlin,woff,wend,wope,wcod⟩:Aa) record=r3:=by unfold Hj;dsimp only;rw[←ap,a0,az];congr 1;omega
 have hca:Ao (⟨Ag,Ak,Aj,Ah,An,Am⟩:Ac) (Af wbas) (Hj (⟨wver,wstr,wrol,wbas,wlin,woff,wend,wope,wcod⟩:Aa) record)=((⟨aa,ab,ac,ad,aj,ak⟩:Ac),a1):=by rw[hlf,aq];exact ar
 refine .dd hP (Hn Aq As Av At ae.1.1 ae.1.2.2.1 ae.1.2.2.2.2.1 (by omega) ae.2.2 ae (by omega) ar af ag ah ai) ?_
 conv=>cbv
 refine .neq (fun h6=>?_) fun h6=>?_
 conv=>cbv
 have a2:Li (⟨Ag,Ak,Aj,Ah,An,Am⟩:Ac) (⟨wver,wstr,wrol,wbas,wlin,woff,wend,wope,wcod⟩:Aa) record=2:=by unfold Li;dsimp only;rw[hca];exact if_pos h6
 rw[a2]at hc
 cases hc
 conv=>cbv
 refine .one wend hwoff rfl fun a3 z7 a7 a4=>?_
 conv=>cbv
 refine .go fun v8 a5=>?_
 conv=>cbv
 refine .add fun v9 a6=>?_
 conv=>cbv
 have e:Kh (⟨Ag,Ak,Aj,Ah,An,Am⟩:Ac) (⟨wver,wstr,wrol,wbas,wlin,woff,wend,wope,wcod⟩:Aa) record=(⟨aa,ab,ac,ad,aj,ak⟩:Ac):=(by unfold Kh;dsimp only;rw[hca])
 rw[show rlay (⟨wver,wstr,wrol,wbas,wlin,woff,wend,wope,wcod⟩:Aa) (⟨Ag,Ak,Aj,Ah,An,Am⟩:Ac) record=Kh (⟨Ag,Ak,Aj,Ah,An,Am⟩:Ac) (⟨wver,wstr,wrol,wbas,wlin,woff,wend,wope,wcod⟩:Aa) record from rfl,e]at hr
 simp only[Ac.mk.injEq]at hr
 obtain⟨rfl,rfl,rfl,rfl,rfl,rfl⟩:=hr
 obtain rfl:al=F2:=by rw[←af,Hl]
 obtain rfl:am=Fy:=by rw[←ag,Hs]
 obtain rfl:an=F3:=by rw[←ah,Ho]
 obtain rfl:ao=Fx:=by rw[←ai,Hr]
 obtain rfl:z7=xo:=by rw[←a4,hxo]
 obtain rfl:a3=no:=by omega
 obtain rfl:v9=en:=by rw[←hen,hlf,a6,a5]
 exact hQ _ _ (.of [9] (.inl rfl) rfl rfl rfl rfl)
theorem Ie(hwoff:woff.map cI=xwoff)(hnwoff:nwoff=woff.length)(Aq:Ag.map A8=Bo)(As:Ak.map Ae=Bm)(Av:Aj.map Ae=Bl)(At:Ah.map cS=Bn)(ae:Is (⟨Ag,Ak,Aj,Ah,An,Am⟩:Ac))(hst:Ah.length<900000000)(hw:Pe k (⟨wver,wstr,wrol,wbas,wlin,woff,wend,wope,wcod⟩:Aa))(hk:k≤1000000)(hz:record.size≤60)(hc:Li (⟨Ag,Ak,Aj,Ah,An,Am⟩:Ac) (⟨wver,wstr,wrol,wbas,wlin,woff,wend,wope,wcod⟩:Aa) record≠0)(hr:rlay (⟨wver,wstr,wrol,wbas,wlin,woff,wend,wope,wcod⟩:Aa) (⟨Ag,Ak,Aj,Ah,An,Am⟩:Ac) record=⟨onod,oent,oold,oste,oroo,onex⟩)(Hl:onod.map A8=F2)(Hs:oent.map Ae=Fy)(Ho:oold.map Ae=F3)(Hr:oste.map cS=Fx):Fn Tryz.prog 162 [.ptr 0 0 0,.agg [.d (.row 3 Bo),.d (.row 2 Bm),.d (.row 2 Bl),.d (.row 1 Bn),I An,I Am],S record] [.box 41 [I wver,I wstr,I wrol,I wbas,I wlin,.ref 1 0 nwoff,I wend,B wope,I wcod],.row 1 false xwoff] ⟨.agg [.d (.row 3 F2),.d (.row 2 Fy),.d (.row 2 F3),.d (.row 1 Fx),I oroo,I onex],[],[(0,.box 41 [I wver,I wstr,I wrol,I wbas,I wlin,.ref 1 0 nwoff,I wend,B wope,I 2])]⟩:=by
 refine Fn.goR Fc Tryz.func162 fun P hP Q hQ=>?_
 conv=>cbv
 have a4:Ag.length≤1000000000:=ae.1.1
 have a5:Ak.length≤1000000000:=ae.1.2.2.1
 have a6:Aj.length≤1000000000:=ae.1.2.2.2.2.1
 have hwf:=Pu hw hk
 simp only[]at hwf
 obtain⟨au,aw,ax,ay,a7⟩:=hw
 simp only[]at au aw ax ay
 refine .go fun v1 az=>?_
 conv=>cbv
 refine .add fun v2 a0=>?_
 conv=>cbv
 generalize ap:Aw wver v2 record=r3
 have zr3:=Cg ap
 refine .dd hP (Kw (by omega) ap) ?_
 conv=>cbv
 generalize aq:Af wbas=r4
 refine .dd hP (Fk aq) ?_
 conv=>cbv
 rcases ar:Ao (⟨Ag,Ak,Aj,Ah,An,Am⟩:Ac) r4 r3 with⟨⟨aa,ab,ac,ad,aj,ak⟩,a1⟩
 generalize af:aa.map A8=al
 generalize ag:ab.map Ae=am
 generalize ah:ac.map Ae=an
 generalize ai:ad.map cS=ao
 have hlf:Hj (⟨wver,wstr,wrol,wbas,wlin,woff,wend,wope,wcod⟩:Aa) record=r3:=by unfold Hj;dsimp only;rw[←ap,a0,az];congr 1;omega
 have hca:Ao (⟨Ag,Ak,Aj,Ah,An,Am⟩:Ac) (Af wbas) (Hj (⟨wver,wstr,wrol,wbas,wlin,woff,wend,wope,wcod⟩:Aa) record)=((⟨aa,ab,ac,ad,aj,ak⟩:Ac),a1):=by rw[hlf,aq];exact ar
 refine .dd hP (Hn Aq As Av At ae.1.1 ae.1.2.2.1 ae.1.2.2.2.2.1 (by omega) ae.2.2 ae (by omega) ar af ag ah ai) ?_
 conv=>cbv
 refine .neq (fun h6=>?_) fun h6=>?_
 conv=>cbv
 have e:Kh (⟨Ag,Ak,Aj,Ah,An,Am⟩:Ac) (⟨wver,wstr,wrol,wbas,wlin,woff,wend,wope,wcod⟩:Aa) record=(⟨aa,ab,ac,ad,aj,ak⟩:Ac):=(by unfold Kh;dsimp only;rw[hca])
 rw[show rlay (⟨wver,wstr,wrol,wbas,wlin,woff,wend,wope,wcod⟩:Aa) (⟨Ag,Ak,Aj,Ah,An,Am⟩:Ac) record=Kh (⟨Ag,Ak,Aj,Ah,An,Am⟩:Ac) (⟨wver,wstr,wrol,wbas,wlin,woff,wend,wope,wcod⟩:Aa) record from rfl,e]at hr
 simp only[Ac.mk.injEq]at hr
 obtain⟨rfl,rfl,rfl,rfl,rfl,rfl⟩:=hr
 obtain rfl:al=F2:=by rw[←af,Hl]
 obtain rfl:am=Fy:=by rw[←ag,Hs]
 obtain rfl:an=F3:=by rw[←ah,Ho]
 obtain rfl:ao=Fx:=by rw[←ai,Hr]
 exact hQ _ _ (.of [] (.inl rfl) rfl rfl rfl rfl)
 conv=>cbv
 refine .one wend hwoff rfl fun a8 z7 a3 a9=>?_
 conv=>cbv
 refine .go fun v8 ba=>?_
 conv=>cbv
 refine .add fun v9 bb=>?_
 conv=>cbv
 have a2:Li (⟨Ag,Ak,Aj,Ah,An,Am⟩:Ac) (⟨wver,wstr,wrol,wbas,wlin,woff,wend,wope,wcod⟩:Aa) record=0:=by unfold Li;dsimp only;rw[hca];exact if_neg (by dsimp only;omega)
 exact absurd a2 hc
end
end Go.Proofs.YtgdmjbcllgmepaaGreatDoor.Ab
