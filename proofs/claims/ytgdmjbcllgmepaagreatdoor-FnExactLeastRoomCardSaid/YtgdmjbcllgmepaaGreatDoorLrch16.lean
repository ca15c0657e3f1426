/- What functions of the program come to, for all arguments in the given bounds. -/
import Derived.Test.YtgdmjbcllgmepaaGreatDoorLrch06p
import Derived.Test.YtgdmjbcllgmepaaGreatDoorLrZ9
set_option linter.unusedVariables false
set_option linter.unusedSimpArgs false
namespace Go.Proofs.YtgdmjbcllgmepaaGreatDoor.Ab
section
open Go Go.Proofs
set_option maxRecDepth 20000
set_option maxHeartbeats 4000000
def Rk:List (Nat×TyRow):=[ty3,ty4,ty9,Xc3,Xha,XaI,ty41,Xc7,Xgy,ty198]
theorem Xbk:By Tryz.prog Rk:=By.of (by kernel_rfl)
theorem E9:Setup Tryz.prog Rk:=⟨Xbk,mixed⟩
def C9(room:Int):Ac:=⟨[],[],[],[],max 0 room,1⟩
def Ok(w:Aa):B7:=⟨w.version_,w.stride_,w.base_,w.link_⟩
def Ih(w:Aa):B7:=⟨w.version_,w.stride_,w.base_,w.link_⟩
def Sx(d:Ac)(w:Aa):Int:=if(Ao d (Af w.base_) (Br (Ih w) w.offsets_ w.end_)).2≠0 then 2 else 0
def T9(d:Ac)(w:Aa):Ac:=if Sx d w=0 then(Cj (Ao d (Af w.base_) (Br (Ih w) w.offsets_ w.end_)).1 (Af w.base_)).1 else(Ao d (Af w.base_) (Br (Ih w) w.offsets_ w.end_)).1
def Q3(d:Ac)(w:Aa):Aa:=if Sx d w=0 then⟨w.version_,w.stride_,w.roll_,w.base_+w.offsets_.length,Fo (Jx d w.base_),[],0,false,w.code_⟩else⟨w.version_,w.stride_,w.roll_,w.base_,w.link_,w.offsets_,w.end_,w.open_,2⟩
def Bv(d:Ac)(w:Aa):Ac×Aa×Int:=if w.open_=false∨w.code_≠0 then(d,w,w.code_)else(T9 d w,Q3 d w,Sx d w)
def M8(d:Ac)(w:Aa):Int:=if(Ax d (Af w.base_)).2≠0 then 4 else if(Ao (Ax d (Af w.base_)).1 (Af w.base_) (B1 (Ih w))).2≠0 then 2 else 0
def K2(d:Ac)(w:Aa):Ac:=if(Ax d (Af w.base_)).2≠0 then(Ax d (Af w.base_)).1 else if(Ao (Ax d (Af w.base_)).1 (Af w.base_) (B1 (Ih w))).2≠0 then(Ao (Ax d (Af w.base_)).1 (Af w.base_) (B1 (Ih w))).1
 else Cw (Cj (Ao (Ax d (Af w.base_)).1 (Af w.base_) (B1 (Ih w))).1 (Af w.base_)).1
def Yg(d:Ac)(w:Aa):Aa:=if M8 d w=0 then⟨w.version_,w.stride_,w.roll_,w.base_,w.link_,[],24,true,w.code_⟩else⟨w.version_,w.stride_,w.roll_,w.base_,w.link_,w.offsets_,w.end_,w.open_,M8 d w⟩
def Hr(w:Aa)(r:ByteArray):ByteArray:=Aw w.version_ (w.base_+w.offsets_.length) r
def Lm(d:Ac)(w:Aa)(r:ByteArray):Int:=if(Ao d (Af w.base_) (Hr w r)).2≠0 then 2 else 0
def Kl(d:Ac)(w:Aa)(r:ByteArray):Ac:=(Ao d (Af w.base_) (Hr w r)).1
def Rf(d:Ac)(w:Aa)(r:ByteArray):Aa:=if Lm d w r=0 then⟨w.version_,w.stride_,w.roll_,w.base_,w.link_,w.offsets_++[w.end_],w.end_+(Hr w r).size,w.open_,w.code_⟩else⟨w.version_,w.stride_,w.roll_,w.base_,w.link_,w.offsets_,w.end_,w.open_,2⟩
def Oz(d:Ac)(w:Aa):Ac×Aa:=if w.open_=true∧w.roll_≤w.offsets_.length then(T9 d w,Q3 d w)else(d,w)
def appB(s:Ac×Aa):Ac×Aa:=if s.2.code_=0∧s.2.open_=false then(K2 s.1 s.2,Yg s.1 s.2)else s
def Ia(s:Ac×Aa)(r:ByteArray):Ac×Aa:=if s.2.code_=0 then(Kl s.1 s.2 r,Rf s.1 s.2 r)else s
def Ad(d:Ac)(w:Aa)(r:ByteArray):Ac×Aa×Int:=if 60<r.size then(d,w,1)else if w.code_≠0 then(d,w,w.code_)else((Ia (appB (Oz d w)) r).1,(Ia (appB (Oz d w)) r).2,(Ia (appB (Oz d w)) r).2.code_)
def Nt(k:Nat)(w:Aa):Prop:=0≤w.base_∧w.base_+w.offsets_.length≤k∧0≤w.end_∧w.end_≤24+84*(k:Int)∧∀x∈w.offsets_,0≤x∧x≤24+84*(k:Int)
theorem Py{k:Nat}{w:Aa}(h:Nt k w)(hk:k≤1000000):w.offsets_.length≤1000000∧(∀x∈w.offsets_,wfI x)∧w.end_<9223372036854775808:=by
 obtain⟨h1,h2,h3,h4,h5⟩:=h
 exact⟨by omega,fun x hx=>⟨by have:=h5 x hx;omega,by have:=h5 x hx;omega⟩,by omega⟩
theorem W3{k:Nat}{d:Ac}{w:Aa}(h:Nt k w):Nt k (Q3 d w):=by
 obtain⟨h1,h2,h3,h4,h5⟩:=h
 unfold Q3
 split
 ·exact⟨by show 0≤w.base_+_;omega,by show w.base_+_+(([]:List Int).length:Int)≤_;simp;omega,Int.le_refl _,by show(0:Int)≤_;omega,fun x hx=>by cases hx⟩
 ·exact⟨h1,h2,h3,h4,h5⟩
theorem Np{k:Nat}{d:Ac}{w:Aa}(h:Nt k w):Nt k (Yg d w):=by
 obtain⟨h1,h2,h3,h4,h5⟩:=h
 unfold Yg
 split
 ·exact⟨h1,by show w.base_+(([]:List Int).length:Int)≤_;simp;omega,by show(0:Int)≤24;omega,by show(24:Int)≤_;omega,fun x hx=>by cases hx⟩
 ·exact⟨h1,h2,h3,h4,h5⟩
theorem XhY{k:Nat}{d:Ac}{w:Aa}{r:ByteArray}(h:Nt k w):Nt (k+1) (Rf d w r):=by
 obtain⟨h1,h2,h3,h4,h5⟩:=h
 have hf:(Hr w r).size≤84:=Ci rfl
 unfold Rf
 split
 ·refine⟨h1,by show w.base_+((w.offsets_++[w.end_]).length:Int)≤_;rw[List.length_append,List.length_singleton];omega,by show 0≤w.end_+_;omega,by show w.end_+_≤_;omega,fun x hx=>?_⟩
  rcases List.mem_append.1 hx with hx|hx
  ·have:=h5 x hx
   omega
  ·rw[List.mem_singleton.1 hx]
   omega
 ·exact⟨h1,by show w.base_+(w.offsets_.length:Int)≤((k+1:Nat):Int);omega,h3,by show w.end_≤_;omega,fun x hx=>by have:=h5 x hx;omega⟩
theorem Ov(b:Int):(Af b).size≤13:=Uh rfl
theorem Ri{d:Ac}{w:Aa}(h:H0 d):H0 (T9 d w)∧(T9 d w).steps_.length≤d.steps_.length+2:=by
 have h1:=Gt (name:=Af w.base_) (text:=Br (Ih w) w.offsets_ w.end_) h
 have h2:=P5 (name:=Af w.base_) h1.1
 have a:=h1.2
 have b:=h2.2
 unfold T9
 split
 ·exact⟨h2.1,by omega⟩
 ·exact⟨h1.1,by omega⟩
theorem N5{d:Ac}{w:Aa}(h:H0 d)(hl:d.steps_.length<1000000000):H0 (K2 d w)∧(K2 d w).steps_.length≤d.steps_.length+4:=by
 have hz:=Ov w.base_
 have h0:=Mh (name:=Af w.base_) h hl (by omega)
 have h1:=Gt (name:=Af w.base_) (text:=B1 (Ih w)) h0.1
 have h2:=P5 (name:=Af w.base_) h1.1
 have h3:=Xgr h2.1
 have a:=h0.2
 have b:=h1.2
 have c:=h2.2
 have e:=h3.2
 unfold K2
 split
 ·exact⟨h0.1,by omega⟩
 ·split
  ·exact⟨h1.1,by omega⟩
  ·exact⟨h3.1,by omega⟩
theorem Xh5{d:Ac}{w:Aa}{r:ByteArray}(h:H0 d):H0 (Kl d w r)∧(Kl d w r).steps_.length≤d.steps_.length+1:=Gt h
theorem Xeb{k:Nat}{d:Ac}{w:Aa}{r:ByteArray}(h:H0 d)(hl:d.steps_.length<900000000)(hw:Nt k w):H0 (Ad d w r).1∧(Ad d w r).1.steps_.length≤d.steps_.length+7∧Nt (k+1) (Ad d w r).2.1:=by
 have up:∀{w:Aa},Nt k w→Nt (k+1) w:=fun h=>⟨h.1,by have:=h.2.1;omega,h.2.2.1,by have:=h.2.2.2.1;omega,fun x hx=>by have:=h.2.2.2.2 x hx;omega⟩
 have hA:H0 (Oz d w).1∧(Oz d w).1.steps_.length≤d.steps_.length+2∧Nt k (Oz d w).2:=by
  unfold Oz
  split
  ·have:=Ri (w:=w) h
   exact⟨this.1,this.2,W3 hw⟩
  ·exact⟨h,Nat.le_add_right _ _,hw⟩
 generalize hA0:Oz d w=s at hA
 have hB:H0 (appB s).1∧(appB s).1.steps_.length≤d.steps_.length+6∧Nt k (appB s).2:=by
  unfold appB
  split
  ·have:=N5 (w:=s.2) hA.1 (by omega)
   exact⟨this.1,by have:=this.2;show(K2 s.1 s.2).steps_.length≤_;omega,Np hA.2.2⟩
  ·exact⟨hA.1,by omega,hA.2.2⟩
 generalize hB0:appB s=s2 at hB
 have hC:H0 (Ia s2 r).1∧(Ia s2 r).1.steps_.length≤d.steps_.length+7∧Nt (k+1) (Ia s2 r).2:=by
  unfold Ia
  split
  ·have:=Xh5 (w:=s2.2) (r:=r) hB.1
   exact⟨this.1,by have:=this.2;show(Kl s2.1 s2.2 r).steps_.length≤_;omega,XhY hB.2.2⟩
  ·exact⟨hB.1,by omega,up hB.2.2⟩
 unfold Ad
 split
 ·exact⟨h,Nat.le_add_right _ _,up hw⟩
 ·split
  ·exact⟨h,Nat.le_add_right _ _,up hw⟩
  ·rw[hA0,hB0]
   exact hC
variable {room oroo onex wver wstr wrol wbas wlin wend wcod Xib ostr obas olin An Am Ft Fz obver obstr obrol obbas oblin obend obcod oc c:Int} {onod Ah Fx:List Bs} {F5 F8 Gc Gb xwoff Bo Bm Bl Bn Di Da Db Dd xoboff:List (List D)} {oent oold Al Ak F3 Fr:List Aj} {oste Ai Fw:List ByteArray} {woff oboff:List Int} {wope obope:Bool} {nw k nwoff:Nat} {record:ByteArray}
theorem Xei(hr:C9 room=⟨onod,oent,oold,oste,oroo,onex⟩)(Ht:onod.map A5=F5)(H2:oent.map Ae=F8)(Hy:oold.map Ae=Gc)(Hw:oste.map cS=Gb):Fn Tryz.prog 77 [I room] [] ⟨.agg [.d (.row 3 F5),.d (.row 2 F8),.d (.row 2 Gc),.d (.row 1 Gb),I oroo,I onex],[],[]⟩:=by
 refine Fn.go E9 Tryz.func77 fun P hP Q hQ=>?_
 conv=>cbv
 refine .go fun v1 aa=>?_
 conv=>cbv
 have e:(⟨[],[],[],[],v1,1⟩:Ac)=C9 room:=(by unfold C9;rw[aa])
 rw[hr]at e
 simp only[Ac.mk.injEq]at e
 obtain⟨rfl,rfl,rfl,rfl,rfl,rfl⟩:=e
 exact hQ _ _ (.one (.inl rfl) rfl (.agg (.ref rfl rfl (by rw[←Ht];rfl) (.ref rfl rfl (by rw[←H2];rfl) (.ref rfl rfl (by rw[←Hy];rfl) (.ref rfl rfl (by rw[←Hw];rfl) (.d rfl rfl (.d rfl rfl (.nil))))))) .nil))
theorem Xeg(hr:C9 room=⟨onod,oent,oold,oste,oroo,onex⟩)(Ht:onod.map A5=F5)(H2:oent.map Ae=F8)(Hy:oold.map Ae=Gc)(Hw:oste.map cS=Gb):Fn Tryz.prog 74 [I room] [] ⟨.agg [.d (.row 3 F5),.d (.row 2 F8),.d (.row 2 Gc),.d (.row 1 Gb),I oroo,I onex],[],[]⟩:=by
 refine Fn.go E9 Tryz.func74 fun P hP Q hQ=>?_
 conv=>cbv
 refine .lss (fun h1=>?_) fun h1=>?_
 conv=>cbv
 have e:(⟨[],[],[],[],0,1⟩:Ac)=C9 room:=(by unfold C9;rw[show max 0 room=0 by omega])
 rw[hr]at e
 simp only[Ac.mk.injEq]at e
 obtain⟨rfl,rfl,rfl,rfl,rfl,rfl⟩:=e
 exact hQ _ _ (.one (.inl rfl) rfl (.agg (.ref rfl rfl (by rw[←Ht];rfl) (.ref rfl rfl (by rw[←H2];rfl) (.ref rfl rfl (by rw[←Hy];rfl) (.ref rfl rfl (by rw[←Hw];rfl) (.d rfl rfl (.d rfl rfl (.nil))))))) .nil))
 conv=>cbv
 have e:(⟨[],[],[],[],room,1⟩:Ac)=C9 room:=(by unfold C9;rw[show max 0 room=room by omega])
 rw[hr]at e
 simp only[Ac.mk.injEq]at e
 obtain⟨rfl,rfl,rfl,rfl,rfl,rfl⟩:=e
 exact hQ _ _ (.one (.inl rfl) rfl (.agg (.ref rfl rfl (by rw[←Ht];rfl) (.ref rfl rfl (by rw[←H2];rfl) (.ref rfl rfl (by rw[←Hy];rfl) (.ref rfl rfl (by rw[←Hw];rfl) (.d rfl rfl (.d rfl rfl (.nil))))))) .nil))
theorem Ku(hwoff:woff.map cI=xwoff)(hr:Ih (⟨wver,wstr,wrol,wbas,wlin,woff,wend,wope,wcod⟩:Aa)=⟨Xib,ostr,obas,olin⟩):Fn Tryz.prog 235 [.agg [I wver,I wstr,I wrol,I wbas,I wlin,.d (.row 1 xwoff),I wend,B wope,I wcod]] [] ⟨.agg [I Xib,I ostr,I obas,I olin],[],[]⟩:=by
 refine Fn.go E9 Tryz.func235 fun P hP Q hQ=>?_
 conv=>cbv
 have e:(⟨wver,wstr,wbas,wlin⟩:B7)=Ih (⟨wver,wstr,wrol,wbas,wlin,woff,wend,wope,wcod⟩:Aa):=(by rfl)
 rw[hr]at e
 simp only[B7.mk.injEq]at e
 obtain⟨rfl,rfl,rfl,rfl⟩:=e
 exact hQ _ _ (.one (.inl rfl) rfl (.agg (.d rfl rfl (.d rfl rfl (.d rfl rfl (.d rfl rfl (.nil))))) .nil))
theorem T6(hwoff:woff.map cI=xwoff)(hr:Ok (⟨wver,wstr,wrol,wbas,wlin,woff,wend,wope,wcod⟩:Aa)=⟨Xib,ostr,obas,olin⟩):Fn Tryz.prog 224 [.agg [I wver,I wstr,I wrol,I wbas,I wlin,.d (.row 1 xwoff),I wend,B wope,I wcod]] [] ⟨.agg [I Xib,I ostr,I obas,I olin],[],[]⟩:=by
 refine Fn.go E9 Tryz.func224 fun P hP Q hQ=>?_
 conv=>cbv
 have e:(⟨wver,wstr,wbas,wlin⟩:B7)=Ok (⟨wver,wstr,wrol,wbas,wlin,woff,wend,wope,wcod⟩:Aa):=(by rfl)
 rw[hr]at e
 simp only[B7.mk.injEq]at e
 obtain⟨rfl,rfl,rfl,rfl⟩:=e
 exact hQ _ _ (.one (.inl rfl) rfl (.agg (.d rfl rfl (.d rfl rfl (.d rfl rfl (.d rfl rfl (.nil))))) .nil))
theorem Oo(hwoff:woff.map cI=xwoff)(hn:woff.length≤4000000000):Fn Tryz.prog 159 [.agg [I wver,I wstr,I wrol,I wbas,I wlin,.d (.row 1 xwoff),I wend,B wope,I wcod]] [] ⟨.agg [I wver,I wstr,I wrol,I wbas,I wlin,.d (.row 1 xwoff),I wend,B wope,I wcod],[],[]⟩:=by
 refine Fn.go E9 Tryz.func159 fun P hP Q hQ=>?_
 conv=>cbv
 generalize aa:Cq woff=l1
 generalize ab:l1.map cI=ac
 refine .dd hP (Lq hwoff (by omega) aa ab) ?_
 conv=>cbv
 obtain rfl:l1=woff:=aa.symm
 obtain rfl:ac=xwoff:=by rw[←ab,hwoff]
 exact hQ _ _ (.one (.inl rfl) rfl (.agg (.d rfl rfl (.d rfl rfl (.d rfl rfl (.d rfl rfl (.d rfl rfl (.d rfl rfl (.d rfl rfl (.d rfl rfl (.d rfl rfl (.nil)))))))))) .nil))
theorem Yn(hwoff:woff.map cI=xwoff)(hn:woff.length≤4000000000)(hnw:nw=woff.length):Fn Tryz.prog 159 [.agg [I wver,I wstr,I wrol,I wbas,I wlin,.d (.row 1 xwoff),I wend,B wope,I wcod]] [] ⟨.agg [I wver,I wstr,I wrol,I wbas,I wlin,.ref 0 0 nw,I wend,B wope,I wcod],[.row 1 false xwoff],[]⟩:=by
 refine Fn.goR E9 Tryz.func159 fun P hP Q hQ=>?_
 conv=>cbv
 generalize ab:Cq woff=l1
 generalize aa:l1.map cI=ac
 obtain⟨nl1,hnl1⟩:∃m,m=l1.length:=⟨_,rfl⟩
 refine .ddA hP (K5 hwoff (by omega) ab aa hnl1) rfl rfl rfl (aa▸Ra (fun _=>rfl) l1) ?_
 conv=>cbv
 obtain rfl:l1=woff:=ab.symm
 obtain rfl:ac=xwoff:=by rw[←aa,hwoff]
 obtain rfl:nl1=nw:=by omega
 exact hQ _ _ (.of [3] (.inl rfl) rfl rfl rfl rfl)
theorem Vb(hwoff:woff.map cI=xwoff)(hn:woff.length≤4000000000):Fn Tryz.prog 152 [.agg [I wver,I wstr,I wrol,I wbas,I wlin,.d (.row 1 xwoff),I wend,B wope,I wcod]] [] ⟨.agg [I wver,I wstr,I wrol,I wbas,I wlin,.d (.row 1 xwoff),I wend,B wope,I wcod],[],[]⟩:=by
 refine Fn.go E9 Tryz.func152 fun P hP Q hQ=>?_
 conv=>cbv
 refine .row0 hwoff fun ac z1 ab aa=>?_
 conv=>cbv
 obtain rfl:z1=xwoff:=by rw[←aa,hwoff]
 exact hQ _ _ (.one (.inl rfl) rfl (.agg (.d rfl rfl (.d rfl rfl (.d rfl rfl (.d rfl rfl (.d rfl rfl (.ref rfl (Ap hwoff) rfl (.d rfl rfl (.d rfl rfl (.d rfl rfl (.nil)))))))))) .nil))
theorem Xfc(hwoff:woff.map cI=xwoff)(hn:woff.length≤4000000000)(hnw:nw=woff.length):Fn Tryz.prog 152 [.agg [I wver,I wstr,I wrol,I wbas,I wlin,.d (.row 1 xwoff),I wend,B wope,I wcod]] [] ⟨.agg [I wver,I wstr,I wrol,I wbas,I wlin,.ref 0 0 nw,I wend,B wope,I wcod],[.row 1 false xwoff],[]⟩:=by
 refine Fn.goR E9 Tryz.func152 fun P hP Q hQ=>?_
 conv=>cbv
 refine .row0 hwoff fun aa z1 ac ab=>?_
 conv=>cbv
 obtain rfl:z1=xwoff:=by rw[←ab,hwoff]
 obtain rfl:aa=nw:=by omega
 exact hQ _ _ (.of [4] (.inl rfl) rfl rfl rfl rfl)
theorem Xa7{b:ByteArray}{o:Int}(hs:b.size<2^40)(hr:Fo b=o):Fn Tryz.prog 232 [S b] [] ⟨I o,[],[]⟩:=by
 refine Fn.go E9 Tryz.func232 fun P hP Q hQ=>?_
 conv=>cbv
 rcases ae:Cp b with⟨ao,⟨ag,ah,ai,ab⟩,ac,af,am,an⟩
 generalize aa:ac.map cS=ak
 generalize ad:af.map cI=al
 refine .dd hP (Xdy (by omega) ae aa ad) ?_
 conv=>cbv
 have zs:=XcX (b:=b)
 have zl:=Va (b:=b)
 rw[ae]at zs zl
 simp only[]at zs zl
 generalize aj:Hp ab ac=r2
 refine .dd hP (Xee aa (by omega) zs aj) ?_
 conv=>cbv
 have e:r2=Fo b:=(by unfold Fo;rw[ae];exact aj.symm)
 rw[hr]at e
 subst e
 exact hQ _ _ (.i rfl rfl)
theorem Wj:Setup Tryz.prog ((3000006,D2 Tryz.prog 3000006)::((3000003,D2 Tryz.prog 3000003)::((3000011,D2 Tryz.prog 3000011)::Rk))):=(Setup.mark 3000006 (Setup.mark 3000003 (Setup.mark 3000011 E9)))
theorem Y5(Aq:Ah.map A5=Bo)(As:Al.map Ae=Bm)(Av:Ak.map Ae=Bl)(At:Ai.map cS=Bn)(hwoff:woff.map cI=xwoff)(ae:H0 (⟨Ah,Al,Ak,Ai,An,Am⟩:Ac))(hst:Ai.length<900000000)(hw:Nt k (⟨wver,wstr,wrol,wbas,wlin,woff,wend,wope,wcod⟩:Aa))(hk:k≤1000000)(hr:Bv (⟨Ah,Al,Ak,Ai,An,Am⟩:Ac) (⟨wver,wstr,wrol,wbas,wlin,woff,wend,wope,wcod⟩:Aa)=(⟨Fx,F3,Fr,Fw,Ft,Fz⟩,⟨obver,obstr,obrol,obbas,oblin,oboff,obend,obope,obcod⟩,oc))(A2:Fx.map A5=Di)(A1:F3.map Ae=Da)(A3:Fr.map Ae=Db)(A0:Fw.map cS=Dd)(hoboff:oboff.map cI=xoboff):Fn Tryz.prog 160 [.agg [.d (.row 3 Bo),.d (.row 2 Bm),.d (.row 2 Bl),.d (.row 1 Bn),I An,I Am],.agg [I wver,I wstr,I wrol,I wbas,I wlin,.d (.row 1 xwoff),I wend,B wope,I wcod]] [] ⟨.tup [.agg [.d (.row 3 Di),.d (.row 2 Da),.d (.row 2 Db),.d (.row 1 Dd),I Ft,I Fz],.agg [I obver,I obstr,I obrol,I obbas,I oblin,.d (.row 1 xoboff),I obend,B obope,I obcod],I oc],[],[]⟩:=by
 refine Fn.go Wj Tryz.func160 fun P hP Q hQ=>?_
 conv=>cbv
 have bu:Ah.length≤1000000000:=ae.1.1
 have bv:Al.length≤1000000000:=ae.1.2.2.1
 have bw:Ak.length≤1000000000:=ae.1.2.2.2.2.1
 have hwf:=Py hw hk
 simp only[]at hwf
 obtain⟨bk,bl,bm,bn,bz⟩:=hw
 simp only[]at bk bl bm bn
 refine .dd hP (Oo hwoff (by omega)) ?_
 conv=>cbv
 cases wope
 conv=>cbv
 refine .dd hP (K6 Aq As Av At (by omega) (by omega) (by omega) (by omega)) ?_
 conv=>cbv
 refine .go2 (by kernel_rfl) ?_
 conv=>cbv
 have e:((⟨Ah,Al,Ak,Ai,An,Am⟩:Ac),(⟨wver,wstr,wrol,wbas,wlin,woff,wend,false,wcod⟩:Aa),wcod)=Bv (⟨Ah,Al,Ak,Ai,An,Am⟩:Ac) (⟨wver,wstr,wrol,wbas,wlin,woff,wend,false,wcod⟩:Aa):=(by unfold Bv;rw[if_pos (.inl rfl)])
 rw[hr]at e
 simp only[Prod.mk.injEq,Ac.mk.injEq,Aa.mk.injEq]at e
 obtain⟨⟨rfl,rfl,rfl,rfl,rfl,rfl⟩,⟨rfl,rfl,rfl,rfl,rfl,rfl,rfl,rfl,rfl⟩,rfl⟩:=e
 refine hQ _ _ ?_
 exact .many (.inl rfl) rfl rfl (.agg (.d rfl (Ag Aq A2) (.d rfl (Ag As A1) (.d rfl (Ag Av A3) (.d rfl (Ag At A0) (.d rfl rfl (.d rfl rfl (.nil))))))) (.agg (.d rfl rfl (.d rfl rfl (.d rfl rfl (.d rfl rfl (.d rfl rfl (.d rfl (Ag hwoff hoboff) (.d rfl rfl (.d rfl rfl (.d rfl rfl (.nil)))))))))) (.d rfl rfl (.nil))))
 conv=>cbv
 refine .neq (fun h2=>?_) fun h2=>?_
 conv=>cbv
 refine .dd hP (K6 Aq As Av At (by omega) (by omega) (by omega) (by omega)) ?_
 conv=>cbv
 refine .go2 (by kernel_rfl) ?_
 conv=>cbv
 have e:((⟨Ah,Al,Ak,Ai,An,Am⟩:Ac),(⟨wver,wstr,wrol,wbas,wlin,woff,wend,true,wcod⟩:Aa),wcod)=Bv (⟨Ah,Al,Ak,Ai,An,Am⟩:Ac) (⟨wver,wstr,wrol,wbas,wlin,woff,wend,true,wcod⟩:Aa):=(by unfold Bv;rw[if_pos (.inr (by dsimp only;omega))])
 rw[hr]at e
 simp only[Prod.mk.injEq,Ac.mk.injEq,Aa.mk.injEq]at e
 obtain⟨⟨rfl,rfl,rfl,rfl,rfl,rfl⟩,⟨rfl,rfl,rfl,rfl,rfl,rfl,rfl,rfl,rfl⟩,rfl⟩:=e
 refine hQ _ _ ?_
 exact .many (.inl rfl) rfl rfl (.agg (.d rfl (Ag Aq A2) (.d rfl (Ag As A1) (.d rfl (Ag Av A3) (.d rfl (Ag At A0) (.d rfl rfl (.d rfl rfl (.nil))))))) (.agg (.d rfl rfl (.d rfl rfl (.d rfl rfl (.d rfl rfl (.d rfl rfl (.d rfl (Ag hwoff hoboff) (.d rfl rfl (.d rfl rfl (.d rfl rfl (.nil)))))))))) (.d rfl rfl (.nil))))
 conv=>cbv
 generalize a0:Af wbas=r3
 refine .dd hP (Fp a0) ?_
 conv=>cbv
 generalize a1:Jx (⟨Ah,Al,Ak,Ai,An,Am⟩:Ac) wbas=r4
 refine .dd hP (Xgl Aq As Av At ae.1 a1) ?_
 conv=>cbv
 have ht4:=Vw ae.1 a1
 generalize bc:Fo r4=r5
 refine .dd hP (Xa7 (by omega) bc) ?_
 conv=>cbv
 rcases bd:Ih (⟨wver,wstr,wrol,wbas,wlin,woff,wend,true,wcod⟩:Aa)with⟨a2,a3,a4,a5⟩
 refine .dd hP (Ku hwoff bd) ?_
 conv=>cbv
 generalize a6:Br (⟨a2,a3,a4,a5⟩:B7) woff wend=r7
 have zr7:=Se a6
 refine .dd hP (Xdq hwoff (by omega) hwf.2.1 (by omega) a6) ?_
 conv=>cbv
 rcases a7:Ao (⟨Ah,Al,Ak,Ai,An,Am⟩:Ac) r3 r7 with⟨⟨aa,ab,ac,ad,an,ao⟩,bo⟩
 generalize af:aa.map A5=be
 generalize ag:ab.map Ae=bf
 generalize ah:ac.map Ae=bg
 generalize ai:ad.map cS=bh
 have aw:=Gt (d:=(⟨Ah,Al,Ak,Ai,An,Am⟩:Ac)) (name:=r3) (text:=r7) ae
 rw[a7]at aw
 have bp:=aw.2
 simp only[]at bp
 have haq:Ao (⟨Ah,Al,Ak,Ai,An,Am⟩:Ac) (Af wbas) (Br (Ih (⟨wver,wstr,wrol,wbas,wlin,woff,wend,true,wcod⟩:Aa)) woff wend)=(⟨aa,ab,ac,ad,an,ao⟩,bo):=by rw[a0,show Ih (⟨wver,wstr,wrol,wbas,wlin,woff,wend,true,wcod⟩:Aa)=_ from bd,a6,a7]
 refine .dd hP (Hu Aq As Av At ae.1.1 ae.1.2.2.1 ae.1.2.2.2.2.1 (by omega) ae.2.2 ae (by omega) a7 af ag ah ai) ?_
 conv=>cbv
 refine .go2 (by kernel_rfl) ?_
 conv=>cbv
 refine .neq (fun h9=>?_) fun h9=>?_
 conv=>cbv
 have e:((⟨aa,ab,ac,ad,an,ao⟩:Ac),(⟨wver,wstr,wrol,wbas,wlin,woff,wend,true,2⟩:Aa),2)=Bv (⟨Ah,Al,Ak,Ai,An,Am⟩:Ac) (⟨wver,wstr,wrol,wbas,wlin,woff,wend,true,wcod⟩:Aa):=(by have hc:Sx (⟨Ah,Al,Ak,Ai,An,Am⟩:Ac) (⟨wver,wstr,wrol,wbas,wlin,woff,wend,true,wcod⟩:Aa)=2:=(by unfold Sx;dsimp only;rw[haq];exact if_pos (by dsimp only;omega));unfold Bv;rw[if_neg (by simp;omega)];unfold T9 Q3;rw[hc,if_neg (by decide),if_neg (by decide)];dsimp only;rw[haq])
 rw[hr]at e
 simp only[Prod.mk.injEq,Ac.mk.injEq,Aa.mk.injEq]at e
 obtain⟨⟨rfl,rfl,rfl,rfl,rfl,rfl⟩,⟨rfl,rfl,rfl,rfl,rfl,rfl,rfl,rfl,rfl⟩,rfl⟩:=e
 refine hQ _ _ ?_
 exact .many (.inl rfl) rfl rfl (.agg (.d rfl (Ag af A2) (.d rfl (Ag ag A1) (.d rfl (Ag ah A3) (.d rfl (Ag ai A0) (.d rfl rfl (.d rfl rfl (.nil))))))) (.agg (.d rfl rfl (.d rfl rfl (.d rfl rfl (.d rfl rfl (.d rfl rfl (.d rfl (Ag hwoff hoboff) (.d rfl rfl (.d rfl rfl (.d rfl rfl (.nil)))))))))) (.d rfl rfl (.nil))))
 conv=>cbv
 rcases az:Cj (⟨aa,ab,ac,ad,an,ao⟩:Ac) r3 with⟨⟨ap,aq,ar,au,ax,ay⟩,bt⟩
 generalize aj:ap.map A5=a8
 generalize ak:aq.map Ae=a9
 generalize al:ar.map Ae=ba
 generalize am:au.map cS=bb
 refine .dd hP (Qc af ag ah ai aw.1.1.1 aw.1.1.2.2.1 aw.1.1.2.2.2.2.1 (by omega) aw.1.2.2 aw.1 az aj ak al am) ?_
 conv=>cbv
 refine .go hwoff fun b0 bi=>?_
 conv=>cbv
 refine .add fun bq bj=>?_
 conv=>cbv
 refine .go2 (by kernel_rfl) ?_
 conv=>cbv
 have e:((⟨ap,aq,ar,au,ax,ay⟩:Ac),(⟨wver,wstr,wrol,bq,r5,[],0,false,wcod⟩:Aa),0)=Bv (⟨Ah,Al,Ak,Ai,An,Am⟩:Ac) (⟨wver,wstr,wrol,wbas,wlin,woff,wend,true,wcod⟩:Aa):=(by have hc:Sx (⟨Ah,Al,Ak,Ai,An,Am⟩:Ac) (⟨wver,wstr,wrol,wbas,wlin,woff,wend,true,wcod⟩:Aa)=0:=(by unfold Sx;dsimp only;rw[haq];exact if_neg (by dsimp only;omega));unfold Bv;rw[if_neg (by simp;omega)];unfold T9 Q3;rw[hc,if_pos rfl,if_pos rfl];dsimp only;rw[haq];dsimp only;rw[a0,az,a1,bc,bj,bi])
 rw[hr]at e
 simp only[Prod.mk.injEq,Ac.mk.injEq,Aa.mk.injEq]at e
 obtain⟨⟨rfl,rfl,rfl,rfl,rfl,rfl⟩,⟨rfl,rfl,rfl,rfl,rfl,rfl,rfl,rfl,rfl⟩,rfl⟩:=e
 refine hQ _ _ ?_
 exact .many (.inl rfl) rfl rfl (.agg (.d rfl (Ag aj A2) (.d rfl (Ag ak A1) (.d rfl (Ag al A3) (.d rfl (Ag am A0) (.d rfl rfl (.d rfl rfl (.nil))))))) (.agg (.d rfl rfl (.d rfl rfl (.d rfl rfl (.d rfl rfl (.d rfl rfl (.ref rfl rfl (by rw[←hoboff];rfl) (.d rfl rfl (.d rfl rfl (.d rfl rfl (.nil)))))))))) (.d rfl rfl (.nil))))
theorem Xg:Setup Tryz.prog ((3000008,D2 Tryz.prog 3000008)::((3000004,D2 Tryz.prog 3000004)::Rk)):=(Setup.mark 3000008 (Setup.mark 3000004 E9))
theorem Zi(Aq:Ah.map A5=Bo)(As:Al.map Ae=Bm)(Av:Ak.map Ae=Bl)(At:Ai.map cS=Bn)(hwoff:woff.map cI=xwoff)(ae:H0 (⟨Ah,Al,Ak,Ai,An,Am⟩:Ac))(hst:Ai.length<900000000)(hw:Nt k (⟨wver,wstr,wrol,wbas,wlin,woff,wend,wope,wcod⟩:Aa))(hk:k≤1000000)(hr:Bv (⟨Ah,Al,Ak,Ai,An,Am⟩:Ac) (⟨wver,wstr,wrol,wbas,wlin,woff,wend,wope,wcod⟩:Aa)=(⟨Fx,F3,Fr,Fw,Ft,Fz⟩,⟨obver,obstr,obrol,obbas,oblin,oboff,obend,obope,obcod⟩,oc))(A2:Fx.map A5=Di)(A1:F3.map Ae=Da)(A3:Fr.map Ae=Db)(A0:Fw.map cS=Dd)(hoboff:oboff.map cI=xoboff):Fn Tryz.prog 153 [.agg [.d (.row 3 Bo),.d (.row 2 Bm),.d (.row 2 Bl),.d (.row 1 Bn),I An,I Am],.agg [I wver,I wstr,I wrol,I wbas,I wlin,.d (.row 1 xwoff),I wend,B wope,I wcod]] [] ⟨.tup [.agg [.d (.row 3 Di),.d (.row 2 Da),.d (.row 2 Db),.d (.row 1 Dd),I Ft,I Fz],.agg [I obver,I obstr,I obrol,I obbas,I oblin,.d (.row 1 xoboff),I obend,B obope,I obcod],I oc],[],[]⟩:=by
 refine Fn.go Xg Tryz.func153 fun P hP Q hQ=>?_
 conv=>cbv
 have bu:Ah.length≤1000000000:=ae.1.1
 have bv:Al.length≤1000000000:=ae.1.2.2.1
 have bw:Ak.length≤1000000000:=ae.1.2.2.2.2.1
 have hwf:=Py hw hk
 simp only[]at hwf
 obtain⟨bk,bl,bm,bn,bz⟩:=hw
 simp only[]at bk bl bm bn
 refine .dd hP (Uq Aq As Av At (by omega) (by omega) (by omega) (by omega)) ?_
 conv=>cbv
 refine .dd hP (Vb hwoff (by omega)) ?_
 conv=>cbv
 cases wope
 conv=>cbv
 refine .go2 (by kernel_rfl) ?_
 conv=>cbv
 have e:((⟨Ah,Al,Ak,Ai,An,Am⟩:Ac),(⟨wver,wstr,wrol,wbas,wlin,woff,wend,false,wcod⟩:Aa),wcod)=Bv (⟨Ah,Al,Ak,Ai,An,Am⟩:Ac) (⟨wver,wstr,wrol,wbas,wlin,woff,wend,false,wcod⟩:Aa):=(by unfold Bv;rw[if_pos (.inl rfl)])
 rw[hr]at e
 simp only[Prod.mk.injEq,Ac.mk.injEq,Aa.mk.injEq]at e
 obtain⟨⟨rfl,rfl,rfl,rfl,rfl,rfl⟩,⟨rfl,rfl,rfl,rfl,rfl,rfl,rfl,rfl,rfl⟩,rfl⟩:=e
 refine hQ _ _ ?_
 exact .many (.inl rfl) rfl rfl (.agg (.d rfl (Ag Aq A2) (.d rfl (Ag As A1) (.d rfl (Ag Av A3) (.d rfl (Ag At A0) (.d rfl rfl (.d rfl rfl (.nil))))))) (.agg (.d rfl rfl (.d rfl rfl (.d rfl rfl (.d rfl rfl (.d rfl rfl (.d rfl (Ag hwoff hoboff) (.d rfl rfl (.d rfl rfl (.d rfl rfl (.nil)))))))))) (.d rfl rfl (.nil))))
 conv=>cbv
 refine .neq (fun h3=>?_) fun h3=>?_
 conv=>cbv
 refine .go2 (by kernel_rfl) ?_
 conv=>cbv
 have e:((⟨Ah,Al,Ak,Ai,An,Am⟩:Ac),(⟨wver,wstr,wrol,wbas,wlin,woff,wend,true,wcod⟩:Aa),wcod)=Bv (⟨Ah,Al,Ak,Ai,An,Am⟩:Ac) (⟨wver,wstr,wrol,wbas,wlin,woff,wend,true,wcod⟩:Aa):=(by unfold Bv;rw[if_pos (.inr (by dsimp only;omega))])
 rw[hr]at e
 simp only[Prod.mk.injEq,Ac.mk.injEq,Aa.mk.injEq]at e
 obtain⟨⟨rfl,rfl,rfl,rfl,rfl,rfl⟩,⟨rfl,rfl,rfl,rfl,rfl,rfl,rfl,rfl,rfl⟩,rfl⟩:=e
 refine hQ _ _ ?_
 exact .many (.inl rfl) rfl rfl (.agg (.d rfl (Ag Aq A2) (.d rfl (Ag As A1) (.d rfl (Ag Av A3) (.d rfl (Ag At A0) (.d rfl rfl (.d rfl rfl (.nil))))))) (.agg (.d rfl rfl (.d rfl rfl (.d rfl rfl (.d rfl rfl (.d rfl rfl (.d rfl (Ag hwoff hoboff) (.d rfl rfl (.d rfl rfl (.d rfl rfl (.nil)))))))))) (.d rfl rfl (.nil))))
 conv=>cbv
 generalize a0:Af wbas=r4
 refine .dd hP (Co a0) ?_
 conv=>cbv
 generalize a1:Jx (⟨Ah,Al,Ak,Ai,An,Am⟩:Ac) wbas=r5
 refine .dd hP (XgL Aq As Av At ae.1 a1) ?_
 conv=>cbv
 have ht4:=Vw ae.1 a1
 generalize bc:Fo r5=r6
 refine .dd hP (XbL (by omega) bc) ?_
 conv=>cbv
 rcases bd:Ok (⟨wver,wstr,wrol,wbas,wlin,woff,wend,true,wcod⟩:Aa)with⟨a2,a3,a4,a5⟩
 refine .dd hP (T6 hwoff bd) ?_
 conv=>cbv
 generalize a6:Br (⟨a2,a3,a4,a5⟩:B7) woff wend=r8
 have zr8:=Se a6
 refine .dd hP (Xdo hwoff (by omega) hwf.2.1 (by omega) a6) ?_
 conv=>cbv
 rcases a7:Ao (⟨Ah,Al,Ak,Ai,An,Am⟩:Ac) r4 r8 with⟨⟨aa,ab,ac,ad,an,ao⟩,bo⟩
 generalize af:aa.map A5=be
 generalize ag:ab.map Ae=bf
 generalize ah:ac.map Ae=bg
 generalize ai:ad.map cS=bh
 have aw:=Gt (d:=(⟨Ah,Al,Ak,Ai,An,Am⟩:Ac)) (name:=r4) (text:=r8) ae
 rw[a7]at aw
 have bp:=aw.2
 simp only[]at bp
 have haq:Ao (⟨Ah,Al,Ak,Ai,An,Am⟩:Ac) (Af wbas) (Br (Ih (⟨wver,wstr,wrol,wbas,wlin,woff,wend,true,wcod⟩:Aa)) woff wend)=(⟨aa,ab,ac,ad,an,ao⟩,bo):=by rw[a0,show Ih (⟨wver,wstr,wrol,wbas,wlin,woff,wend,true,wcod⟩:Aa)=_ from bd,a6,a7]
 refine .dd hP (C0 Aq As Av At ae.1.1 ae.1.2.2.1 ae.1.2.2.2.2.1 (by omega) ae.2.2 ae (by omega) a7 af ag ah ai) ?_
 conv=>cbv
 refine .go2 (by kernel_rfl) ?_
 conv=>cbv
 refine .neq (fun h10=>?_) fun h10=>?_
 conv=>cbv
 have e:((⟨aa,ab,ac,ad,an,ao⟩:Ac),(⟨wver,wstr,wrol,wbas,wlin,woff,wend,true,2⟩:Aa),2)=Bv (⟨Ah,Al,Ak,Ai,An,Am⟩:Ac) (⟨wver,wstr,wrol,wbas,wlin,woff,wend,true,wcod⟩:Aa):=(by have hc:Sx (⟨Ah,Al,Ak,Ai,An,Am⟩:Ac) (⟨wver,wstr,wrol,wbas,wlin,woff,wend,true,wcod⟩:Aa)=2:=(by unfold Sx;dsimp only;rw[haq];exact if_pos (by dsimp only;omega));unfold Bv;rw[if_neg (by simp;omega)];unfold T9 Q3;rw[hc,if_neg (by decide),if_neg (by decide)];dsimp only;rw[haq])
 rw[hr]at e
 simp only[Prod.mk.injEq,Ac.mk.injEq,Aa.mk.injEq]at e
 obtain⟨⟨rfl,rfl,rfl,rfl,rfl,rfl⟩,⟨rfl,rfl,rfl,rfl,rfl,rfl,rfl,rfl,rfl⟩,rfl⟩:=e
 refine hQ _ _ ?_
 exact .many (.inl rfl) rfl rfl (.agg (.d rfl (Ag af A2) (.d rfl (Ag ag A1) (.d rfl (Ag ah A3) (.d rfl (Ag ai A0) (.d rfl rfl (.d rfl rfl (.nil))))))) (.agg (.d rfl rfl (.d rfl rfl (.d rfl rfl (.d rfl rfl (.d rfl rfl (.d rfl (Ag hwoff hoboff) (.d rfl rfl (.d rfl rfl (.d rfl rfl (.nil)))))))))) (.d rfl rfl (.nil))))
 conv=>cbv
 rcases az:Cj (⟨aa,ab,ac,ad,an,ao⟩:Ac) r4 with⟨⟨ap,aq,ar,au,ax,ay⟩,bt⟩
 generalize aj:ap.map A5=a8
 generalize ak:aq.map Ae=a9
 generalize al:ar.map Ae=ba
 generalize am:au.map cS=bb
 refine .dd hP (Qb af ag ah ai aw.1.1.1 aw.1.1.2.2.1 aw.1.1.2.2.2.2.1 (by omega) aw.1.2.2 aw.1 az aj ak al am) ?_
 conv=>cbv
 refine .go hwoff fun b0 bi=>?_
 conv=>cbv
 refine .add fun bq bj=>?_
 conv=>cbv
 have e:((⟨ap,aq,ar,au,ax,ay⟩:Ac),(⟨wver,wstr,wrol,bq,r6,[],0,false,wcod⟩:Aa),0)=Bv (⟨Ah,Al,Ak,Ai,An,Am⟩:Ac) (⟨wver,wstr,wrol,wbas,wlin,woff,wend,true,wcod⟩:Aa):=(by have hc:Sx (⟨Ah,Al,Ak,Ai,An,Am⟩:Ac) (⟨wver,wstr,wrol,wbas,wlin,woff,wend,true,wcod⟩:Aa)=0:=(by unfold Sx;dsimp only;rw[haq];exact if_neg (by dsimp only;omega));unfold Bv;rw[if_neg (by simp;omega)];unfold T9 Q3;rw[hc,if_pos rfl,if_pos rfl];dsimp only;rw[haq];dsimp only;rw[a0,az,a1,bc,bj,bi])
 rw[hr]at e
 simp only[Prod.mk.injEq,Ac.mk.injEq,Aa.mk.injEq]at e
 obtain⟨⟨rfl,rfl,rfl,rfl,rfl,rfl⟩,⟨rfl,rfl,rfl,rfl,rfl,rfl,rfl,rfl,rfl⟩,rfl⟩:=e
 refine hQ _ _ ?_
 exact .many (.inl rfl) rfl rfl (.agg (.d rfl (Ag aj A2) (.d rfl (Ag ak A1) (.d rfl (Ag al A3) (.d rfl (Ag am A0) (.d rfl rfl (.d rfl rfl (.nil))))))) (.agg (.d rfl rfl (.d rfl rfl (.d rfl rfl (.d rfl rfl (.d rfl rfl (.ref rfl rfl (by rw[←hoboff];rfl) (.d rfl rfl (.d rfl rfl (.d rfl rfl (.nil)))))))))) (.d rfl rfl (.nil))))
def Z6(w:Aa)(d:Ac):Ac:=K2 d w
def rlay(w:Aa)(d:Ac)(r:ByteArray):Ac:=Kl d w r
theorem Lx(hwoff:woff.map cI=xwoff)(Aq:Ah.map A5=Bo)(As:Al.map Ae=Bm)(Av:Ak.map Ae=Bl)(At:Ai.map cS=Bn)(ak:H0 (⟨Ah,Al,Ak,Ai,An,Am⟩:Ac))(hst:Ai.length<900000000)(hw:Nt k (⟨wver,wstr,wrol,wbas,wlin,woff,wend,wope,wcod⟩:Aa))(hk:k≤1000000)(hc:M8 (⟨Ah,Al,Ak,Ai,An,Am⟩:Ac) (⟨wver,wstr,wrol,wbas,wlin,woff,wend,wope,wcod⟩:Aa)=0)(hr:Z6 (⟨wver,wstr,wrol,wbas,wlin,woff,wend,wope,wcod⟩:Aa) (⟨Ah,Al,Ak,Ai,An,Am⟩:Ac)=⟨onod,oent,oold,oste,oroo,onex⟩)(Ht:onod.map A5=F5)(H2:oent.map Ae=F8)(Hy:oold.map Ae=Gc)(Hw:oste.map cS=Gb):Fn Tryz.prog 161 [.ptr 0 0 0,.agg [.d (.row 3 Bo),.d (.row 2 Bm),.d (.row 2 Bl),.d (.row 1 Bn),I An,I Am]] [.box 41 [I wver,I wstr,I wrol,I wbas,I wlin,.d (.row 1 xwoff),I wend,B wope,I wcod]] ⟨.agg [.d (.row 3 F5),.d (.row 2 F8),.d (.row 2 Gc),.d (.row 1 Gb),I oroo,I onex],[.row 1 false []],[(0,.box 41 [I wver,I wstr,I wrol,I wbas,I wlin,.ref 1 0 0,I 24,B true,I wcod])]⟩:=by
 refine Fn.goR E9 Tryz.func161 fun P hP Q hQ=>?_
 conv=>cbv
 have co:Ah.length≤1000000000:=ak.1.1
 have cp:Al.length≤1000000000:=ak.1.2.2.1
 have cq:Ak.length≤1000000000:=ak.1.2.2.2.2.1
 have hzs:=Ov wbas
 generalize bd:Af wbas=r1
 refine .dd hP (Fp bd) ?_
 conv=>cbv
 rcases bo:Ax (⟨Ah,Al,Ak,Ai,An,Am⟩:Ac) r1 with⟨⟨aa,ab,ac,ad,ae,af⟩,ci⟩
 generalize an:aa.map A5=b4
 generalize ao:ab.map Ae=b5
 generalize ap:ac.map Ae=b6
 generalize aq:ad.map cS=b7
 rw[bd]at hzs
 refine .dd hP (Qn Aq As Av At ak.1.1 ak.1.2.2.1 ak.1.2.2.2.2.1 (by omega) ak.2.2 ak (by omega) bo an ao ap aq) ?_
 conv=>cbv
 have ar:=Mh (d:=(⟨Ah,Al,Ak,Ai,An,Am⟩:Ac)) (name:=r1) ak (by show Ai.length<_;omega) (by have:=Ov wbas;rw[bd]at this;omega)
 rw[bo]at ar
 have cj:=ar.2
 simp only[]at cj
 have hca:Ax (⟨Ah,Al,Ak,Ai,An,Am⟩:Ac) (Af wbas)=((⟨aa,ab,ac,ad,ae,af⟩:Ac),ci):=by rw[bd];exact bo
 refine .neq (fun h3=>?_) fun h3=>?_
 conv=>cbv
 have bp:M8 (⟨Ah,Al,Ak,Ai,An,Am⟩:Ac) (⟨wver,wstr,wrol,wbas,wlin,woff,wend,wope,wcod⟩:Aa)=4:=by unfold M8;dsimp only;rw[hca];exact if_pos h3
 rw[bp]at hc
 cases hc
 conv=>cbv
 rcases b8:Ih (⟨wver,wstr,wrol,wbas,wlin,woff,wend,wope,wcod⟩:Aa)with⟨bq,bt,bu,bv⟩
 refine .dd hP (Ku hwoff b8) ?_
 conv=>cbv
 generalize bw:B1 (⟨bq,bt,bu,bv⟩:B7)=r5
 have zr5:=Hd bw
 refine .dd hP (P8 bw) ?_
 conv=>cbv
 rcases bz:Ao (⟨aa,ab,ac,ad,ae,af⟩:Ac) r1 r5 with⟨⟨ag,ah,ai,aj,al,am⟩,ck⟩
 generalize au:ag.map A5=b9
 generalize aw:ah.map Ae=ca
 generalize ax:ai.map Ae=cb
 generalize ay:aj.map cS=cc
 refine .dd hP (Hu an ao ap aq ar.1.1.1 ar.1.1.2.2.1 ar.1.1.2.2.2.2.1 (by omega) ar.1.2.2 ar.1 (by omega) bz au aw ax ay) ?_
 conv=>cbv
 have az:=Gt (d:=(⟨aa,ab,ac,ad,ae,af⟩:Ac)) (name:=r1) (text:=r5) ar.1
 rw[bz]at az
 have cm:=az.2
 simp only[]at cm
 have haa:Ao (⟨aa,ab,ac,ad,ae,af⟩:Ac) (Af wbas) (B1 (Ih (⟨wver,wstr,wrol,wbas,wlin,woff,wend,wope,wcod⟩:Aa)))=((⟨ag,ah,ai,aj,al,am⟩:Ac),ck):=by rw[bd,b8,bw];exact bz
 refine .neq (fun h7=>?_) fun h7=>?_
 conv=>cbv
 have bp:M8 (⟨Ah,Al,Ak,Ai,An,Am⟩:Ac) (⟨wver,wstr,wrol,wbas,wlin,woff,wend,wope,wcod⟩:Aa)=2:=by unfold M8;dsimp only;rw[hca,if_neg (by dsimp only;omega),haa];exact if_pos h7
 rw[bp]at hc
 cases hc
 conv=>cbv
 rcases b0:Cj (⟨ag,ah,ai,aj,al,am⟩:Ac) r1 with⟨⟨a5,a6,a7,a8,bi,bj⟩,cr⟩
 generalize a0:a5.map A5=cd
 generalize a1:a6.map Ae=ce
 generalize a2:a7.map Ae=cf
 generalize a3:a8.map cS=cg
 refine .dd hP (Qc au aw ax ay az.1.1.1 az.1.1.2.2.1 az.1.1.2.2.2.2.1 (by omega) az.1.2.2 az.1 b0 a0 a1 a2 a3) ?_
 conv=>cbv
 have a4:=P5 (d:=(⟨ag,ah,ai,aj,al,am⟩:Ac)) (name:=r1) az.1
 rw[b0]at a4
 have cn:=a4.2
 simp only[]at cn
 rcases ch:Cw (⟨a5,a6,a7,a8,bi,bj⟩:Ac)with⟨be,bf,bg,bh,b2,b3⟩
 generalize a9:be.map A5=bk
 generalize ba:bf.map Ae=bl
 generalize bb:bg.map Ae=bm
 generalize bc:bh.map cS=bn
 refine .dd hP (Tk a0 a1 a2 a3 a4.1.1.1 a4.1.1.2.2.1 a4.1.1.2.2.2.2.1 (by omega) a4.1.2.2 a4.1 ch a9 ba bb bc) ?_
 conv=>cbv
 have e:K2 (⟨Ah,Al,Ak,Ai,An,Am⟩:Ac) (⟨wver,wstr,wrol,wbas,wlin,woff,wend,wope,wcod⟩:Aa)=(⟨be,bf,bg,bh,b2,b3⟩:Ac):=(by unfold K2;dsimp only;rw[hca,if_neg (by dsimp only;omega),haa,if_neg (by dsimp only;omega)];dsimp only;rw[bd,b0];exact ch)
 rw[show Z6 (⟨wver,wstr,wrol,wbas,wlin,woff,wend,wope,wcod⟩:Aa) (⟨Ah,Al,Ak,Ai,An,Am⟩:Ac)=K2 (⟨Ah,Al,Ak,Ai,An,Am⟩:Ac) (⟨wver,wstr,wrol,wbas,wlin,woff,wend,wope,wcod⟩:Aa)from rfl,e]at hr
 simp only[Ac.mk.injEq]at hr
 obtain⟨rfl,rfl,rfl,rfl,rfl,rfl⟩:=hr
 obtain rfl:bk=F5:=by rw[←a9,Ht]
 obtain rfl:bl=F8:=by rw[←ba,H2]
 obtain rfl:bm=Gc:=by rw[←bb,Hy]
 obtain rfl:bn=Gb:=by rw[←bc,Hw]
 exact hQ _ _ (.of [7] (.inl rfl) rfl rfl rfl rfl)
theorem Ma(hwoff:woff.map cI=xwoff)(Aq:Ah.map A5=Bo)(As:Al.map Ae=Bm)(Av:Ak.map Ae=Bl)(At:Ai.map cS=Bn)(ax:H0 (⟨Ah,Al,Ak,Ai,An,Am⟩:Ac))(hst:Ai.length<900000000)(hw:Nt k (⟨wver,wstr,wrol,wbas,wlin,woff,wend,wope,wcod⟩:Aa))(hk:k≤1000000)(hc:M8 (⟨Ah,Al,Ak,Ai,An,Am⟩:Ac) (⟨wver,wstr,wrol,wbas,wlin,woff,wend,wope,wcod⟩:Aa)=c)(hne:c≠0)(hr:Z6 (⟨wver,wstr,wrol,wbas,wlin,woff,wend,wope,wcod⟩:Aa) (⟨Ah,Al,Ak,Ai,An,Am⟩:Ac)=⟨onod,oent,oold,oste,oroo,onex⟩)(Ht:onod.map A5=F5)(H2:oent.map Ae=F8)(Hy:oold.map Ae=Gc)(Hw:oste.map cS=Gb):Fn Tryz.prog 161 [.ptr 0 0 0,.agg [.d (.row 3 Bo),.d (.row 2 Bm),.d (.row 2 Bl),.d (.row 1 Bn),I An,I Am]] [.box 41 [I wver,I wstr,I wrol,I wbas,I wlin,.d (.row 1 xwoff),I wend,B wope,I wcod]] ⟨.agg [.d (.row 3 F5),.d (.row 2 F8),.d (.row 2 Gc),.d (.row 1 Gb),I oroo,I onex],[],[(0,.box 41 [I wver,I wstr,I wrol,I wbas,I wlin,.d (.row 1 xwoff),I wend,B wope,I c])]⟩:=by
 refine Fn.goR E9 Tryz.func161 fun P hP Q hQ=>?_
 conv=>cbv
 have co:Ah.length≤1000000000:=ax.1.1
 have cp:Al.length≤1000000000:=ax.1.2.2.1
 have cq:Ak.length≤1000000000:=ax.1.2.2.2.2.1
 have hzs:=Ov wbas
 generalize a9:Af wbas=r1
 refine .dd hP (Fp a9) ?_
 conv=>cbv
 rcases bp:Ax (⟨Ah,Al,Ak,Ai,An,Am⟩:Ac) r1 with⟨⟨aa,ab,ac,ad,ae,af⟩,cf⟩
 generalize am:aa.map A5=ba
 generalize an:ab.map Ae=bb
 generalize ao:ac.map Ae=bc
 generalize ap:ad.map cS=bd
 rw[a9]at hzs
 refine .dd hP (Qn Aq As Av At ax.1.1 ax.1.2.2.1 ax.1.2.2.2.2.1 (by omega) ax.2.2 ax (by omega) bp am an ao ap) ?_
 conv=>cbv
 have ay:=Mh (d:=(⟨Ah,Al,Ak,Ai,An,Am⟩:Ac)) (name:=r1) ax (by show Ai.length<_;omega) (by have:=Ov wbas;rw[a9]at this;omega)
 rw[bp]at ay
 have cg:=ay.2
 simp only[]at cg
 have hca:Ax (⟨Ah,Al,Ak,Ai,An,Am⟩:Ac) (Af wbas)=((⟨aa,ab,ac,ad,ae,af⟩:Ac),cf):=by rw[a9];exact bp
 refine .neq (fun h3=>?_) fun h3=>?_
 conv=>cbv
 have be:M8 (⟨Ah,Al,Ak,Ai,An,Am⟩:Ac) (⟨wver,wstr,wrol,wbas,wlin,woff,wend,wope,wcod⟩:Aa)=4:=by unfold M8;dsimp only;rw[hca];exact if_pos h3
 obtain rfl:4=c:=by rw[←be,hc]
 have e:K2 (⟨Ah,Al,Ak,Ai,An,Am⟩:Ac) (⟨wver,wstr,wrol,wbas,wlin,woff,wend,wope,wcod⟩:Aa)=(⟨aa,ab,ac,ad,ae,af⟩:Ac):=(by unfold K2;dsimp only;rw[hca,if_pos h3])
 rw[show Z6 (⟨wver,wstr,wrol,wbas,wlin,woff,wend,wope,wcod⟩:Aa) (⟨Ah,Al,Ak,Ai,An,Am⟩:Ac)=K2 (⟨Ah,Al,Ak,Ai,An,Am⟩:Ac) (⟨wver,wstr,wrol,wbas,wlin,woff,wend,wope,wcod⟩:Aa)from rfl,e]at hr
 simp only[Ac.mk.injEq]at hr
 obtain⟨rfl,rfl,rfl,rfl,rfl,rfl⟩:=hr
 obtain rfl:ba=F5:=by rw[←am,Ht]
 obtain rfl:bb=F8:=by rw[←an,H2]
 obtain rfl:bc=Gc:=by rw[←ao,Hy]
 obtain rfl:bd=Gb:=by rw[←ap,Hw]
 exact hQ _ _ (.of [] (.inl rfl) rfl rfl rfl rfl)
 conv=>cbv
 rcases b5:Ih (⟨wver,wstr,wrol,wbas,wlin,woff,wend,wope,wcod⟩:Aa)with⟨bq,bt,bu,bv⟩
 refine .dd hP (Ku hwoff b5) ?_
 conv=>cbv
 generalize bw:B1 (⟨bq,bt,bu,bv⟩:B7)=r5
 have zr5:=Hd bw
 refine .dd hP (P8 bw) ?_
 conv=>cbv
 rcases bz:Ao (⟨aa,ab,ac,ad,ae,af⟩:Ac) r1 r5 with⟨⟨ag,ah,ai,aj,ak,al⟩,ch⟩
 generalize aq:ag.map A5=bf
 generalize ar:ah.map Ae=bg
 generalize au:ai.map Ae=bh
 generalize aw:aj.map cS=bi
 refine .dd hP (Hu am an ao ap ay.1.1.1 ay.1.1.2.2.1 ay.1.1.2.2.2.2.1 (by omega) ay.1.2.2 ay.1 (by omega) bz aq ar au aw) ?_
 conv=>cbv
 have az:=Gt (d:=(⟨aa,ab,ac,ad,ae,af⟩:Ac)) (name:=r1) (text:=r5) ay.1
 rw[bz]at az
 have ci:=az.2
 simp only[]at ci
 have haa:Ao (⟨aa,ab,ac,ad,ae,af⟩:Ac) (Af wbas) (B1 (Ih (⟨wver,wstr,wrol,wbas,wlin,woff,wend,wope,wcod⟩:Aa)))=((⟨ag,ah,ai,aj,ak,al⟩:Ac),ch):=by rw[a9,b5,bw];exact bz
 refine .neq (fun h7=>?_) fun h7=>?_
 conv=>cbv
 have be:M8 (⟨Ah,Al,Ak,Ai,An,Am⟩:Ac) (⟨wver,wstr,wrol,wbas,wlin,woff,wend,wope,wcod⟩:Aa)=2:=by unfold M8;dsimp only;rw[hca,if_neg (by dsimp only;omega),haa];exact if_pos h7
 obtain rfl:2=c:=by rw[←be,hc]
 have e:K2 (⟨Ah,Al,Ak,Ai,An,Am⟩:Ac) (⟨wver,wstr,wrol,wbas,wlin,woff,wend,wope,wcod⟩:Aa)=(⟨ag,ah,ai,aj,ak,al⟩:Ac):=(by unfold K2;dsimp only;rw[hca,if_neg (by dsimp only;omega),haa,if_pos h7])
 rw[show Z6 (⟨wver,wstr,wrol,wbas,wlin,woff,wend,wope,wcod⟩:Aa) (⟨Ah,Al,Ak,Ai,An,Am⟩:Ac)=K2 (⟨Ah,Al,Ak,Ai,An,Am⟩:Ac) (⟨wver,wstr,wrol,wbas,wlin,woff,wend,wope,wcod⟩:Aa)from rfl,e]at hr
 simp only[Ac.mk.injEq]at hr
 obtain⟨rfl,rfl,rfl,rfl,rfl,rfl⟩:=hr
 obtain rfl:bf=F5:=by rw[←aq,Ht]
 obtain rfl:bg=F8:=by rw[←ar,H2]
 obtain rfl:bh=Gc:=by rw[←au,Hy]
 obtain rfl:bi=Gb:=by rw[←aw,Hw]
 exact hQ _ _ (.of [] (.inl rfl) rfl rfl rfl rfl)
 conv=>cbv
 rcases b6:Cj (⟨ag,ah,ai,aj,ak,al⟩:Ac) r1 with⟨⟨a5,a6,a7,a8,bj,bk⟩,cr⟩
 generalize a0:a5.map A5=b7
 generalize a1:a6.map Ae=b8
 generalize a2:a7.map Ae=b9
 generalize a3:a8.map cS=ca
 refine .dd hP (Qc aq ar au aw az.1.1.1 az.1.1.2.2.1 az.1.1.2.2.2.2.1 (by omega) az.1.2.2 az.1 b6 a0 a1 a2 a3) ?_
 conv=>cbv
 have a4:=P5 (d:=(⟨ag,ah,ai,aj,ak,al⟩:Ac)) (name:=r1) az.1
 rw[b6]at a4
 have cj:=a4.2
 simp only[]at cj
 rcases ck:Cw (⟨a5,a6,a7,a8,bj,bk⟩:Ac)with⟨b0,b2,b3,b4,cm,cn⟩
 generalize bl:b0.map A5=cb
 generalize bm:b2.map Ae=cc
 generalize bn:b3.map Ae=cd
 generalize bo:b4.map cS=ce
 refine .dd hP (Tk a0 a1 a2 a3 a4.1.1.1 a4.1.1.2.2.1 a4.1.1.2.2.2.2.1 (by omega) a4.1.2.2 a4.1 ck bl bm bn bo) ?_
 conv=>cbv
 have be:M8 (⟨Ah,Al,Ak,Ai,An,Am⟩:Ac) (⟨wver,wstr,wrol,wbas,wlin,woff,wend,wope,wcod⟩:Aa)=0:=by unfold M8;dsimp only;rw[hca,if_neg (by dsimp only;omega),haa];exact if_neg (by dsimp only;omega)
 exact absurd (hc.symm.trans be) hne
theorem U4(Aq:Ah.map A5=Bo)(As:Al.map Ae=Bm)(Av:Ak.map Ae=Bl)(At:Ai.map cS=Bn)(hwoff:woff.map cI=xwoff)(ak:H0 (⟨Ah,Al,Ak,Ai,An,Am⟩:Ac))(hst:Ai.length<900000000)(hw:Nt k (⟨wver,wstr,wrol,wbas,wlin,woff,wend,wope,wcod⟩:Aa))(hk:k≤1000000)(hc:M8 (⟨Ah,Al,Ak,Ai,An,Am⟩:Ac) (⟨wver,wstr,wrol,wbas,wlin,woff,wend,wope,wcod⟩:Aa)=0)(hr:K2 (⟨Ah,Al,Ak,Ai,An,Am⟩:Ac) (⟨wver,wstr,wrol,wbas,wlin,woff,wend,wope,wcod⟩:Aa)=⟨onod,oent,oold,oste,oroo,onex⟩)(Ht:onod.map A5=F5)(H2:oent.map Ae=F8)(Hy:oold.map Ae=Gc)(Hw:oste.map cS=Gb):Fn Tryz.prog 154 [.agg [.d (.row 3 Bo),.d (.row 2 Bm),.d (.row 2 Bl),.d (.row 1 Bn),I An,I Am],.agg [I wver,I wstr,I wrol,I wbas,I wlin,.d (.row 1 xwoff),I wend,B wope,I wcod]] [] ⟨.tup [.agg [.d (.row 3 F5),.d (.row 2 F8),.d (.row 2 Gc),.d (.row 1 Gb),I oroo,I onex],.agg [I wver,I wstr,I wrol,I wbas,I wlin,.ref 0 0 0,I 24,B true,I wcod]],[.row 1 false []],[]⟩:=by
 refine Fn.goR E9 Tryz.func154 fun P hP Q hQ=>?_
 conv=>cbv
 have co:Ah.length≤1000000000:=ak.1.1
 have cp:Al.length≤1000000000:=ak.1.2.2.1
 have cq:Ak.length≤1000000000:=ak.1.2.2.2.2.1
 have hzs:=Ov wbas
 generalize bd:Af wbas=r1
 refine .dd hP (Co bd) ?_
 conv=>cbv
 rcases bo:Ax (⟨Ah,Al,Ak,Ai,An,Am⟩:Ac) r1 with⟨⟨aa,ab,ac,ad,ae,af⟩,ci⟩
 generalize an:aa.map A5=b4
 generalize ao:ab.map Ae=b5
 generalize ap:ac.map Ae=b6
 generalize aq:ad.map cS=b7
 rw[bd]at hzs
 refine .dd hP (Qv Aq As Av At ak.1.1 ak.1.2.2.1 ak.1.2.2.2.2.1 (by omega) ak.2.2 ak (by omega) bo an ao ap aq) ?_
 conv=>cbv
 have ar:=Mh (d:=(⟨Ah,Al,Ak,Ai,An,Am⟩:Ac)) (name:=r1) ak (by show Ai.length<_;omega) (by have:=Ov wbas;rw[bd]at this;omega)
 rw[bo]at ar
 have cj:=ar.2
 simp only[]at cj
 have hca:Ax (⟨Ah,Al,Ak,Ai,An,Am⟩:Ac) (Af wbas)=((⟨aa,ab,ac,ad,ae,af⟩:Ac),ci):=by rw[bd];exact bo
 refine .neq (fun h3=>?_) fun h3=>?_
 conv=>cbv
 have bp:M8 (⟨Ah,Al,Ak,Ai,An,Am⟩:Ac) (⟨wver,wstr,wrol,wbas,wlin,woff,wend,wope,wcod⟩:Aa)=4:=by unfold M8;dsimp only;rw[hca];exact if_pos h3
 rw[bp]at hc
 cases hc
 conv=>cbv
 rcases b8:Ok (⟨wver,wstr,wrol,wbas,wlin,woff,wend,wope,wcod⟩:Aa)with⟨bq,bt,bu,bv⟩
 refine .dd hP (T6 hwoff b8) ?_
 conv=>cbv
 generalize bw:B1 (⟨bq,bt,bu,bv⟩:B7)=r5
 have zr5:=Hd bw
 refine .dd hP (Pq bw) ?_
 conv=>cbv
 rcases bz:Ao (⟨aa,ab,ac,ad,ae,af⟩:Ac) r1 r5 with⟨⟨ag,ah,ai,aj,al,am⟩,ck⟩
 generalize au:ag.map A5=b9
 generalize aw:ah.map Ae=ca
 generalize ax:ai.map Ae=cb
 generalize ay:aj.map cS=cc
 refine .dd hP (C0 an ao ap aq ar.1.1.1 ar.1.1.2.2.1 ar.1.1.2.2.2.2.1 (by omega) ar.1.2.2 ar.1 (by omega) bz au aw ax ay) ?_
 conv=>cbv
 have az:=Gt (d:=(⟨aa,ab,ac,ad,ae,af⟩:Ac)) (name:=r1) (text:=r5) ar.1
 rw[bz]at az
 have cm:=az.2
 simp only[]at cm
 have haa:Ao (⟨aa,ab,ac,ad,ae,af⟩:Ac) (Af wbas) (B1 (Ih (⟨wver,wstr,wrol,wbas,wlin,woff,wend,wope,wcod⟩:Aa)))=((⟨ag,ah,ai,aj,al,am⟩:Ac),ck):=by rw[bd,show Ih (⟨wver,wstr,wrol,wbas,wlin,woff,wend,wope,wcod⟩:Aa)=_ from b8,bw];exact bz
 refine .neq (fun h7=>?_) fun h7=>?_
 conv=>cbv
 have bp:M8 (⟨Ah,Al,Ak,Ai,An,Am⟩:Ac) (⟨wver,wstr,wrol,wbas,wlin,woff,wend,wope,wcod⟩:Aa)=2:=by unfold M8;dsimp only;rw[hca,if_neg (by dsimp only;omega),haa];exact if_pos h7
 rw[bp]at hc
 cases hc
 conv=>cbv
 rcases b0:Cj (⟨ag,ah,ai,aj,al,am⟩:Ac) r1 with⟨⟨a5,a6,a7,a8,bi,bj⟩,cr⟩
 generalize a0:a5.map A5=cd
 generalize a1:a6.map Ae=ce
 generalize a2:a7.map Ae=cf
 generalize a3:a8.map cS=cg
 refine .dd hP (Qb au aw ax ay az.1.1.1 az.1.1.2.2.1 az.1.1.2.2.2.2.1 (by omega) az.1.2.2 az.1 b0 a0 a1 a2 a3) ?_
 conv=>cbv
 have a4:=P5 (d:=(⟨ag,ah,ai,aj,al,am⟩:Ac)) (name:=r1) az.1
 rw[b0]at a4
 have cn:=a4.2
 simp only[]at cn
 rcases ch:Cw (⟨a5,a6,a7,a8,bi,bj⟩:Ac)with⟨be,bf,bg,bh,b2,b3⟩
 generalize a9:be.map A5=bk
 generalize ba:bf.map Ae=bl
 generalize bb:bg.map Ae=bm
 generalize bc:bh.map cS=bn
 refine .dd hP (R6 a0 a1 a2 a3 a4.1.1.1 a4.1.1.2.2.1 a4.1.1.2.2.2.2.1 (by omega) a4.1.2.2 a4.1 ch a9 ba bb bc) ?_
 conv=>cbv
 have e:K2 (⟨Ah,Al,Ak,Ai,An,Am⟩:Ac) (⟨wver,wstr,wrol,wbas,wlin,woff,wend,wope,wcod⟩:Aa)=(⟨be,bf,bg,bh,b2,b3⟩:Ac):=(by unfold K2;dsimp only;rw[hca,if_neg (by dsimp only;omega),haa,if_neg (by dsimp only;omega)];dsimp only;rw[bd,b0];exact ch)
 rw[e]at hr
 simp only[Ac.mk.injEq]at hr
 obtain⟨rfl,rfl,rfl,rfl,rfl,rfl⟩:=hr
 obtain rfl:bk=F5:=by rw[←a9,Ht]
 obtain rfl:bl=F8:=by rw[←ba,H2]
 obtain rfl:bm=Gc:=by rw[←bb,Hy]
 obtain rfl:bn=Gb:=by rw[←bc,Hw]
 exact hQ _ _ (.of [9] (.inl rfl) rfl rfl rfl rfl)
theorem Us(Aq:Ah.map A5=Bo)(As:Al.map Ae=Bm)(Av:Ak.map Ae=Bl)(At:Ai.map cS=Bn)(hwoff:woff.map cI=xwoff)(ax:H0 (⟨Ah,Al,Ak,Ai,An,Am⟩:Ac))(hst:Ai.length<900000000)(hw:Nt k (⟨wver,wstr,wrol,wbas,wlin,woff,wend,wope,wcod⟩:Aa))(hk:k≤1000000)(hc:M8 (⟨Ah,Al,Ak,Ai,An,Am⟩:Ac) (⟨wver,wstr,wrol,wbas,wlin,woff,wend,wope,wcod⟩:Aa)=c)(hne:c≠0)(hr:K2 (⟨Ah,Al,Ak,Ai,An,Am⟩:Ac) (⟨wver,wstr,wrol,wbas,wlin,woff,wend,wope,wcod⟩:Aa)=⟨onod,oent,oold,oste,oroo,onex⟩)(Ht:onod.map A5=F5)(H2:oent.map Ae=F8)(Hy:oold.map Ae=Gc)(Hw:oste.map cS=Gb):Fn Tryz.prog 154 [.agg [.d (.row 3 Bo),.d (.row 2 Bm),.d (.row 2 Bl),.d (.row 1 Bn),I An,I Am],.agg [I wver,I wstr,I wrol,I wbas,I wlin,.d (.row 1 xwoff),I wend,B wope,I wcod]] [] ⟨.tup [.agg [.d (.row 3 F5),.d (.row 2 F8),.d (.row 2 Gc),.d (.row 1 Gb),I oroo,I onex],.agg [I wver,I wstr,I wrol,I wbas,I wlin,.d (.row 1 xwoff),I wend,B wope,I c]],[],[]⟩:=by
 refine Fn.go E9 Tryz.func154 fun P hP Q hQ=>?_
 conv=>cbv
 have co:Ah.length≤1000000000:=ax.1.1
 have cp:Al.length≤1000000000:=ax.1.2.2.1
 have cq:Ak.length≤1000000000:=ax.1.2.2.2.2.1
 have hzs:=Ov wbas
 generalize a9:Af wbas=r1
 refine .dd hP (Co a9) ?_
 conv=>cbv
 rcases bp:Ax (⟨Ah,Al,Ak,Ai,An,Am⟩:Ac) r1 with⟨⟨aa,ab,ac,ad,ae,af⟩,cf⟩
 generalize am:aa.map A5=ba
 generalize an:ab.map Ae=bb
 generalize ao:ac.map Ae=bc
 generalize ap:ad.map cS=bd
 rw[a9]at hzs
 refine .dd hP (Qv Aq As Av At ax.1.1 ax.1.2.2.1 ax.1.2.2.2.2.1 (by omega) ax.2.2 ax (by omega) bp am an ao ap) ?_
 conv=>cbv
 have ay:=Mh (d:=(⟨Ah,Al,Ak,Ai,An,Am⟩:Ac)) (name:=r1) ax (by show Ai.length<_;omega) (by have:=Ov wbas;rw[a9]at this;omega)
 rw[bp]at ay
 have cg:=ay.2
 simp only[]at cg
 have hca:Ax (⟨Ah,Al,Ak,Ai,An,Am⟩:Ac) (Af wbas)=((⟨aa,ab,ac,ad,ae,af⟩:Ac),cf):=by rw[a9];exact bp
 refine .neq (fun h3=>?_) fun h3=>?_
 conv=>cbv
 have be:M8 (⟨Ah,Al,Ak,Ai,An,Am⟩:Ac) (⟨wver,wstr,wrol,wbas,wlin,woff,wend,wope,wcod⟩:Aa)=4:=by unfold M8;dsimp only;rw[hca];exact if_pos h3
 obtain rfl:4=c:=by rw[←be,hc]
 have e:K2 (⟨Ah,Al,Ak,Ai,An,Am⟩:Ac) (⟨wver,wstr,wrol,wbas,wlin,woff,wend,wope,wcod⟩:Aa)=(⟨aa,ab,ac,ad,ae,af⟩:Ac):=(by unfold K2;dsimp only;rw[hca,if_pos h3])
 rw[e]at hr
 simp only[Ac.mk.injEq]at hr
 obtain⟨rfl,rfl,rfl,rfl,rfl,rfl⟩:=hr
 obtain rfl:ba=F5:=by rw[←am,Ht]
 obtain rfl:bb=F8:=by rw[←an,H2]
 obtain rfl:bc=Gc:=by rw[←ao,Hy]
 obtain rfl:bd=Gb:=by rw[←ap,Hw]
 exact hQ _ _ (.many (.inl rfl) rfl rfl (.agg (.d rfl rfl (.d rfl rfl (.d rfl rfl (.d rfl rfl (.d rfl rfl (.d rfl rfl .nil)))))) (.agg (.d rfl rfl (.d rfl rfl (.d rfl rfl (.d rfl rfl (.d rfl rfl (.d rfl rfl (.d rfl rfl (.d rfl rfl (.d rfl rfl .nil))))))))) .nil)))
 conv=>cbv
 rcases b5:Ok (⟨wver,wstr,wrol,wbas,wlin,woff,wend,wope,wcod⟩:Aa)with⟨bq,bt,bu,bv⟩
 refine .dd hP (T6 hwoff b5) ?_
 conv=>cbv
 generalize bw:B1 (⟨bq,bt,bu,bv⟩:B7)=r5
 have zr5:=Hd bw
 refine .dd hP (Pq bw) ?_
 conv=>cbv
 rcases bz:Ao (⟨aa,ab,ac,ad,ae,af⟩:Ac) r1 r5 with⟨⟨ag,ah,ai,aj,ak,al⟩,ch⟩
 generalize aq:ag.map A5=bf
 generalize ar:ah.map Ae=bg
 generalize au:ai.map Ae=bh
 generalize aw:aj.map cS=bi
 refine .dd hP (C0 am an ao ap ay.1.1.1 ay.1.1.2.2.1 ay.1.1.2.2.2.2.1 (by omega) ay.1.2.2 ay.1 (by omega) bz aq ar au aw) ?_
 conv=>cbv
 have az:=Gt (d:=(⟨aa,ab,ac,ad,ae,af⟩:Ac)) (name:=r1) (text:=r5) ay.1
 rw[bz]at az
 have ci:=az.2
 simp only[]at ci
 have haa:Ao (⟨aa,ab,ac,ad,ae,af⟩:Ac) (Af wbas) (B1 (Ih (⟨wver,wstr,wrol,wbas,wlin,woff,wend,wope,wcod⟩:Aa)))=((⟨ag,ah,ai,aj,ak,al⟩:Ac),ch):=by rw[a9,show Ih (⟨wver,wstr,wrol,wbas,wlin,woff,wend,wope,wcod⟩:Aa)=_ from b5,bw];exact bz
 refine .neq (fun h7=>?_) fun h7=>?_
 conv=>cbv
 have be:M8 (⟨Ah,Al,Ak,Ai,An,Am⟩:Ac) (⟨wver,wstr,wrol,wbas,wlin,woff,wend,wope,wcod⟩:Aa)=2:=by unfold M8;dsimp only;rw[hca,if_neg (by dsimp only;omega),haa];exact if_pos h7
 obtain rfl:2=c:=by rw[←be,hc]
 have e:K2 (⟨Ah,Al,Ak,Ai,An,Am⟩:Ac) (⟨wver,wstr,wrol,wbas,wlin,woff,wend,wope,wcod⟩:Aa)=(⟨ag,ah,ai,aj,ak,al⟩:Ac):=(by unfold K2;dsimp only;rw[hca,if_neg (by dsimp only;omega),haa,if_pos h7])
 rw[e]at hr
 simp only[Ac.mk.injEq]at hr
 obtain⟨rfl,rfl,rfl,rfl,rfl,rfl⟩:=hr
 obtain rfl:bf=F5:=by rw[←aq,Ht]
 obtain rfl:bg=F8:=by rw[←ar,H2]
 obtain rfl:bh=Gc:=by rw[←au,Hy]
 obtain rfl:bi=Gb:=by rw[←aw,Hw]
 exact hQ _ _ (.many (.inl rfl) rfl rfl (.agg (.d rfl rfl (.d rfl rfl (.d rfl rfl (.d rfl rfl (.d rfl rfl (.d rfl rfl .nil)))))) (.agg (.d rfl rfl (.d rfl rfl (.d rfl rfl (.d rfl rfl (.d rfl rfl (.d rfl rfl (.d rfl rfl (.d rfl rfl (.d rfl rfl .nil))))))))) .nil)))
 conv=>cbv
 rcases b6:Cj (⟨ag,ah,ai,aj,ak,al⟩:Ac) r1 with⟨⟨a5,a6,a7,a8,bj,bk⟩,cr⟩
 generalize a0:a5.map A5=b7
 generalize a1:a6.map Ae=b8
 generalize a2:a7.map Ae=b9
 generalize a3:a8.map cS=ca
 refine .dd hP (Qb aq ar au aw az.1.1.1 az.1.1.2.2.1 az.1.1.2.2.2.2.1 (by omega) az.1.2.2 az.1 b6 a0 a1 a2 a3) ?_
 conv=>cbv
 have a4:=P5 (d:=(⟨ag,ah,ai,aj,ak,al⟩:Ac)) (name:=r1) az.1
 rw[b6]at a4
 have cj:=a4.2
 simp only[]at cj
 rcases ck:Cw (⟨a5,a6,a7,a8,bj,bk⟩:Ac)with⟨b0,b2,b3,b4,cm,cn⟩
 generalize bl:b0.map A5=cb
 generalize bm:b2.map Ae=cc
 generalize bn:b3.map Ae=cd
 generalize bo:b4.map cS=ce
 refine .dd hP (R6 a0 a1 a2 a3 a4.1.1.1 a4.1.1.2.2.1 a4.1.1.2.2.2.2.1 (by omega) a4.1.2.2 a4.1 ck bl bm bn bo) ?_
 conv=>cbv
 have be:M8 (⟨Ah,Al,Ak,Ai,An,Am⟩:Ac) (⟨wver,wstr,wrol,wbas,wlin,woff,wend,wope,wcod⟩:Aa)=0:=by unfold M8;dsimp only;rw[hca,if_neg (by dsimp only;omega),haa];exact if_neg (by dsimp only;omega)
 exact absurd (hc.symm.trans be) hne
theorem In{xo:List (List D)}{no:Nat}{en:Int}(hwoff:woff.map cI=xwoff)(hnwoff:nwoff=woff.length)(Aq:Ah.map A5=Bo)(As:Al.map Ae=Bm)(Av:Ak.map Ae=Bl)(At:Ai.map cS=Bn)(ae:H0 (⟨Ah,Al,Ak,Ai,An,Am⟩:Ac))(hst:Ai.length<900000000)(hw:Nt k (⟨wver,wstr,wrol,wbas,wlin,woff,wend,wope,wcod⟩:Aa))(hk:k≤1000000)(hz:record.size≤60)(hc:Lm (⟨Ah,Al,Ak,Ai,An,Am⟩:Ac) (⟨wver,wstr,wrol,wbas,wlin,woff,wend,wope,wcod⟩:Aa) record=0)(hr:rlay (⟨wver,wstr,wrol,wbas,wlin,woff,wend,wope,wcod⟩:Aa) (⟨Ah,Al,Ak,Ai,An,Am⟩:Ac) record=⟨onod,oent,oold,oste,oroo,onex⟩)(Ht:onod.map A5=F5)(H2:oent.map Ae=F8)(Hy:oold.map Ae=Gc)(Hw:oste.map cS=Gb)(hxo:(woff++[wend]).map cI=xo)(hno:no=woff.length+1)(hen:wend+((Hr (⟨wver,wstr,wrol,wbas,wlin,woff,wend,wope,wcod⟩:Aa) record).size:Int)=en):Fn Tryz.prog 162 [.ptr 0 0 0,.agg [.d (.row 3 Bo),.d (.row 2 Bm),.d (.row 2 Bl),.d (.row 1 Bn),I An,I Am],S record] [.box 41 [I wver,I wstr,I wrol,I wbas,I wlin,.ref 1 0 nwoff,I wend,B wope,I wcod],.row 1 false xwoff] ⟨.agg [.d (.row 3 F5),.d (.row 2 F8),.d (.row 2 Gc),.d (.row 1 Gb),I oroo,I onex],[.row 1 false xo],[(0,.box 41 [I wver,I wstr,I wrol,I wbas,I wlin,.ref 2 0 no,I en,B wope,I wcod]),(1,.dead)]⟩:=by
 refine Fn.goR E9 Tryz.func162 fun P hP Q hQ=>?_
 conv=>cbv
 have a8:Ah.length≤1000000000:=ae.1.1
 have a9:Al.length≤1000000000:=ae.1.2.2.1
 have ba:Ak.length≤1000000000:=ae.1.2.2.2.2.1
 have hwf:=Py hw hk
 simp only[]at hwf
 obtain⟨au,aw,ax,ay,bb⟩:=hw
 simp only[]at au aw ax ay
 refine .go fun v1 az=>?_
 conv=>cbv
 refine .add fun v2 a0=>?_
 conv=>cbv
 generalize ap:Aw wver v2 record=r3
 have zr3:=Ci ap
 refine .dd hP (Km (by omega) ap) ?_
 conv=>cbv
 generalize aq:Af wbas=r4
 refine .dd hP (Fp aq) ?_
 conv=>cbv
 rcases ar:Ao (⟨Ah,Al,Ak,Ai,An,Am⟩:Ac) r4 r3 with⟨⟨aa,ab,ac,ad,aj,ak⟩,a1⟩
 generalize af:aa.map A5=al
 generalize ag:ab.map Ae=am
 generalize ah:ac.map Ae=an
 generalize ai:ad.map cS=ao
 have hlf:Hr (⟨wver,wstr,wrol,wbas,wlin,woff,wend,wope,wcod⟩:Aa) record=r3:=by unfold Hr;dsimp only;rw[←ap,a0,az];congr 1;omega
 have hca:Ao (⟨Ah,Al,Ak,Ai,An,Am⟩:Ac) (Af wbas) (Hr (⟨wver,wstr,wrol,wbas,wlin,woff,wend,wope,wcod⟩:Aa) record)=((⟨aa,ab,ac,ad,aj,ak⟩:Ac),a1):=by rw[hlf,aq];exact ar
 refine .dd hP (Hu Aq As Av At ae.1.1 ae.1.2.2.1 ae.1.2.2.2.2.1 (by omega) ae.2.2 ae (by omega) ar af ag ah ai) ?_
 conv=>cbv
 refine .neq (fun h6=>?_) fun h6=>?_
 conv=>cbv
 have a2:Lm (⟨Ah,Al,Ak,Ai,An,Am⟩:Ac) (⟨wver,wstr,wrol,wbas,wlin,woff,wend,wope,wcod⟩:Aa) record=2:=by unfold Lm;dsimp only;rw[hca];exact if_pos h6
 rw[a2]at hc
 cases hc
 conv=>cbv
 refine .one wend hwoff rfl fun a3 z7 a7 a4=>?_
 conv=>cbv
 refine .go fun v8 a5=>?_
 conv=>cbv
 refine .add fun v9 a6=>?_
 conv=>cbv
 have e:Kl (⟨Ah,Al,Ak,Ai,An,Am⟩:Ac) (⟨wver,wstr,wrol,wbas,wlin,woff,wend,wope,wcod⟩:Aa) record=(⟨aa,ab,ac,ad,aj,ak⟩:Ac):=(by unfold Kl;dsimp only;rw[hca])
 rw[show rlay (⟨wver,wstr,wrol,wbas,wlin,woff,wend,wope,wcod⟩:Aa) (⟨Ah,Al,Ak,Ai,An,Am⟩:Ac) record=Kl (⟨Ah,Al,Ak,Ai,An,Am⟩:Ac) (⟨wver,wstr,wrol,wbas,wlin,woff,wend,wope,wcod⟩:Aa) record from rfl,e]at hr
 simp only[Ac.mk.injEq]at hr
 obtain⟨rfl,rfl,rfl,rfl,rfl,rfl⟩:=hr
 obtain rfl:al=F5:=by rw[←af,Ht]
 obtain rfl:am=F8:=by rw[←ag,H2]
 obtain rfl:an=Gc:=by rw[←ah,Hy]
 obtain rfl:ao=Gb:=by rw[←ai,Hw]
 obtain rfl:z7=xo:=by rw[←a4,hxo]
 obtain rfl:a3=no:=by omega
 obtain rfl:v9=en:=by rw[←hen,hlf,a6,a5]
 exact hQ _ _ (.of [9] (.inl rfl) rfl rfl rfl rfl)
theorem Iq(hwoff:woff.map cI=xwoff)(hnwoff:nwoff=woff.length)(Aq:Ah.map A5=Bo)(As:Al.map Ae=Bm)(Av:Ak.map Ae=Bl)(At:Ai.map cS=Bn)(ae:H0 (⟨Ah,Al,Ak,Ai,An,Am⟩:Ac))(hst:Ai.length<900000000)(hw:Nt k (⟨wver,wstr,wrol,wbas,wlin,woff,wend,wope,wcod⟩:Aa))(hk:k≤1000000)(hz:record.size≤60)(hc:Lm (⟨Ah,Al,Ak,Ai,An,Am⟩:Ac) (⟨wver,wstr,wrol,wbas,wlin,woff,wend,wope,wcod⟩:Aa) record≠0)(hr:rlay (⟨wver,wstr,wrol,wbas,wlin,woff,wend,wope,wcod⟩:Aa) (⟨Ah,Al,Ak,Ai,An,Am⟩:Ac) record=⟨onod,oent,oold,oste,oroo,onex⟩)(Ht:onod.map A5=F5)(H2:oent.map Ae=F8)(Hy:oold.map Ae=Gc)(Hw:oste.map cS=Gb):Fn Tryz.prog 162 [.ptr 0 0 0,.agg [.d (.row 3 Bo),.d (.row 2 Bm),.d (.row 2 Bl),.d (.row 1 Bn),I An,I Am],S record] [.box 41 [I wver,I wstr,I wrol,I wbas,I wlin,.ref 1 0 nwoff,I wend,B wope,I wcod],.row 1 false xwoff] ⟨.agg [.d (.row 3 F5),.d (.row 2 F8),.d (.row 2 Gc),.d (.row 1 Gb),I oroo,I onex],[],[(0,.box 41 [I wver,I wstr,I wrol,I wbas,I wlin,.ref 1 0 nwoff,I wend,B wope,I 2])]⟩:=by
 refine Fn.goR E9 Tryz.func162 fun P hP Q hQ=>?_
 conv=>cbv
 have a4:Ah.length≤1000000000:=ae.1.1
 have a5:Al.length≤1000000000:=ae.1.2.2.1
 have a6:Ak.length≤1000000000:=ae.1.2.2.2.2.1
 have hwf:=Py hw hk
 simp only[]at hwf
 obtain⟨au,aw,ax,ay,a7⟩:=hw
 simp only[]at au aw ax ay
 refine .go fun v1 az=>?_
 conv=>cbv
 refine .add fun v2 a0=>?_
 conv=>cbv
 generalize ap:Aw wver v2 record=r3
 have zr3:=Ci ap
 refine .dd hP (Km (by omega) ap) ?_
 conv=>cbv
 generalize aq:Af wbas=r4
 refine .dd hP (Fp aq) ?_
 conv=>cbv
 rcases ar:Ao (⟨Ah,Al,Ak,Ai,An,Am⟩:Ac) r4 r3 with⟨⟨aa,ab,ac,ad,aj,ak⟩,a1⟩
 generalize af:aa.map A5=al
 generalize ag:ab.map Ae=am
 generalize ah:ac.map Ae=an
 generalize ai:ad.map cS=ao
 have hlf:Hr (⟨wver,wstr,wrol,wbas,wlin,woff,wend,wope,wcod⟩:Aa) record=r3:=by unfold Hr;dsimp only;rw[←ap,a0,az];congr 1;omega
 have hca:Ao (⟨Ah,Al,Ak,Ai,An,Am⟩:Ac) (Af wbas) (Hr (⟨wver,wstr,wrol,wbas,wlin,woff,wend,wope,wcod⟩:Aa) record)=((⟨aa,ab,ac,ad,aj,ak⟩:Ac),a1):=by rw[hlf,aq];exact ar
 refine .dd hP (Hu Aq As Av At ae.1.1 ae.1.2.2.1 ae.1.2.2.2.2.1 (by omega) ae.2.2 ae (by omega) ar af ag ah ai) ?_
 conv=>cbv
 refine .neq (fun h6=>?_) fun h6=>?_
 conv=>cbv
 have e:Kl (⟨Ah,Al,Ak,Ai,An,Am⟩:Ac) (⟨wver,wstr,wrol,wbas,wlin,woff,wend,wope,wcod⟩:Aa) record=(⟨aa,ab,ac,ad,aj,ak⟩:Ac):=(by unfold Kl;dsimp only;rw[hca])
 rw[show rlay (⟨wver,wstr,wrol,wbas,wlin,woff,wend,wope,wcod⟩:Aa) (⟨Ah,Al,Ak,Ai,An,Am⟩:Ac) record=Kl (⟨Ah,Al,Ak,Ai,An,Am⟩:Ac) (⟨wver,wstr,wrol,wbas,wlin,woff,wend,wope,wcod⟩:Aa) record from rfl,e]at hr
 simp only[Ac.mk.injEq]at hr
 obtain⟨rfl,rfl,rfl,rfl,rfl,rfl⟩:=hr
 obtain rfl:al=F5:=by rw[←af,Ht]
 obtain rfl:am=F8:=by rw[←ag,H2]
 obtain rfl:an=Gc:=by rw[←ah,Hy]
 obtain rfl:ao=Gb:=by rw[←ai,Hw]
 exact hQ _ _ (.of [] (.inl rfl) rfl rfl rfl rfl)
 conv=>cbv
 refine .one wend hwoff rfl fun a8 z7 a3 a9=>?_
 conv=>cbv
 refine .go fun v8 ba=>?_
 conv=>cbv
 refine .add fun v9 bb=>?_
 conv=>cbv
 have a2:Lm (⟨Ah,Al,Ak,Ai,An,Am⟩:Ac) (⟨wver,wstr,wrol,wbas,wlin,woff,wend,wope,wcod⟩:Aa) record=0:=by unfold Lm;dsimp only;rw[hca];exact if_neg (by dsimp only;omega)
 exact absurd a2 hc
end
end Go.Proofs.YtgdmjbcllgmepaaGreatDoor.Ab
