/- What functions of the program come to, for all arguments in the given bounds. -/
import Derived.Test.YtgdmjbcllgmepaaGreatDoorch06b
import Derived.Test.YtgdmjbcllgmepaaGreatDoorZ9
set_option linter.unusedVariables false
set_option linter.unusedSimpArgs false
namespace Go.Proofs.YtgdmjbcllgmepaaGreatDoor.Ab
section
open Go Go.Proofs
set_option maxRecDepth 20000
set_option maxHeartbeats 4000000
def Xbd:List (Nat×TyRow):=[ty3,ty5,ty9,Xay,XaS,Xe]
theorem Xdg:B8 Tryz.prog Xbd:=B8.of (by kernel_rfl)
theorem XfC:Setup Tryz.prog Xbd:=⟨Xdg,mixed⟩
def Ex(l:List Ad)(s:ByteArray):List Ad×Bool:=
 if(B5 s).2.2.2=false∨Bs (B5 s).1=false∨(s.data.toList.head?≠some 43∧Eb l (B5 s).1=false)then([],false)
 else if s.data.toList.head?=some 43 then(Ee l ⟨(B5 s).1,(B5 s).2.2.1⟩,true)
 else if s.data.toList.head?=some 62 then(Ee (Dx l (B5 s).1) ⟨(B5 s).2.1,Cy l (B5 s).1⟩,true)
 else(Dx l (B5 s).1,true)
def Cw:List Ad→List ByteArray→List Ad×Bool
 |now,[]=>(now,true)
 |now,s::ss=>if(Ex now s).2=false then([],false)else Cw (Ex now s).1 ss
def D9(old:List Ad)(steps:List ByteArray)(n:Int):List Ad×Bool:=Cw old (steps.take (Ct n 0 steps.length).toNat)
theorem Xi4{s a b:ByteArray}{c:Int}{d:Bool}(e:B5 s=(a,b,c,d)):(a.size≤s.size∧b.size≤s.size)∧(d=true→2≤s.size∧(s.data.toList.head?=some 43∨s.data.toList.head?=some 45∨s.data.toList.head?=some 62)):=by
 have hz:(s.extract 1 s.size).size≤s.size:=by rw[ByteArray.size_extract];omega
 obtain⟨x,y,z,hc⟩:∃x y z,K0 (s.extract 1 s.size)=(x,y,z):=⟨_,_,_,rfl⟩
 have hcb:=Xh5 hc
 have h0:(tx []).size≤s.size:=by rw[B7];exact Nat.zero_le _
 unfold B5 at e
 rw[hc]at e
 by_cases h1:s.size<2∨(s.data.toList.head?≠some 43∧s.data.toList.head?≠some 45∧s.data.toList.head?≠some 62)
 ·rw[if_pos h1]at e
  simp only[Prod.mk.injEq]at e
  obtain⟨rfl,rfl,rfl,rfl⟩:=e
  exact⟨⟨h0,h0⟩,fun h=>by cases h⟩
 ·rw[if_neg h1]at e
  have hd:2≤s.size∧(s.data.toList.head?=some 43∨s.data.toList.head?=some 45∨s.data.toList.head?=some 62):=by
   refine⟨by omega,?_⟩
   by_cases k1:s.data.toList.head?=some 43
   ·exact .inl k1
   ·by_cases k2:s.data.toList.head?=some 45
    ·exact .inr (.inl k2)
    ·by_cases k3:s.data.toList.head?=some 62
     ·exact .inr (.inr k3)
     ·exact absurd (.inr ⟨k1,k2,k3⟩) h1
  refine⟨?_,fun _=>hd⟩
  split at e
  ·simp only[Prod.mk.injEq]at e
   obtain⟨rfl,rfl,_⟩:=e
   exact⟨hz,h0⟩
  ·split at e
   ·simp only[Prod.mk.injEq]at e
    obtain⟨rfl,rfl,_⟩:=e
    exact⟨h0,h0⟩
   ·split at e
    ·simp only[Prod.mk.injEq]at e
     obtain⟨rfl,rfl,_⟩:=e
     exact⟨by omega,by omega⟩
    ·simp only[Prod.mk.injEq]at e
     obtain⟨rfl,rfl,_⟩:=e
     exact⟨by omega,h0⟩
theorem Xa6(e:Ad):∀(l:List Ad) (b:Bool),(T8 e l b).length≤l.length+(if b=true then 0 else 1)
 |[],b=>by cases b<;>simp[T8]
 |x::l,b=>by
  have ih:=Xa6 e l (b|| !(ltB x.name_ e.name_))
  unfold T8
  rw[List.length_append,List.length_append,List.length_cons]
  cases b<;>cases h:ltB x.name_ e.name_<;>simp only[h,Bool.not_true,Bool.not_false,Bool.or_true,Bool.or_false,Bool.true_or,if_true,Bool.false_eq_true,if_false,true_and,false_and,reduceCtorEq]at ih⊢<;>split<;>simp<;>omega
theorem Ga{l o:List Ad}{e:Ad}(h:Ee l e=o):o.length≤l.length+1:=by
 rw[←h]
 exact Xa6 e l false
theorem Is{l o:List Ad}{n:ByteArray}(h:Dx l n=o):o.length≤l.length:=by
 rw[←h]
 exact List.length_filter_le _ _
theorem u8_h{s:ByteArray}{n:Nat}(h:0<s.size)(e:s.data.toList.head?=some (UInt8.ofNat n))(hn:n<256):(s[0]).toNat=n:=by
 rw[Lb h]at e
 rw[Option.some.inj e,UInt8.toNat_ofNat',Nat.mod_eq_of_lt (by omega)]
section
variable {l:List Ad} {s a b:ByteArray} {c:Int} {d:Bool}
theorem Fd(e:B5 s=(a,b,c,d))(h:d=false∨Bs a=false∨(s.data.toList.head?≠some 43∧Eb l a=false)):Ex l s=([],false):=by
 unfold Ex
 rw[e,if_pos h]
theorem X0(e:B5 s=(a,b,c,true))(hn:Bs a=true)(h:s.data.toList.head?=some 43):Ex l s=(Ee l ⟨a,c⟩,true):=by
 unfold Ex
 rw[e,if_neg (by rw[hn,h];simp),if_pos h]
theorem Ya(e:B5 s=(a,b,c,true))(hn:Bs a=true)(hh:Eb l a=true)(h:s.data.toList.head?=some 62):Ex l s=(Ee (Dx l a) ⟨b,Cy l a⟩,true):=by
 unfold Ex
 rw[e,if_neg (by rw[hn,hh];simp),if_neg (by rw[h];decide),if_pos h]
theorem W2(e:B5 s=(a,b,c,true))(hn:Bs a=true)(hh:Eb l a=true)(h:s.data.toList.head?=some 45):Ex l s=(Dx l a,true):=by
 unfold Ex
 rw[e,if_neg (by rw[hn,hh];simp),if_neg (by rw[h];decide),if_neg (by rw[h];decide)]
end
theorem Qk{old:List Ad}{xold:List (List D)}{steps:List ByteArray}{xsteps:List (List D)}{n:Int}{oa:List Ad}{xoa:List (List D)}{ob:Bool}(hold:old.map Ac=xold)(hsteps:steps.map cS=xsteps)(hol:old.length≤1000000000)(hsl:steps.length≤1000000000)(hss:okS steps)(hr:D9 old steps n=(oa,ob))(hoa:oa.map Ac=xoa):Fn Tryz.prog 163 [.d (.row 2 xold),.d (.row 1 xsteps),I n] [] ⟨.tup [.d (.row 2 xoa),B ob],[],[]⟩:=by
 refine Fn.go XfC Tryz.func163 fun P hP Q hQ=>?_
 conv=>cbv
 refine .row0 hold fun df z1 c7 bz=>?_
 conv=>cbv
 refine .go hsteps fun v2 cn=>?_
 conv=>cbv
 generalize bu:Ct n 0 v2=r3
 refine .dd hP (W3 bu) ?_
 conv=>cbv
 have hbr:0≤r3∧r3≤steps.length:=by rw[←bu];unfold Ct;split<;>(try split)<;>omega
 refine .frz 2 [8] rfl rfl (by rw[←bz,List.length_map];first|omega|(simp;omega)) ?_
 refine LoopW.lp (κ:=(List (List D))×Int) XfC hP [] [1,2] (fun(aj,i9)=>[(8,.d (.row 2 aj)),(9,I i9)]) (fun(aj,i9)=>[])
  (fun(aj,i9)=>∃(u8:List Ad),u8.map Ac=aj∧0≤i9∧i9≤r3∧D9 old steps n=Cw u8 ((steps.take r3.toNat).drop i9.toNat)∧u8.length≤old.length+i9)
  (fun(aj,i9)=>(r3 - i9).toNat) (z1,0) ⟨old,bz,by omega,by omega,by unfold D9;rw[←cn,bu];rfl,by omega⟩ ⟨rfl,rfl,trivial⟩ rfl ?_
 rintro⟨aj,i9⟩ J ⟨u8,ab,h0,h1,hio,hun⟩ hJ
 conv=>cbv
 refine .lss (fun h4=>?_) fun h4=>?_
 conv=>cbv
 refine .go i9.toNat hsteps fun b0 e5 aa=>?_
 conv=>cbv
 have dg:e5.size≤1000000000:=aa▸hss _ (List.getElem_mem b0)
 have hdc:(steps.take r3.toNat).drop i9.toNat=e5::(steps.take r3.toNat).drop (i9.toNat+1):=by rw[List.drop_eq_getElem_cons (by rw[List.length_take];omega),List.getElem_take,←aa]
 rw[hdc]at hio
 rcases am:B5 e5 with⟨ag,bk,bl,co⟩
 refine .dd hP (XiQ (by omega) am) ?_
 conv=>cbv
 have hlf:=Xi4 am
 cases co
 conv=>cbv
 have e:([],false)=D9 old steps n:=(by rw[hio];show _=(if(Ex u8 e5).2=false then _ else _);rw[Fd am (.inl rfl)];rfl)
 rw[hr]at e
 simp only[Prod.mk.injEq]at e
 obtain⟨rfl,rfl⟩:=e
 refine hQ _ _ ?_
 exact .many (.inl rfl) rfl rfl (.ref rfl rfl (by rw[←hoa];rfl) (.d rfl rfl (.nil)))
 conv=>cbv
 obtain⟨h2z,hh0⟩:=hlf.2 rfl
 have h00:0<e5.size:=by omega
 have hh1:(e5[0]).toNat=43∨(e5[0]).toNat=45∨(e5[0]).toNat=62:=hh0.imp (fun h=>u8_h h00 h (by decide)) fun h=>h.imp (fun h=>u8_h h00 h (by decide)) fun h=>u8_h h00 h (by decide)
 generalize az:Bs ag=r7
 refine .dd hP (M3 (by omega) az) ?_
 cases r7
 conv=>cbv
 have e:([],false)=D9 old steps n:=(by rw[hio];show _=(if(Ex u8 e5).2=false then _ else _);rw[Fd am (.inr (.inl az))];rfl)
 rw[hr]at e
 simp only[Prod.mk.injEq]at e
 obtain⟨rfl,rfl⟩:=e
 refine hQ _ _ ?_
 exact .many (.inl rfl) rfl rfl (.ref rfl rfl (by rw[←hoa];rfl) (.d rfl rfl (.nil)))
 conv=>cbv
 refine .go i9.toNat hsteps fun c8 e8 cp=>?_
 conv=>cbv
 obtain rfl:e5=e8:=aa.trans cp.symm
 refine .go 0 fun hjv9 v9 b2 bv9=>?_
 conv=>cbv
 refine .neq (fun h10=>?_) fun h10=>?_
 conv=>cbv
 generalize aw:Eb u8 ag=cq
 refine .dd hP (Nd ab (by omega) aw) ?_
 cases cq
 conv=>cbv
 have e:([],false)=D9 old steps n:=(by rw[hio];show _=(if(Ex u8 e5).2=false then _ else _);rw[Fd am (.inr (.inr ⟨(Kx (n:=43) h00 b2 (by omega) (by decide)),aw⟩))];rfl)
 rw[hr]at e
 simp only[Prod.mk.injEq]at e
 obtain⟨rfl,rfl⟩:=e
 refine hQ _ _ ?_
 exact .many (.inl rfl) rfl rfl (.ref rfl rfl (by rw[←hoa];rfl) (.d rfl rfl (.nil)))
 conv=>cbv
 refine .go i9.toNat hsteps fun cr ct b3=>?_
 conv=>cbv
 obtain rfl:e5=ct:=aa.trans b3.symm
 refine .go 0 fun hjv13 dh b4 bv13=>?_
 conv=>cbv
 refine .eql (fun h14=>?_) fun h14=>?_
 conv=>cbv
 generalize bn:Cy u8 ag=b5
 refine .dd hP (Mg ab (by omega) bn) ?_
 conv=>cbv
 refine .go i9.toNat hsteps fun cu cv b6=>?_
 conv=>cbv
 obtain rfl:e5=cv:=aa.trans b6.symm
 refine .go 0 fun hjv17 di c9 bv17=>?_
 conv=>cbv
 refine .neq (fun h18=>?_) fun h18=>?_
 conv=>cbv
 generalize a1:Dx u8 ag=b7
 have hln19:=Is a1
 generalize a2:b7.map Ac=b8
 refine .dd hP (Mk ab (by omega) a1 a2) ?_
 conv=>cbv
 refine .go i9.toNat hsteps fun cw cx b9=>?_
 conv=>cbv
 obtain rfl:e5=cx:=aa.trans b9.symm
 refine .go 0 fun hjv21 al ax bv21=>?_
 conv=>cbv
 refine .neq (fun h22=>?_) fun h22=>?_
 conv=>cbv
 generalize a6:Ee b7 (⟨bk,b5⟩:Ad)=cy
 have hln23:=Ga a6
 generalize bo:cy.map Ac=ca
 refine .dd hP (Ja a2 (by omega) a6 bo) ?_
 conv=>cbv
 refine .add fun cb da=>?_
 conv=>cbv
 exact .go [] (ca,cb) (hJ _ ⟨_,bo,by omega,by omega,by rw[hio,show cb.toNat=i9.toNat+1 by omega];show(if(Ex u8 e5).2=false then _ else _)=_;rw[Ya am az aw (Lx (n:=62) h00 b4 (by omega) (by decide)),a1,bn,a6];rfl,by omega⟩ mlt)
 conv=>cbv
 refine .add fun au a7=>?_
 conv=>cbv
 exact .go [] (b8,au) (hJ _ ⟨_,a2,by omega,by omega,by exfalso;omega,by exfalso;omega⟩ mlt)
 conv=>cbv
 refine .go i9.toNat hsteps fun a8 ba an=>?_
 conv=>cbv
 obtain rfl:e5=ba:=aa.trans an.symm
 refine .go 0 fun hjv20 bm ay bv20=>?_
 conv=>cbv
 refine .neq (fun h21=>?_) fun h21=>?_
 conv=>cbv
 generalize ac:Ee u8 (⟨ag,b5⟩:Ad)=bb
 have hln22:=Ga ac
 generalize ad:bb.map Ac=ao
 refine .dd hP (Ja ab (by omega) ac ad) ?_
 conv=>cbv
 refine .add fun au a7=>?_
 conv=>cbv
 exact .go [] (ao,au) (hJ _ ⟨_,ad,by omega,by omega,by exfalso;omega,by exfalso;omega⟩ mlt)
 conv=>cbv
 refine .add fun ah ap=>?_
 conv=>cbv
 exact .go [] (aj,ah) (hJ _ ⟨_,ab,by omega,by omega,by exfalso;omega,by exfalso;omega⟩ mlt)
 conv=>cbv
 refine .go i9.toNat hsteps fun bv bw bc=>?_
 conv=>cbv
 obtain rfl:e5=bw:=aa.trans bc.symm
 refine .go 0 fun hjv16 cz cc bv16=>?_
 conv=>cbv
 refine .neq (fun h17=>?_) fun h17=>?_
 conv=>cbv
 generalize ak:Dx u8 ag=bd
 have hln18:=Is ak
 generalize ai:bd.map Ac=be
 refine .dd hP (Mk ab (by omega) ak ai) ?_
 conv=>cbv
 refine .go i9.toNat hsteps fun a8 ba an=>?_
 conv=>cbv
 obtain rfl:e5=ba:=aa.trans an.symm
 refine .go 0 fun hjv20 bm ay bv20=>?_
 conv=>cbv
 refine .neq (fun h21=>?_) fun h21=>?_
 conv=>cbv
 generalize ac:Ee bd (⟨bk,bl⟩:Ad)=bb
 have hln22:=Ga ac
 generalize ad:bb.map Ac=ao
 refine .dd hP (Ja ai (by omega) ac ad) ?_
 conv=>cbv
 refine .add fun au a7=>?_
 conv=>cbv
 exact .go [] (ao,au) (hJ _ ⟨_,ad,by omega,by omega,by exfalso;omega,by exfalso;omega⟩ mlt)
 conv=>cbv
 refine .add fun ah ap=>?_
 conv=>cbv
 exact .go [] (be,ah) (hJ _ ⟨_,ai,by omega,by omega,by rw[hio,show ah.toNat=i9.toNat+1 by omega];show(if(Ex u8 e5).2=false then _ else _)=_;rw[W2 am az aw (Lx (n:=45) h00 ay (by omega) (by decide)),ak];rfl,by omega⟩ mlt)
 conv=>cbv
 refine .go i9.toNat hsteps fun bf bg aq=>?_
 conv=>cbv
 obtain rfl:e5=bg:=aa.trans aq.symm
 refine .go 0 fun hjv19 cd bp bv19=>?_
 conv=>cbv
 refine .neq (fun h20=>?_) fun h20=>?_
 conv=>cbv
 generalize ae:Ee u8 (⟨ag,bl⟩:Ad)=bh
 have hln21:=Ga ae
 generalize af:bh.map Ac=ar
 refine .dd hP (Ja ab (by omega) ae af) ?_
 conv=>cbv
 refine .add fun ah ap=>?_
 conv=>cbv
 exact .go [] (ar,ah) (hJ _ ⟨_,af,by omega,by omega,by exfalso;omega,by exfalso;omega⟩ mlt)
 conv=>cbv
 refine .add fun al ax=>?_
 conv=>cbv
 exact .go [] (aj,al) (hJ _ ⟨_,ab,by omega,by omega,by exfalso;omega,by exfalso;omega⟩ mlt)
 conv=>cbv
 refine .go i9.toNat hsteps fun c0 c1 ce=>?_
 conv=>cbv
 obtain rfl:e5=c1:=aa.trans ce.symm
 refine .go 0 fun hjv12 dj db bv12=>?_
 conv=>cbv
 refine .eql (fun h13=>?_) fun h13=>?_
 conv=>cbv
 generalize cf:Cy u8 ag=cg
 refine .dd hP (Mg ab (by omega) cf) ?_
 conv=>cbv
 refine .go i9.toNat hsteps fun bv bw bc=>?_
 conv=>cbv
 obtain rfl:e5=bw:=aa.trans bc.symm
 refine .go 0 fun hjv16 cz cc bv16=>?_
 conv=>cbv
 refine .neq (fun h17=>?_) fun h17=>?_
 conv=>cbv
 generalize ak:Dx u8 ag=bd
 have hln18:=Is ak
 generalize ai:bd.map Ac=be
 refine .dd hP (Mk ab (by omega) ak ai) ?_
 conv=>cbv
 refine .go i9.toNat hsteps fun a8 ba an=>?_
 conv=>cbv
 obtain rfl:e5=ba:=aa.trans an.symm
 refine .go 0 fun hjv20 bm ay bv20=>?_
 conv=>cbv
 refine .neq (fun h21=>?_) fun h21=>?_
 conv=>cbv
 generalize ac:Ee bd (⟨bk,cg⟩:Ad)=bb
 have hln22:=Ga ac
 generalize ad:bb.map Ac=ao
 refine .dd hP (Ja ai (by omega) ac ad) ?_
 conv=>cbv
 refine .add fun au a7=>?_
 conv=>cbv
 exact .go [] (ao,au) (hJ _ ⟨_,ad,by omega,by omega,by exfalso;omega,by exfalso;omega⟩ mlt)
 conv=>cbv
 refine .add fun ah ap=>?_
 conv=>cbv
 exact .go [] (be,ah) (hJ _ ⟨_,ai,by omega,by omega,by exfalso;omega,by exfalso;omega⟩ mlt)
 conv=>cbv
 refine .go i9.toNat hsteps fun bf bg aq=>?_
 conv=>cbv
 obtain rfl:e5=bg:=aa.trans aq.symm
 refine .go 0 fun hjv19 cd bp bv19=>?_
 conv=>cbv
 refine .neq (fun h20=>?_) fun h20=>?_
 conv=>cbv
 generalize ae:Ee u8 (⟨ag,cg⟩:Ad)=bh
 have hln21:=Ga ae
 generalize af:bh.map Ac=ar
 refine .dd hP (Ja ab (by omega) ae af) ?_
 conv=>cbv
 refine .add fun ah ap=>?_
 conv=>cbv
 exact .go [] (ar,ah) (hJ _ ⟨_,af,by omega,by omega,by exfalso;omega,by exfalso;omega⟩ mlt)
 conv=>cbv
 refine .add fun al ax=>?_
 conv=>cbv
 exact .go [] (aj,al) (hJ _ ⟨_,ab,by omega,by omega,by exfalso;omega,by exfalso;omega⟩ mlt)
 conv=>cbv
 refine .go i9.toNat hsteps fun c2 c3 ch=>?_
 conv=>cbv
 obtain rfl:e5=c3:=aa.trans ch.symm
 refine .go 0 fun hjv15 dk dc bv15=>?_
 conv=>cbv
 refine .neq (fun h16=>?_) fun h16=>?_
 conv=>cbv
 generalize bq:Dx u8 ag=ci
 have hln17:=Is bq
 generalize bi:ci.map Ac=cj
 refine .dd hP (Mk ab (by omega) bq bi) ?_
 conv=>cbv
 refine .go i9.toNat hsteps fun bf bg aq=>?_
 conv=>cbv
 obtain rfl:e5=bg:=aa.trans aq.symm
 refine .go 0 fun hjv19 cd bp bv19=>?_
 conv=>cbv
 refine .neq (fun h20=>?_) fun h20=>?_
 conv=>cbv
 generalize ae:Ee ci (⟨bk,bl⟩:Ad)=bh
 have hln21:=Ga ae
 generalize af:bh.map Ac=ar
 refine .dd hP (Ja bi (by omega) ae af) ?_
 conv=>cbv
 refine .add fun ah ap=>?_
 conv=>cbv
 exact .go [] (ar,ah) (hJ _ ⟨_,af,by omega,by omega,by exfalso;omega,by exfalso;omega⟩ mlt)
 conv=>cbv
 refine .add fun al ax=>?_
 conv=>cbv
 exact .go [] (cj,al) (hJ _ ⟨_,bi,by omega,by omega,by exfalso;omega,by exfalso;omega⟩ mlt)
 conv=>cbv
 refine .go i9.toNat hsteps fun c4 c5 ck=>?_
 conv=>cbv
 obtain rfl:e5=c5:=aa.trans ck.symm
 refine .go 0 fun hjv18 dl de bv18=>?_
 conv=>cbv
 refine .neq (fun h19=>?_) fun h19=>?_
 conv=>cbv
 generalize bj:Ee u8 (⟨ag,bl⟩:Ad)=c6
 have hln20:=Ga bj
 generalize bt:c6.map Ac=cm
 refine .dd hP (Ja ab (by omega) bj bt) ?_
 conv=>cbv
 refine .add fun al ax=>?_
 conv=>cbv
 exact .go [] (cm,al) (hJ _ ⟨_,bt,by omega,by omega,by rw[hio,show al.toNat=i9.toNat+1 by omega];show(if(Ex u8 e5).2=false then _ else _)=_;rw[X0 am az (Lx (n:=43) h00 b2 (by omega) (by decide)),bj];rfl,by omega⟩ mlt)
 conv=>cbv
 refine .add fun bm ay=>?_
 conv=>cbv
 exact .go [] (aj,bm) (hJ _ ⟨_,ab,by omega,by omega,by exfalso;omega,by exfalso;omega⟩ mlt)
 conv=>cbv
 have e:(u8,true)=D9 old steps n:=(by rw[hio,List.drop_of_length_le (by rw[List.length_take];omega)];rfl)
 rw[hr]at e
 simp only[Prod.mk.injEq]at e
 obtain⟨rfl,rfl⟩:=e
 refine hQ _ _ ?_
 exact .many (.inl rfl) rfl rfl (.d rfl (A5 ab hoa) (.d rfl rfl (.nil)))
end
section
open Go Go.Proofs
set_option maxRecDepth 20000
set_option maxHeartbeats 4000000
def W9:List (Nat×TyRow):=[ty3,ty9,Xay,XgT,XaS,Xn,Xi]
theorem XaT:B8 Tryz.prog W9:=B8.of (by kernel_rfl)
theorem Xjc:Setup Tryz.prog W9:=⟨XaT,mixed⟩
theorem Xa4(a:List UInt8):Op.bytesLess a a=false:=by
 cases h:Op.bytesLess a a with
 |false=>rfl
 |true=>have:=M7 a a h;rw[h]at this;cases this
theorem V7:∀a b c:List UInt8,Op.bytesLess a b=true→Op.bytesLess b c=true→Op.bytesLess a c=true
 |_,[],_,h,_=>by simp[Op.bytesLess]at h
 |_,_::_,[],_,h=>by simp[Op.bytesLess]at h
 |[],_::_,_::_,_,_=>by simp[Op.bytesLess]
 |a::x,b::y,c::z,h1,h2=>by
  simp only[Op.bytesLess,Bool.or_eq_true,decide_eq_true_eq,Bool.and_eq_true,beq_iff_eq]at h1 h2⊢
  rcases h1 with h1|⟨rfl,h1⟩
  ·rcases h2 with h2|⟨rfl,h2⟩
   ·exact .inl (UInt8.lt_trans h1 h2)
   ·exact .inl h1
  ·rcases h2 with h2|⟨rfl,h2⟩
   ·exact .inl h2
   ·exact .inr ⟨rfl,V7 x y z h1 h2⟩
theorem Y9(a:ByteArray):ltB a a=false:=Xa4 _
theorem XcN{a b c:ByteArray}(h:ltB a b=true)(k:ltB b c=true):ltB a c=true:=V7 _ _ _ h k
theorem Xht{a b:ByteArray}(h:ltB a b=true):a≠b:=by
 rintro rfl
 rw[Y9]at h
 cases h
theorem XkZ{a b:ByteArray}(h:ltB a b=false)(hn:a≠b):ltB b a=true:=by
 have:=Xdr a b
 rw[h]at this
 simp only[Bool.not_false,Bool.true_eq,Bool.or_eq_true,decide_eq_true_eq]at this
 exact this.resolve_right fun e=>hn e.symm
def srt(l:List Ad):Prop:=l.Pairwise fun a b=>ltB a.name_ b.name_=true
theorem XbT{α:Type}{p:α→Bool}{x:α}{l:List α}:Su p (x::l)=if p x=true then 0 else if Su p l<0 then -1 else Su p l+1:=by
 unfold Su
 rw[List.findIdx_cons]
 cases hp:p x with
 |true=>simp
 |false=>
  simp only[List.length_cons,cond_false,Bool.false_eq_true,if_false]
  by_cases h:l.findIdx p<l.length
  ·rw[if_pos (show l.findIdx p+1<l.length+1 by omega),if_pos h,if_neg (show¬(l.findIdx p:Int)<0 by omega)]
   omega
  ·rw[if_neg (show¬l.findIdx p+1<l.length+1 by omega),if_neg h,if_pos (by decide)]
theorem O1{x:Ad}{l:List Ad}{n:ByteArray}:Aw (x::l) n=if x.name_=n then 0 else if Aw l n<0 then -1 else Aw l n+1:=by
 show Su (fun e=>Cn e n) (x::l)=_
 rw[XbT]
 unfold Cn
 simp only[decide_eq_true_eq]
 rfl
theorem Zl{l:List Ad}{n:ByteArray}: -1≤Aw l n:=(I1 rfl).1
theorem XjN{l:List Ad}{n:ByteArray}(h:∀x∈l,x.name_≠n):Aw l n<0:=by
 have hb:=Zl (l:=l) (n:=n)
 rcases Int.lt_or_le (Aw l n) 0 with k|k
 ·exact k
 ·obtain⟨hi,hp⟩:=Rn (p:=fun e=>Cn e n) (rfl:Aw l n=_) k
  unfold Cn at hp
  rw[decide_eq_true_eq]at hp
  exact absurd hp (h _ (List.getElem_mem hi))
theorem XaE{l:List Ad}{n:ByteArray}{i k:Int}(h:Aw l n=k)(hk:0≤k):Ut l n i=l.set k.toNat ⟨(l.getD k.toNat ⟨tx [],0⟩).name_,i⟩:=by
 subst h
 exact if_pos hk
theorem Q7{l:List Ad}{n:ByteArray}{i k:Int}(h:Aw l n<0)(hk:Cr l n=k):Ut l n i=I0 l (if k<0 then l.length else k) [⟨n,i⟩]:=by
 subst hk
 exact if_neg (by omega)
theorem Xix{x:Ad}{l:List Ad}{n:ByteArray}{i:Int}:Ut (x::l) n i=if x.name_=n then⟨n,i⟩::l else if Aw l n<0∧Kg x n=true then⟨n,i⟩::x::l else x::Ut l n i:=by
 have hb:=Zl (l:=l) (n:=n)
 by_cases hx:x.name_=n
 ·rw[if_pos hx,XaE (k:=0) (by rw[O1,if_pos hx]) (by decide)]
  simp[hx]
 ·rw[if_neg hx]
  by_cases hp:Aw l n<0
  ·have hpc:Aw (x::l) n<0:=by rw[O1,if_neg hx,if_pos hp];decide
   have hc:Cr (x::l) n=if Kg x n=true then 0 else if Cr l n<0 then -1 else Cr l n+1:=XbT (p:=fun e=>Kg e n)
   by_cases h1:Kg x n=true
   ·rw[if_pos ⟨hp,h1⟩,Q7 hpc (k:=0) (by rw[hc,if_pos h1]),if_neg (by decide)]
    simp[I0]
   ·rw[if_neg (fun h=>h1 h.2)]
    by_cases h2:Cr l n<0
    ·rw[Q7 hpc (k:=-1) (by rw[hc,if_neg h1,if_pos h2]),if_pos (by decide),Q7 hp rfl,if_pos h2]
     simp[I0]
    ·rw[Q7 hpc (by rw[hc,if_neg h1,if_neg h2]),if_neg (by omega),Q7 hp rfl,if_neg h2]
     unfold I0
     rw[show(Cr l n+1).toNat=(Cr l n).toNat+1 by omega]
     simp
  ·rw[if_neg (fun h=>hp h.1),XaE (k:=Aw l n+1) (by rw[O1,if_neg hx,if_neg hp]) (by omega),XaE (l:=l) rfl (by omega),show(Aw l n+1).toNat=(Aw l n).toNat+1 by omega]
   simp
theorem S9{e:Ad}:∀{l:List Ad},(∀x∈l,x.name_≠e.name_)→T8 e l true=l
 |[],_=>rfl
 |x::l,h=>by
  unfold T8
  rw[if_neg (by simp),if_neg (h x List.mem_cons_self),Bool.true_or,S9 fun y hy=>h y (List.mem_cons_of_mem _ hy)]
  rfl
theorem Xb0{n:ByteArray}{i:Int}:∀{l:List Ad},srt l→Ee l ⟨n,i⟩=Ut l n i
 |[],_=>rfl
 |x::l,h=>by
  have hs:=List.pairwise_cons.1 h
  have ih:=Xb0 (n:=n) (i:=i) hs.2
  unfold Ee at ih⊢
  rw[Xix]
  unfold T8
  by_cases hx:x.name_=n
  ·rw[if_pos hx,hx,Y9,if_pos ⟨rfl,rfl⟩,if_pos rfl,Bool.not_false,Bool.or_true,S9 (fun y hy e=>by
    have:=hs.1 y hy
    rw[hx]at this
    exact Xht this e.symm)]
   rfl
  ·rw[if_neg hx,if_neg hx]
   cases hl:ltB x.name_ n with
   |true=>
    rw[if_neg (by simp),if_neg (by unfold Kg;rw[hl];simp),Bool.not_true,Bool.or_false,ih]
    rfl
   |false=>
    have hg:=XkZ hl hx
    have hne:∀y∈l,y.name_≠n:=fun y hy e=>Xht (XcN hg (hs.1 y hy)) e.symm
    rw[if_pos ⟨rfl,rfl⟩,if_pos ⟨XjN hne,by unfold Kg;rw[hl,decide_eq_false hx];rfl⟩,Bool.not_false,Bool.or_true,S9 hne]
    rfl
theorem Wl{n:ByteArray}:∀{l:List Ad},srt l→0≤Aw l n→Dx l n=l.eraseIdx (Aw l n).toNat
 |[],_,h=>by
  exfalso
  have:Aw [] n= -1:=rfl
  omega
 |x::l,h,hp=>by
  have hs:=List.pairwise_cons.1 h
  have hb:=Zl (l:=l) (n:=n)
  rw[O1]at hp⊢
  unfold Dx
  rw[List.filter_cons]
  by_cases hx:x.name_=n
  ·rw[if_pos hx,decide_eq_true hx]
   have:l.filter (fun x=>!decide (x.name_=n))=l:=by
    rw[List.filter_eq_self]
    intro y hy
    rw[decide_eq_false]
    ·rfl
    ·rintro rfl
     exact Xht (hs.1 y hy) hx
   simp[this]
  ·rw[if_neg hx]at hp⊢
   rw[decide_eq_false hx]
   by_cases h2:Aw l n<0
   ·rw[if_pos h2]at hp;omega
   ·rw[if_neg h2,show(Aw l n+1).toNat=(Aw l n).toNat+1 by omega,List.eraseIdx_cons_succ,←Wl hs.2 (by omega)]
    rfl
theorem XdX{d:Aa}{l:List Ad}(h:Bc d l=true){i:Nat}(hi:i<l.length):Fm d l i=true:=by
 unfold Bc at h
 rw[Bool.and_eq_true]at h
 exact List.all_eq_true.1 h.1 i (List.mem_range.2 hi)
theorem XhK{d:Aa}{l:List Ad}(h:Bc d l=true){i:Nat}(hi:i+1<l.length):ltB l[i].name_ l[i+1].name_=true:=by
 have h1:=XdX h hi
 unfold Fm at h1
 rw[XbO hi rfl,show i+1 - 1=i by omega,XbO (show i<l.length by omega) rfl,decide_eq_false (show¬i+1=0 by omega),Bool.false_or,←Xdr]at h1
 simp only[Bool.not_not,Bool.and_eq_true]at h1
 exact h1.1.1
theorem Xg3{d:Aa}{l:List Ad}(h:Bc d l=true):srt l:=by
 have key:∀(k i:Nat) (hk:i+1+k<l.length),ltB l[i].name_ l[i+1+k].name_=true:=by
  intro k
  induction k with
  |zero=>intro i hk;exact XhK h hk
  |succ k ih=>intro i hk;exact XcN (ih i (by omega)) (XhK h (i:=i+1+k) (by omega))
 refine List.pairwise_iff_getElem.2 fun i j hi hj hij=>?_
 have:=key (j - i - 1) i (by omega)
 simpa only[show i+1+(j - i - 1)=j by omega]using this
theorem XeH{l:List Ad}{n:ByteArray}(h:srt l):srt (Dx l n):=List.Pairwise.filter _ h
theorem W5{l:List Ad}{s:ByteArray}(h:srt l):Ex l s=Ap l s:=by
 by_cases hne:s=tx []
 ·subst hne
  rw[XeK rfl]
  exact Fd (a:=tx []) (b:=tx []) (c:=0) (d:=false) rfl (.inl rfl)
 have hp:=XeF hne
 have hhd:=Lb hp
 obtain⟨a,b,c,hc⟩:∃a b c,K0 (s.extract 1 s.size)=(a,b,c):=⟨_,_,_,rfl⟩
 have hlt2:c=true→2≤s.size:=by
  rintro rfl
  unfold K0 at hc
  split at hc
  ·rename_i h0
   have:=(Ye (rfl:Jn (s.extract 1 s.size)=_)).2
   rw[ByteArray.size_extract]at this
   omega
  ·simp at hc
 by_cases h43:s.data.toList.head?=some 43
 ·rw[Ml hne h43 hc]
  cases c with
  |false=>
   rw[if_pos (.inl rfl)]
   by_cases aa:s.size<2
   ·exact Fd (Xs (.inl aa)).symm (.inl rfl)
   ·exact Fd (Zi (by omega) (.inl h43) (by rw[h43];decide) (by rw[hc])).symm (.inl rfl)
  |true=>
   have hm:=Uj (hlt2 rfl) h43 hc
   cases hr:(Ba b).2 with
   |false=>rw[if_pos (.inr (.inl rfl))];exact Fd hm (.inl (by rw[hr];rfl))
   |true=>
    cases hn:Bs a with
    |false=>rw[if_pos (.inr (.inr rfl))];exact Fd hm (.inr (.inl hn))
    |true=>
     rw[if_neg (by simp)]
     rw[hr,hn]at hm
     rw[X0 hm hn h43,Xb0 h]
 ·by_cases h45:s.data.toList.head?=some 45
  ·rw[Sn hne h45]
   by_cases aa:s.size<2
   ·have e:s.extract 1 s.size=tx []:=by
     apply Nr
     rw[Dr,List.drop_of_length_le (by rw[List.length_take,Array.length_toList];show min _ s.size≤1;omega)]
     rfl
    rw[Fd (Xs (.inl aa)).symm (.inl rfl),e]
    unfold G5
    rw[if_pos (.inr (by decide))]
   ·have hm:=(Xbb (by omega) h45).symm
    unfold G5
    by_cases hpl:Aw l (s.extract 1 s.size)<0
    ·rw[if_pos (.inl hpl)]
     exact Fd hm (.inr (.inr ⟨h43,by unfold Eb;rw[decide_eq_false_iff_not];omega⟩))
    ·cases hn:Bs (s.extract 1 s.size)with
     |false=>rw[if_pos (.inr rfl)];exact Fd hm (.inr (.inl hn))
     |true=>
      rw[if_neg (by rintro(k|k);exact hpl k;cases k),W2 hm hn (by unfold Eb;rw[decide_eq_true_eq];omega) h45,Wl h (by omega)]
      rfl
  ·by_cases h62:s.data.toList.head?=some 62
   ·rw[Ku hne h62 hc]
    cases c with
    |false=>
     rw[if_pos (.inl rfl)]
     by_cases aa:s.size<2
     ·exact Fd (Xs (.inl aa)).symm (.inl rfl)
     ·exact Fd (Zi (by omega) (.inr (.inr h62)) h45 (by rw[hc])).symm (.inl rfl)
    |true=>
     have hm:=Ug (hlt2 rfl) h62 hc
     cases hnb:Bs b with
     |false=>rw[if_pos (.inr (.inr (.inl rfl)))];exact Fd hm (.inl (by rw[hnb];rfl))
     |true=>
      by_cases hab:a=b
      ·rw[if_pos (.inr (.inr (.inr hab)))];exact Fd hm (.inl (by rw[hnb,decide_eq_true hab];rfl))
      ·rw[hnb,decide_eq_false hab]at hm
       by_cases hpl:Aw l a<0
       ·have hd:G5 l a=([],false):=by unfold G5;rw[if_pos (.inl hpl)]
        rw[hd,if_pos (.inr (.inl rfl))]
        exact Fd hm (.inr (.inr ⟨h43,by unfold Eb;rw[decide_eq_false_iff_not];omega⟩))
       ·cases hn:Bs a with
        |false=>
         have hd:G5 l a=([],false):=by unfold G5;rw[if_pos (.inr hn)]
         rw[hd,if_pos (.inr (.inl rfl))]
         exact Fd hm (.inr (.inl hn))
        |true=>
         have hd:G5 l a=(Dx l a,true):=by unfold G5;rw[if_neg (by rw[hn];rintro(k|k);exact hpl k;cases k),Wl h (by omega)];rfl
         rw[hd,if_neg (by simp;exact hab),Ya hm hn (by unfold Eb;rw[decide_eq_true_eq];omega) h62,Xb0 (XeH h)]
   ·rw[XcJ hne hhd (fun e=>h43 (by rw[hhd,e])) (fun e=>h45 (by rw[hhd,e])) (fun e=>h62 (by rw[hhd,e]))]
    exact Fd (Xs (.inr ⟨h43,h45,h62⟩)).symm (.inl rfl)
def Xdc(d:Aa)(k:Nat):Bool:=if(Cw d.old_ (d.steps_.take k)).2=true then Er d (Cw d.old_ (d.steps_.take k)).1 (d.steps_.drop k)else false
theorem XfE{s:ByteArray}:∀(l:List ByteArray) (now:List Ad),Cw now (l++[s])=if(Cw now l).2=true then(if(Ex (Cw now l).1 s).2=false then([],false)else Ex (Cw now l).1 s)else([],false)
 |[],now=>by
  show(if(Ex now s).2=false then _ else Cw (Ex now s).1 [])=if true=true then _ else _
  rw[if_pos rfl]
  cases h:Ex now s with
  |mk x b=>cases b<;>simp[Cw,h]
 |y::l,now=>by
  show(if(Ex now y).2=false then _ else Cw (Ex now y).1 (l++[s]))=if(if(Ex now y).2=false then _ else Cw (Ex now y).1 l).2=true then _ else _
  by_cases h:(Ex now y).2=false
  ·rw[if_pos h,if_pos h,if_neg (by decide)]
  ·rw[if_neg h,if_neg h,XfE l]
   have e:Cw now (y::l)=Cw (Ex now y).1 l:=if_neg h
   rw[e]
theorem Xer{d:Aa}{k:Nat}{x:List Ad}(hk:k<d.steps_.length)(h:Cw d.old_ (d.steps_.take k)=(x,true))(hr:Bc d x=true):Cw d.old_ (d.steps_.take (k+1))=if(Ap x d.steps_[k]).2=false then([],false)else Ap x d.steps_[k]:=by
 rw[List.take_succ_eq_append_getElem hk,XfE,h,if_pos rfl,W5 (Xg3 hr)]
theorem Xgo{d:Aa}{k:Nat}{x:List Ad}(hk:k<d.steps_.length)(h:Cw d.old_ (d.steps_.take k)=(x,true))(hr:Bc d x=true):Xdc d (k+1)=Xdc d k:=by
 obtain⟨y,b,hy⟩:∃y b,Ap x d.steps_[k]=(y,b):=⟨_,_,rfl⟩
 unfold Xdc
 rw[Xer hk h hr,h,if_pos (show(x,true).2=true from rfl),List.drop_eq_getElem_cons hk]
 show _=(Bc d x&&(Ap x d.steps_[k]).2&&Er d (Ap x d.steps_[k]).1 _)
 rw[hr,hy]
 cases b<;>rfl
theorem Xcg{old:List Ad}{steps:List ByteArray}{k:Int}(h0:0≤k)(h1:k≤steps.length):D9 old steps k=Cw old (steps.take k.toNat):=by
 unfold D9
 rw[show Ct k 0 steps.length=k from by unfold Ct;split<;>(try split)<;>(try split)<;>omega]
def Xj4(d:Aa)(k:Nat):Prop:=Er d d.old_ d.steps_=Xdc d k∧okL (Cw d.old_ (d.steps_.take k)).1∧(Cw d.old_ (d.steps_.take k)).1.length≤1000000000
theorem Xgj{d:Aa}(hd:I9 d):Xj4 d 0:=⟨rfl,hd.2.1,hd.1.2.2.2.2.1⟩
theorem XgR{d:Aa}(hd:I9 d){k:Nat}{x:List Ad}(hq:Xj4 d k)(hk:k<d.steps_.length)(h:Cw d.old_ (d.steps_.take k)=(x,true))(hr:Bc d x=true):Xj4 d (k+1):=by
 obtain⟨h1,h2,h3⟩:=hq
 have hx:=Uh hr
 rw[h]at h2 h3
 refine⟨by rw[h1,Xgo hk h hr],?_⟩
 rw[Xer hk h hr]
 obtain⟨y,b,hy⟩:∃y b,Ap x d.steps_[k]=(y,b):=⟨_,_,rfl⟩
 have hl:=Mo hy
 have ho:=Xak h2 (hd.2.2 _ (List.getElem_mem hk)) hy
 rw[hy]
 cases b
 ·exact⟨fun e he=>(by cases he),Nat.zero_le _⟩
 ·exact⟨ho,by show y.length≤_;omega⟩
theorem Oi:Setup Tryz.prog ((3000007,E7 Tryz.prog 3000007)::((3000001,E7 Tryz.prog 3000001)::W9)):=(Setup.mark 3000007 (Setup.mark 3000001 Xjc))
theorem M9{Ae:List Ax}{Be:List (List D)}{Ah:List Ad}{Bf:List (List D)}{Ai:List Ad}{A9:List (List D)}{Af:List ByteArray}{Bg:List (List D)}{An:Int}{Al:Int}{o:Bool}(Aj:Ae.map A6=Be)(Ak:Ah.map Ac=Bf)(Ao:Ai.map Ac=A9)(Am:Af.map cS=Bg)(ac:I9 ⟨Ae,Ah,Ai,Af,An,Al⟩)(hr:Bk (⟨Ae,Ah,Ai,Af,An,Al⟩:Aa)=o):Fn Tryz.prog 84 [.agg [.d (.row 3 Be),.d (.row 2 Bf),.d (.row 2 A9),.d (.row 1 Bg),I An,I Al]] [] ⟨B o,[],[]⟩:=by
 refine Fn.go Oi Tryz.func84 fun P hP Q hQ=>?_
 conv=>cbv
 refine .go Aj fun v1 bl=>?_
 conv=>cbv
 have hdo:Ai.length≤1000000000:=ac.1.2.2.2.2.1
 have hds:Af.length≤1000000000:=ac.1.2.2.2.2.2
 refine .gtr (fun h2=>?_) fun h2=>?_
 conv=>cbv
 refine .go2 (by kernel_rfl) ?_
 conv=>cbv
 have e:false=Bk (⟨Ae,Ah,Ai,Af,An,Al⟩:Aa):=(by exact D3 fun h=>by rw[diskOk_iff]at h;have:=h.2.2.1;unfold Ec at this;rw[decide_eq_false (by simp only[];omega),Bool.and_false]at this;cases this)
 rw[hr]at e
 subst e
 exact hQ _ _ (.b rfl rfl)
 conv=>cbv
 generalize af:A7 An 0 1000000000=r3
 refine .dd hP (Dq af) ?_
 cases r3
 simp only[A7,decide_eq_true_eq,decide_eq_false_iff_not]at af
 conv=>cbv
 refine .go2 (by kernel_rfl) ?_
 conv=>cbv
 have e:false=Bk (⟨Ae,Ah,Ai,Af,An,Al⟩:Aa):=(by exact D3 fun h=>by rw[diskOk_iff]at h;exact af h.1)
 rw[hr]at e
 subst e
 exact hQ _ _ (.b rfl rfl)
 simp only[A7,decide_eq_true_eq,decide_eq_false_iff_not]at af
 conv=>cbv
 generalize ag:A7 Al 1 1000000000=r4
 refine .dd hP (Dq ag) ?_
 cases r4
 simp only[A7,decide_eq_true_eq,decide_eq_false_iff_not]at ag
 conv=>cbv
 refine .go2 (by kernel_rfl) ?_
 conv=>cbv
 have e:false=Bk (⟨Ae,Ah,Ai,Af,An,Al⟩:Aa):=(by exact D3 fun h=>by rw[diskOk_iff]at h;exact ag h.2.1)
 rw[hr]at e
 subst e
 exact hQ _ _ (.b rfl rfl)
 simp only[A7,decide_eq_true_eq,decide_eq_false_iff_not]at ag
 conv=>cbv
 generalize aq:F1 (⟨Ae,Ah,Ai,Af,An,Al⟩:Aa)=r5
 refine .dd hP (XfT Aj Ak Ao Am ac.1 aq) ?_
 conv=>cbv
 refine .gtr (fun h6=>?_) fun h6=>?_
 conv=>cbv
 refine .go2 (by kernel_rfl) ?_
 conv=>cbv
 have e:false=Bk (⟨Ae,Ah,Ai,Af,An,Al⟩:Aa):=(by exact D3 fun h=>by rw[diskOk_iff]at h;have:=h.2.2.2.1;rw[aq]at this;simp only[]at this;omega)
 rw[hr]at e
 subst e
 exact hQ _ _ (.b rfl rfl)
 conv=>cbv
 refine .go2 (by kernel_rfl) ?_
 conv=>cbv
 refine LoopW.lp (κ:=Int) Oi hP [] [1] (fun i3=>[(3,I i3)]) (fun i3=>[])
  (fun i3=>0≤i3∧i3≤Ae.length∧∀j:Nat,j<i3.toNat→Ep (⟨Ae,Ah,Ai,Af,An,Al⟩:Aa) j=true)
  (fun i3=>(Ae.length - i3).toNat) (0) ⟨by omega,by omega,fun j h=>by simp at h⟩ ⟨rfl,trivial⟩ rfl ?_
 rintro i3 J ⟨h0,h1,hb⟩ hJ
 have bm:Ae.length≤1000000000:=ac.1.1
 conv=>cbv
 refine .go Aj fun v7 bn=>?_
 conv=>cbv
 refine .lss (fun h8=>?_) fun h8=>?_
 conv=>cbv
 refine .go i3.toNat Aj fun ad ⟨aw,a7,ah⟩ a8=>?_
 conv=>cbv
 refine .sub fun ba bj=>?_
 conv=>cbv
 have hnd:=XiS (d:=(⟨Ae,Ah,Ai,Af,An,Al⟩:Aa)) ad a8
 generalize ab:A7 aw 1 ba=bb
 refine .dd hP (Dq ab) ?_
 cases bb
 simp only[A7,decide_eq_true_eq,decide_eq_false_iff_not]at ab
 conv=>cbv
 refine .go2 (by kernel_rfl) ?_
 conv=>cbv
 have e:false=Bk (⟨Ae,Ah,Ai,Af,An,Al⟩:Aa):=(by exact D3 fun h=>by rw[diskOk_iff]at h;have h3:=h.2.2.1;rw[←Jv (d:=(⟨Ae,Ah,Ai,Af,An,Al⟩:Aa)) ad (by unfold Ep;rw[decide_eq_false_iff_not,hnd];simp only[];omega)]at h3;cases h3)
 rw[hr]at e
 subst e
 exact hQ _ _ (.b rfl rfl)
 simp only[A7,decide_eq_true_eq,decide_eq_false_iff_not]at ab
 conv=>cbv
 refine .gtr (fun h12=>?_) fun h12=>?_
 conv=>cbv
 refine .sub fun ai ao=>?_
 conv=>cbv
 refine .go ai.toNat Aj fun ar ⟨bc,a2,a6⟩ ax=>?_
 conv=>cbv
 have hpd:=XiS (d:=(⟨Ae,Ah,Ai,Af,An,Al⟩:Aa)) ar ax
 rw[show ai.toNat=i3.toNat - 1 by omega]at hpd
 refine .geq (fun h15=>?_) fun h15=>?_
 conv=>cbv
 refine .go2 (by kernel_rfl) ?_
 conv=>cbv
 have e:false=Bk (⟨Ae,Ah,Ai,Af,An,Al⟩:Aa):=(by exact D3 fun h=>by rw[diskOk_iff]at h;have h3:=h.2.2.1;rw[←Jv (d:=(⟨Ae,Ah,Ai,Af,An,Al⟩:Aa)) ad (by unfold Ep;rw[decide_eq_false_iff_not,hnd];simp only[];rw[hpd];simp only[];omega)]at h3;cases h3)
 rw[hr]at e
 subst e
 exact hQ _ _ (.b rfl rfl)
 conv=>cbv
 refine .go fun au ay=>?_
 conv=>cbv
 generalize aj:A7 ah 0 au=bd
 refine .dd hP (Dq aj) ?_
 cases bd
 simp only[A7,decide_eq_true_eq,decide_eq_false_iff_not]at aj
 conv=>cbv
 refine .go2 (by kernel_rfl) ?_
 conv=>cbv
 have e:false=Bk (⟨Ae,Ah,Ai,Af,An,Al⟩:Aa):=(by exact D3 fun h=>by rw[diskOk_iff]at h;have h3:=h.2.2.1;rw[←Jv (d:=(⟨Ae,Ah,Ai,Af,An,Al⟩:Aa)) ad (by unfold Ep;rw[decide_eq_false_iff_not,hnd];simp only[];omega)]at h3;cases h3)
 rw[hr]at e
 subst e
 exact hQ _ _ (.b rfl rfl)
 simp only[A7,decide_eq_true_eq,decide_eq_false_iff_not]at aj
 conv=>cbv
 refine .go2 (by kernel_rfl) ?_
 conv=>cbv
 refine .add fun be bk=>?_
 conv=>cbv
 exact .go [] (be) (hJ _ ⟨by omega,by omega,fun j h=>if e:j=i3.toNat then by subst e;unfold Ep;rw[decide_eq_true_eq,hnd,hpd];simp only[];omega else hb j (by omega)⟩ mlt)
 conv=>cbv
 refine .go fun ai ao=>?_
 conv=>cbv
 generalize ak:A7 ah 0 ai=bf
 refine .dd hP (Dq ak) ?_
 cases bf
 simp only[A7,decide_eq_true_eq,decide_eq_false_iff_not]at ak
 conv=>cbv
 refine .go2 (by kernel_rfl) ?_
 conv=>cbv
 have e:false=Bk (⟨Ae,Ah,Ai,Af,An,Al⟩:Aa):=(by exact D3 fun h=>by rw[diskOk_iff]at h;have h3:=h.2.2.1;rw[←Jv (d:=(⟨Ae,Ah,Ai,Af,An,Al⟩:Aa)) ad (by unfold Ep;rw[decide_eq_false_iff_not,hnd];simp only[];omega)]at h3;cases h3)
 rw[hr]at e
 subst e
 exact hQ _ _ (.b rfl rfl)
 simp only[A7,decide_eq_true_eq,decide_eq_false_iff_not]at ak
 conv=>cbv
 refine .go2 (by kernel_rfl) ?_
 conv=>cbv
 refine .add fun an az=>?_
 conv=>cbv
 exact .go [] (an) (hJ _ ⟨by omega,by omega,fun j h=>if e:j=i3.toNat then by subst e;unfold Ep;rw[decide_eq_true_eq,hnd];simp only[];omega else hb j (by omega)⟩ mlt)
 conv=>cbv
 refine LoopW.lp (κ:=Int) Oi hP [] [1] (fun i5=>[(5,I i5)]) (fun i5=>[])
  (fun i5=>0≤i5∧i5≤Af.length+1∧(i5≤Af.length→Xj4 (⟨Ae,Ah,Ai,Af,An,Al⟩:Aa) i5.toNat)∧(i5=Af.length+1→Er (⟨Ae,Ah,Ai,Af,An,Al⟩:Aa) Ai Af=true))
  (fun i5=>(Af.length+1 - i5).toNat) (0) ⟨by omega,by omega,fun _=>Xgj ac,fun h=>by omega⟩ ⟨rfl,trivial⟩ rfl ?_
 rintro i5 J1 ⟨k0,k1,hQk,hQe⟩ a1
 conv=>cbv
 refine .go Am fun v9 bo=>?_
 conv=>cbv
 refine .leq (fun h10=>?_) fun h10=>?_
 conv=>cbv
 have hq:=hQk (by omega)
 have hS0:=Xcg (old:=Ai) (steps:=Af) (k:=i5) (by omega) (by omega)
 rcases ab:D9 Ai Af i5 with⟨aa,ap⟩
 generalize ae:aa.map Ac=bg
 refine .dd hP (Qk Ao Am (by omega) (by omega) ac.2.2 ab ae) ?_
 conv=>cbv
 have hS:Cw Ai (Af.take i5.toNat)=(aa,ap):=hS0.symm.trans ab
 have hul:okL aa:=by have:=hq.2.1;simp only[]at this;rw[hS]at this;exact this
 have hun:aa.length≤1000000000:=by have:=hq.2.2;simp only[]at this;rw[hS]at this;exact this
 cases ap
 conv=>cbv
 have e:false=Bk (⟨Ae,Ah,Ai,Af,An,Al⟩:Aa):=(by exact D3 fun h=>by rw[diskOk_iff]at h;have hk:=h.2.2.2.2;simp only[]at hk;rw[hq.1]at hk;unfold Xdc at hk;simp only[]at hk;rw[hS]at hk;cases hk)
 rw[hr]at e
 subst e
 exact hQ _ _ (.b rfl rfl)
 conv=>cbv
 generalize al:Ht (⟨Ae,Ah,Ai,Af,An,Al⟩:Aa) aa=bh
 refine .dd hP (Xbr Aj Ak Ao Am ae ac.1 hul (by omega) al) ?_
 cases bh
 conv=>cbv
 have e:false=Bk (⟨Ae,Ah,Ai,Af,An,Al⟩:Aa):=(by exact D3 fun h=>by rw[diskOk_iff]at h;have hk:=h.2.2.2.2;simp only[]at hk;rw[hq.1]at hk;unfold Xdc at hk;simp only[]at hk;rw[hS]at hk;rw[if_pos rfl,Yz (show Bc _ aa=false from al)]at hk;cases hk)
 rw[hr]at e
 subst e
 exact hQ _ _ (.b rfl rfl)
 conv=>cbv
 have hre:Bc (⟨Ae,Ah,Ai,Af,An,Al⟩:Aa) aa=true:=al
 refine .go Am fun ai ao=>?_
 conv=>cbv
 refine .eql (fun h14=>?_) fun h14=>?_
 conv=>cbv
 generalize am:Li aa Ah=bi
 refine .dd hP (XiP ae Ak (by omega) am) ?_
 cases bi
 conv=>cbv
 have e:false=Bk (⟨Ae,Ah,Ai,Af,An,Al⟩:Aa):=(by exact D3 fun h=>by rw[diskOk_iff]at h;have hk:=h.2.2.2.2;simp only[]at hk;rw[hq.1]at hk;unfold Xdc at hk;simp only[]at hk;rw[hS]at hk;rw[if_pos rfl,List.drop_of_length_le (by omega)]at hk;unfold Er at hk;rw[show F9 aa _=false from am,Bool.and_false]at hk;cases hk)
 rw[hr]at e
 subst e
 exact hQ _ _ (.b rfl rfl)
 conv=>cbv
 refine .add fun au ay=>?_
 conv=>cbv
 exact .go [] (au) (a1 _ ⟨by omega,by omega,fun h=>by omega,fun _=>by have:=hq.1;simp only[]at this;rw[this];unfold Xdc;simp only[];rw[hS,List.drop_of_length_le (by omega),if_pos rfl];show(Bc _ aa&&F9 aa Ah)=true;rw[hre,show F9 aa Ah=true from am];rfl⟩ mlt)
 conv=>cbv
 refine .add fun an az=>?_
 conv=>cbv
 exact .go [] (an) (a1 _ ⟨by omega,by omega,fun h=>by rw[show an.toNat=i5.toNat+1 by omega];exact XgR ac hq (by simp only[];omega) hS hre,fun h=>by omega⟩ mlt)
 conv=>cbv
 have e:true=Bk (⟨Ae,Ah,Ai,Af,An,Al⟩:Aa):=(by symm;rw[diskOk_iff];exact⟨af,ag,(V9 (d:=(⟨Ae,Ah,Ai,Af,An,Al⟩:Aa)) (fun j hj=>hb j (by simp only[]at hj;omega)) (by symm;rw[decide_eq_true_eq];simp only[];omega)).symm,by rw[aq];exact h6,hQe (by omega)⟩)
 rw[hr]at e
 subst e
 exact hQ _ _ (.b rfl rfl)
end
section
open Go Go.Proofs
set_option maxRecDepth 20000
set_option maxHeartbeats 4000000
def Xc3:List (Nat×TyRow):=[ty3,XgT,Xi,Xmr]
theorem XbB:B8 Tryz.prog Xc3:=B8.of (by kernel_rfl)
theorem Rh:Setup Tryz.prog Xc3:=⟨XbB,mixed⟩
def Fc(x:Ax)(used:List Int):Bool:=!decide (x.id_∈used)
variable {used:List Int} {l:List Ax} {xl:List (List D)} {nl:Nat}
theorem P9{xid:Int}{xtex:ByteArray}{xsur:Int}{o:Bool}(hr:Fc (⟨xid,xtex,xsur⟩:Ax) used=o):Fn Tryz.prog 329 [.agg [I xid,S xtex,I xsur],.ptr 0 0 0] [.box 256 [.ptr 1 0 0],.map used] ⟨B o,[],[]⟩:=by
 refine Fn.goR Rh Tryz.func329 fun P hP Q hQ=>?_
 conv=>cbv
 refine .go hP Tryz.underlying256 (by kernel_rfl) (by kernel_rfl) (by kernel_rfl) fun b1 aa=>?_
 conv=>cbv
 cases b1
 conv=>cbv
 have e:true=Fc (⟨xid,xtex,xsur⟩:Ax) used:=(by unfold Fc;simp[←aa])
 rw[hr]at e
 subst e
 exact hQ _ _ (.of [] (.inl rfl) rfl rfl rfl rfl)
 conv=>cbv
 have e:false=Fc (⟨xid,xtex,xsur⟩:Ax) used:=(by unfold Fc;simp[←aa])
 rw[hr]at e
 subst e
 exact hQ _ _ (.of [] (.inl rfl) rfl rfl rfl rfl)
def Gb(l:List Ax)(used:List Int):Int:=Su (fun x=>Fc x used) l
theorem Q0{o:Int}(hl:l.map A6=xl)(hnl:nl=l.length)(hn:l.length<2^40)(hr:Gb l used=o):Fn Tryz.prog 302 [.ref 0 0 nl,.clo 329 [.ptr 1 0 0]] [.row 3 false xl,.box 256 [.ptr 2 0 0],.map used] ⟨I o,[],[]⟩:=by
 refine Fn.goR Rh Tryz.func302 fun P hP Q hQ=>?_
 conv=>cbv
 refine .go fun v1 ai=>?_
 conv=>cbv
 refine LoopW.lp (κ:=Int) Rh hP [] [0,1,7] (fun i8=>[(8,I i8)]) (fun i8=>[])
  (fun i8=>0≤i8∧i8≤l.length∧∀(j:Nat) (hj:j<l.length),j<i8.toNat→Fc l[j] used=false)
  (fun i8=>(l.length - i8).toNat) (0) ⟨by omega,by omega,fun j _ h=>by simp at h⟩ ⟨rfl,trivial⟩ rfl ?_
 rintro i8 J ⟨h0,h1,hb⟩ hJ
 conv=>cbv
 refine .lss (fun h2=>?_) fun h2=>?_
 conv=>cbv
 refine .go i8.toNat fun p3 af ag=>?_
 conv=>cbv
 refine .go hl fun ah ⟨ad,aa,ab⟩ ae=>?_
 conv=>cbv
 subst af
 generalize ac:Fc (⟨ad,aa,ab⟩:Ax) used=r5
 refine .bx [1,2] [2] hP (P9 ac) rfl rfl rfl rfl ?_
 cases r5
 conv=>cbv
 refine .add fun v6 aj=>?_
 conv=>cbv
 exact .go [] (v6) (hJ _ ⟨by omega,by omega,fun j hj h=>if e:j=i8.toNat then by subst e;rw[←ae];exact ac else hb j hj (by omega)⟩ mlt)
 conv=>cbv
 have e:i8=Gb l used:=(by exact Lu (p:=fun x=>Fc x used) h0 (by omega) (by rw[←ae];exact ac) hb)
 rw[hr]at e
 subst e
 exact hQ _ _ (.of [] (.inl rfl) rfl rfl rfl rfl)
 conv=>cbv
 have e:(-1)=Gb l used:=(by exact Hh (p:=fun x=>Fc x used) fun j hj=>hb j hj (by omega))
 rw[hr]at e
 subst e
 exact hQ _ _ (.of [] (.inl rfl) rfl rfl rfl rfl)
def F4(l:List Ax)(used:List Int):List Ax:=l.filter (fun x=>!Fc x used)
theorem Pu{o:List Ax}{xf:List (List D)}{no:Nat}(hl:l.map A6=xl)(hnl:nl=l.length)(hn:l.length<2^40)(hr:F4 l used=o)(hf:(o++List.replicate (l.length - o.length) (⟨0,tx [],0⟩:Ax)).map A6=xf)(hno:no=o.length):Fn Tryz.prog 328 [.ref 0 0 nl,.clo 329 [.ptr 1 0 0]] [.row 3 false xl,.box 256 [.ptr 2 0 0],.map used] ⟨.ref 0 0 no,[],[(0,.row 3 false xf)]⟩:=by
 refine Fn.goR Rh Tryz.func328 fun P hP Q hQ=>?_
 conv=>cbv
 generalize af:Gb l used=r1
 refine .bx [0,1,2] [2] hP (Q0 hl (by first|rfl|omega|(simp;omega)) hn af) rfl rfl rfl rfl ?_
 conv=>cbv
 refine .eql (fun h2=>?_) fun h2=>?_
 conv=>cbv
 have e:l=o:=by rw[←hr];unfold F4;symm;rw[List.filter_eq_self];intro x hx;rw[XdH (p:=fun x=>Fc x used) af (by omega) x hx];rfl
 subst e
 obtain rfl:xl=xf:=by rw[←hl,←hf];simp
 obtain rfl:nl=no:=by omega
 exact hQ _ _ (.of [] (.inl rfl) rfl rfl rfl rfl)
 conv=>cbv
 have hd:=Xhi (p:=fun x=>Fc x used) af h2
 refine .add fun v3 am=>?_
 conv=>cbv
 refine LoopW.lp (κ:=Int×Int×(List (List D))) Rh hP [] [0,1] (fun(i5,i6,aa)=>[(5,I i5),(6,I i6)]) (fun(i5,i6,aa)=>[(0,.row 3 false aa)])
  (fun(i5,i6,aa)=>∃(w0:List Ax),w0.map A6=aa∧(0≤i5∧i5<i6∧i6≤l.length)∧w0.length=l.length∧w0.take i5.toNat=(l.take i6.toNat).filter (fun x=>!Fc x used)∧w0.drop i6.toNat=l.drop i6.toNat)
  (fun(i5,i6,aa)=>(l.length - i6).toNat) (r1,v3,xl) ⟨l,hl,by omega,rfl,by rw[hd.2.2,am],rfl⟩ ⟨rfl,rfl,trivial⟩ rfl ?_
 rintro⟨i5,i6,aa⟩ J ⟨w0,ae,hb,hwl,hwt,hwd⟩ hJ
 conv=>cbv
 refine .go fun v4 az=>?_
 conv=>cbv
 refine .lss (fun h5=>?_) fun h5=>?_
 conv=>cbv
 refine .go i6.toNat fun p6 an au=>?_
 conv=>cbv
 refine .go ae fun aj ⟨ad,ab,ac⟩ ao=>?_
 conv=>cbv
 subst an
 have ag:(⟨ad,ab,ac⟩:Ax)=l[i6.toNat]:=ao.trans (XlX aj (by omega) hwd)
 generalize ah:Fc (⟨ad,ab,ac⟩:Ax) used=r8
 refine .bx [1,2] [2] hP (P9 ah) rfl rfl rfl rfl ?_
 cases r8
 conv=>cbv
 refine .go i5.toNat fun p9 ap aw=>?_
 conv=>cbv
 refine .all ((⟨ad,ab,ac⟩:Ax)) ae rfl fun aq ak=>?_
 conv=>cbv
 refine .add fun al ax=>?_
 conv=>cbv
 refine .add fun ai ay=>?_
 conv=>cbv
 have hk:=Xhp (i:=i5.toNat) (p:=fun x=>Fc x used) (show i6.toNat<l.length by omega) (by omega) hwl hwt hwd (by rw[←ag];exact ah)
 rw[←ag]at hk
 subst ap
 exact .go [] (al,ai,aq) (hJ _ ⟨_,ak,by omega,by rw[List.length_set];exact hwl,by rw[show al.toNat=i5.toNat+1 by omega,show ai.toNat=i6.toNat+1 by omega];exact hk.1,by rw[show ai.toNat=i6.toNat+1 by omega];exact hk.2⟩ mlt)
 conv=>cbv
 refine .add fun v9 a1=>?_
 conv=>cbv
 have hk:=Xh8 (p:=fun x=>Fc x used) (show i6.toNat<l.length by omega) hwt hwd (by rw[←ag];exact ah)
 exact .go [] (i5,v9,aa) (hJ _ ⟨_,ae,by omega,hwl,by rw[show v9.toNat=i6.toNat+1 by omega];exact hk.1,by rw[show v9.toNat=i6.toNat+1 by omega];exact hk.2⟩ mlt)
 conv=>cbv
 refine .lo fun on6 n6 hon6 a2=>?_
 conv=>cbv
 refine .goN (zz:=[(.int .i64 0,0),(.string ⟨#[]⟩,0),(.int .i64 0,0)]) (⟨0,tx [],0⟩:Ax) hP ae Tryz.underlying37 (by kernel_rfl) rfl rfl (by decide) fun z7 ar=>?_
 conv=>cbv
 refine .hi fun on8 n8 hon8 a6=>?_
 conv=>cbv
 have e:w0.take on6=o:=by rw[hon6,Nat.zero_add,hwt,List.take_of_length_le (by omega),←hr];rfl
 obtain⟨e1,e2⟩:=XkG (by omega) (by omega) e ar
 rw[hwl,hf]at e2
 subst e2
 obtain rfl:n8=no:=by omega
 subst hon8
 exact hQ _ _ (.of [] (.inl rfl) rfl rfl rfl rfl)
end
section
open Go Go.Proofs
set_option maxRecDepth 20000
set_option maxHeartbeats 4000000
def Xce:List (Nat×TyRow):=[ty3,ty9,Xay,XgT,XaS,Xn,Xe,Xmr]
theorem Xb1:B8 Tryz.prog Xce:=B8.of (by kernel_rfl)
theorem Zp:Setup Tryz.prog Xce:=⟨Xb1,mixed⟩
def Rl:List Ad→List ByteArray→Int→Bool
 |now,[],id=>now.any fun e=>decide (e.id_=id)
 |now,s::ss,id=>(now.any fun e=>decide (e.id_=id))||Rl (Ap now s).1 ss id
def Nx(nodes:List Ax)(old:List Ad)(steps:List ByteArray):List Ax:=nodes.filter fun x=>Rl old steps x.id_
theorem Xe3{l:List Ad}{k:Nat}{id:Int}(hk:k<l.length):(l.take (k+1)).any (fun e=>decide (e.id_=id))=((l.take k).any (fun e=>decide (e.id_=id))||decide (l[k].id_=id)):=by
 rw[List.take_succ_eq_append_getElem hk,List.any_append]
 simp
theorem Xgp{ks:List Int}{n id:Int}:id∈P6 ks n↔id∈ks∨n=id:=by
 unfold P6
 split
 ·constructor
  ·exact .inl
  ·rintro(h|rfl)
   ·exact h
   ·assumption
 ·rw[List.mem_append,List.mem_singleton]
  constructor
  ·rintro(h|rfl)
   ·exact .inl h
   ·exact .inr rfl
  ·rintro(h|rfl)
   ·exact .inl h
   ·exact .inr rfl
theorem Tr{Ae:List Ax}{Be:List (List D)}{Ah:List Ad}{Bf:List (List D)}{Ai:List Ad}{A9:List (List D)}{Af:List ByteArray}{Bg:List (List D)}{An:Int}{Al:Int}{ndnod:Nat}{ndste:Nat}{o:List Ax}{no:Nat}{xf:List (List D)}(Aj:Ae.map A6=Be)(Ak:Ah.map Ac=Bf)(Ao:Ai.map Ac=A9)(Am:Af.map cS=Bg)(hndnod:ndnod=Ae.length)(hndste:ndste=Af.length)(hn:Ae.length<2^40)(hol:Ai.length≤1000000000)(hsl:Af.length≤1000000000)(hss:okS Af)(hr:Nx Ae Ai Af=o)(hno:no=o.length)(hf:(o++List.replicate (Ae.length - o.length) (⟨0,tx [],0⟩:Ax)).map A6=xf):Fn Tryz.prog 297 [.ptr 0 0 0] [.box 40 [.ref 1 0 ndnod,.d (.row 2 Bf),.d (.row 2 A9),.ref 2 0 ndste,I An,I Al],.row 3 false Be,.row 1 false Bg] ⟨.tup [],[],[(0,.box 40 [.ref 1 0 no,.d (.row 2 Bf),.d (.row 2 A9),.ref 2 0 ndste,I An,I Al]),(1,.row 3 false xf)]⟩:=by
 refine Fn.goR Zp Tryz.func297 fun P hP Q hQ=>?_
 conv=>cbv
 refine LoopW.lp (κ:=(List (List D))×Int×(List Int)) Zp hP [] [0,2] (fun(ab,i4,ks3)=>[(3,.d (.row 2 ab)),(4,I i4)]) (fun(ab,i4,ks3)=>[(3,.map ks3)])
  (fun(ab,i4,ks3)=>∃(u3:List Ad),u3.map Ac=ab∧0≤i4∧i4≤Af.length∧u3.length≤Ai.length+i4∧∀id,(id∈ks3∨Rl u3 (Af.drop i4.toNat) id=true)↔Rl Ai Af id=true)
  (fun(ab,i4,ks3)=>(Af.length - i4).toNat) (A9,0,[]) ⟨Ai,Ao,by omega,by omega,by omega,fun id=>by simp⟩ ⟨rfl,rfl,trivial⟩ rfl ?_
 rintro⟨ab,i4,ks3⟩ J ⟨u3,ae,h0,h1,hun,hio⟩ hJ
 conv=>cbv
 refine .go ae fun v1 aw=>?_
 conv=>cbv
 refine LoopW.lp (κ:=Int×(List Int)) Zp hP [] [0,2,3,4,14,15] (fun(aa,ks3p)=>[(16,I aa)]) (fun(aa,ks3p)=>[(3,.map ks3p)])
  (fun(aa,ks3p)=>0≤aa∧aa≤u3.length∧∀id,id∈ks3p↔id∈ks3∨((u3.take aa.toNat).any fun e=>decide (e.id_=id))=true)
  (fun(aa,ks3p)=>(u3.length - aa).toNat) (0,ks3) ⟨by omega,by omega,fun id=>by simp⟩ ⟨rfl,trivial⟩ rfl ?_
 rintro⟨aa,ks3p⟩ J1 ⟨k0,k1,hi⟩ al
 conv=>cbv
 refine .lss (fun h2=>?_) fun h2=>?_
 conv=>cbv
 refine .go aa.toNat ae fun ag ⟨am,ar⟩ an=>?_
 conv=>cbv
 refine .go hP Tryz.underlying256 (by kernel_rfl) fun ks4 hks4=>?_
 conv=>cbv
 refine .add fun v5 ax=>?_
 conv=>cbv
 exact .go [] (v5,ks4) (al _ ⟨by omega,by omega,fun id=>by rw[hks4,Xgp,hi id,show v5.toNat=aa.toNat+1 by omega,Xe3 ag,←an,Bool.or_eq_true,or_assoc,decide_eq_true_eq]⟩ mlt)
 conv=>cbv
 refine .go fun v3 ay=>?_
 conv=>cbv
 refine .eql (fun h4=>?_) fun h4=>?_
 conv=>cbv
 have hks:∀id,id∈ks3p↔Rl Ai Af id=true:=fun id=>by rw[hi,←hio id,List.take_of_length_le (show u3.length≤aa.toNat by omega),List.drop_of_length_le (show Af.length≤i4.toNat by omega)];show _↔_∨(u3.any fun e=>decide (e.id_=id))=true;exact Iff.rfl
 generalize ah:F4 Ae ks3p=l5
 generalize ai:(l5++List.replicate (Ae.length - l5.length) (⟨0,tx [],0⟩:Ax)).map A6=ao
 obtain⟨nl5,hnl5⟩:∃m,m=l5.length:=⟨_,rfl⟩
 refine .bx [1,4,3] [3] hP (Pu Aj (by first|rfl|omega|(simp;omega)) hn ah ai hnl5) rfl rfl rfl rfl ?_
 conv=>cbv
 have e:l5=o:=by rw[←ah,←hr];unfold F4 Fc Nx;congr 1;funext x;simp only[Bool.not_not,hks x.id_,Bool.decide_eq_true]
 subst e
 obtain rfl:ao=xf:=by rw[←ai,←hf]
 obtain rfl:nl5=no:=by omega
 exact hQ _ _ (.of [] (.inr rfl) rfl rfl rfl rfl)
 conv=>cbv
 refine .go i4.toNat fun p5 ap au=>?_
 conv=>cbv
 refine .go Am fun ac e6 aj=>?_
 conv=>cbv
 have az:e6.size≤1000000000:=aj▸hss _ (List.getElem_mem ac)
 subst ap
 have hdc:Af.drop i4.toNat=e6::Af.drop (i4.toNat+1):=by rw[List.drop_eq_getElem_cons ac,←aj]
 rcases af:Ap u3 e6 with⟨aq,a1⟩
 have hsl7:=Mo af
 generalize ad:aq.map Ac=ak
 refine .dd hP (O3 ae (by omega) (by omega) af ad) ?_
 conv=>cbv
 refine .add fun v8 a2=>?_
 conv=>cbv
 exact .go [] (ak,v8,ks3p) (hJ _ ⟨_,ad,by omega,by omega,by omega,fun id=>by rw[←hio id,hi id,show v8.toNat=i4.toNat+1 by omega,hdc,List.take_of_length_le (show u3.length≤aa.toNat by omega)];show _↔_∨((u3.any fun e=>decide (e.id_=id))||Rl (Ap u3 e6).1 (Af.drop (i4.toNat+1)) id)=true;rw[af,Bool.or_eq_true,or_assoc]⟩ mlt)
end
section
open Go Go.Proofs
set_option maxRecDepth 20000
set_option maxHeartbeats 4000000
def Xdh:List (Nat×TyRow):=[ty9,Xay,XaS,Xn,ty255]
theorem XbY:B8 Tryz.prog Xdh:=B8.of (by kernel_rfl)
theorem Xjf:Setup Tryz.prog Xdh:=⟨XbY,mixed⟩
theorem Sb{l:List ByteArray}{s:ByteArray}(h:okS l)(hs:s.size≤1000000000):okS (l++[s]):=fun t ht=>by
 rcases List.mem_append.1 ht with ht|ht
 ·exact h t ht
 ·rw[List.mem_singleton.1 ht];exact hs
theorem Qt{Ae:List Ax}{Be:List (List D)}{Ah:List Ad}{Bf:List (List D)}{Ai:List Ad}{A9:List (List D)}{Af:List ByteArray}{Bg:List (List D)}{An:Int}{Al:Int}{ndnod:Nat}{ndste:Nat}{step:ByteArray}{xe:List (List D)}{o:List Ax}{no:Nat}{xf xs:List (List D)}{ns:Nat}(Aj:Ae.map A6=Be)(Ak:Ah.map Ac=Bf)(Ao:Ai.map Ac=A9)(Am:Af.map cS=Bg)(hndnod:ndnod=Ae.length)(hndste:ndste=Af.length)(hn:Ae.length<2^40)(hel:Ah.length≤4000000000)(hss0:step.size≤1000000000)(hol:Ai.length≤1000000000)(hsl:Af.length<1000000000)(hss:okS Af)(he:(Ap Ah step).1.map Ac=xe)(hr:Nx Ae Ai (Af++[step])=o)(hno:no=o.length)(hf:(o++List.replicate (Ae.length - o.length) (⟨0,tx [],0⟩:Ax)).map A6=xf)(hs:(Af++[step]).map cS=xs)(hns:ns=(Af++[step]).length):Fn Tryz.prog 295 [.ptr 0 0 0,S step] [.box 40 [.ref 1 0 ndnod,.d (.row 2 Bf),.d (.row 2 A9),.ref 2 0 ndste,I An,I Al],.row 3 false Be,.row 1 false Bg] ⟨.tup [],[.row 1 false xs],[(0,.box 40 [.ref 1 0 no,.d (.row 2 xe),.d (.row 2 A9),.ref 3 0 ns,I An,I Al]),(1,.row 3 false xf),(2,.dead)]⟩:=by
 refine Fn.goR Xjf Tryz.func295 fun P hP Q hQ=>?_
 conv=>cbv
 refine .one step Am rfl fun ai z1 ad ae=>?_
 conv=>cbv
 rcases af:Ap Ah step with⟨aj,am⟩
 generalize aa:aj.map Ac=ag
 refine .dd hP (O3 Ak hel hss0 af aa) ?_
 conv=>cbv
 generalize ah:Nx Ae Ai (Af++[step])=o4
 obtain⟨ak,ab⟩:∃m,m=o4.length:=⟨_,rfl⟩
 generalize ac:(o4++List.replicate (Ae.length - o4.length) (⟨0,tx [],0⟩:Ax)).map A6=al
 refine .bx [0,1,4] [1,4] hP (Tr Aj aa Ao ae (by first|assumption|omega) (by first|assumption|omega|rfl|(simp at*;omega)) hn hol (by rw[List.length_append];simp;omega) (Sb hss hss0) ah ab ac) rfl rfl rfl rfl ?_
 conv=>cbv
 obtain rfl:ag=xe:=by rw[←aa,←he,af]
 obtain rfl:z1=xs:=by rw[←ae,←hs]
 obtain rfl:ai=ns:=by rw[hns,ad,List.length_append];rfl
 obtain rfl:o4=o:=by rw[←ah,←hr]
 obtain rfl:ak=no:=by rw[hno,ab]
 obtain rfl:al=xf:=by rw[←ac,←hf]
 exact hQ _ _ (.of [4] (.inr rfl) rfl rfl rfl rfl)
end
section
open Go Go.Proofs
set_option maxRecDepth 20000
set_option maxHeartbeats 4000000
def Xbl:List (Nat×TyRow):=[Xay,XgT,XaS,Xn]
theorem XcQ:B8 Tryz.prog Xbl:=B8.of (by kernel_rfl)
theorem Xfw:Setup Tryz.prog Xbl:=⟨XcQ,mixed⟩
variable {Ae:List Ax} {Be Bf A9 Bg:List (List D)} {Ah Ai:List Ad} {Af:List ByteArray} {An Al:Int}
theorem I3{nn ns:Nat}(Aj:Ae.map A6=Be)(Ak:Ah.map Ac=Bf)(Ao:Ai.map Ac=A9)(Am:Af.map cS=Bg)(hn:Ae.length≤4000000000)(he:Ah.length≤4000000000)(ho:Ai.length≤4000000000)(hs:Af.length≤4000000000)(hnn:nn=Ae.length)(hns:ns=Af.length):Fn Tryz.prog 106 [.agg [.d (.row 3 Be),.d (.row 2 Bf),.d (.row 2 A9),.d (.row 1 Bg),I An,I Al]] [] ⟨.agg [.ref 0 0 nn,.d (.row 2 Bf),.d (.row 2 A9),.ref 1 0 ns,I An,I Al],[.row 3 false Be,.row 1 false Bg],[]⟩:=by
 refine Fn.goR Xfw Tryz.func106 fun P hP Q hQ=>?_
 conv=>cbv
 generalize ac:D4 Ae=l1
 generalize aa:l1.map A6=ai
 obtain⟨nl1,hnl1⟩:∃m,m=l1.length:=⟨_,rfl⟩
 refine .ddA hP (L5 Aj (by omega) ac aa hnl1) rfl rfl rfl (aa▸Pn (fun _=>rfl) l1) ?_
 conv=>cbv
 generalize ad:D4 Ah=l2
 generalize ae:l2.map Ac=aj
 refine .dd hP (Cb Ak (by omega) ad ae) ?_
 conv=>cbv
 generalize af:D4 Ai=l3
 generalize ag:l3.map Ac=ak
 refine .dd hP (Cb Ao (by omega) af ag) ?_
 conv=>cbv
 generalize ah:D4 Af=l4
 generalize ab:l4.map cS=al
 obtain⟨nl4,hnl4⟩:∃m,m=l4.length:=⟨_,rfl⟩
 refine .ddA hP (Jm Am (by omega) ah ab hnl4) rfl rfl rfl (ab▸Pn (fun _=>rfl) l4) ?_
 conv=>cbv
 obtain rfl:l1=Ae:=ac.symm
 obtain rfl:l2=Ah:=ad.symm
 obtain rfl:l3=Ai:=af.symm
 obtain rfl:l4=Af:=ah.symm
 obtain rfl:nl1=nn:=by rw[hnn,hnl1]
 obtain rfl:nl4=ns:=by rw[hns,hnl4]
 obtain rfl:ai=Be:=by rw[←aa,Aj]
 obtain rfl:aj=Bf:=by rw[←ae,Ak]
 obtain rfl:ak=A9:=by rw[←ag,Ao]
 obtain rfl:al=Bg:=by rw[←ab,Am]
 exact hQ _ _ (.of [6,7] (.inl rfl) rfl rfl rfl rfl)
theorem U5(Aj:Ae.map A6=Be)(Ak:Ah.map Ac=Bf)(Ao:Ai.map Ac=A9)(Am:Af.map cS=Bg)(hn:Ae.length≤4000000000)(he:Ah.length≤4000000000)(ho:Ai.length≤4000000000)(hs:Af.length≤4000000000):Fn Tryz.prog 106 [.agg [.d (.row 3 Be),.d (.row 2 Bf),.d (.row 2 A9),.d (.row 1 Bg),I An,I Al]] [] ⟨.agg [.d (.row 3 Be),.d (.row 2 Bf),.d (.row 2 A9),.d (.row 1 Bg),I An,I Al],[],[]⟩:=by
 refine Fn.go Xfw Tryz.func106 fun P hP Q hQ=>?_
 conv=>cbv
 generalize aa:D4 Ae=l1
 generalize ab:l1.map A6=ai
 refine .dd hP (Mi Aj (by omega) aa ab) ?_
 conv=>cbv
 generalize ac:D4 Ah=l2
 generalize ad:l2.map Ac=aj
 refine .dd hP (Cb Ak (by omega) ac ad) ?_
 conv=>cbv
 generalize ae:D4 Ai=l3
 generalize af:l3.map Ac=ak
 refine .dd hP (Cb Ao (by omega) ae af) ?_
 conv=>cbv
 generalize ag:D4 Af=l4
 generalize ah:l4.map cS=al
 refine .dd hP (J7 Am (by omega) ag ah) ?_
 conv=>cbv
 obtain rfl:l1=Ae:=aa.symm
 obtain rfl:l2=Ah:=ac.symm
 obtain rfl:l3=Ai:=ae.symm
 obtain rfl:l4=Af:=ag.symm
 obtain rfl:ai=Be:=by rw[←ab,Aj]
 obtain rfl:aj=Bf:=by rw[←ad,Ak]
 obtain rfl:ak=A9:=by rw[←af,Ao]
 obtain rfl:al=Bg:=by rw[←ah,Am]
 exact hQ _ _ (.one (.inl rfl) rfl (.agg (.d rfl rfl (.d rfl rfl (.d rfl rfl (.d rfl rfl (.d rfl rfl (.d rfl rfl .nil)))))) .nil))
end
section
open Go Go.Proofs
set_option maxRecDepth 20000
set_option maxHeartbeats 4000000
def Xcf:List (Nat×TyRow):=[ty3,ty9,XaS,Xn]
theorem XaX:B8 Tryz.prog Xcf:=B8.of (by kernel_rfl)
theorem Xkl:Setup Tryz.prog Xcf:=⟨XaX,mixed⟩
def Mf(d:Aa)(s:ByteArray):Aa:=⟨Nx d.nodes_ d.old_ (d.steps_++[s]),(Ap d.entries_ s).1,d.old_,d.steps_++[s],d.room_,d.next_⟩
def C6(d:Aa)(name:ByteArray):Aa×Int:=if Bk d=false∨Aw d.entries_ name<0 then(d,3)else(Mf d (tx [45]++name),0)
theorem Xbs{Ae:List Ax}{Be:List (List D)}{Ah:List Ad}{Bf:List (List D)}{Ai:List Ad}{A9:List (List D)}{Af:List ByteArray}{Bg:List (List D)}{An:Int}{Al:Int}{name:ByteArray}{G1:List Ax}{Eg:List (List D)}{G2:List Ad}{Eo:List (List D)}{G9:List Ad}{Eh:List (List D)}{G0:List ByteArray}{Ef:List (List D)}{G8:Int}{G4:Int}{ob:Int}(Aj:Ae.map A6=Be)(Ak:Ah.map Ac=Bf)(Ao:Ai.map Ac=A9)(Am:Af.map cS=Bg)(hn:Ae.length≤1000000000)(he:Ah.length≤1000000000)(ho:Ai.length≤1000000000)(hs:Af.length<1000000000)(hss:okS Af)(ak:I9 (⟨Ae,Ah,Ai,Af,An,Al⟩:Aa))(hm:name.size<1000000000)(hr:C6 (⟨Ae,Ah,Ai,Af,An,Al⟩:Aa) name=(⟨G1,G2,G9,G0,G8,G4⟩,ob))(B0:G1.map A6=Eg)(B3:G2.map Ac=Eo)(B2:G9.map Ac=Eh)(B1:G0.map cS=Ef):Fn Tryz.prog 274 [.agg [.d (.row 3 Be),.d (.row 2 Bf),.d (.row 2 A9),.d (.row 1 Bg),I An,I Al],S name] [] ⟨.tup [.agg [.d (.row 3 Eg),.d (.row 2 Eo),.d (.row 2 Eh),.d (.row 1 Ef),I G8,I G4],I ob],[],[]⟩:=by
 refine Fn.go Xkl Tryz.func274 fun P hP Q hQ=>?_
 conv=>cbv
 obtain⟨n2,al⟩:∃m,m=Ae.length:=⟨_,rfl⟩
 obtain⟨n3,am⟩:∃m,m=Af.length:=⟨_,rfl⟩
 refine .ddN hP (I3 Aj Ak Ao Am (by omega) (by omega) (by omega) (by omega) al am) rfl ?_
 conv=>cbv
 generalize ag:Bk (⟨Ae,Ah,Ai,Af,An,Al⟩:Aa)=r4
 refine .dd hP (My Aj Ak Ao Am ak ag) ?_
 cases r4
 conv=>cbv
 have e:((⟨Ae,Ah,Ai,Af,An,Al⟩:Aa),3)=C6 (⟨Ae,Ah,Ai,Af,An,Al⟩:Aa) name:=(by unfold C6;rw[if_pos (.inl ag)])
 rw[hr]at e
 simp only[Prod.mk.injEq,Aa.mk.injEq]at e
 obtain⟨⟨rfl,rfl,rfl,rfl,rfl,rfl⟩,rfl⟩:=e
 refine hQ _ _ ?_
 exact .many (.inl rfl) rfl rfl (.agg (.ref rfl (Ag Aj) (Bm Aj B0) (.d rfl (A5 Ak B3) (.d rfl (A5 Ao B2) (.ref rfl (Ag Am) (Bm Am B1) (.d rfl rfl (.d rfl rfl (.nil))))))) (.d rfl rfl (.nil)))
 conv=>cbv
 generalize ai:Aw Ah name=r5
 refine .dd hP (Kp Ak (by omega) ai) ?_
 conv=>cbv
 refine .lss (fun h6=>?_) fun h6=>?_
 conv=>cbv
 have e:((⟨Ae,Ah,Ai,Af,An,Al⟩:Aa),3)=C6 (⟨Ae,Ah,Ai,Af,An,Al⟩:Aa) name:=(by unfold C6;rw[if_pos (.inr (by rw[ai];exact h6))])
 rw[hr]at e
 simp only[Prod.mk.injEq,Aa.mk.injEq]at e
 obtain⟨⟨rfl,rfl,rfl,rfl,rfl,rfl⟩,rfl⟩:=e
 refine hQ _ _ ?_
 exact .many (.inl rfl) rfl rfl (.agg (.ref rfl (Ag Aj) (Bm Aj B0) (.d rfl (A5 Ak B3) (.d rfl (A5 Ao B2) (.ref rfl (Ag Am) (Bm Am B1) (.d rfl rfl (.d rfl rfl (.nil))))))) (.d rfl rfl (.nil)))
 conv=>cbv
 refine .litL 1 fun s7 an ar=>?_
 conv=>cbv
 generalize ab:(Ap Ah s7).1=ae
 generalize ac:ae.map Ac=ao
 generalize aj:Nx Ae Ai (Af++[s7])=o9
 obtain⟨au,af⟩:∃m,m=o9.length:=⟨_,rfl⟩
 generalize aa:(o9++List.replicate (Ae.length - o9.length) (⟨0,tx [],0⟩:Ax)).map A6=ap
 generalize ad:(Af++[s7]).map cS=aw
 obtain⟨aq,ah⟩:∃m,m=(Af++[s7]).length:=⟨_,rfl⟩
 refine .bx [12,6,7] [6,7] hP (Qt Aj Ak Ao Am (by first|assumption|omega|(simp;omega)) (by first|assumption|omega|(simp;omega)) (by omega) (by omega) (by omega) (by omega) (by omega) hss ((congrArg (List.map Ac) ab).trans ac) aj af aa ad ah) rfl rfl rfl rfl ?_
 conv=>cbv
 have e:((⟨o9,ae,Ai,Af++[s7],An,Al⟩:Aa),0)=C6 (⟨Ae,Ah,Ai,Af,An,Al⟩:Aa) name:=(by unfold C6;rw[if_neg (by rintro(h|h);rw[ag]at h;cases h;dsimp only at h;omega)];unfold Mf;dsimp only;rw[show tx [45]++name=s7 from an.symm,aj,ab])
 rw[hr]at e
 simp only[Prod.mk.injEq,Aa.mk.injEq]at e
 obtain⟨⟨rfl,rfl,rfl,rfl,rfl,rfl⟩,rfl⟩:=e
 refine hQ _ _ ?_
 exact .many (.inl rfl) rfl rfl (.agg (.sub rfl (by rw[←aa,List.length_map,List.length_append];omega) (by rw[←aa,←B0,af,List.drop_zero,List.map_append,List.take_left' (by rw[List.length_map])]) (.d rfl (A5 ac B3) (.d rfl (A5 Ao B2) (.ref rfl (Ag ad) (Bm ad B1) (.d rfl rfl (.d rfl rfl (.nil))))))) (.d rfl rfl (.nil)))
end
section
open Go Go.Proofs
set_option maxRecDepth 20000
set_option maxHeartbeats 4000000
def Xcm:List (Nat×TyRow):=[ty3,ty9,XaS,Xn]
theorem Xcd:B8 Tryz.prog Xcm:=B8.of (by kernel_rfl)
theorem Xkh:Setup Tryz.prog Xcm:=⟨Xcd,mixed⟩
def B6(d:Aa)(from_ to_:ByteArray):Aa×Int:=if Bk d=false∨Aw d.entries_ from_<0 then(d,3)else if Bs to_=false∨from_=to_ then(d,1)else(Mf d (tx [62]++from_++tx [58]++to_),0)
theorem XcR{Ae:List Ax}{Be:List (List D)}{Ah:List Ad}{Bf:List (List D)}{Ai:List Ad}{A9:List (List D)}{Af:List ByteArray}{Bg:List (List D)}{An:Int}{Al:Int}{from_:ByteArray}{to_:ByteArray}{G1:List Ax}{Eg:List (List D)}{G2:List Ad}{Eo:List (List D)}{G9:List Ad}{Eh:List (List D)}{G0:List ByteArray}{Ef:List (List D)}{G8:Int}{G4:Int}{ob:Int}(Aj:Ae.map A6=Be)(Ak:Ah.map Ac=Bf)(Ao:Ai.map Ac=A9)(Am:Af.map cS=Bg)(hn:Ae.length≤1000000000)(he:Ah.length≤1000000000)(ho:Ai.length≤1000000000)(hs:Af.length<1000000000)(hss:okS Af)(ap:I9 (⟨Ae,Ah,Ai,Af,An,Al⟩:Aa))(hm:from_.size+to_.size<999999999)(hr:B6 (⟨Ae,Ah,Ai,Af,An,Al⟩:Aa) from_ to_=(⟨G1,G2,G9,G0,G8,G4⟩,ob))(B0:G1.map A6=Eg)(B3:G2.map Ac=Eo)(B2:G9.map Ac=Eh)(B1:G0.map cS=Ef):Fn Tryz.prog 275 [.agg [.d (.row 3 Be),.d (.row 2 Bf),.d (.row 2 A9),.d (.row 1 Bg),I An,I Al],S from_,S to_] [] ⟨.tup [.agg [.d (.row 3 Eg),.d (.row 2 Eo),.d (.row 2 Eh),.d (.row 1 Ef),I G8,I G4],I ob],[],[]⟩:=by
 refine Fn.go Xkh Tryz.func275 fun P hP Q hQ=>?_
 conv=>cbv
 obtain⟨n2,aq⟩:∃m,m=Ae.length:=⟨_,rfl⟩
 obtain⟨n3,ar⟩:∃m,m=Af.length:=⟨_,rfl⟩
 refine .ddN hP (I3 Aj Ak Ao Am (by omega) (by omega) (by omega) (by omega) aq ar) rfl ?_
 conv=>cbv
 generalize ac:Bk (⟨Ae,Ah,Ai,Af,An,Al⟩:Aa)=r4
 refine .dd hP (My Aj Ak Ao Am ap ac) ?_
 cases r4
 conv=>cbv
 have e:((⟨Ae,Ah,Ai,Af,An,Al⟩:Aa),3)=B6 (⟨Ae,Ah,Ai,Af,An,Al⟩:Aa) from_ to_:=(by unfold B6;rw[if_pos (.inl ac)])
 rw[hr]at e
 simp only[Prod.mk.injEq,Aa.mk.injEq]at e
 obtain⟨⟨rfl,rfl,rfl,rfl,rfl,rfl⟩,rfl⟩:=e
 refine hQ _ _ ?_
 exact .many (.inl rfl) rfl rfl (.agg (.ref rfl (Ag Aj) (Bm Aj B0) (.d rfl (A5 Ak B3) (.d rfl (A5 Ao B2) (.ref rfl (Ag Am) (Bm Am B1) (.d rfl rfl (.d rfl rfl (.nil))))))) (.d rfl rfl (.nil)))
 conv=>cbv
 generalize am:Aw Ah from_=r5
 refine .dd hP (Kp Ak (by omega) am) ?_
 conv=>cbv
 refine .lss (fun h6=>?_) fun h6=>?_
 conv=>cbv
 have e:((⟨Ae,Ah,Ai,Af,An,Al⟩:Aa),3)=B6 (⟨Ae,Ah,Ai,Af,An,Al⟩:Aa) from_ to_:=(by unfold B6;rw[if_pos (.inr (by rw[am];exact h6))])
 rw[hr]at e
 simp only[Prod.mk.injEq,Aa.mk.injEq]at e
 obtain⟨⟨rfl,rfl,rfl,rfl,rfl,rfl⟩,rfl⟩:=e
 refine hQ _ _ ?_
 exact .many (.inl rfl) rfl rfl (.agg (.ref rfl (Ag Aj) (Bm Aj B0) (.d rfl (A5 Ak B3) (.d rfl (A5 Ao B2) (.ref rfl (Ag Am) (Bm Am B1) (.d rfl rfl (.d rfl rfl (.nil))))))) (.d rfl rfl (.nil)))
 conv=>cbv
 generalize ak:Bs to_=r7
 refine .dd hP (M6 (by omega) ak) ?_
 cases r7
 conv=>cbv
 have e:((⟨Ae,Ah,Ai,Af,An,Al⟩:Aa),1)=B6 (⟨Ae,Ah,Ai,Af,An,Al⟩:Aa) from_ to_:=(by unfold B6;rw[if_neg (by rintro(h|h);rw[ac]at h;cases h;dsimp only at h;omega),if_pos (.inl ak)])
 rw[hr]at e
 simp only[Prod.mk.injEq,Aa.mk.injEq]at e
 obtain⟨⟨rfl,rfl,rfl,rfl,rfl,rfl⟩,rfl⟩:=e
 refine hQ _ _ ?_
 exact .many (.inl rfl) rfl rfl (.agg (.ref rfl (Ag Aj) (Bm Aj B0) (.d rfl (A5 Ak B3) (.d rfl (A5 Ao B2) (.ref rfl (Ag Am) (Bm Am B1) (.d rfl rfl (.d rfl rfl (.nil))))))) (.d rfl rfl (.nil)))
 conv=>cbv
 refine .eql (fun h8=>?_) fun h8=>?_
 conv=>cbv
 have e:((⟨Ae,Ah,Ai,Af,An,Al⟩:Aa),1)=B6 (⟨Ae,Ah,Ai,Af,An,Al⟩:Aa) from_ to_:=(by unfold B6;rw[if_neg (by rintro(h|h);rw[ac]at h;cases h;dsimp only at h;omega),if_pos (.inr h8)])
 rw[hr]at e
 simp only[Prod.mk.injEq,Aa.mk.injEq]at e
 obtain⟨⟨rfl,rfl,rfl,rfl,rfl,rfl⟩,rfl⟩:=e
 refine hQ _ _ ?_
 exact .many (.inl rfl) rfl rfl (.agg (.ref rfl (Ag Aj) (Bm Aj B0) (.d rfl (A5 Ak B3) (.d rfl (A5 Ao B2) (.ref rfl (Ag Am) (Bm Am B1) (.d rfl rfl (.d rfl rfl (.nil))))))) (.d rfl rfl (.nil)))
 conv=>cbv
 refine .litL 1 fun s9 au a6=>?_
 conv=>cbv
 refine .litR 1 fun a7 an aw=>?_
 conv=>cbv
 refine .go fun ab ao ax=>?_
 conv=>cbv
 generalize ad:(Ap Ah ab).1=ai
 generalize ae:ai.map Ac=ay
 generalize aj:Nx Ae Ai (Af++[ab])=ah
 obtain⟨az,af⟩:∃m,m=ah.length:=⟨_,rfl⟩
 generalize aa:(ah++List.replicate (Ae.length - ah.length) (⟨0,tx [],0⟩:Ax)).map A6=a1
 generalize ag:(Af++[ab]).map cS=a8
 obtain⟨a2,al⟩:∃m,m=(Af++[ab]).length:=⟨_,rfl⟩
 refine .bx [12,6,7] [6,7] hP (Qt Aj Ak Ao Am (by first|assumption|omega|(simp;omega)) (by first|assumption|omega|(simp;omega)) (by omega) (by omega) (by omega) (by omega) (by omega) hss ((congrArg (List.map Ac) ad).trans ae) aj af aa ag al) rfl rfl rfl rfl ?_
 conv=>cbv
 have e:((⟨ah,ai,Ai,Af++[ab],An,Al⟩:Aa),0)=B6 (⟨Ae,Ah,Ai,Af,An,Al⟩:Aa) from_ to_:=(by unfold B6;rw[if_neg (by rintro(h|h);rw[ac]at h;cases h;dsimp only at h;omega),if_neg (by rintro(h|h);rw[ak]at h;cases h;exact h8 h)];unfold Mf;dsimp only;rw[show tx [62]++from_++tx [58]++to_=ab from by rw[ao,an,au];rfl,aj,ad])
 rw[hr]at e
 simp only[Prod.mk.injEq,Aa.mk.injEq]at e
 obtain⟨⟨rfl,rfl,rfl,rfl,rfl,rfl⟩,rfl⟩:=e
 refine hQ _ _ ?_
 exact .many (.inl rfl) rfl rfl (.agg (.sub rfl (by rw[←aa,List.length_map,List.length_append];omega) (by rw[←aa,←B0,af,List.drop_zero,List.map_append,List.take_left' (by rw[List.length_map])]) (.d rfl (A5 ae B3) (.d rfl (A5 Ao B2) (.ref rfl (Ag ag) (Bm ag B1) (.d rfl rfl (.d rfl rfl (.nil))))))) (.d rfl rfl (.nil)))
end
section
open Go Go.Proofs
set_option maxRecDepth 20000
set_option maxHeartbeats 4000000
def Xdd:List (Nat×TyRow):=[ty3,ty9,XgT,Xn,Xi]
theorem Xcy:B8 Tryz.prog Xdd:=B8.of (by kernel_rfl)
theorem Xj8:Setup Tryz.prog Xdd:=⟨Xcy,mixed⟩
def Dv(d:Aa)(name:ByteArray):Aa×Int:=if Bk d=false∨Dc d name<0 then(d,3)else
 (⟨d.nodes_.set (Dc d name).toNat ⟨(d.nodes_.getD (Dc d name).toNat ⟨0,tx [],0⟩).id_,(d.nodes_.getD (Dc d name).toNat ⟨0,tx [],0⟩).text_,((d.nodes_.getD (Dc d name).toNat ⟨0,tx [],0⟩).text_.size:Int)⟩,d.entries_,d.old_,d.steps_,d.room_,d.next_⟩,0)
theorem XgD{Ae:List Ax}{Be:List (List D)}{Ah:List Ad}{Bf:List (List D)}{Ai:List Ad}{A9:List (List D)}{Af:List ByteArray}{Bg:List (List D)}{An:Int}{Al:Int}{name:ByteArray}{G1:List Ax}{Eg:List (List D)}{G2:List Ad}{Eo:List (List D)}{G9:List Ad}{Eh:List (List D)}{G0:List ByteArray}{Ef:List (List D)}{G8:Int}{G4:Int}{ob:Int}(Aj:Ae.map A6=Be)(Ak:Ah.map Ac=Bf)(Ao:Ai.map Ac=A9)(Am:Af.map cS=Bg)(hn:Ae.length≤1000000000)(he:Ah.length≤1000000000)(ho:Ai.length≤1000000000)(hs:Af.length<1000000000)(hss:okS Af)(af:I9 (⟨Ae,Ah,Ai,Af,An,Al⟩:Aa))(hr:Dv (⟨Ae,Ah,Ai,Af,An,Al⟩:Aa) name=(⟨G1,G2,G9,G0,G8,G4⟩,ob))(B0:G1.map A6=Eg)(B3:G2.map Ac=Eo)(B2:G9.map Ac=Eh)(B1:G0.map cS=Ef):Fn Tryz.prog 236 [.agg [.d (.row 3 Be),.d (.row 2 Bf),.d (.row 2 A9),.d (.row 1 Bg),I An,I Al],S name] [] ⟨.tup [.agg [.d (.row 3 Eg),.d (.row 2 Eo),.d (.row 2 Eh),.d (.row 1 Ef),I G8,I G4],I ob],[],[]⟩:=by
 refine Fn.go Xj8 Tryz.func236 fun P hP Q hQ=>?_
 conv=>cbv
 obtain⟨n2,ah⟩:∃m,m=Ae.length:=⟨_,rfl⟩
 obtain⟨n3,ai⟩:∃m,m=Af.length:=⟨_,rfl⟩
 refine .ddN hP (I3 Aj Ak Ao Am (by omega) (by omega) (by omega) (by omega) ah ai) rfl ?_
 conv=>cbv
 generalize ab:Dc (⟨Ae,Ah,Ai,Af,An,Al⟩:Aa) name=r4
 refine .dd hP (M1 Aj Ak Ao Am af.1 ab) ?_
 conv=>cbv
 have hb:=H2 ab
 simp only[]at hb
 generalize ad:Bk (⟨Ae,Ah,Ai,Af,An,Al⟩:Aa)=r5
 refine .dd hP (My Aj Ak Ao Am af ad) ?_
 cases r5
 conv=>cbv
 have e:((⟨Ae,Ah,Ai,Af,An,Al⟩:Aa),3)=Dv (⟨Ae,Ah,Ai,Af,An,Al⟩:Aa) name:=(by unfold Dv;rw[if_pos (.inl ad)])
 rw[hr]at e
 simp only[Prod.mk.injEq,Aa.mk.injEq]at e
 obtain⟨⟨rfl,rfl,rfl,rfl,rfl,rfl⟩,rfl⟩:=e
 refine hQ _ _ ?_
 exact .many (.inl rfl) rfl rfl (.agg (.ref rfl (Ag Aj) (Bm Aj B0) (.d rfl (A5 Ak B3) (.d rfl (A5 Ao B2) (.ref rfl (Ag Am) (Bm Am B1) (.d rfl rfl (.d rfl rfl (.nil))))))) (.d rfl rfl (.nil)))
 conv=>cbv
 refine .lss (fun h6=>?_) fun h6=>?_
 conv=>cbv
 have e:((⟨Ae,Ah,Ai,Af,An,Al⟩:Aa),3)=Dv (⟨Ae,Ah,Ai,Af,An,Al⟩:Aa) name:=(by unfold Dv;rw[if_pos (.inr (by rw[ab];exact h6))])
 rw[hr]at e
 simp only[Prod.mk.injEq,Aa.mk.injEq]at e
 obtain⟨⟨rfl,rfl,rfl,rfl,rfl,rfl⟩,rfl⟩:=e
 refine hQ _ _ ?_
 exact .many (.inl rfl) rfl rfl (.agg (.ref rfl (Ag Aj) (Bm Aj B0) (.d rfl (A5 Ak B3) (.d rfl (A5 Ao B2) (.ref rfl (Ag Am) (Bm Am B1) (.d rfl rfl (.d rfl rfl (.nil))))))) (.d rfl rfl (.nil)))
 conv=>cbv
 refine .go r4.toNat fun p7 aq an=>?_
 conv=>cbv
 refine .go Aj fun ao ⟨ap,ae,aj⟩ ak=>?_
 conv=>cbv
 refine .go fun v9 al=>?_
 conv=>cbv
 refine .go r4.toNat fun aa ag am=>?_
 conv=>cbv
 refine .go (⟨(Ae.getD aa ⟨0,tx [],0⟩).id_,(Ae.getD aa ⟨0,tx [],0⟩).text_,v9⟩:Ax) Aj (by omega) (by rw[←gD (show aa<Ae.length by omega)];rfl) (Nat.le_refl 3) fun ar ac=>?_
 conv=>cbv
 have e:((⟨Ae.set aa (⟨(Ae.getD aa ⟨0,tx [],0⟩).id_,(Ae.getD aa ⟨0,tx [],0⟩).text_,v9⟩:Ax),Ah,Ai,Af,An,Al⟩:Aa),0)=Dv (⟨Ae,Ah,Ai,Af,An,Al⟩:Aa) name:=(by unfold Dv;rw[if_neg (by rintro(h|h);rw[ad]at h;cases h;rw[ab]at h;omega),ab];dsimp only;have e9:ae=(Ae.getD aa ⟨0,tx [],0⟩).text_:=(by have h9:p7=aa:=(by omega);subst h9;rw[←gD (show p7<Ae.length by omega),←ak]);rw[al,e9,←ag])
 rw[hr]at e
 simp only[Prod.mk.injEq,Aa.mk.injEq]at e
 obtain⟨⟨rfl,rfl,rfl,rfl,rfl,rfl⟩,rfl⟩:=e
 refine hQ _ _ ?_
 exact .many (.inl rfl) rfl rfl (.agg (.ref rfl (Ag ac) (Bm ac B0) (.d rfl (A5 Ak B3) (.d rfl (A5 Ao B2) (.ref rfl (Ag Am) (Bm Am B1) (.d rfl rfl (.d rfl rfl (.nil))))))) (.d rfl rfl (.nil)))
end
section
open Go Go.Proofs
set_option maxRecDepth 20000
set_option maxHeartbeats 4000000
def Xck:List (Nat×TyRow):=[ty3,ty9,Xay,XgT,XaS,Xn,Xi]
theorem Xc7:B8 Tryz.prog Xck:=B8.of (by kernel_rfl)
theorem XaL:Setup Tryz.prog Xck:=⟨Xc7,mixed⟩
theorem Xdp{α:Type}{f:α→Int}(h:∀x,0≤f x):∀{l:List α} {a:Int},a≤(l.map f).foldl (·+·) a
 |[],a=>by simp
 |x::l,a=>by
  rw[List.map_cons,List.foldl_cons]
  have:=Xdp h (l:=l) (a:=a+f x)
  have:=h x
  omega
theorem Xgx(d:Aa):0≤F1 d:=Xdp (f:=fun n:Ax=>(n.text_.size:Int)) (fun x=>by omega)
theorem Iv{d:Aa}(h:Bk d=true):0≤d.room_∧d.room_≤1000000000∧1≤d.next_∧d.next_≤1000000000∧0≤F1 d∧F1 d≤d.room_:=by
 have h1:=diskOk_iff.1 h
 exact⟨h1.1.1,h1.1.2,h1.2.1.1,h1.2.1.2,Xgx d,h1.2.2.2.1⟩
def gN(d:Aa)(i:Int):Ax:=d.nodes_.getD i.toNat ⟨0,tx [],0⟩
def XlL(d:Aa)(i:Int)(x:Ax):Aa:=⟨d.nodes_.set i.toNat x,d.entries_,d.old_,d.steps_,d.room_,d.next_⟩
def Cl(d:Aa)(name text:ByteArray):Aa×Int:=if Bk d=false∨Dc d name<0 then(d,3)else
 (XlL d (Dc d name) ⟨(gN d (Dc d name)).id_,(gN d (Dc d name)).text_++text.extract 0 (min (text.size:Int) (d.room_ - F1 d)).toNat,(gN d (Dc d name)).sure_⟩,if d.room_ - F1 d<text.size then 5 else 0)
def Bh(d:Aa)(name:ByteArray):Aa×Int:=if Bk d=false then(d,3)else if Bs name=false then(d,1)else if 0≤Aw d.entries_ name then(d,2)else if 16≤d.entries_.length∨64≤d.nodes_.length∨1000000000≤d.next_ then(d,4)else
 (Mf ⟨d.nodes_++[⟨d.next_,tx [],0⟩],d.entries_,d.old_,d.steps_,d.room_,d.next_+1⟩ (tx [43]++name++tx [58]++Ci d.next_),0)
def D6(d:Aa):Aa:=if Bk d=false then d else⟨Nx d.nodes_ d.entries_ [],d.entries_,d.entries_,[],d.room_,d.next_⟩
variable {Ae G1:List Ax} {Be Bf A9 Bg Eg Eo Eh Ef:List (List D)} {Ah Ai G2 G9:List Ad} {Af G0:List ByteArray} {An Al G8 G4 ob:Int} {name:ByteArray}
theorem XbD{text:ByteArray}(Aj:Ae.map A6=Be)(Ak:Ah.map Ac=Bf)(Ao:Ai.map Ac=A9)(Am:Af.map cS=Bg)(hn:Ae.length≤1000000000)(he:Ah.length≤1000000000)(ho:Ai.length≤1000000000)(hs:Af.length<1000000000)(hss:okS Af)(ah:I9 (⟨Ae,Ah,Ai,Af,An,Al⟩:Aa))(ht:text.size≤1000000000)(hr:Cl (⟨Ae,Ah,Ai,Af,An,Al⟩:Aa) name text=(⟨G1,G2,G9,G0,G8,G4⟩,ob))(B0:G1.map A6=Eg)(B3:G2.map Ac=Eo)(B2:G9.map Ac=Eh)(B1:G0.map cS=Ef):Fn Tryz.prog 233 [.agg [.d (.row 3 Be),.d (.row 2 Bf),.d (.row 2 A9),.d (.row 1 Bg),I An,I Al],S name,S text] [] ⟨.tup [.agg [.d (.row 3 Eg),.d (.row 2 Eo),.d (.row 2 Eh),.d (.row 1 Ef),I G8,I G4],I ob],[],[]⟩:=by
 refine Fn.go XaL Tryz.func233 fun P hP Q hQ=>?_
 conv=>cbv
 obtain⟨n2,au⟩:∃m,m=Ae.length:=⟨_,rfl⟩
 obtain⟨n3,aw⟩:∃m,m=Af.length:=⟨_,rfl⟩
 refine .ddN hP (I3 Aj Ak Ao Am (by omega) (by omega) (by omega) (by omega) au aw) rfl ?_
 conv=>cbv
 generalize ac:Dc (⟨Ae,Ah,Ai,Af,An,Al⟩:Aa) name=r4
 refine .dd hP (M1 Aj Ak Ao Am ah.1 ac) ?_
 conv=>cbv
 have hb:=H2 ac
 simp only[]at hb
 generalize ae:Bk (⟨Ae,Ah,Ai,Af,An,Al⟩:Aa)=r5
 refine .dd hP (My Aj Ak Ao Am ah ae) ?_
 cases r5
 conv=>cbv
 have e:((⟨Ae,Ah,Ai,Af,An,Al⟩:Aa),3)=Cl (⟨Ae,Ah,Ai,Af,An,Al⟩:Aa) name text:=(by unfold Cl;rw[if_pos (.inl ae)])
 rw[hr]at e
 simp only[Prod.mk.injEq,Aa.mk.injEq]at e
 obtain⟨⟨rfl,rfl,rfl,rfl,rfl,rfl⟩,rfl⟩:=e
 refine hQ _ _ ?_
 exact .many (.inl rfl) rfl rfl (.agg (.ref rfl (Ag Aj) (Bm Aj B0) (.d rfl (A5 Ak B3) (.d rfl (A5 Ao B2) (.ref rfl (Ag Am) (Bm Am B1) (.d rfl rfl (.d rfl rfl (.nil))))))) (.d rfl rfl (.nil)))
 conv=>cbv
 refine .lss (fun h6=>?_) fun h6=>?_
 conv=>cbv
 have e:((⟨Ae,Ah,Ai,Af,An,Al⟩:Aa),3)=Cl (⟨Ae,Ah,Ai,Af,An,Al⟩:Aa) name text:=(by unfold Cl;rw[if_pos (.inr (by rw[ac];exact h6))])
 rw[hr]at e
 simp only[Prod.mk.injEq,Aa.mk.injEq]at e
 obtain⟨⟨rfl,rfl,rfl,rfl,rfl,rfl⟩,rfl⟩:=e
 refine hQ _ _ ?_
 exact .many (.inl rfl) rfl rfl (.agg (.ref rfl (Ag Aj) (Bm Aj B0) (.d rfl (A5 Ak B3) (.d rfl (A5 Ao B2) (.ref rfl (Ag Am) (Bm Am B1) (.d rfl rfl (.d rfl rfl (.nil))))))) (.d rfl rfl (.nil)))
 conv=>cbv
 refine .go fun v7 ap=>?_
 conv=>cbv
 generalize ai:F1 (⟨Ae,Ah,Ai,Af,An,Al⟩:Aa)=r8
 refine .dd hP (Xex Aj Ak Ao Am ah.1 ai) ?_
 conv=>cbv
 have hri:=Iv ae
 simp only[ai]at hri
 refine .sub fun v9 aq=>?_
 conv=>cbv
 refine .go fun bb ak=>?_
 conv=>cbv
 refine .go r4.toNat fun aj a2 ax=>?_
 conv=>cbv
 refine .go Aj fun an ⟨ay,ab,ar⟩ af=>?_
 conv=>cbv
 refine .hi fun az ag=>?_
 conv=>cbv
 have a6:ab.size≤1000000000:=by have h9:=ah.1.2.1 _ (List.getElem_mem an);rw[←af]at h9;exact h9
 have a7:az.size≤text.size:=by rw[ag,ByteArray.size_extract];omega
 refine .go fun ao al a8=>?_
 conv=>cbv
 refine .go r4.toNat fun aa am a1=>?_
 conv=>cbv
 refine .go (⟨(Ae.getD aa ⟨0,tx [],0⟩).id_,ao,(Ae.getD aa ⟨0,tx [],0⟩).sure_⟩:Ax) Aj (by omega) (by rw[←gD (show aa<Ae.length by omega)];rfl) (show 1+1≤3 by decide) fun bc ad=>?_
 conv=>cbv
 refine .go fun bd ba=>?_
 conv=>cbv
 refine .lss (fun h18=>?_) fun h18=>?_
 conv=>cbv
 have e:((⟨Ae.set aa (⟨(Ae.getD aa ⟨0,tx [],0⟩).id_,ao,(Ae.getD aa ⟨0,tx [],0⟩).sure_⟩:Ax),Ah,Ai,Af,An,Al⟩:Aa),5)=Cl (⟨Ae,Ah,Ai,Af,An,Al⟩:Aa) name text:=(by unfold Cl;rw[if_neg (by rintro(h|h);rw[ae]at h;cases h;rw[ac]at h;omega),ac,ai];dsimp only;rw[if_pos (by omega)];unfold XlL gN;dsimp only;have e9:ab=(Ae.getD aa ⟨0,tx [],0⟩).text_:=(by have h9:aj=aa:=(by omega);subst h9;rw[←gD (show aj<Ae.length by omega),←af]);rw[←am,al,e9,ag,ak,ap,aq])
 rw[hr]at e
 simp only[Prod.mk.injEq,Aa.mk.injEq]at e
 obtain⟨⟨rfl,rfl,rfl,rfl,rfl,rfl⟩,rfl⟩:=e
 refine hQ _ _ ?_
 exact .many (.inl rfl) rfl rfl (.agg (.ref rfl (Ag ad) (Bm ad B0) (.d rfl (A5 Ak B3) (.d rfl (A5 Ao B2) (.ref rfl (Ag Am) (Bm Am B1) (.d rfl rfl (.d rfl rfl (.nil))))))) (.d rfl rfl (.nil)))
 conv=>cbv
 have e:((⟨Ae.set aa (⟨(Ae.getD aa ⟨0,tx [],0⟩).id_,ao,(Ae.getD aa ⟨0,tx [],0⟩).sure_⟩:Ax),Ah,Ai,Af,An,Al⟩:Aa),0)=Cl (⟨Ae,Ah,Ai,Af,An,Al⟩:Aa) name text:=(by unfold Cl;rw[if_neg (by rintro(h|h);rw[ae]at h;cases h;rw[ac]at h;omega),ac,ai];dsimp only;rw[if_neg (by omega)];unfold XlL gN;dsimp only;have e9:ab=(Ae.getD aa ⟨0,tx [],0⟩).text_:=(by have h9:aj=aa:=(by omega);subst h9;rw[←gD (show aj<Ae.length by omega),←af]);rw[←am,al,e9,ag,ak,ap,aq])
 rw[hr]at e
 simp only[Prod.mk.injEq,Aa.mk.injEq]at e
 obtain⟨⟨rfl,rfl,rfl,rfl,rfl,rfl⟩,rfl⟩:=e
 refine hQ _ _ ?_
 exact .many (.inl rfl) rfl rfl (.agg (.ref rfl (Ag ad) (Bm ad B0) (.d rfl (A5 Ak B3) (.d rfl (A5 Ao B2) (.ref rfl (Ag Am) (Bm Am B1) (.d rfl rfl (.d rfl rfl (.nil))))))) (.d rfl rfl (.nil)))
theorem Xbh(Aj:Ae.map A6=Be)(Ak:Ah.map Ac=Bf)(Ao:Ai.map Ac=A9)(Am:Af.map cS=Bg)(hn:Ae.length≤1000000000)(he:Ah.length≤1000000000)(ho:Ai.length≤1000000000)(hs:Af.length<1000000000)(hss:okS Af)(aw:I9 (⟨Ae,Ah,Ai,Af,An,Al⟩:Aa))(hm:name.size≤1000000000)(hr:Bh (⟨Ae,Ah,Ai,Af,An,Al⟩:Aa) name=(⟨G1,G2,G9,G0,G8,G4⟩,ob))(B0:G1.map A6=Eg)(B3:G2.map Ac=Eo)(B2:G9.map Ac=Eh)(B1:G0.map cS=Ef):Fn Tryz.prog 237 [.agg [.d (.row 3 Be),.d (.row 2 Bf),.d (.row 2 A9),.d (.row 1 Bg),I An,I Al],S name] [] ⟨.tup [.agg [.d (.row 3 Eg),.d (.row 2 Eo),.d (.row 2 Eh),.d (.row 1 Ef),I G8,I G4],I ob],[],[]⟩:=by
 refine Fn.go XaL Tryz.func237 fun P hP Q hQ=>?_
 conv=>cbv
 obtain⟨n2,ax⟩:∃m,m=Ae.length:=⟨_,rfl⟩
 obtain⟨n3,ay⟩:∃m,m=Af.length:=⟨_,rfl⟩
 refine .ddN hP (I3 Aj Ak Ao Am (by omega) (by omega) (by omega) (by omega) ax ay) rfl ?_
 conv=>cbv
 generalize aa:Bk (⟨Ae,Ah,Ai,Af,An,Al⟩:Aa)=r4
 refine .dd hP (My Aj Ak Ao Am aw aa) ?_
 cases r4
 conv=>cbv
 have e:((⟨Ae,Ah,Ai,Af,An,Al⟩:Aa),3)=Bh (⟨Ae,Ah,Ai,Af,An,Al⟩:Aa) name:=(by unfold Bh;rw[if_pos aa])
 rw[hr]at e
 simp only[Prod.mk.injEq,Aa.mk.injEq]at e
 obtain⟨⟨rfl,rfl,rfl,rfl,rfl,rfl⟩,rfl⟩:=e
 refine hQ _ _ ?_
 exact .many (.inl rfl) rfl rfl (.agg (.ref rfl (Ag Aj) (Bm Aj B0) (.d rfl (A5 Ak B3) (.d rfl (A5 Ao B2) (.ref rfl (Ag Am) (Bm Am B1) (.d rfl rfl (.d rfl rfl (.nil))))))) (.d rfl rfl (.nil)))
 conv=>cbv
 generalize ab:Bs name=r5
 refine .dd hP (M6 (by omega) ab) ?_
 cases r5
 conv=>cbv
 have e:((⟨Ae,Ah,Ai,Af,An,Al⟩:Aa),1)=Bh (⟨Ae,Ah,Ai,Af,An,Al⟩:Aa) name:=(by unfold Bh;rw[if_neg (by rw[aa];decide),if_pos ab])
 rw[hr]at e
 simp only[Prod.mk.injEq,Aa.mk.injEq]at e
 obtain⟨⟨rfl,rfl,rfl,rfl,rfl,rfl⟩,rfl⟩:=e
 refine hQ _ _ ?_
 exact .many (.inl rfl) rfl rfl (.agg (.ref rfl (Ag Aj) (Bm Aj B0) (.d rfl (A5 Ak B3) (.d rfl (A5 Ao B2) (.ref rfl (Ag Am) (Bm Am B1) (.d rfl rfl (.d rfl rfl (.nil))))))) (.d rfl rfl (.nil)))
 conv=>cbv
 generalize ad:Aw Ah name=r6
 refine .dd hP (Kp Ak (by omega) ad) ?_
 conv=>cbv
 refine .geq (fun h7=>?_) fun h7=>?_
 conv=>cbv
 have e:((⟨Ae,Ah,Ai,Af,An,Al⟩:Aa),2)=Bh (⟨Ae,Ah,Ai,Af,An,Al⟩:Aa) name:=(by unfold Bh;rw[if_neg (by rw[aa];decide),if_neg (by rw[ab];decide),if_pos (by rw[ad];omega)])
 rw[hr]at e
 simp only[Prod.mk.injEq,Aa.mk.injEq]at e
 obtain⟨⟨rfl,rfl,rfl,rfl,rfl,rfl⟩,rfl⟩:=e
 refine hQ _ _ ?_
 exact .many (.inl rfl) rfl rfl (.agg (.ref rfl (Ag Aj) (Bm Aj B0) (.d rfl (A5 Ak B3) (.d rfl (A5 Ao B2) (.ref rfl (Ag Am) (Bm Am B1) (.d rfl rfl (.d rfl rfl (.nil))))))) (.d rfl rfl (.nil)))
 conv=>cbv
 refine .go Ak fun v8 bf=>?_
 conv=>cbv
 refine .geq (fun h9=>?_) fun h9=>?_
 conv=>cbv
 have e:((⟨Ae,Ah,Ai,Af,An,Al⟩:Aa),4)=Bh (⟨Ae,Ah,Ai,Af,An,Al⟩:Aa) name:=(by unfold Bh;rw[if_neg (by rw[aa];decide),if_neg (by rw[ab];decide),if_neg (by rw[ad];omega),if_pos (by dsimp only;omega)])
 rw[hr]at e
 simp only[Prod.mk.injEq,Aa.mk.injEq]at e
 obtain⟨⟨rfl,rfl,rfl,rfl,rfl,rfl⟩,rfl⟩:=e
 refine hQ _ _ ?_
 exact .many (.inl rfl) rfl rfl (.agg (.ref rfl (Ag Aj) (Bm Aj B0) (.d rfl (A5 Ak B3) (.d rfl (A5 Ao B2) (.ref rfl (Ag Am) (Bm Am B1) (.d rfl rfl (.d rfl rfl (.nil))))))) (.d rfl rfl (.nil)))
 conv=>cbv
 refine .go Aj fun bg a2=>?_
 conv=>cbv
 refine .geq (fun h11=>?_) fun h11=>?_
 conv=>cbv
 have e:((⟨Ae,Ah,Ai,Af,An,Al⟩:Aa),4)=Bh (⟨Ae,Ah,Ai,Af,An,Al⟩:Aa) name:=(by unfold Bh;rw[if_neg (by rw[aa];decide),if_neg (by rw[ab];decide),if_neg (by rw[ad];omega),if_pos (by dsimp only;omega)])
 rw[hr]at e
 simp only[Prod.mk.injEq,Aa.mk.injEq]at e
 obtain⟨⟨rfl,rfl,rfl,rfl,rfl,rfl⟩,rfl⟩:=e
 refine hQ _ _ ?_
 exact .many (.inl rfl) rfl rfl (.agg (.ref rfl (Ag Aj) (Bm Aj B0) (.d rfl (A5 Ak B3) (.d rfl (A5 Ao B2) (.ref rfl (Ag Am) (Bm Am B1) (.d rfl rfl (.d rfl rfl (.nil))))))) (.d rfl rfl (.nil)))
 conv=>cbv
 refine .geq (fun h12=>?_) fun h12=>?_
 conv=>cbv
 have e:((⟨Ae,Ah,Ai,Af,An,Al⟩:Aa),4)=Bh (⟨Ae,Ah,Ai,Af,An,Al⟩:Aa) name:=(by unfold Bh;rw[if_neg (by rw[aa];decide),if_neg (by rw[ab];decide),if_neg (by rw[ad];omega),if_pos (by dsimp only;omega)])
 rw[hr]at e
 simp only[Prod.mk.injEq,Aa.mk.injEq]at e
 obtain⟨⟨rfl,rfl,rfl,rfl,rfl,rfl⟩,rfl⟩:=e
 refine hQ _ _ ?_
 exact .many (.inl rfl) rfl rfl (.agg (.ref rfl (Ag Aj) (Bm Aj B0) (.d rfl (A5 Ak B3) (.d rfl (A5 Ao B2) (.ref rfl (Ag Am) (Bm Am B1) (.d rfl rfl (.d rfl rfl (.nil))))))) (.d rfl rfl (.nil)))
 conv=>cbv
 refine .one (⟨Al,tx [],0⟩:Ax) Aj rfl fun a6 bh az ao=>?_
 conv=>cbv
 have hri:=Iv aa
 simp only[]at hri
 have hnz:=Qe ab
 refine .add fun a1 ap=>?_
 conv=>cbv
 refine .litL 1 fun bi aq a7=>?_
 conv=>cbv
 refine .litR 1 fun bj ar a8=>?_
 conv=>cbv
 generalize af:Ci Al=bk
 refine .dd hP (Xb7 (by unfold Xab;omega) af) ?_
 conv=>cbv
 have zr17:=S1 af (by unfold Xab;omega)
 refine .go fun ae au ba=>?_
 conv=>cbv
 generalize ag:(Ap Ah ae).1=al
 generalize ah:al.map Ac=bb
 generalize am:Nx (Ae++[(⟨Al,tx [],0⟩:Ax)]) Ai (Af++[ae])=ak
 obtain⟨bc,ai⟩:∃m,m=ak.length:=⟨_,rfl⟩
 generalize ac:(ak++List.replicate ((Ae++[(⟨Al,tx [],0⟩:Ax)]).length - ak.length) (⟨0,tx [],0⟩:Ax)).map A6=bd
 generalize aj:(Af++[ae]).map cS=bl
 obtain⟨be,an⟩:∃m,m=(Af++[ae]).length:=⟨_,rfl⟩
 refine .bx [12,14,7] [14,7] hP (Qt ao Ak Ao Am (by first|assumption|omega|(simp;omega)) (by first|assumption|omega|(simp;omega)) (by rw[List.length_append,List.length_singleton];omega) (by omega) (by omega) (by omega) (by omega) hss ((congrArg (List.map Ac) ag).trans ah) am ai ac aj an) rfl rfl rfl rfl ?_
 conv=>cbv
 have e:((⟨ak,al,Ai,Af++[ae],An,a1⟩:Aa),0)=Bh (⟨Ae,Ah,Ai,Af,An,Al⟩:Aa) name:=(by unfold Bh;rw[if_neg (by rw[aa];decide),if_neg (by rw[ab];decide),if_neg (by rw[ad];omega),if_neg (by dsimp only;omega)];unfold Mf;dsimp only;rw[show tx [43]++name++tx [58]++Ci Al=ae from(by rw[au,ar,aq,af];rfl),am,ag,ap])
 rw[hr]at e
 simp only[Prod.mk.injEq,Aa.mk.injEq]at e
 obtain⟨⟨rfl,rfl,rfl,rfl,rfl,rfl⟩,rfl⟩:=e
 refine hQ _ _ ?_
 exact .many (.inl rfl) rfl rfl (.agg (.sub rfl (by rw[←ac,List.length_map,List.length_append];omega) (by rw[←ac,←B0,ai,List.drop_zero,List.map_append,List.take_left' (by rw[List.length_map])]) (.d rfl (A5 ah B3) (.d rfl (A5 Ao B2) (.ref rfl (Ag aj) (Bm aj B1) (.d rfl rfl (.d rfl rfl (.nil))))))) (.d rfl rfl (.nil)))
theorem Xdz{onod:List Ax}{K3:List (List D)}{oent:List Ad}{K1:List (List D)}{oold:List Ad}{K4:List (List D)}{oste:List ByteArray}{K5:List (List D)}{oroo:Int}{onex:Int}(Aj:Ae.map A6=Be)(Ak:Ah.map Ac=Bf)(Ao:Ai.map Ac=A9)(Am:Af.map cS=Bg)(hn:Ae.length≤1000000000)(he:Ah.length≤1000000000)(ho:Ai.length≤1000000000)(hs:Af.length<1000000000)(hss:okS Af)(ag:I9 (⟨Ae,Ah,Ai,Af,An,Al⟩:Aa))(hr:D6 (⟨Ae,Ah,Ai,Af,An,Al⟩:Aa)=⟨onod,oent,oold,oste,oroo,onex⟩)(Lv:onod.map A6=K3)(L8:oent.map Ac=K1)(Lq:oold.map Ac=K4)(L4:oste.map cS=K5):Fn Tryz.prog 239 [.agg [.d (.row 3 Be),.d (.row 2 Bf),.d (.row 2 A9),.d (.row 1 Bg),I An,I Al]] [] ⟨.agg [.d (.row 3 K3),.d (.row 2 K1),.d (.row 2 K4),.d (.row 1 K5),I oroo,I onex],[],[]⟩:=by
 refine Fn.go XaL Tryz.func239 fun P hP Q hQ=>?_
 conv=>cbv
 obtain⟨n2,ah⟩:∃m,m=Ae.length:=⟨_,rfl⟩
 obtain⟨n3,ai⟩:∃m,m=Af.length:=⟨_,rfl⟩
 refine .ddN hP (I3 Aj Ak Ao Am (by omega) (by omega) (by omega) (by omega) ah ai) rfl ?_
 conv=>cbv
 generalize ac:Bk (⟨Ae,Ah,Ai,Af,An,Al⟩:Aa)=r4
 refine .dd hP (My Aj Ak Ao Am ag ac) ?_
 cases r4
 conv=>cbv
 have e:(⟨Ae,Ah,Ai,Af,An,Al⟩:Aa)=D6 (⟨Ae,Ah,Ai,Af,An,Al⟩:Aa):=(by unfold D6;rw[if_pos ac])
 rw[hr]at e
 simp only[Aa.mk.injEq]at e
 obtain⟨rfl,rfl,rfl,rfl,rfl,rfl⟩:=e
 exact hQ _ _ (.one (.inl rfl) rfl (.agg (.ref rfl (Ag Aj) (Bm Aj Lv) (.d rfl (A5 Ak L8) (.d rfl (A5 Ao Lq) (.ref rfl (Ag Am) (Bm Am L4) (.d rfl rfl (.d rfl rfl (.nil))))))) .nil))
 conv=>cbv
 generalize ae:D4 Ah=l5
 generalize ad:l5.map Ac=aj
 refine .dd hP (Cb Ak (by omega) ae ad) ?_
 conv=>cbv
 have e5:l5=Ah:=ae.symm
 have ak:l5.length≤1000000000:=by rw[e5];exact he
 generalize af:Nx Ae l5 []=o7
 obtain⟨al,ab⟩:∃m,m=o7.length:=⟨_,rfl⟩
 generalize aa:(o7++List.replicate (Ae.length - o7.length) (⟨0,tx [],0⟩:Ax)).map A6=am
 refine .bx [12,6,13] [6,13] hP (Tr Aj Ak ad rfl (by first|assumption|omega) (by first|assumption|omega|rfl|(simp at*;omega)) (by omega) (by omega) (by simp) (fun _ h=>by cases h) af ab aa) rfl rfl rfl rfl ?_
 conv=>cbv
 have e:(⟨o7,Ah,l5,[],An,Al⟩:Aa)=D6 (⟨Ae,Ah,Ai,Af,An,Al⟩:Aa):=(by unfold D6;rw[if_neg (by rw[ac];decide)];dsimp only;rw[←af,e5])
 rw[hr]at e
 simp only[Aa.mk.injEq]at e
 obtain⟨rfl,rfl,rfl,rfl,rfl,rfl⟩:=e
 exact hQ _ _ (.one (.inl rfl) rfl (.agg (.sub rfl (by rw[←aa,List.length_map,List.length_append];omega) (by rw[←aa,←Lv,ab,List.drop_zero,List.map_append,List.take_left' (by rw[List.length_map])]) (.d rfl (A5 Ak L8) (.d rfl (A5 ad Lq) (.ref rfl rfl (by rw[←L4];rfl) (.d rfl rfl (.d rfl rfl (.nil))))))) .nil))
end
section
open Go Go.Proofs
set_option maxRecDepth 20000
set_option maxHeartbeats 4000000
def U9:List Ad→List ByteArray→Prop
 |_,[]=>True
 |now,s::ss=>srt now∧(Ap now s).2=true∧U9 (Ap now s).1 ss
theorem Hx{now:List Ad}{s:ByteArray}{ss:List ByteArray}(h:(Ap now s).2=true):Hr now (s::ss)=Hr (Ap now s).1 ss:=if_neg (by rw[h];decide)
theorem XeE{d:Aa}:∀{l:List ByteArray} {now:List Ad},Er d now l=true→U9 now l∧Hr now l=(d.entries_,true)∧Bc d d.entries_=true
 |[],now,h=>by
  unfold Er at h
  rw[Bool.and_eq_true]at h
  have e:now=d.entries_:=by
   have:=h.2
   unfold F9 at this
   exact of_decide_eq_true this
  refine⟨trivial,by rw[←e];rfl,by rw[←e];exact h.1⟩
 |s::ss,now,h=>by
  unfold Er at h
  rw[Bool.and_eq_true,Bool.and_eq_true]at h
  obtain⟨a,b,c⟩:=XeE (now:=(Ap now s).1) h.2
  exact⟨⟨Xg3 h.1.1,h.1.2,a⟩,by rw[Hx h.1.2,b],c⟩
theorem O5:∀{l:List ByteArray} {now:List Ad} (k:Nat),U9 now l→U9 now (l.take k)
 |[],_,k,_=>by rw[List.take_nil];trivial
 |_::_,_,0,_=>trivial
 |_::_,_,k+1,h=>⟨h.1,h.2.1,O5 k h.2.2⟩
theorem Xu{s:ByteArray}{e:List Ad}:∀{l:List ByteArray} {now:List Ad},U9 now l→Hr now l=(e,true)→srt e→(Ap e s).2=true→U9 now (l++[s])
 |[],now,_,h,hs,h2=>by
  have e1:now=e:=congrArg Prod.fst h
  rw[e1]
  exact⟨hs,h2,trivial⟩
 |x::l,now,h,h1,hs,h2=>by
  rw[Hx h.2.1]at h1
  exact⟨h.1,h.2.1,Xu h.2.2 h1 hs h2⟩
theorem Up:∀{l:List ByteArray} {now:List Ad},U9 now l→Cw now l=Hr now l∧(Hr now l).2=true
 |[],now,_=>⟨rfl,rfl⟩
 |s::ss,now,h=>by
  obtain⟨a,b⟩:=Up (now:=(Ap now s).1) h.2.2
  have e2:Cw now (s::ss)=Cw (Ex now s).1 ss:=if_neg (by rw[W5 h.1,h.2.1];decide)
  rw[Hx h.2.1,e2,W5 h.1,a]
  exact⟨rfl,b⟩
def Mv(l:List Ad)(id:Int):Bool:=l.any fun e=>decide (e.id_=id)
def Xbo(old:List Ad)(steps:List ByteArray)(id:Int):Bool:=(List.range (steps.length+1)).any fun k=>Mv (Cw old (steps.take k)).1 id
theorem Xr{id:Int}:∀{l:List ByteArray} {now:List Ad},U9 now l→(Rl now l id=true↔∃k,k≤l.length∧Mv (Hr now (l.take k)).1 id=true)
 |[],now,_=>by
  constructor
  ·intro h;exact⟨0,Nat.le_refl _,h⟩
  ·rintro⟨k,_,h⟩
   rw[List.take_nil]at h
   exact h
 |s::ss,now,h=>by
  have ih:=Xr (id:=id) (now:=(Ap now s).1) h.2.2
  show(Mv now id||Rl (Ap now s).1 ss id)=true↔_
  rw[Bool.or_eq_true,ih]
  constructor
  ·rintro(h1|⟨k,hk,h1⟩)
   ·exact⟨0,Nat.zero_le _,h1⟩
   ·refine⟨k+1,by rw[List.length_cons];omega,?_⟩
    rw[List.take_succ_cons,Hx h.2.1]
    exact h1
  ·rintro⟨k,hk,h1⟩
   cases k with
   |zero=>exact .inl h1
   |succ k=>
    rw[List.take_succ_cons,Hx h.2.1]at h1
    exact .inr ⟨k,by rw[List.length_cons]at hk;omega,h1⟩
theorem XhB{old:List Ad}{steps:List ByteArray}(h:U9 old steps)(id:Int):Xbo old steps id=Rl old steps id:=by
 rw[Bool.eq_iff_iff,Xr h]
 unfold Xbo
 rw[List.any_eq_true]
 constructor
 ·rintro⟨k,hk,h1⟩
  rw[(Up (O5 k h)).1]at h1
  exact⟨k,by have:=List.mem_range.1 hk;omega,h1⟩
 ·rintro⟨k,hk,h1⟩
  refine⟨k,List.mem_range.2 (by omega),?_⟩
  rw[(Up (O5 k h)).1]
  exact h1
def En(d:Aa):Aa:=⟨d.nodes_.filter (fun x=>Xbo d.old_ d.steps_ x.id_),d.entries_,d.old_,d.steps_,d.room_,d.next_⟩
theorem X2{d:Aa}(h:U9 d.old_ d.steps_):En d=⟨Nx d.nodes_ d.old_ d.steps_,d.entries_,d.old_,d.steps_,d.room_,d.next_⟩:=by
 unfold En Nx
 rw[List.filter_congr fun x _=>XhB h x.id_]
theorem Xjd{n:ByteArray}(h:Bs n=true):∀(j:Nat) x,n.data.toList[j]? =some x→x≠58:=by
 intro j x hx e
 unfold Bs at h
 rw[Bool.and_eq_true]at h
 have:=List.all_eq_true.1 h.1 x (List.mem_of_getElem? hx)
 rw[e]at this
 exact absurd this (by decide)
theorem Xe5{a b:ByteArray}(h:Bs a=true):K0 (a++tx [58]++b)=(a,b,true):=by
 have hl:(a++tx [58]++b).data.toList=a.data.toList++58::b.data.toList:=by
  rw[ByteArray.data_append,ByteArray.data_append,Array.toList_append,Array.toList_append,Qf,List.append_assoc]
  rfl
 have ha:a.data.toList.length=a.size:=Array.length_toList
 have e:Jn (a++tx [58]++b)=(a.size:Int):=by
  unfold Jn
  rw[hl,Oy _ a.size]
  ·rw[List.getElem?_append_right (by omega),ha,Nat.sub_self]
   rfl
  ·intro j hj x hx
   rw[List.getElem?_append_left (by omega)]at hx
   exact Xjd h j x hx
 unfold K0
 rw[e,if_pos (by omega),Int.toNat_natCast]
 have hz:(a++tx [58]++b).size=a.size+1+b.size:=by rw[ByteArray.size_append,ByteArray.size_append,B7];rfl
 have hb:b.data.toList.length=b.size:=Array.length_toList
 have e1:(a++tx [58]++b).extract 0 a.size=a:=by
  apply Nr
  rw[Dr,hl,List.drop_zero,List.take_left' ha]
 have e2:(a++tx [58]++b).extract (a.size+1) (a++tx [58]++b).size=b:=by
  apply Nr
  rw[Dr,List.take_of_length_le (by rw[Array.length_toList];exact Nat.le_refl _),hl,List.drop_append,List.drop_of_length_le (by omega),ha,Nat.add_sub_cancel_left]
  rfl
 rw[e1,e2]
theorem Q3{c:UInt8}{s:ByteArray}:(tx [c]++s).extract 1 (tx [c]++s).size=s:=by
 apply Nr
 rw[Dr,List.take_of_length_le (by rw[Array.length_toList];exact Nat.le_refl _),ByteArray.data_append,Array.toList_append,Qf]
 rfl
theorem XaQ{c:UInt8}{s:ByteArray}:(tx [c]++s).data.toList.head?=some c:=by
 rw[ByteArray.data_append,Array.toList_append,Qf]
 rfl
theorem XhH{c:UInt8}{s:ByteArray}:tx [c]++s≠tx []:=by
 intro e
 have:=congrArg ByteArray.size e
 rw[ByteArray.size_append,B7,B7]at this
 simp at this
theorem Xhx{l:List Ad}{n:ByteArray}{i:Int}(hn:Bs n=true)(h0:0≤i)(h1:i≤1000000000):Ap l (tx [43]++(n++tx [58]++Ci i))=(Ut l n i,true):=by
 have hc:K0 ((tx [43]++(n++tx [58]++Ci i)).extract 1 (tx [43]++(n++tx [58]++Ci i)).size)=(n,Ci i,true):=by rw[Q3];exact Xe5 hn
 rw[Ml XhH XaQ hc,Xjo h0 h1,if_neg (by rw[hn];simp)]
theorem Xgb{l:List Ad}{n:ByteArray}(hn:Bs n=true)(h:0≤Aw l n):Ap l (tx [45]++n)=(Km l (Aw l n) (Aw l n+1),true):=by
 rw[Sn XhH XaQ,Q3]
 unfold G5
 rw[if_neg (by rw[hn];rintro(k|k);omega;cases k)]
theorem XgZ{l:List Ad}{a b:ByteArray}(hn:Bs a=true)(hb:Bs b=true)(hne:a≠b)(h:0≤Aw l a):Ap l (tx [62]++(a++tx [58]++b))=(Ut (Km l (Aw l a) (Aw l a+1)) b (Cy l a),true):=by
 have hd:G5 l a=(Km l (Aw l a) (Aw l a+1),true):=by
  unfold G5
  rw[if_neg (by rw[hn];rintro(k|k);omega;cases k)]
 have hc:K0 ((tx [62]++(a++tx [58]++b)).extract 1 (tx [62]++(a++tx [58]++b)).size)=(a,b,true):=by rw[Q3];exact Xe5 hn
 rw[Ku XhH XaQ hc,hd,if_neg (by rw[hb];simp;exact hne)]
theorem app3(a b c d:ByteArray):a++b++c++d=a++(b++c++d):=by
 rw[ByteArray.append_assoc,ByteArray.append_assoc,ByteArray.append_assoc]
theorem Ph{d:Aa}(h:Bk d=true):U9 d.old_ d.steps_∧Hr d.old_ d.steps_=(d.entries_,true)∧Bc d d.entries_=true:=XeE (diskOk_iff.1 h).2.2.2.2
theorem Oa{d:Aa}(h:Bk d=true):srt d.entries_:=Xg3 (Ph h).2.2
theorem XeD{d:Aa}{n:ByteArray}(h:Bk d=true)(hp:0≤Aw d.entries_ n):Bs n=true∧0≤Dc d n:=by
 obtain⟨hi,hq⟩:=Rn (p:=fun e=>Cn e n) (rfl:Aw d.entries_ n=_) hp
 have h1:=XdX (Ph h).2.2 hi
 unfold Cn at hq
 rw[decide_eq_true_eq]at hq
 unfold Fm at h1
 rw[XbO hi rfl,Bool.and_eq_true,Bool.and_eq_true,decide_eq_true_eq]at h1
 refine⟨by rw[←hq];exact h1.1.2,?_⟩
 unfold Dc
 rw[if_neg (by omega)]
 unfold Cy
 rw[if_neg (by omega),←gD hi]
 exact h1.2
theorem Yx{d:Aa}{n:ByteArray}(h:Aw d.entries_ n<0):Dc d n<0:=by
 unfold Dc
 rw[if_pos h]
 decide
theorem Sm{d:Aa}{s:ByteArray}{e:List Ad}{nodes:List Ax}{r x:Int}(h:Bk d=true)(hs:Ap d.entries_ s=(e,true)):En ⟨nodes,e,d.old_,d.steps_++[s],r,x⟩=Mf ⟨nodes,d.entries_,d.old_,d.steps_,r,x⟩ s:=by
 rw[X2 (Xu (Ph h).1 (Ph h).2.1 (Oa h) (by rw[hs]))]
 unfold Mf
 rw[hs]
theorem Xd2{d:Aa}{name:ByteArray}{nodes:List Ax}{r x:Int}(h:Bk d=true)(hn:Bs name=true):En ⟨nodes,Ee d.entries_ ⟨name,d.next_⟩,d.old_,d.steps_++[tx [43]++name++tx [58]++Ci d.next_],r,x⟩=Mf ⟨nodes,d.entries_,d.old_,d.steps_,r,x⟩ (tx [43]++name++tx [58]++Ci d.next_):=by
 have hr:=Iv h
 rw[Xb0 (Oa h),app3]
 exact Sm h (Xhx hn (by omega) (by omega))
theorem Xd0{d:Aa}{name:ByteArray}(h:Bk d=true)(hp:0≤Aw d.entries_ name):En ⟨d.nodes_,Dx d.entries_ name,d.old_,d.steps_++[tx [45]++name],d.room_,d.next_⟩=Mf d (tx [45]++name):=by
 rw[Wl (Oa h) hp]
 exact Sm h (Xgb (XeD h hp).1 hp)
theorem Xdl{d:Aa}{a b:ByteArray}(h:Bk d=true)(hp:0≤Aw d.entries_ a)(hb:Bs b=true)(hne:a≠b):En ⟨d.nodes_,Ee (Dx d.entries_ a) ⟨b,Cy d.entries_ a⟩,d.old_,d.steps_++[tx [62]++a++tx [58]++b],d.room_,d.next_⟩=Mf d (tx [62]++a++tx [58]++b):=by
 rw[Xb0 (XeH (Oa h)),Wl (Oa h) hp,app3]
 exact Sm h (XgZ (XeD h hp).1 hb hne hp)
theorem Yq{d:Aa}{n:ByteArray}(h:0≤Aw d.entries_ n):Iz d (Cy d.entries_ n)=Dc d n:=by
 unfold Dc
 rw[if_neg (by omega)]
theorem Xax{l:List Ad}{n:ByteArray}(h:Eb l n=true):0≤Aw l n:=by
 unfold Eb at h
 exact of_decide_eq_true h
theorem Xci{l:List Ad}{n:ByteArray}(h:Eb l n=false):Aw l n<0:=by
 unfold Eb at h
 have:=of_decide_eq_false h
 omega
theorem Xk{p:Nat→Bool}{k:Nat}:(List.range (k+1)).any p=((List.range k).any p||p k):=by
 rw[List.range_succ,List.any_append]
 simp
theorem Yw{old:List Ad}{steps:List ByteArray}{id:Int}{k:Nat}(hk:k≤steps.length+1)(h:true=(List.range k).any fun k=>Mv (Cw old (steps.take k)).1 id):Xbo old steps id=true:=by
 obtain⟨j,hj,h1⟩:=List.any_eq_true.1 h.symm
 exact List.any_eq_true.2 ⟨j,List.mem_range.2 (by have:=List.mem_range.1 hj;omega),h1⟩
theorem S6{l:List Ad}{k:Nat}{id:Int}(hk:k<l.length):Mv (l.take (k+1)) id=(Mv (l.take k) id||decide (l[k].id_=id)):=Xe3 hk
theorem Xgr(l:List Ad)(s:ByteArray):(Ex l s).1.length≤l.length+1:=by
 unfold Ex
 split
 ·simp
 ·split
  ·exact Ga rfl
  ·have h1:=Is (rfl:Dx l (B5 s).1=_)
   split
   ·have h2:=Ga (rfl:Ee (Dx l (B5 s).1) ⟨(B5 s).2.1,Cy l (B5 s).1⟩=_)
    show(Ee _ _).length≤_
    omega
   ·show(Dx _ _).length≤_
    omega
theorem Xis:∀(l:List ByteArray) (now:List Ad),(Cw now l).1.length≤now.length+l.length
 |[],_=>Nat.le_refl _
 |s::l,now=>by
  have h1:=Xgr now s
  have h2:=Xis l (Ex now s).1
  unfold Cw
  split
  ·exact Nat.zero_le _
  ·rw[List.length_cons]
   omega
theorem Xae{t:ByteArray}{n:Nat}(h:t.size≤n):t.extract 0 n=t:=by
 apply Nr
 rw[Dr,List.drop_zero,List.take_of_length_le (by rw[Array.length_toList];exact h)]
end
end Go.Proofs.YtgdmjbcllgmepaaGreatDoor.Ab
