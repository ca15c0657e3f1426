/- What functions of the program come to, for all arguments in the given bounds. -/
import Derived.Test.YtjbmpmmffjgedaaGreatDoorToch19
import Derived.Test.YtjbmpmmffjgedaaGreatDoorToZ10
set_option linter.unusedVariables false
set_option linter.unusedSimpArgs false
namespace Go.Proofs.YtjbmpmmffjgedaaGreatDoor.Ab
section
open Go Go.Proofs
set_option maxRecDepth 20000
set_option maxHeartbeats 4000000
def Xb7:List (Nat×TyRow):=[ty3,ty5,ty9,Xfz,We,Wn]
theorem Xat:Bl Tryz.prog Xb7:=Bl.of (by kernel_rfl)
theorem XeB:Setup Tryz.prog Xb7:=⟨Xat,mixed⟩
def Dm(l:List Ac)(s:ByteArray):List Ac×Bool:=
 if(Ba s).2.2.2=false∨Bo (Ba s).1=false∨(s.data.toList.head?≠some 43∧Du l (Ba s).1=false)then([],false)
 else if s.data.toList.head?=some 43 then(Cn l ⟨(Ba s).1,(Ba s).2.2.1⟩,true)
 else if s.data.toList.head?=some 62 then(Cn (Cl l (Ba s).1) ⟨(Ba s).2.1,Cp l (Ba s).1⟩,true)
 else(Cl l (Ba s).1,true)
def B7:List Ac→List ByteArray→List Ac×Bool
 |now,[]=>(now,true)
 |now,s::ss=>if(Dm now s).2=false then([],false)else B7 (Dm now s).1 ss
def Co(old:List Ac)(steps:List ByteArray)(n:Int):List Ac×Bool:=B7 old (steps.take (Fb n 0 steps.length).toNat)
theorem Xbw{s a b:ByteArray}{c:Int}{d:Bool}(e:Ba s=(a,b,c,d)):(a.size≤s.size∧b.size≤s.size)∧(d=true→2≤s.size∧(s.data.toList.head?=some 43∨s.data.toList.head?=some 45∨s.data.toList.head?=some 62)):=by
 have hz:(s.extract 1 s.size).size≤s.size:=by rw[ByteArray.size_extract];omega
 obtain⟨x,y,z,hc⟩:∃x y z,Nt (s.extract 1 s.size)=(x,y,z):=⟨_,_,_,rfl⟩
 have hcb:=XjR hc
 have h0:(tx []).size≤s.size:=by rw[A3];exact Nat.zero_le _
 unfold Ba at e
 rw[hc]at e
 by_cases h1:s.size<2∨(s.data.toList.head?≠some 43∧s.data.toList.head?≠some 45∧s.data.toList.head?≠some 62)
 ·rw[if_pos h1]at e
  simp only[Prod.mk.injEq]at e
  obtain⟨rfl,rfl,rfl,rfl⟩:=e
  exact⟨⟨h0,h0⟩,fun h=>by cases h⟩
 ·rw[if_neg h1]at e
  have hd:2≤s.size∧(s.data.toList.head?=some 43∨s.data.toList.head?=some 45∨s.data.toList.head?=some 62):=by
   refine⟨by omega,?_⟩
   by_cases k1:s.data.toList.head?=some 43
   ·exact .inl k1
   ·by_cases k2:s.data.toList.head?=some 45
    ·exact .inr (.inl k2)
    ·by_cases k3:s.data.toList.head?=some 62
     ·exact .inr (.inr k3)
     ·exact absurd (.inr ⟨k1,k2,k3⟩) h1
  refine⟨?_,fun _=>hd⟩
  split at e
  ·simp only[Prod.mk.injEq]at e
   obtain⟨rfl,rfl,_⟩:=e
   exact⟨hz,h0⟩
  ·split at e
   ·simp only[Prod.mk.injEq]at e
    obtain⟨rfl,rfl,_⟩:=e
    exact⟨h0,h0⟩
   ·split at e
    ·simp only[Prod.mk.injEq]at e
     obtain⟨rfl,rfl,_⟩:=e
     exact⟨by omega,by omega⟩
    ·simp only[Prod.mk.injEq]at e
     obtain⟨rfl,rfl,_⟩:=e
     exact⟨by omega,h0⟩
theorem Xb2(e:Ac):∀(l:List Ac) (b:Bool),(Ra e l b).length≤l.length+(if b=true then 0 else 1)
 |[],b=>by cases b<;>simp[Ra]
 |x::l,b=>by
  have ih:=Xb2 e l (b|| !(ltB x.name_ e.name_))
  unfold Ra
  rw[List.length_append,List.length_append,List.length_cons]
  cases b<;>cases h:ltB x.name_ e.name_<;>simp only[h,Bool.not_true,Bool.not_false,Bool.or_true,Bool.or_false,Bool.true_or,if_true,Bool.false_eq_true,if_false,true_and,false_and,reduceCtorEq]at ih⊢<;>split<;>simp<;>omega
theorem C2{l o:List Ac}{e:Ac}(h:Cn l e=o):o.length≤l.length+1:=by
 rw[←h]
 exact Xb2 e l false
theorem E9{l o:List Ac}{n:ByteArray}(h:Cl l n=o):o.length≤l.length:=by
 rw[←h]
 exact List.length_filter_le _ _
theorem Xll{s:ByteArray}{n:Nat}(h:0<s.size)(e:s.data.toList.head?=some (UInt8.ofNat n))(hn:n<256):(s[0]).toNat=n:=by
 rw[Tw h]at e
 rw[Option.some.inj e,UInt8.toNat_ofNat',Nat.mod_eq_of_lt (by omega)]
section
variable {l:List Ac} {s a b:ByteArray} {c:Int} {d:Bool}
theorem Dv(e:Ba s=(a,b,c,d))(h:d=false∨Bo a=false∨(s.data.toList.head?≠some 43∧Du l a=false)):Dm l s=([],false):=by
 unfold Dm
 rw[e,if_pos h]
theorem Sd(e:Ba s=(a,b,c,true))(hn:Bo a=true)(h:s.data.toList.head?=some 43):Dm l s=(Cn l ⟨a,c⟩,true):=by
 unfold Dm
 rw[e,if_neg (by rw[hn,h];simp),if_pos h]
theorem Rt(e:Ba s=(a,b,c,true))(hn:Bo a=true)(hh:Du l a=true)(h:s.data.toList.head?=some 62):Dm l s=(Cn (Cl l a) ⟨b,Cp l a⟩,true):=by
 unfold Dm
 rw[e,if_neg (by rw[hn,hh];simp),if_neg (by rw[h];decide),if_pos h]
theorem Pj(e:Ba s=(a,b,c,true))(hn:Bo a=true)(hh:Du l a=true)(h:s.data.toList.head?=some 45):Dm l s=(Cl l a,true):=by
 unfold Dm
 rw[e,if_neg (by rw[hn,hh];simp),if_neg (by rw[h];decide),if_neg (by rw[h];decide)]
end
theorem Xdl{old:List Ac}{xold:List (List D)}{steps:List ByteArray}{xsteps:List (List D)}{n:Int}{oa:List Ac}{xoa:List (List D)}{ob:Bool}(hold:old.map Ad=xold)(hsteps:steps.map cS=xsteps)(hol:old.length≤1000000000)(hsl:steps.length≤1000000000)(hss:okS steps)(hr:Co old steps n=(oa,ob))(hoa:oa.map Ad=xoa):Fn Tryz.prog 212 [.d (.row 2 xold),.d (.row 1 xsteps),I n] [] ⟨.tup [.d (.row 2 xoa),B ob],[],[]⟩:=by
 refine Fn.go XeB Tryz.func212 fun P hP Q hQ=>?_
 conv=>cbv
 refine .row0 hold fun di z1 da bz=>?_
 conv=>cbv
 refine .go hsteps fun v2 cq=>?_
 conv=>cbv
 generalize bu:Fb n 0 v2=r3
 refine .dd hP (Xbk bu) ?_
 conv=>cbv
 have hbr:0≤r3∧r3≤steps.length:=by rw[←bu];unfold Fb;split<;>(try split)<;>omega
 refine .frz 2 [8] rfl rfl (by rw[←bz,List.length_map];first|omega|(simp;omega)) ?_
 refine LoopW.lp (κ:=(List (List D))×Int) XeB hP [] [1,2] (fun(aj,i9)=>[(8,.d (.row 2 aj)),(9,I i9)]) (fun(aj,i9)=>[])
  (fun(aj,i9)=>∃(u8:List Ac),u8.map Ad=aj∧0≤i9∧i9≤r3∧Co old steps n=B7 u8 ((steps.take r3.toNat).drop i9.toNat)∧u8.length≤old.length+i9)
  (fun(aj,i9)=>(r3 - i9).toNat) (z1,0) ⟨old,bz,by omega,by omega,by unfold Co;rw[←cq,bu];rfl,by omega⟩ ⟨rfl,rfl,trivial⟩ rfl ?_
 rintro⟨aj,i9⟩ J ⟨u8,ab,h0,h1,hio,hun⟩ hJ
 conv=>cbv
 refine .lss (fun h4=>?_) fun h4=>?_
 conv=>cbv
 refine .go i9.toNat hsteps fun b0 e5 aa=>?_
 conv=>cbv
 have dj:e5.size≤1000000000:=aa▸hss _ (List.getElem_mem b0)
 have hdc:(steps.take r3.toNat).drop i9.toNat=e5::(steps.take r3.toNat).drop (i9.toNat+1):=by rw[List.drop_eq_getElem_cons (by rw[List.length_take];omega),List.getElem_take,←aa]
 rw[hdc]at hio
 rcases am:Ba e5 with⟨ag,bk,bl,cr⟩
 refine .dd hP (XaI (by omega) am) ?_
 conv=>cbv
 have hlf:=Xbw am
 cases cr
 conv=>cbv
 have e:([],false)=Co old steps n:=(by rw[hio];show _=(if(Dm u8 e5).2=false then _ else _);rw[Dv am (.inl rfl)];rfl)
 rw[hr]at e
 simp only[Prod.mk.injEq]at e
 obtain⟨rfl,rfl⟩:=e
 refine hQ _ _ ?_
 exact .many (.inl rfl) rfl rfl (.ref rfl rfl (by rw[←hoa];rfl) (.d rfl rfl (.nil)))
 conv=>cbv
 obtain⟨h2z,hh0⟩:=hlf.2 rfl
 have h00:0<e5.size:=by omega
 have hh1:(e5[0]).toNat=43∨(e5[0]).toNat=45∨(e5[0]).toNat=62:=hh0.imp (fun h=>Xll h00 h (by decide)) fun h=>h.imp (fun h=>Xll h00 h (by decide)) fun h=>Xll h00 h (by decide)
 generalize az:Bo ag=r7
 refine .dd hP (Kk (by omega) az) ?_
 cases r7
 conv=>cbv
 have e:([],false)=Co old steps n:=(by rw[hio];show _=(if(Dm u8 e5).2=false then _ else _);rw[Dv am (.inr (.inl az))];rfl)
 rw[hr]at e
 simp only[Prod.mk.injEq]at e
 obtain⟨rfl,rfl⟩:=e
 refine hQ _ _ ?_
 exact .many (.inl rfl) rfl rfl (.ref rfl rfl (by rw[←hoa];rfl) (.d rfl rfl (.nil)))
 conv=>cbv
 refine .go i9.toNat hsteps fun db e8 ct=>?_
 conv=>cbv
 obtain rfl:e5=e8:=aa.trans ct.symm
 refine .go 0 fun hjv9 v9 b2 bv9=>?_
 conv=>cbv
 refine .neq (fun h10=>?_) fun h10=>?_
 conv=>cbv
 generalize aw:Du u8 ag=cu
 refine .dd hP (Kl ab (by omega) aw) ?_
 cases cu
 conv=>cbv
 have e:([],false)=Co old steps n:=(by rw[hio];show _=(if(Dm u8 e5).2=false then _ else _);rw[Dv am (.inr (.inr ⟨(I5 (n:=43) h00 b2 (by omega) (by decide)),aw⟩))];rfl)
 rw[hr]at e
 simp only[Prod.mk.injEq]at e
 obtain⟨rfl,rfl⟩:=e
 refine hQ _ _ ?_
 exact .many (.inl rfl) rfl rfl (.ref rfl rfl (by rw[←hoa];rfl) (.d rfl rfl (.nil)))
 conv=>cbv
 refine .go i9.toNat hsteps fun cv cw b3=>?_
 conv=>cbv
 obtain rfl:e5=cw:=aa.trans b3.symm
 refine .go 0 fun hjv13 dk b4 bv13=>?_
 conv=>cbv
 refine .eql (fun h14=>?_) fun h14=>?_
 conv=>cbv
 generalize bn:Cp u8 ag=b5
 refine .dd hP (I2 ab (by omega) bn) ?_
 conv=>cbv
 refine .go i9.toNat hsteps fun cx cy b6=>?_
 conv=>cbv
 obtain rfl:e5=cy:=aa.trans b6.symm
 refine .go 0 fun hjv17 dl dc bv17=>?_
 conv=>cbv
 refine .neq (fun h18=>?_) fun h18=>?_
 conv=>cbv
 generalize a1:Cl u8 ag=b7
 have hln19:=E9 a1
 generalize a2:b7.map Ad=b8
 refine .dd hP (Qu ab (by omega) a1 a2) ?_
 conv=>cbv
 refine .go i9.toNat hsteps fun cz c0 b9=>?_
 conv=>cbv
 obtain rfl:e5=c0:=aa.trans b9.symm
 refine .go 0 fun hjv21 al ax bv21=>?_
 conv=>cbv
 refine .neq (fun h22=>?_) fun h22=>?_
 conv=>cbv
 generalize a6:Cn b7 (⟨bk,b5⟩:Ac)=c1
 have hln23:=C2 a6
 generalize bo:c1.map Ad=ca
 refine .dd hP (Kn a2 (by omega) a6 bo) ?_
 conv=>cbv
 refine .add fun cc de=>?_
 conv=>cbv
 exact .go [] (ca,cc) (hJ _ ⟨_,bo,by omega,by omega,by rw[hio,show cc.toNat=i9.toNat+1 by omega];show(if(Dm u8 e5).2=false then _ else _)=_;rw[Rt am az aw (Il (n:=62) h00 b4 (by omega) (by decide)),a1,bn,a6];rfl,by omega⟩ mlt)
 conv=>cbv
 refine .add fun au a7=>?_
 conv=>cbv
 exact .go [] (b8,au) (hJ _ ⟨_,a2,by omega,by omega,by exfalso;omega,by exfalso;omega⟩ mlt)
 conv=>cbv
 refine .go i9.toNat hsteps fun a8 ba an=>?_
 conv=>cbv
 obtain rfl:e5=ba:=aa.trans an.symm
 refine .go 0 fun hjv20 bm ay bv20=>?_
 conv=>cbv
 refine .neq (fun h21=>?_) fun h21=>?_
 conv=>cbv
 generalize ac:Cn u8 (⟨ag,b5⟩:Ac)=bb
 have hln22:=C2 ac
 generalize ad:bb.map Ad=ao
 refine .dd hP (Kn ab (by omega) ac ad) ?_
 conv=>cbv
 refine .add fun au a7=>?_
 conv=>cbv
 exact .go [] (ao,au) (hJ _ ⟨_,ad,by omega,by omega,by exfalso;omega,by exfalso;omega⟩ mlt)
 conv=>cbv
 refine .add fun ah ap=>?_
 conv=>cbv
 exact .go [] (aj,ah) (hJ _ ⟨_,ab,by omega,by omega,by exfalso;omega,by exfalso;omega⟩ mlt)
 conv=>cbv
 refine .go i9.toNat hsteps fun bv bw bc=>?_
 conv=>cbv
 obtain rfl:e5=bw:=aa.trans bc.symm
 refine .go 0 fun hjv16 c2 cd bv16=>?_
 conv=>cbv
 refine .neq (fun h17=>?_) fun h17=>?_
 conv=>cbv
 generalize ak:Cl u8 ag=bd
 have hln18:=E9 ak
 generalize ai:bd.map Ad=be
 refine .dd hP (Qu ab (by omega) ak ai) ?_
 conv=>cbv
 refine .go i9.toNat hsteps fun a8 ba an=>?_
 conv=>cbv
 obtain rfl:e5=ba:=aa.trans an.symm
 refine .go 0 fun hjv20 bm ay bv20=>?_
 conv=>cbv
 refine .neq (fun h21=>?_) fun h21=>?_
 conv=>cbv
 generalize ac:Cn bd (⟨bk,bl⟩:Ac)=bb
 have hln22:=C2 ac
 generalize ad:bb.map Ad=ao
 refine .dd hP (Kn ai (by omega) ac ad) ?_
 conv=>cbv
 refine .add fun au a7=>?_
 conv=>cbv
 exact .go [] (ao,au) (hJ _ ⟨_,ad,by omega,by omega,by exfalso;omega,by exfalso;omega⟩ mlt)
 conv=>cbv
 refine .add fun ah ap=>?_
 conv=>cbv
 exact .go [] (be,ah) (hJ _ ⟨_,ai,by omega,by omega,by rw[hio,show ah.toNat=i9.toNat+1 by omega];show(if(Dm u8 e5).2=false then _ else _)=_;rw[Pj am az aw (Il (n:=45) h00 ay (by omega) (by decide)),ak];rfl,by omega⟩ mlt)
 conv=>cbv
 refine .go i9.toNat hsteps fun bf bg aq=>?_
 conv=>cbv
 obtain rfl:e5=bg:=aa.trans aq.symm
 refine .go 0 fun hjv19 ce bp bv19=>?_
 conv=>cbv
 refine .neq (fun h20=>?_) fun h20=>?_
 conv=>cbv
 generalize ae:Cn u8 (⟨ag,bl⟩:Ac)=bh
 have hln21:=C2 ae
 generalize af:bh.map Ad=ar
 refine .dd hP (Kn ab (by omega) ae af) ?_
 conv=>cbv
 refine .add fun ah ap=>?_
 conv=>cbv
 exact .go [] (ar,ah) (hJ _ ⟨_,af,by omega,by omega,by exfalso;omega,by exfalso;omega⟩ mlt)
 conv=>cbv
 refine .add fun al ax=>?_
 conv=>cbv
 exact .go [] (aj,al) (hJ _ ⟨_,ab,by omega,by omega,by exfalso;omega,by exfalso;omega⟩ mlt)
 conv=>cbv
 refine .go i9.toNat hsteps fun c3 c4 cf=>?_
 conv=>cbv
 obtain rfl:e5=c4:=aa.trans cf.symm
 refine .go 0 fun hjv12 dm df bv12=>?_
 conv=>cbv
 refine .eql (fun h13=>?_) fun h13=>?_
 conv=>cbv
 generalize cg:Cp u8 ag=cj
 refine .dd hP (I2 ab (by omega) cg) ?_
 conv=>cbv
 refine .go i9.toNat hsteps fun bv bw bc=>?_
 conv=>cbv
 obtain rfl:e5=bw:=aa.trans bc.symm
 refine .go 0 fun hjv16 c2 cd bv16=>?_
 conv=>cbv
 refine .neq (fun h17=>?_) fun h17=>?_
 conv=>cbv
 generalize ak:Cl u8 ag=bd
 have hln18:=E9 ak
 generalize ai:bd.map Ad=be
 refine .dd hP (Qu ab (by omega) ak ai) ?_
 conv=>cbv
 refine .go i9.toNat hsteps fun a8 ba an=>?_
 conv=>cbv
 obtain rfl:e5=ba:=aa.trans an.symm
 refine .go 0 fun hjv20 bm ay bv20=>?_
 conv=>cbv
 refine .neq (fun h21=>?_) fun h21=>?_
 conv=>cbv
 generalize ac:Cn bd (⟨bk,cj⟩:Ac)=bb
 have hln22:=C2 ac
 generalize ad:bb.map Ad=ao
 refine .dd hP (Kn ai (by omega) ac ad) ?_
 conv=>cbv
 refine .add fun au a7=>?_
 conv=>cbv
 exact .go [] (ao,au) (hJ _ ⟨_,ad,by omega,by omega,by exfalso;omega,by exfalso;omega⟩ mlt)
 conv=>cbv
 refine .add fun ah ap=>?_
 conv=>cbv
 exact .go [] (be,ah) (hJ _ ⟨_,ai,by omega,by omega,by exfalso;omega,by exfalso;omega⟩ mlt)
 conv=>cbv
 refine .go i9.toNat hsteps fun bf bg aq=>?_
 conv=>cbv
 obtain rfl:e5=bg:=aa.trans aq.symm
 refine .go 0 fun hjv19 ce bp bv19=>?_
 conv=>cbv
 refine .neq (fun h20=>?_) fun h20=>?_
 conv=>cbv
 generalize ae:Cn u8 (⟨ag,cj⟩:Ac)=bh
 have hln21:=C2 ae
 generalize af:bh.map Ad=ar
 refine .dd hP (Kn ab (by omega) ae af) ?_
 conv=>cbv
 refine .add fun ah ap=>?_
 conv=>cbv
 exact .go [] (ar,ah) (hJ _ ⟨_,af,by omega,by omega,by exfalso;omega,by exfalso;omega⟩ mlt)
 conv=>cbv
 refine .add fun al ax=>?_
 conv=>cbv
 exact .go [] (aj,al) (hJ _ ⟨_,ab,by omega,by omega,by exfalso;omega,by exfalso;omega⟩ mlt)
 conv=>cbv
 refine .go i9.toNat hsteps fun c5 c6 ck=>?_
 conv=>cbv
 obtain rfl:e5=c6:=aa.trans ck.symm
 refine .go 0 fun hjv15 dn dg bv15=>?_
 conv=>cbv
 refine .neq (fun h16=>?_) fun h16=>?_
 conv=>cbv
 generalize bq:Cl u8 ag=cm
 have hln17:=E9 bq
 generalize bi:cm.map Ad=cn
 refine .dd hP (Qu ab (by omega) bq bi) ?_
 conv=>cbv
 refine .go i9.toNat hsteps fun bf bg aq=>?_
 conv=>cbv
 obtain rfl:e5=bg:=aa.trans aq.symm
 refine .go 0 fun hjv19 ce bp bv19=>?_
 conv=>cbv
 refine .neq (fun h20=>?_) fun h20=>?_
 conv=>cbv
 generalize ae:Cn cm (⟨bk,bl⟩:Ac)=bh
 have hln21:=C2 ae
 generalize af:bh.map Ad=ar
 refine .dd hP (Kn bi (by omega) ae af) ?_
 conv=>cbv
 refine .add fun ah ap=>?_
 conv=>cbv
 exact .go [] (ar,ah) (hJ _ ⟨_,af,by omega,by omega,by exfalso;omega,by exfalso;omega⟩ mlt)
 conv=>cbv
 refine .add fun al ax=>?_
 conv=>cbv
 exact .go [] (cn,al) (hJ _ ⟨_,bi,by omega,by omega,by exfalso;omega,by exfalso;omega⟩ mlt)
 conv=>cbv
 refine .go i9.toNat hsteps fun c7 c8 co=>?_
 conv=>cbv
 obtain rfl:e5=c8:=aa.trans co.symm
 refine .go 0 fun hjv18 dp dh bv18=>?_
 conv=>cbv
 refine .neq (fun h19=>?_) fun h19=>?_
 conv=>cbv
 generalize bj:Cn u8 (⟨ag,bl⟩:Ac)=c9
 have hln20:=C2 bj
 generalize bt:c9.map Ad=cp
 refine .dd hP (Kn ab (by omega) bj bt) ?_
 conv=>cbv
 refine .add fun al ax=>?_
 conv=>cbv
 exact .go [] (cp,al) (hJ _ ⟨_,bt,by omega,by omega,by rw[hio,show al.toNat=i9.toNat+1 by omega];show(if(Dm u8 e5).2=false then _ else _)=_;rw[Sd am az (Il (n:=43) h00 b2 (by omega) (by decide)),bj];rfl,by omega⟩ mlt)
 conv=>cbv
 refine .add fun bm ay=>?_
 conv=>cbv
 exact .go [] (aj,bm) (hJ _ ⟨_,ab,by omega,by omega,by exfalso;omega,by exfalso;omega⟩ mlt)
 conv=>cbv
 have e:(u8,true)=Co old steps n:=(by rw[hio,List.drop_of_length_le (by rw[List.length_take];omega)];rfl)
 rw[hr]at e
 simp only[Prod.mk.injEq]at e
 obtain⟨rfl,rfl⟩:=e
 refine hQ _ _ ?_
 exact .many (.inl rfl) rfl rfl (.d rfl (XlV ab hoa) (.d rfl rfl (.nil)))
end
section
open Go Go.Proofs
set_option maxRecDepth 20000
set_option maxHeartbeats 4000000
def Vy:List (Nat×TyRow):=[ty3,ty9,XkD,Xfz,We,Z1,XaA]
theorem Xax:Bl Tryz.prog Vy:=Bl.of (by kernel_rfl)
theorem XjH:Setup Tryz.prog Vy:=⟨Xax,mixed⟩
theorem XaJ(a:List UInt8):Op.bytesLess a a=false:=by
 cases h:Op.bytesLess a a with
 |false=>rfl
 |true=>have:=L9 a a h;rw[h]at this;cases this
theorem Ug:∀a b c:List UInt8,Op.bytesLess a b=true→Op.bytesLess b c=true→Op.bytesLess a c=true
 |_,[],_,h,_=>by simp[Op.bytesLess]at h
 |_,_::_,[],_,h=>by simp[Op.bytesLess]at h
 |[],_::_,_::_,_,_=>by simp[Op.bytesLess]
 |a::x,b::y,c::z,h1,h2=>by
  simp only[Op.bytesLess,Bool.or_eq_true,decide_eq_true_eq,Bool.and_eq_true,beq_iff_eq]at h1 h2⊢
  rcases h1 with h1|⟨rfl,h1⟩
  ·rcases h2 with h2|⟨rfl,h2⟩
   ·exact .inl (UInt8.lt_trans h1 h2)
   ·exact .inl h1
  ·rcases h2 with h2|⟨rfl,h2⟩
   ·exact .inl h2
   ·exact .inr ⟨rfl,Ug x y z h1 h2⟩
theorem Yh(a:ByteArray):ltB a a=false:=XaJ _
theorem XaW{a b c:ByteArray}(h:ltB a b=true)(k:ltB b c=true):ltB a c=true:=Ug _ _ _ h k
theorem Xgv{a b:ByteArray}(h:ltB a b=true):a≠b:=by
 rintro rfl
 rw[Yh]at h
 cases h
theorem Xk3{a b:ByteArray}(h:ltB a b=false)(hn:a≠b):ltB b a=true:=by
 have:=Xdq a b
 rw[h]at this
 simp only[Bool.not_false,Bool.true_eq,Bool.or_eq_true,decide_eq_true_eq]at this
 exact this.resolve_right fun e=>hn e.symm
def srt(l:List Ac):Prop:=l.Pairwise fun a b=>ltB a.name_ b.name_=true
theorem XbH{α:Type}{p:α→Bool}{x:α}{l:List α}:Wf p (x::l)=if p x=true then 0 else if Wf p l<0 then -1 else Wf p l+1:=by
 unfold Wf
 rw[List.findIdx_cons]
 cases hp:p x with
 |true=>simp
 |false=>
  simp only[List.length_cons,cond_false,Bool.false_eq_true,if_false]
  by_cases h:l.findIdx p<l.length
  ·rw[if_pos (show l.findIdx p+1<l.length+1 by omega),if_pos h,if_neg (show¬(l.findIdx p:Int)<0 by omega)]
   omega
  ·rw[if_neg (show¬l.findIdx p+1<l.length+1 by omega),if_neg h,if_pos (by decide)]
theorem Ol{x:Ac}{l:List Ac}{n:ByteArray}:At (x::l) n=if x.name_=n then 0 else if At l n<0 then -1 else At l n+1:=by
 show Wf (fun e=>B0 e n) (x::l)=_
 rw[XbH]
 unfold B0
 simp only[decide_eq_true_eq]
 rfl
theorem Y8{l:List Ac}{n:ByteArray}: -1≤At l n:=(Py rfl).1
theorem Xjp{l:List Ac}{n:ByteArray}(h:∀x∈l,x.name_≠n):At l n<0:=by
 have hb:=Y8 (l:=l) (n:=n)
 rcases Int.lt_or_le (At l n) 0 with k|k
 ·exact k
 ·obtain⟨hi,hp⟩:=Tr (p:=fun e=>B0 e n) (rfl:At l n=_) k
  unfold B0 at hp
  rw[decide_eq_true_eq]at hp
  exact absurd hp (h _ (List.getElem_mem hi))
theorem Yw{l:List Ac}{n:ByteArray}{i k:Int}(h:At l n=k)(hk:0≤k):XcI l n i=l.set k.toNat ⟨(l.getD k.toNat ⟨tx [],0⟩).name_,i⟩:=by
 subst h
 exact if_pos hk
theorem Q4{l:List Ac}{n:ByteArray}{i k:Int}(h:At l n<0)(hk:C6 l n=k):XcI l n i=Pb l (if k<0 then l.length else k) [⟨n,i⟩]:=by
 subst hk
 exact if_neg (by omega)
theorem Xgz{x:Ac}{l:List Ac}{n:ByteArray}{i:Int}:XcI (x::l) n i=if x.name_=n then⟨n,i⟩::l else if At l n<0∧V5 x n=true then⟨n,i⟩::x::l else x::XcI l n i:=by
 have hb:=Y8 (l:=l) (n:=n)
 by_cases hx:x.name_=n
 ·rw[if_pos hx,Yw (k:=0) (by rw[Ol,if_pos hx]) (by decide)]
  simp[hx]
 ·rw[if_neg hx]
  by_cases hp:At l n<0
  ·have hpc:At (x::l) n<0:=by rw[Ol,if_neg hx,if_pos hp];decide
   have hc:C6 (x::l) n=if V5 x n=true then 0 else if C6 l n<0 then -1 else C6 l n+1:=XbH (p:=fun e=>V5 e n)
   by_cases h1:V5 x n=true
   ·rw[if_pos ⟨hp,h1⟩,Q4 hpc (k:=0) (by rw[hc,if_pos h1]),if_neg (by decide)]
    simp[Pb]
   ·rw[if_neg (fun h=>h1 h.2)]
    by_cases h2:C6 l n<0
    ·rw[Q4 hpc (k:=-1) (by rw[hc,if_neg h1,if_pos h2]),if_pos (by decide),Q4 hp rfl,if_pos h2]
     simp[Pb]
    ·rw[Q4 hpc (by rw[hc,if_neg h1,if_neg h2]),if_neg (by omega),Q4 hp rfl,if_neg h2]
     unfold Pb
     rw[show(C6 l n+1).toNat=(C6 l n).toNat+1 by omega]
     simp
  ·rw[if_neg (fun h=>hp h.1),Yw (k:=At l n+1) (by rw[Ol,if_neg hx,if_neg hp]) (by omega),Yw (l:=l) rfl (by omega),show(At l n+1).toNat=(At l n).toNat+1 by omega]
   simp
theorem R7{e:Ac}:∀{l:List Ac},(∀x∈l,x.name_≠e.name_)→Ra e l true=l
 |[],_=>rfl
 |x::l,h=>by
  unfold Ra
  rw[if_neg (by simp),if_neg (h x List.mem_cons_self),Bool.true_or,R7 fun y hy=>h y (List.mem_cons_of_mem _ hy)]
  rfl
theorem XbM{n:ByteArray}{i:Int}:∀{l:List Ac},srt l→Cn l ⟨n,i⟩=XcI l n i
 |[],_=>rfl
 |x::l,h=>by
  have hs:=List.pairwise_cons.1 h
  have ih:=XbM (n:=n) (i:=i) hs.2
  unfold Cn at ih⊢
  rw[Xgz]
  unfold Ra
  by_cases hx:x.name_=n
  ·rw[if_pos hx,hx,Yh,if_pos ⟨rfl,rfl⟩,if_pos rfl,Bool.not_false,Bool.or_true,R7 (fun y hy e=>by
    have:=hs.1 y hy
    rw[hx]at this
    exact Xgv this e.symm)]
   rfl
  ·rw[if_neg hx,if_neg hx]
   cases hl:ltB x.name_ n with
   |true=>
    rw[if_neg (by simp),if_neg (by unfold V5;rw[hl];simp),Bool.not_true,Bool.or_false,ih]
    rfl
   |false=>
    have hg:=Xk3 hl hx
    have hne:∀y∈l,y.name_≠n:=fun y hy e=>Xgv (XaW hg (hs.1 y hy)) e.symm
    rw[if_pos ⟨rfl,rfl⟩,if_pos ⟨Xjp hne,by unfold V5;rw[hl,decide_eq_false hx];rfl⟩,Bool.not_false,Bool.or_true,R7 hne]
    rfl
theorem Wb{n:ByteArray}:∀{l:List Ac},srt l→0≤At l n→Cl l n=l.eraseIdx (At l n).toNat
 |[],_,h=>by
  exfalso
  have:At [] n= -1:=rfl
  omega
 |x::l,h,hp=>by
  have hs:=List.pairwise_cons.1 h
  have hb:=Y8 (l:=l) (n:=n)
  rw[Ol]at hp⊢
  unfold Cl
  rw[List.filter_cons]
  by_cases hx:x.name_=n
  ·rw[if_pos hx,decide_eq_true hx]
   have:l.filter (fun x=>!decide (x.name_=n))=l:=by
    rw[List.filter_eq_self]
    intro y hy
    rw[decide_eq_false]
    ·rfl
    ·rintro rfl
     exact Xgv (hs.1 y hy) hx
   simp[this]
  ·rw[if_neg hx]at hp⊢
   rw[decide_eq_false hx]
   by_cases h2:At l n<0
   ·rw[if_pos h2]at hp;omega
   ·rw[if_neg h2,show(At l n+1).toNat=(At l n).toNat+1 by omega,List.eraseIdx_cons_succ,←Wb hs.2 (by omega)]
    rfl
theorem Xhl{d:Aa}{l:List Ac}(h:Bv d l=true){i:Nat}(hi:i<l.length):I6 d l i=true:=by
 unfold Bv at h
 rw[Bool.and_eq_true]at h
 exact List.all_eq_true.1 h.1 i (List.mem_range.2 hi)
theorem Xhf{d:Aa}{l:List Ac}(h:Bv d l=true){i:Nat}(hi:i+1<l.length):ltB l[i].name_ l[i+1].name_=true:=by
 have h1:=Xhl h hi
 unfold I6 at h1
 rw[Xid hi rfl,show i+1 - 1=i by omega,Xid (show i<l.length by omega) rfl,decide_eq_false (show¬i+1=0 by omega),Bool.false_or,←Xdq]at h1
 simp only[Bool.not_not,Bool.and_eq_true]at h1
 exact h1.1.1
theorem Xg0{d:Aa}{l:List Ac}(h:Bv d l=true):srt l:=by
 have key:∀(k i:Nat) (hk:i+1+k<l.length),ltB l[i].name_ l[i+1+k].name_=true:=by
  intro k
  induction k with
  |zero=>intro i hk;exact Xhf h hk
  |succ k ih=>intro i hk;exact XaW (ih i (by omega)) (Xhf h (i:=i+1+k) (by omega))
 refine List.pairwise_iff_getElem.2 fun i j hi hj hij=>?_
 have:=key (j - i - 1) i (by omega)
 simpa only[show i+1+(j - i - 1)=j by omega]using this
theorem XeH{l:List Ac}{n:ByteArray}(h:srt l):srt (Cl l n):=List.Pairwise.filter _ h
theorem Ux{l:List Ac}{s:ByteArray}(h:srt l):Dm l s=A2 l s:=by
 by_cases hne:s=tx []
 ·subst hne
  rw[XjC rfl]
  exact Dv (a:=tx []) (b:=tx []) (c:=0) (d:=false) rfl (.inl rfl)
 have hp:=Xe3 hne
 have hhd:=Tw hp
 obtain⟨a,b,c,hc⟩:∃a b c,Nt (s.extract 1 s.size)=(a,b,c):=⟨_,_,_,rfl⟩
 have hlt2:c=true→2≤s.size:=by
  rintro rfl
  unfold Nt at hc
  split at hc
  ·rename_i h0
   have:=(XfU (rfl:Md (s.extract 1 s.size)=_)).2
   rw[ByteArray.size_extract]at this
   omega
  ·simp at hc
 by_cases h43:s.data.toList.head?=some 43
 ·rw[Xaz hne h43 hc]
  cases c with
  |false=>
   rw[if_pos (.inl rfl)]
   by_cases aa:s.size<2
   ·exact Dv (Yb (.inl aa)).symm (.inl rfl)
   ·exact Dv (Yq (by omega) (.inl h43) (by rw[h43];decide) (by rw[hc])).symm (.inl rfl)
  |true=>
   have hm:=Tu (hlt2 rfl) h43 hc
   cases hr:(A8 b).2 with
   |false=>rw[if_pos (.inr (.inl rfl))];exact Dv hm (.inl (by rw[hr];rfl))
   |true=>
    cases hn:Bo a with
    |false=>rw[if_pos (.inr (.inr rfl))];exact Dv hm (.inr (.inl hn))
    |true=>
     rw[if_neg (by simp)]
     rw[hr,hn]at hm
     rw[Sd hm hn h43,XbM h]
 ·by_cases h45:s.data.toList.head?=some 45
  ·rw[Xf hne h45]
   by_cases aa:s.size<2
   ·have e:s.extract 1 s.size=tx []:=by
     apply Ma
     rw[Da,List.drop_of_length_le (by rw[List.length_take,Array.length_toList];show min _ s.size≤1;omega)]
     rfl
    rw[Dv (Yb (.inl aa)).symm (.inl rfl),e]
    unfold Jn
    rw[if_pos (.inr (by decide))]
   ·have hm:=(Xbt (by omega) h45).symm
    unfold Jn
    by_cases hpl:At l (s.extract 1 s.size)<0
    ·rw[if_pos (.inl hpl)]
     exact Dv hm (.inr (.inr ⟨h43,by unfold Du;rw[decide_eq_false_iff_not];omega⟩))
    ·cases hn:Bo (s.extract 1 s.size)with
     |false=>rw[if_pos (.inr rfl)];exact Dv hm (.inr (.inl hn))
     |true=>
      rw[if_neg (by rintro(k|k);exact hpl k;cases k),Pj hm hn (by unfold Du;rw[decide_eq_true_eq];omega) h45,Wb h (by omega)]
      rfl
  ·by_cases h62:s.data.toList.head?=some 62
   ·rw[XbJ hne h62 hc]
    cases c with
    |false=>
     rw[if_pos (.inl rfl)]
     by_cases aa:s.size<2
     ·exact Dv (Yb (.inl aa)).symm (.inl rfl)
     ·exact Dv (Yq (by omega) (.inr (.inr h62)) h45 (by rw[hc])).symm (.inl rfl)
    |true=>
     have hm:=T4 (hlt2 rfl) h62 hc
     cases hnb:Bo b with
     |false=>rw[if_pos (.inr (.inr (.inl rfl)))];exact Dv hm (.inl (by rw[hnb];rfl))
     |true=>
      by_cases hab:a=b
      ·rw[if_pos (.inr (.inr (.inr hab)))];exact Dv hm (.inl (by rw[hnb,decide_eq_true hab];rfl))
      ·rw[hnb,decide_eq_false hab]at hm
       by_cases hpl:At l a<0
       ·have hd:Jn l a=([],false):=by unfold Jn;rw[if_pos (.inl hpl)]
        rw[hd,if_pos (.inr (.inl rfl))]
        exact Dv hm (.inr (.inr ⟨h43,by unfold Du;rw[decide_eq_false_iff_not];omega⟩))
       ·cases hn:Bo a with
        |false=>
         have hd:Jn l a=([],false):=by unfold Jn;rw[if_pos (.inr hn)]
         rw[hd,if_pos (.inr (.inl rfl))]
         exact Dv hm (.inr (.inl hn))
        |true=>
         have hd:Jn l a=(Cl l a,true):=by unfold Jn;rw[if_neg (by rw[hn];rintro(k|k);exact hpl k;cases k),Wb h (by omega)];rfl
         rw[hd,if_neg (by simp;exact hab),Rt hm hn (by unfold Du;rw[decide_eq_true_eq];omega) h62,XbM (XeH h)]
   ·rw[Xha hne hhd (fun e=>h43 (by rw[hhd,e])) (fun e=>h45 (by rw[hhd,e])) (fun e=>h62 (by rw[hhd,e]))]
    exact Dv (Yb (.inr ⟨h43,h45,h62⟩)).symm (.inl rfl)
def XbW(d:Aa)(k:Nat):Bool:=if(B7 d.old_ (d.steps_.take k)).2=true then Hs d (B7 d.old_ (d.steps_.take k)).1 (d.steps_.drop k)else false
theorem XdQ{s:ByteArray}:∀(l:List ByteArray) (now:List Ac),B7 now (l++[s])=if(B7 now l).2=true then(if(Dm (B7 now l).1 s).2=false then([],false)else Dm (B7 now l).1 s)else([],false)
 |[],now=>by
  show(if(Dm now s).2=false then _ else B7 (Dm now s).1 [])=if true=true then _ else _
  rw[if_pos rfl]
  cases h:Dm now s with
  |mk x b=>cases b<;>simp[B7,h]
 |y::l,now=>by
  show(if(Dm now y).2=false then _ else B7 (Dm now y).1 (l++[s]))=if(if(Dm now y).2=false then _ else B7 (Dm now y).1 l).2=true then _ else _
  by_cases h:(Dm now y).2=false
  ·rw[if_pos h,if_pos h,if_neg (by decide)]
  ·rw[if_neg h,if_neg h,XdQ l]
   have e:B7 now (y::l)=B7 (Dm now y).1 l:=if_neg h
   rw[e]
theorem Xeg{d:Aa}{k:Nat}{x:List Ac}(hk:k<d.steps_.length)(h:B7 d.old_ (d.steps_.take k)=(x,true))(hr:Bv d x=true):B7 d.old_ (d.steps_.take (k+1))=if(A2 x d.steps_[k]).2=false then([],false)else A2 x d.steps_[k]:=by
 rw[List.take_succ_eq_append_getElem hk,XdQ,h,if_pos rfl,Ux (Xg0 hr)]
theorem Xfm{d:Aa}{k:Nat}{x:List Ac}(hk:k<d.steps_.length)(h:B7 d.old_ (d.steps_.take k)=(x,true))(hr:Bv d x=true):XbW d (k+1)=XbW d k:=by
 obtain⟨y,b,hy⟩:∃y b,A2 x d.steps_[k]=(y,b):=⟨_,_,rfl⟩
 unfold XbW
 rw[Xeg hk h hr,h,if_pos (show(x,true).2=true from rfl),List.drop_eq_getElem_cons hk]
 show _=(Bv d x&&(A2 x d.steps_[k]).2&&Hs d (A2 x d.steps_[k]).1 _)
 rw[hr,hy]
 cases b<;>rfl
theorem XaF{old:List Ac}{steps:List ByteArray}{k:Int}(h0:0≤k)(h1:k≤steps.length):Co old steps k=B7 old (steps.take k.toNat):=by
 unfold Co
 rw[show Fb k 0 steps.length=k from by unfold Fb;split<;>(try split)<;>(try split)<;>omega]
def XjK(d:Aa)(k:Nat):Prop:=Hs d d.old_ d.steps_=XbW d k∧okL (B7 d.old_ (d.steps_.take k)).1∧(B7 d.old_ (d.steps_.take k)).1.length≤1000000000
theorem Xf5{d:Aa}(hd:Pc d):XjK d 0:=⟨rfl,hd.2.1,hd.1.2.2.2.2.1⟩
theorem Xfs{d:Aa}(hd:Pc d){k:Nat}{x:List Ac}(hq:XjK d k)(hk:k<d.steps_.length)(h:B7 d.old_ (d.steps_.take k)=(x,true))(hr:Bv d x=true):XjK d (k+1):=by
 obtain⟨h1,h2,h3⟩:=hq
 have hx:=Xeq hr
 rw[h]at h2 h3
 refine⟨by rw[h1,Xfm hk h hr],?_⟩
 rw[Xeg hk h hr]
 obtain⟨y,b,hy⟩:∃y b,A2 x d.steps_[k]=(y,b):=⟨_,_,rfl⟩
 have hl:=Vb hy
 have ho:=Xe8 h2 (hd.2.2 _ (List.getElem_mem hk)) hy
 rw[hy]
 cases b
 ·exact⟨fun e he=>(by cases he),Nat.zero_le _⟩
 ·exact⟨ho,by show y.length≤_;omega⟩
theorem Nh:Setup Tryz.prog ((3000007,Em Tryz.prog 3000007)::((3000001,Em Tryz.prog 3000001)::Vy)):=(Setup.mark 3000007 (Setup.mark 3000001 XjH))
theorem N3{Ak:List Cj}{Bk:List (List D)}{Aj:List Ac}{Bg:List (List D)}{Am:List Ac}{Bf:List (List D)}{Al:List ByteArray}{Bi:List (List D)}{Ao:Int}{An:Int}{o:Bool}(A1:Ak.map B3=Bk)(Ax:Aj.map Ad=Bg)(A6:Am.map Ad=Bf)(A5:Al.map cS=Bi)(ac:Pc ⟨Ak,Aj,Am,Al,Ao,An⟩)(hr:B4 (⟨Ak,Aj,Am,Al,Ao,An⟩:Aa)=o):Fn Tryz.prog 211 [.agg [.d (.row 3 Bk),.d (.row 2 Bg),.d (.row 2 Bf),.d (.row 1 Bi),I Ao,I An]] [] ⟨B o,[],[]⟩:=by
 refine Fn.go Nh Tryz.func211 fun P hP Q hQ=>?_
 conv=>cbv
 refine .go A1 fun v1 bl=>?_
 conv=>cbv
 have hdo:Am.length≤1000000000:=ac.1.2.2.2.2.1
 have hds:Al.length≤1000000000:=ac.1.2.2.2.2.2
 refine .gtr (fun h2=>?_) fun h2=>?_
 conv=>cbv
 refine .go2 (by kernel_rfl) ?_
 conv=>cbv
 have e:false=B4 (⟨Ak,Aj,Am,Al,Ao,An⟩:Aa):=(by exact Gf fun h=>by rw[diskOk_iff]at h;have:=h.2.2.1;unfold Kc at this;rw[decide_eq_false (by simp only[];omega),Bool.and_false]at this;cases this)
 rw[hr]at e
 subst e
 exact hQ _ _ (.b rfl rfl)
 conv=>cbv
 generalize af:Av Ao 0 1000000000=r3
 refine .dd hP (Cz af) ?_
 cases r3
 simp only[Av,decide_eq_true_eq,decide_eq_false_iff_not]at af
 conv=>cbv
 refine .go2 (by kernel_rfl) ?_
 conv=>cbv
 have e:false=B4 (⟨Ak,Aj,Am,Al,Ao,An⟩:Aa):=(by exact Gf fun h=>by rw[diskOk_iff]at h;exact af h.1)
 rw[hr]at e
 subst e
 exact hQ _ _ (.b rfl rfl)
 simp only[Av,decide_eq_true_eq,decide_eq_false_iff_not]at af
 conv=>cbv
 generalize ag:Av An 1 1000000000=r4
 refine .dd hP (Cz ag) ?_
 cases r4
 simp only[Av,decide_eq_true_eq,decide_eq_false_iff_not]at ag
 conv=>cbv
 refine .go2 (by kernel_rfl) ?_
 conv=>cbv
 have e:false=B4 (⟨Ak,Aj,Am,Al,Ao,An⟩:Aa):=(by exact Gf fun h=>by rw[diskOk_iff]at h;exact ag h.2.1)
 rw[hr]at e
 subst e
 exact hQ _ _ (.b rfl rfl)
 simp only[Av,decide_eq_true_eq,decide_eq_false_iff_not]at ag
 conv=>cbv
 generalize aq:Hr (⟨Ak,Aj,Am,Al,Ao,An⟩:Aa)=r5
 refine .dd hP (Xet A1 Ax A6 A5 ac.1 aq) ?_
 conv=>cbv
 refine .gtr (fun h6=>?_) fun h6=>?_
 conv=>cbv
 refine .go2 (by kernel_rfl) ?_
 conv=>cbv
 have e:false=B4 (⟨Ak,Aj,Am,Al,Ao,An⟩:Aa):=(by exact Gf fun h=>by rw[diskOk_iff]at h;have:=h.2.2.2.1;rw[aq]at this;simp only[]at this;omega)
 rw[hr]at e
 subst e
 exact hQ _ _ (.b rfl rfl)
 conv=>cbv
 refine .go2 (by kernel_rfl) ?_
 conv=>cbv
 refine LoopW.lp (κ:=Int) Nh hP [] [1] (fun i3=>[(3,I i3)]) (fun i3=>[])
  (fun i3=>0≤i3∧i3≤Ak.length∧∀j:Nat,j<i3.toNat→Ix (⟨Ak,Aj,Am,Al,Ao,An⟩:Aa) j=true)
  (fun i3=>(Ak.length - i3).toNat) (0) ⟨by omega,by omega,fun j h=>by simp at h⟩ ⟨rfl,trivial⟩ rfl ?_
 rintro i3 J ⟨h0,h1,hb⟩ hJ
 have bm:Ak.length≤1000000000:=ac.1.1
 conv=>cbv
 refine .go A1 fun v7 bn=>?_
 conv=>cbv
 refine .lss (fun h8=>?_) fun h8=>?_
 conv=>cbv
 refine .go i3.toNat A1 fun ad ⟨aw,a7,ah⟩ a8=>?_
 conv=>cbv
 refine .sub fun ba bj=>?_
 conv=>cbv
 have hnd:=XlJ (d:=(⟨Ak,Aj,Am,Al,Ao,An⟩:Aa)) ad a8
 generalize ab:Av aw 1 ba=bb
 refine .dd hP (Cz ab) ?_
 cases bb
 simp only[Av,decide_eq_true_eq,decide_eq_false_iff_not]at ab
 conv=>cbv
 refine .go2 (by kernel_rfl) ?_
 conv=>cbv
 have e:false=B4 (⟨Ak,Aj,Am,Al,Ao,An⟩:Aa):=(by exact Gf fun h=>by rw[diskOk_iff]at h;have h3:=h.2.2.1;rw[←Ua (d:=(⟨Ak,Aj,Am,Al,Ao,An⟩:Aa)) ad (by unfold Ix;rw[decide_eq_false_iff_not,hnd];simp only[];omega)]at h3;cases h3)
 rw[hr]at e
 subst e
 exact hQ _ _ (.b rfl rfl)
 simp only[Av,decide_eq_true_eq,decide_eq_false_iff_not]at ab
 conv=>cbv
 refine .gtr (fun h12=>?_) fun h12=>?_
 conv=>cbv
 refine .sub fun ai ao=>?_
 conv=>cbv
 refine .go ai.toNat A1 fun ar ⟨bc,a2,a6⟩ ax=>?_
 conv=>cbv
 have hpd:=XlJ (d:=(⟨Ak,Aj,Am,Al,Ao,An⟩:Aa)) ar ax
 rw[show ai.toNat=i3.toNat - 1 by omega]at hpd
 refine .geq (fun h15=>?_) fun h15=>?_
 conv=>cbv
 refine .go2 (by kernel_rfl) ?_
 conv=>cbv
 have e:false=B4 (⟨Ak,Aj,Am,Al,Ao,An⟩:Aa):=(by exact Gf fun h=>by rw[diskOk_iff]at h;have h3:=h.2.2.1;rw[←Ua (d:=(⟨Ak,Aj,Am,Al,Ao,An⟩:Aa)) ad (by unfold Ix;rw[decide_eq_false_iff_not,hnd];simp only[];rw[hpd];simp only[];omega)]at h3;cases h3)
 rw[hr]at e
 subst e
 exact hQ _ _ (.b rfl rfl)
 conv=>cbv
 refine .go fun au ay=>?_
 conv=>cbv
 generalize aj:Av ah 0 au=bd
 refine .dd hP (Cz aj) ?_
 cases bd
 simp only[Av,decide_eq_true_eq,decide_eq_false_iff_not]at aj
 conv=>cbv
 refine .go2 (by kernel_rfl) ?_
 conv=>cbv
 have e:false=B4 (⟨Ak,Aj,Am,Al,Ao,An⟩:Aa):=(by exact Gf fun h=>by rw[diskOk_iff]at h;have h3:=h.2.2.1;rw[←Ua (d:=(⟨Ak,Aj,Am,Al,Ao,An⟩:Aa)) ad (by unfold Ix;rw[decide_eq_false_iff_not,hnd];simp only[];omega)]at h3;cases h3)
 rw[hr]at e
 subst e
 exact hQ _ _ (.b rfl rfl)
 simp only[Av,decide_eq_true_eq,decide_eq_false_iff_not]at aj
 conv=>cbv
 refine .go2 (by kernel_rfl) ?_
 conv=>cbv
 refine .add fun be bk=>?_
 conv=>cbv
 exact .go [] (be) (hJ _ ⟨by omega,by omega,fun j h=>if e:j=i3.toNat then by subst e;unfold Ix;rw[decide_eq_true_eq,hnd,hpd];simp only[];omega else hb j (by omega)⟩ mlt)
 conv=>cbv
 refine .go fun ai ao=>?_
 conv=>cbv
 generalize ak:Av ah 0 ai=bf
 refine .dd hP (Cz ak) ?_
 cases bf
 simp only[Av,decide_eq_true_eq,decide_eq_false_iff_not]at ak
 conv=>cbv
 refine .go2 (by kernel_rfl) ?_
 conv=>cbv
 have e:false=B4 (⟨Ak,Aj,Am,Al,Ao,An⟩:Aa):=(by exact Gf fun h=>by rw[diskOk_iff]at h;have h3:=h.2.2.1;rw[←Ua (d:=(⟨Ak,Aj,Am,Al,Ao,An⟩:Aa)) ad (by unfold Ix;rw[decide_eq_false_iff_not,hnd];simp only[];omega)]at h3;cases h3)
 rw[hr]at e
 subst e
 exact hQ _ _ (.b rfl rfl)
 simp only[Av,decide_eq_true_eq,decide_eq_false_iff_not]at ak
 conv=>cbv
 refine .go2 (by kernel_rfl) ?_
 conv=>cbv
 refine .add fun an az=>?_
 conv=>cbv
 exact .go [] (an) (hJ _ ⟨by omega,by omega,fun j h=>if e:j=i3.toNat then by subst e;unfold Ix;rw[decide_eq_true_eq,hnd];simp only[];omega else hb j (by omega)⟩ mlt)
 conv=>cbv
 refine LoopW.lp (κ:=Int) Nh hP [] [1] (fun i5=>[(5,I i5)]) (fun i5=>[])
  (fun i5=>0≤i5∧i5≤Al.length+1∧(i5≤Al.length→XjK (⟨Ak,Aj,Am,Al,Ao,An⟩:Aa) i5.toNat)∧(i5=Al.length+1→Hs (⟨Ak,Aj,Am,Al,Ao,An⟩:Aa) Am Al=true))
  (fun i5=>(Al.length+1 - i5).toNat) (0) ⟨by omega,by omega,fun _=>Xf5 ac,fun h=>by omega⟩ ⟨rfl,trivial⟩ rfl ?_
 rintro i5 J1 ⟨k0,k1,hQk,hQe⟩ a1
 conv=>cbv
 refine .go A5 fun v9 bo=>?_
 conv=>cbv
 refine .leq (fun h10=>?_) fun h10=>?_
 conv=>cbv
 have hq:=hQk (by omega)
 have hS0:=XaF (old:=Am) (steps:=Al) (k:=i5) (by omega) (by omega)
 rcases ab:Co Am Al i5 with⟨aa,ap⟩
 generalize ae:aa.map Ad=bg
 refine .dd hP (Xdl A6 A5 (by omega) (by omega) ac.2.2 ab ae) ?_
 conv=>cbv
 have hS:B7 Am (Al.take i5.toNat)=(aa,ap):=hS0.symm.trans ab
 have hul:okL aa:=by have:=hq.2.1;simp only[]at this;rw[hS]at this;exact this
 have hun:aa.length≤1000000000:=by have:=hq.2.2;simp only[]at this;rw[hS]at this;exact this
 cases ap
 conv=>cbv
 have e:false=B4 (⟨Ak,Aj,Am,Al,Ao,An⟩:Aa):=(by exact Gf fun h=>by rw[diskOk_iff]at h;have hk:=h.2.2.2.2;simp only[]at hk;rw[hq.1]at hk;unfold XbW at hk;simp only[]at hk;rw[hS]at hk;cases hk)
 rw[hr]at e
 subst e
 exact hQ _ _ (.b rfl rfl)
 conv=>cbv
 generalize al:Hc (⟨Ak,Aj,Am,Al,Ao,An⟩:Aa) aa=bh
 refine .dd hP (Xbs A1 Ax A6 A5 ae ac.1 hul (by omega) al) ?_
 cases bh
 conv=>cbv
 have e:false=B4 (⟨Ak,Aj,Am,Al,Ao,An⟩:Aa):=(by exact Gf fun h=>by rw[diskOk_iff]at h;have hk:=h.2.2.2.2;simp only[]at hk;rw[hq.1]at hk;unfold XbW at hk;simp only[]at hk;rw[hS]at hk;rw[if_pos rfl,Xfo (show Bv _ aa=false from al)]at hk;cases hk)
 rw[hr]at e
 subst e
 exact hQ _ _ (.b rfl rfl)
 conv=>cbv
 have hre:Bv (⟨Ak,Aj,Am,Al,Ao,An⟩:Aa) aa=true:=al
 refine .go A5 fun ai ao=>?_
 conv=>cbv
 refine .eql (fun h14=>?_) fun h14=>?_
 conv=>cbv
 generalize am:Kr aa Aj=bi
 refine .dd hP (Xg8 ae Ax (by omega) am) ?_
 cases bi
 conv=>cbv
 have e:false=B4 (⟨Ak,Aj,Am,Al,Ao,An⟩:Aa):=(by exact Gf fun h=>by rw[diskOk_iff]at h;have hk:=h.2.2.2.2;simp only[]at hk;rw[hq.1]at hk;unfold XbW at hk;simp only[]at hk;rw[hS]at hk;rw[if_pos rfl,List.drop_of_length_le (by omega)]at hk;unfold Hs at hk;rw[show Rf aa _=false from am,Bool.and_false]at hk;cases hk)
 rw[hr]at e
 subst e
 exact hQ _ _ (.b rfl rfl)
 conv=>cbv
 refine .add fun au ay=>?_
 conv=>cbv
 exact .go [] (au) (a1 _ ⟨by omega,by omega,fun h=>by omega,fun _=>by have:=hq.1;simp only[]at this;rw[this];unfold XbW;simp only[];rw[hS,List.drop_of_length_le (by omega),if_pos rfl];show(Bv _ aa&&Rf aa Aj)=true;rw[hre,show Rf aa Aj=true from am];rfl⟩ mlt)
 conv=>cbv
 refine .add fun an az=>?_
 conv=>cbv
 exact .go [] (an) (a1 _ ⟨by omega,by omega,fun h=>by rw[show an.toNat=i5.toNat+1 by omega];exact Xfs ac hq (by simp only[];omega) hS hre,fun h=>by omega⟩ mlt)
 conv=>cbv
 have e:true=B4 (⟨Ak,Aj,Am,Al,Ao,An⟩:Aa):=(by symm;rw[diskOk_iff];exact⟨af,ag,(Xiz (d:=(⟨Ak,Aj,Am,Al,Ao,An⟩:Aa)) (fun j hj=>hb j (by simp only[]at hj;omega)) (by symm;rw[decide_eq_true_eq];simp only[];omega)).symm,by rw[aq];exact h6,hQe (by omega)⟩)
 rw[hr]at e
 subst e
 exact hQ _ _ (.b rfl rfl)
end
section
open Go Go.Proofs
set_option maxRecDepth 20000
set_option maxHeartbeats 4000000
end
section
open Go Go.Proofs
set_option maxRecDepth 20000
set_option maxHeartbeats 4000000
def XaQ:List Ac→List ByteArray→Int→Bool
 |now,[],id=>now.any fun e=>decide (e.id_=id)
 |now,s::ss,id=>(now.any fun e=>decide (e.id_=id))||XaQ (A2 now s).1 ss id
def Xfc(nodes:List Cj)(old:List Ac)(steps:List ByteArray):List Cj:=nodes.filter fun x=>XaQ old steps x.id_
theorem XiJ{l:List Ac}{k:Nat}{id:Int}(hk:k<l.length):(l.take (k+1)).any (fun e=>decide (e.id_=id))=((l.take k).any (fun e=>decide (e.id_=id))||decide (l[k].id_=id)):=by
 rw[List.take_succ_eq_append_getElem hk,List.any_append]
 simp
end
section
open Go Go.Proofs
set_option maxRecDepth 20000
set_option maxHeartbeats 4000000
theorem Tp{l:List ByteArray}{s:ByteArray}(h:okS l)(hs:s.size≤1000000000):okS (l++[s]):=fun t ht=>by
 rcases List.mem_append.1 ht with ht|ht
 ·exact h t ht
 ·rw[List.mem_singleton.1 ht];exact hs
end
section
open Go Go.Proofs
set_option maxRecDepth 20000
set_option maxHeartbeats 4000000
end
section
open Go Go.Proofs
set_option maxRecDepth 20000
set_option maxHeartbeats 4000000
def Lo(d:Aa)(s:ByteArray):Aa:=⟨Xfc d.nodes_ d.old_ (d.steps_++[s]),(A2 d.entries_ s).1,d.old_,d.steps_++[s],d.room_,d.next_⟩
def B5(d:Aa)(name:ByteArray):Aa×Int:=if B4 d=false∨At d.entries_ name<0 then(d,3)else(Lo d (tx [45]++name),0)
end
section
open Go Go.Proofs
set_option maxRecDepth 20000
set_option maxHeartbeats 4000000
def Cg(d:Aa)(from_ to_:ByteArray):Aa×Int:=if B4 d=false∨At d.entries_ from_<0 then(d,3)else if Bo to_=false∨from_=to_ then(d,1)else(Lo d (tx [62]++from_++tx [58]++to_),0)
end
section
open Go Go.Proofs
set_option maxRecDepth 20000
set_option maxHeartbeats 4000000
def C8(d:Aa)(name:ByteArray):Aa×Int:=if B4 d=false∨Ck d name<0 then(d,3)else
 (⟨d.nodes_.set (Ck d name).toNat ⟨(d.nodes_.getD (Ck d name).toNat ⟨0,tx [],0⟩).id_,(d.nodes_.getD (Ck d name).toNat ⟨0,tx [],0⟩).text_,((d.nodes_.getD (Ck d name).toNat ⟨0,tx [],0⟩).text_.size:Int)⟩,d.entries_,d.old_,d.steps_,d.room_,d.next_⟩,0)
end
section
open Go Go.Proofs
set_option maxRecDepth 20000
set_option maxHeartbeats 4000000
theorem Xc0{α:Type}{f:α→Int}(h:∀x,0≤f x):∀{l:List α} {a:Int},a≤(l.map f).foldl (·+·) a
 |[],a=>by simp
 |x::l,a=>by
  rw[List.map_cons,List.foldl_cons]
  have:=Xc0 h (l:=l) (a:=a+f x)
  have:=h x
  omega
theorem Xf4(d:Aa):0≤Hr d:=Xc0 (f:=fun n:Cj=>(n.text_.size:Int)) (fun x=>by omega)
theorem Ll{d:Aa}(h:B4 d=true):0≤d.room_∧d.room_≤1000000000∧1≤d.next_∧d.next_≤1000000000∧0≤Hr d∧Hr d≤d.room_:=by
 have h1:=diskOk_iff.1 h
 exact⟨h1.1.1,h1.1.2,h1.2.1.1,h1.2.1.2,Xf4 d,h1.2.2.2.1⟩
def gN(d:Aa)(i:Int):Cj:=d.nodes_.getD i.toNat ⟨0,tx [],0⟩
def setN(d:Aa)(i:Int)(x:Cj):Aa:=⟨d.nodes_.set i.toNat x,d.entries_,d.old_,d.steps_,d.room_,d.next_⟩
def Be(d:Aa)(name text:ByteArray):Aa×Int:=if B4 d=false∨Ck d name<0 then(d,3)else
 (setN d (Ck d name) ⟨(gN d (Ck d name)).id_,(gN d (Ck d name)).text_++text.extract 0 (min (text.size:Int) (d.room_ - Hr d)).toNat,(gN d (Ck d name)).sure_⟩,if d.room_ - Hr d<text.size then 5 else 0)
def Aw(d:Aa)(name:ByteArray):Aa×Int:=if B4 d=false then(d,3)else if Bo name=false then(d,1)else if 0≤At d.entries_ name then(d,2)else if 16≤d.entries_.length∨64≤d.nodes_.length∨1000000000≤d.next_ then(d,4)else
 (Lo ⟨d.nodes_++[⟨d.next_,tx [],0⟩],d.entries_,d.old_,d.steps_,d.room_,d.next_+1⟩ (tx [43]++name++tx [58]++By d.next_),0)
def C9(d:Aa):Aa:=if B4 d=false then d else⟨Xfc d.nodes_ d.entries_ [],d.entries_,d.entries_,[],d.room_,d.next_⟩
end
section
open Go Go.Proofs
set_option maxRecDepth 20000
set_option maxHeartbeats 4000000
def Vm:List Ac→List ByteArray→Prop
 |_,[]=>True
 |now,s::ss=>srt now∧(A2 now s).2=true∧Vm (A2 now s).1 ss
theorem I0{now:List Ac}{s:ByteArray}{ss:List ByteArray}(h:(A2 now s).2=true):Mc now (s::ss)=Mc (A2 now s).1 ss:=if_neg (by rw[h];decide)
theorem Xej{d:Aa}:∀{l:List ByteArray} {now:List Ac},Hs d now l=true→Vm now l∧Mc now l=(d.entries_,true)∧Bv d d.entries_=true
 |[],now,h=>by
  unfold Hs at h
  rw[Bool.and_eq_true]at h
  have e:now=d.entries_:=by
   have:=h.2
   unfold Rf at this
   exact of_decide_eq_true this
  refine⟨trivial,by rw[←e];rfl,by rw[←e];exact h.1⟩
 |s::ss,now,h=>by
  unfold Hs at h
  rw[Bool.and_eq_true,Bool.and_eq_true]at h
  obtain⟨a,b,c⟩:=Xej (now:=(A2 now s).1) h.2
  exact⟨⟨Xg0 h.1.1,h.1.2,a⟩,by rw[I0 h.1.2,b],c⟩
theorem Sa:∀{l:List ByteArray} {now:List Ac} (k:Nat),Vm now l→Vm now (l.take k)
 |[],_,k,_=>by rw[List.take_nil];trivial
 |_::_,_,0,_=>trivial
 |_::_,_,k+1,h=>⟨h.1,h.2.1,Sa k h.2.2⟩
theorem Xi{s:ByteArray}{e:List Ac}:∀{l:List ByteArray} {now:List Ac},Vm now l→Mc now l=(e,true)→srt e→(A2 e s).2=true→Vm now (l++[s])
 |[],now,_,h,hs,h2=>by
  have e1:now=e:=congrArg Prod.fst h
  rw[e1]
  exact⟨hs,h2,trivial⟩
 |x::l,now,h,h1,hs,h2=>by
  rw[I0 h.2.1]at h1
  exact⟨h.1,h.2.1,Xi h.2.2 h1 hs h2⟩
theorem Z7:∀{l:List ByteArray} {now:List Ac},Vm now l→B7 now l=Mc now l∧(Mc now l).2=true
 |[],now,_=>⟨rfl,rfl⟩
 |s::ss,now,h=>by
  obtain⟨a,b⟩:=Z7 (now:=(A2 now s).1) h.2.2
  have e2:B7 now (s::ss)=B7 (Dm now s).1 ss:=if_neg (by rw[Ux h.1,h.2.1];decide)
  rw[I0 h.2.1,e2,Ux h.1,a]
  exact⟨rfl,b⟩
def Zt(l:List Ac)(id:Int):Bool:=l.any fun e=>decide (e.id_=id)
def XcD(old:List Ac)(steps:List ByteArray)(id:Int):Bool:=(List.range (steps.length+1)).any fun k=>Zt (B7 old (steps.take k)).1 id
theorem Xh{id:Int}:∀{l:List ByteArray} {now:List Ac},Vm now l→(XaQ now l id=true↔∃k,k≤l.length∧Zt (Mc now (l.take k)).1 id=true)
 |[],now,_=>by
  constructor
  ·intro h;exact⟨0,Nat.le_refl _,h⟩
  ·rintro⟨k,_,h⟩
   rw[List.take_nil]at h
   exact h
 |s::ss,now,h=>by
  have ih:=Xh (id:=id) (now:=(A2 now s).1) h.2.2
  show(Zt now id||XaQ (A2 now s).1 ss id)=true↔_
  rw[Bool.or_eq_true,ih]
  constructor
  ·rintro(h1|⟨k,hk,h1⟩)
   ·exact⟨0,Nat.zero_le _,h1⟩
   ·refine⟨k+1,by rw[List.length_cons];omega,?_⟩
    rw[List.take_succ_cons,I0 h.2.1]
    exact h1
  ·rintro⟨k,hk,h1⟩
   cases k with
   |zero=>exact .inl h1
   |succ k=>
    rw[List.take_succ_cons,I0 h.2.1]at h1
    exact .inr ⟨k,by rw[List.length_cons]at hk;omega,h1⟩
theorem Xil{old:List Ac}{steps:List ByteArray}(h:Vm old steps)(id:Int):XcD old steps id=XaQ old steps id:=by
 rw[Bool.eq_iff_iff,Xh h]
 unfold XcD
 rw[List.any_eq_true]
 constructor
 ·rintro⟨k,hk,h1⟩
  rw[(Z7 (Sa k h)).1]at h1
  exact⟨k,by have:=List.mem_range.1 hk;omega,h1⟩
 ·rintro⟨k,hk,h1⟩
  refine⟨k,List.mem_range.2 (by omega),?_⟩
  rw[(Z7 (Sa k h)).1]
  exact h1
def Ed(d:Aa):Aa:=⟨d.nodes_.filter (fun x=>XcD d.old_ d.steps_ x.id_),d.entries_,d.old_,d.steps_,d.room_,d.next_⟩
theorem Xe{d:Aa}(h:Vm d.old_ d.steps_):Ed d=⟨Xfc d.nodes_ d.old_ d.steps_,d.entries_,d.old_,d.steps_,d.room_,d.next_⟩:=by
 unfold Ed Xfc
 rw[List.filter_congr fun x _=>Xil h x.id_]
theorem XjB{n:ByteArray}(h:Bo n=true):∀(j:Nat) x,n.data.toList[j]? =some x→x≠58:=by
 intro j x hx e
 unfold Bo at h
 rw[Bool.and_eq_true]at h
 have:=List.all_eq_true.1 h.1 x (List.mem_of_getElem? hx)
 rw[e]at this
 exact absurd this (by decide)
theorem Xd3{a b:ByteArray}(h:Bo a=true):Nt (a++tx [58]++b)=(a,b,true):=by
 have hl:(a++tx [58]++b).data.toList=a.data.toList++58::b.data.toList:=by
  rw[ByteArray.data_append,ByteArray.data_append,Array.toList_append,Array.toList_append,Ud,List.append_assoc]
  rfl
 have ha:a.data.toList.length=a.size:=Array.length_toList
 have e:Md (a++tx [58]++b)=(a.size:Int):=by
  unfold Md
  rw[hl,M3 _ a.size]
  ·rw[List.getElem?_append_right (by omega),ha,Nat.sub_self]
   rfl
  ·intro j hj x hx
   rw[List.getElem?_append_left (by omega)]at hx
   exact XjB h j x hx
 unfold Nt
 rw[e,if_pos (by omega),Int.toNat_natCast]
 have hz:(a++tx [58]++b).size=a.size+1+b.size:=by rw[ByteArray.size_append,ByteArray.size_append,A3];rfl
 have hb:b.data.toList.length=b.size:=Array.length_toList
 have e1:(a++tx [58]++b).extract 0 a.size=a:=by
  apply Ma
  rw[Da,hl,List.drop_zero,List.take_left' ha]
 have e2:(a++tx [58]++b).extract (a.size+1) (a++tx [58]++b).size=b:=by
  apply Ma
  rw[Da,List.take_of_length_le (by rw[Array.length_toList];exact Nat.le_refl _),hl,List.drop_append,List.drop_of_length_le (by omega),ha,Nat.add_sub_cancel_left]
  rfl
 rw[e1,e2]
theorem Pq{c:UInt8}{s:ByteArray}:(tx [c]++s).extract 1 (tx [c]++s).size=s:=by
 apply Ma
 rw[Da,List.take_of_length_le (by rw[Array.length_toList];exact Nat.le_refl _),ByteArray.data_append,Array.toList_append,Ud]
 rfl
theorem Yz{c:UInt8}{s:ByteArray}:(tx [c]++s).data.toList.head?=some c:=by
 rw[ByteArray.data_append,Array.toList_append,Ud]
 rfl
theorem Xhm{c:UInt8}{s:ByteArray}:tx [c]++s≠tx []:=by
 intro e
 have:=congrArg ByteArray.size e
 rw[ByteArray.size_append,A3,A3]at this
 simp at this
theorem XgC{l:List Ac}{n:ByteArray}{i:Int}(hn:Bo n=true)(h0:0≤i)(h1:i≤1000000000):A2 l (tx [43]++(n++tx [58]++By i))=(XcI l n i,true):=by
 have hc:Nt ((tx [43]++(n++tx [58]++By i)).extract 1 (tx [43]++(n++tx [58]++By i)).size)=(n,By i,true):=by rw[Pq];exact Xd3 hn
 rw[Xaz Xhm Yz hc,XiM h0 h1,if_neg (by rw[hn];simp)]
theorem Xfy{l:List Ac}{n:ByteArray}(hn:Bo n=true)(h:0≤At l n):A2 l (tx [45]++n)=(Sf l (At l n) (At l n+1),true):=by
 rw[Xf Xhm Yz,Pq]
 unfold Jn
 rw[if_neg (by rw[hn];rintro(k|k);omega;cases k)]
theorem XhW{l:List Ac}{a b:ByteArray}(hn:Bo a=true)(hb:Bo b=true)(hne:a≠b)(h:0≤At l a):A2 l (tx [62]++(a++tx [58]++b))=(XcI (Sf l (At l a) (At l a+1)) b (Cp l a),true):=by
 have hd:Jn l a=(Sf l (At l a) (At l a+1),true):=by
  unfold Jn
  rw[if_neg (by rw[hn];rintro(k|k);omega;cases k)]
 have hc:Nt ((tx [62]++(a++tx [58]++b)).extract 1 (tx [62]++(a++tx [58]++b)).size)=(a,b,true):=by rw[Pq];exact Xd3 hn
 rw[XbJ Xhm Yz hc,hd,if_neg (by rw[hb];simp;exact hne)]
theorem app3(a b c d:ByteArray):a++b++c++d=a++(b++c++d):=by
 rw[ByteArray.append_assoc,ByteArray.append_assoc,ByteArray.append_assoc]
theorem Rc{d:Aa}(h:B4 d=true):Vm d.old_ d.steps_∧Mc d.old_ d.steps_=(d.entries_,true)∧Bv d d.entries_=true:=Xej (diskOk_iff.1 h).2.2.2.2
theorem Nj{d:Aa}(h:B4 d=true):srt d.entries_:=Xg0 (Rc h).2.2
theorem XeR{d:Aa}{n:ByteArray}(h:B4 d=true)(hp:0≤At d.entries_ n):Bo n=true∧0≤Ck d n:=by
 obtain⟨hi,hq⟩:=Tr (p:=fun e=>B0 e n) (rfl:At d.entries_ n=_) hp
 have h1:=Xhl (Rc h).2.2 hi
 unfold B0 at hq
 rw[decide_eq_true_eq]at hq
 unfold I6 at h1
 rw[Xid hi rfl,Bool.and_eq_true,Bool.and_eq_true,decide_eq_true_eq]at h1
 refine⟨by rw[←hq];exact h1.1.2,?_⟩
 unfold Ck
 rw[if_neg (by omega)]
 unfold Cp
 rw[if_neg (by omega),←gD hi]
 exact h1.2
theorem Ye{d:Aa}{n:ByteArray}(h:At d.entries_ n<0):Ck d n<0:=by
 unfold Ck
 rw[if_pos h]
 decide
theorem Sg{d:Aa}{s:ByteArray}{e:List Ac}{nodes:List Cj}{r x:Int}(h:B4 d=true)(hs:A2 d.entries_ s=(e,true)):Ed ⟨nodes,e,d.old_,d.steps_++[s],r,x⟩=Lo ⟨nodes,d.entries_,d.old_,d.steps_,r,x⟩ s:=by
 rw[Xe (Xi (Rc h).1 (Rc h).2.1 (Nj h) (by rw[hs]))]
 unfold Lo
 rw[hs]
theorem Xdr{d:Aa}{name:ByteArray}{nodes:List Cj}{r x:Int}(h:B4 d=true)(hn:Bo name=true):Ed ⟨nodes,Cn d.entries_ ⟨name,d.next_⟩,d.old_,d.steps_++[tx [43]++name++tx [58]++By d.next_],r,x⟩=Lo ⟨nodes,d.entries_,d.old_,d.steps_,r,x⟩ (tx [43]++name++tx [58]++By d.next_):=by
 have hr:=Ll h
 rw[XbM (Nj h),app3]
 exact Sg h (XgC hn (by omega) (by omega))
theorem XdH{d:Aa}{name:ByteArray}(h:B4 d=true)(hp:0≤At d.entries_ name):Ed ⟨d.nodes_,Cl d.entries_ name,d.old_,d.steps_++[tx [45]++name],d.room_,d.next_⟩=Lo d (tx [45]++name):=by
 rw[Wb (Nj h) hp]
 exact Sg h (Xfy (XeR h hp).1 hp)
theorem XdA{d:Aa}{a b:ByteArray}(h:B4 d=true)(hp:0≤At d.entries_ a)(hb:Bo b=true)(hne:a≠b):Ed ⟨d.nodes_,Cn (Cl d.entries_ a) ⟨b,Cp d.entries_ a⟩,d.old_,d.steps_++[tx [62]++a++tx [58]++b],d.room_,d.next_⟩=Lo d (tx [62]++a++tx [58]++b):=by
 rw[XbM (XeH (Nj h)),Wb (Nj h) hp,app3]
 exact Sg h (XhW (XeR h hp).1 hb hne hp)
theorem X1{d:Aa}{n:ByteArray}(h:0≤At d.entries_ n):Kd d (Cp d.entries_ n)=Ck d n:=by
 unfold Ck
 rw[if_neg (by omega)]
theorem Z3{l:List Ac}{n:ByteArray}(h:Du l n=true):0≤At l n:=by
 unfold Du at h
 exact of_decide_eq_true h
theorem XaN{l:List Ac}{n:ByteArray}(h:Du l n=false):At l n<0:=by
 unfold Du at h
 have:=of_decide_eq_false h
 omega
theorem Wv{p:Nat→Bool}{k:Nat}:(List.range (k+1)).any p=((List.range k).any p||p k):=by
 rw[List.range_succ,List.any_append]
 simp
theorem Xp{old:List Ac}{steps:List ByteArray}{id:Int}{k:Nat}(hk:k≤steps.length+1)(h:true=(List.range k).any fun k=>Zt (B7 old (steps.take k)).1 id):XcD old steps id=true:=by
 obtain⟨j,hj,h1⟩:=List.any_eq_true.1 h.symm
 exact List.any_eq_true.2 ⟨j,List.mem_range.2 (by have:=List.mem_range.1 hj;omega),h1⟩
theorem Rr{l:List Ac}{k:Nat}{id:Int}(hk:k<l.length):Zt (l.take (k+1)) id=(Zt (l.take k) id||decide (l[k].id_=id)):=XiJ hk
theorem XfP(l:List Ac)(s:ByteArray):(Dm l s).1.length≤l.length+1:=by
 unfold Dm
 split
 ·simp
 ·split
  ·exact C2 rfl
  ·have h1:=E9 (rfl:Cl l (Ba s).1=_)
   split
   ·have h2:=C2 (rfl:Cn (Cl l (Ba s).1) ⟨(Ba s).2.1,Cp l (Ba s).1⟩=_)
    show(Cn _ _).length≤_
    omega
   ·show(Cl _ _).length≤_
    omega
theorem XgQ:∀(l:List ByteArray) (now:List Ac),(B7 now l).1.length≤now.length+l.length
 |[],_=>Nat.le_refl _
 |s::l,now=>by
  have h1:=XfP now s
  have h2:=XgQ l (Dm now s).1
  unfold B7
  split
  ·exact Nat.zero_le _
  ·rw[List.length_cons]
   omega
theorem Zo{t:ByteArray}{n:Nat}(h:t.size≤n):t.extract 0 n=t:=by
 apply Ma
 rw[Da,List.drop_zero,List.take_of_length_le (by rw[Array.length_toList];exact h)]
end
section
open Go Go.Proofs
set_option maxRecDepth 20000
set_option maxHeartbeats 4000000
def Xb5:List (Nat×TyRow):=[ty3,ty9,XkD,Xfz,We,Z1,XaA,Wn]
theorem Xcl:Bl Tryz.prog Xb5:=Bl.of (by kernel_rfl)
theorem Xi0:Setup Tryz.prog Xb5:=⟨Xcl,mixed⟩
theorem Ls{Ak:List Cj}{Bk:List (List D)}{Aj:List Ac}{Bg:List (List D)}{Am:List Ac}{Bf:List (List D)}{Al:List ByteArray}{Bi:List (List D)}{Ao:Int}{An:Int}{nn ne no ns:Nat}(A1:Ak.map B3=Bk)(Ax:Aj.map Ad=Bg)(A6:Am.map Ad=Bf)(A5:Al.map cS=Bi)(hn:Ak.length≤4000000000)(he:Aj.length≤4000000000)(ho:Am.length≤4000000000)(hs:Al.length≤4000000000)(hnn:nn=Ak.length)(hne:ne=Aj.length)(hno:no=Am.length)(hns:ns=Al.length):Fn Tryz.prog 112 [.agg [.d (.row 3 Bk),.d (.row 2 Bg),.d (.row 2 Bf),.d (.row 1 Bi),I Ao,I An]] [] ⟨.agg [.ref 0 0 nn,.ref 1 0 ne,.ref 2 0 no,.ref 3 0 ns,I Ao,I An],[.row 3 false Bk,.row 2 false Bg,.row 2 false Bf,.row 1 false Bi],[]⟩:=by
 refine Fn.goR Xi0 Tryz.func112 fun P hP Q hQ=>?_
 conv=>cbv
 refine .row0 A1 fun aa z1 ai ab=>?_
 conv=>cbv
 refine .row0 Ax fun ac z2 aj ad=>?_
 conv=>cbv
 refine .row0 A6 fun ae z3 ak af=>?_
 conv=>cbv
 refine .row0 A5 fun ag z4 al ah=>?_
 conv=>cbv
 obtain rfl:z1=Bk:=by rw[←ab,A1]
 obtain rfl:z2=Bg:=by rw[←ad,Ax]
 obtain rfl:z3=Bf:=by rw[←af,A6]
 obtain rfl:z4=Bi:=by rw[←ah,A5]
 obtain rfl:aa=nn:=by omega
 obtain rfl:ac=ne:=by omega
 obtain rfl:ae=no:=by omega
 obtain rfl:ag=ns:=by omega
 exact hQ _ _ (.of [7,9,11,13] (.inl rfl) rfl rfl rfl rfl)
end
section
open Go Go.Proofs
set_option maxRecDepth 20000
set_option maxHeartbeats 4000000
theorem Xeh{α:Type}{f:α→Int}(h0:∀x,0≤f x):∀{l:List α} {x:α},x∈l→∀a,a+f x≤(l.map f).foldl (·+·) a
 |[],_,h,_=>by cases h
 |y::l,x,h,a=>by
  rw[List.map_cons,List.foldl_cons]
  rcases List.mem_cons.1 h with rfl|h
  ·exact Xc0 h0
  ·have h1:=Xeh h0 h (a+f y)
   have:=h0 y
   omega
theorem XjN{d:Aa}{n:Cj}(h:n∈d.nodes_):(n.text_.size:Int)≤Hr d:=by
 have:=Xeh (f:=fun n:Cj=>(n.text_.size:Int)) (fun x=>by omega) h 0
 unfold Hr Xlk
 omega
theorem Xie{d:Aa}{i:Int}{x:Cj}(h:Pc d)(hx:x.text_.size≤1000000000):Pc (setN d i x):=by
 obtain⟨⟨h1,h2,h3⟩,h4⟩:=h
 refine⟨⟨by show(d.nodes_.set _ _).length≤_;rw[List.length_set];exact h1,?_,h3⟩,h4⟩
 intro n hn
 rcases List.mem_or_eq_of_mem_set hn with hn|rfl
 ·exact h2 n hn
 ·exact hx
theorem Xj3{d:Aa}{i:Int}(h0:0≤i)(h1:i<d.nodes_.length):gN d i∈d.nodes_:=by
 unfold gN
 have hk:i.toNat<d.nodes_.length:=by omega
 rw[←gD hk]
 exact List.getElem_mem hk
theorem Yo{d:Aa}{s:ByteArray}(h:Pc d)(he:d.entries_.length≤1000000)(hs:s.size≤1000000000)(hl:d.steps_.length<1000000000):Pc (Lo d s):=by
 obtain⟨⟨h1,h2,h3,h4,h5,h6⟩,h7,h8⟩:=h
 obtain⟨e,b,hy⟩:∃e b,A2 d.entries_ s=(e,b):=⟨_,_,rfl⟩
 have hlen:=Vb hy
 have hok:=Xe8 (l:=d.entries_) h4 hs hy
 unfold Lo
 rw[hy]
 refine⟨⟨?_,?_,by show e.length≤_;omega,hok,h5,by rw[List.length_append,List.length_singleton];omega⟩,h7,Tp h8 hs⟩
 ·exact Nat.le_trans (List.length_filter_le _ _) h1
 ·intro n hn
  exact h2 n (List.mem_filter.1 hn).1
def okG(d d':Aa):Prop:=Pc d'∧d'.steps_.length≤d.steps_.length+1
theorem Iq{d:Aa}(h:Pc d):okG d d:=⟨h,Nat.le_succ _⟩
theorem Xw{d:Aa}(h:B4 d=true):d.entries_.length≤16:=Xeq (Rc h).2.2
section
variable {d:Aa} {name text a b:ByteArray}
theorem J9(h:Pc d)(hl:d.steps_.length<1000000000)(hm:name.size≤500000000):okG d (Aw d name).1:=by
 unfold Aw
 split
 ·exact Iq h
 ·rename_i hr
  have hr:=by simpa using hr
  split
  ·exact Iq h
  ·split
   ·exact Iq h
   ·split
    ·exact Iq h
    ·rename_i hc
     have hri:=Ll hr
     have hz:=Jt (rfl:By d.next_=_) (by unfold K9;omega)
     refine⟨Yo ?_ (by show d.entries_.length≤_;omega) ?_ hl,by show(d.steps_++[_]).length≤_;rw[List.length_append];exact Nat.le_refl _⟩
     ·obtain⟨⟨h1,h2,h3⟩,h4⟩:=h
      refine⟨⟨by show(d.nodes_++[_]).length≤_;rw[List.length_append,List.length_singleton];omega,?_,h3⟩,h4⟩
      intro n hn
      rcases List.mem_append.1 hn with hn|hn
      ·exact h2 n hn
      ·rw[List.mem_singleton.1 hn]
       exact Nat.zero_le _
     ·simp only[ByteArray.size_append,A3,List.length_singleton]
      omega
theorem Qf(h:Pc d)(hl:d.steps_.length<1000000000)(hm:name.size≤500000000):okG d (B5 d name).1:=by
 unfold B5
 split
 ·exact Iq h
 ·rename_i hr
  have hr:B4 d=true:=by
   cases hc:B4 d
   ·exact absurd (.inl hc) hr
   ·rfl
  refine⟨Yo h (by have:=Xw hr;omega) ?_ hl,by show(d.steps_++[_]).length≤_;rw[List.length_append];exact Nat.le_refl _⟩
  simp only[ByteArray.size_append,A3,List.length_singleton]
  omega
theorem Xau(h:Pc d)(hl:d.steps_.length<1000000000)(ha:a.size≤400000000)(hb:b.size≤400000000):okG d (Cg d a b).1:=by
 unfold Cg
 split
 ·exact Iq h
 ·rename_i hr
  have hr:B4 d=true:=by
   cases hc:B4 d
   ·exact absurd (.inl hc) hr
   ·rfl
  split
  ·exact Iq h
  ·refine⟨Yo h (by have:=Xw hr;omega) ?_ hl,by show(d.steps_++[_]).length≤_;rw[List.length_append];exact Nat.le_refl _⟩
   simp only[ByteArray.size_append,A3,List.length_singleton]
   omega
theorem Rh(h:Pc d):okG d (Be d name text).1:=by
 unfold Be
 split
 ·exact Iq h
 ·rename_i hr
  have hk:0≤Ck d name:=Int.not_lt.1 fun k=>hr (.inr k)
  have hr:B4 d=true:=by
   cases hc:B4 d
   ·exact absurd (.inl hc) hr
   ·rfl
  have hri:=Ll hr
  have hu:=XjN (Xj3 hk (Ib rfl).2)
  refine⟨Xie h ?_,Nat.le_succ _⟩
  show((gN d (Ck d name)).text_++text.extract 0 _).size≤_
  rw[ByteArray.size_append,ByteArray.size_extract]
  omega
theorem Zb(h:Pc d):okG d (C8 d name).1:=by
 unfold C8
 split
 ·exact Iq h
 ·rename_i hr
  have hk:0≤Ck d name:=Int.not_lt.1 fun k=>hr (.inr k)
  refine⟨Xie (i:=Ck d name) h ?_,Nat.le_succ _⟩
  show(gN d (Ck d name)).text_.size≤_
  exact h.1.2.1 _ (Xj3 hk (Ib rfl).2)
theorem Qn(h:Pc d):okG d (C9 d):=by
 unfold C9
 split
 ·exact Iq h
 ·obtain⟨⟨h1,h2,h3,h4,h5,h6⟩,h7,h8⟩:=h
  refine⟨⟨⟨Nat.le_trans (List.length_filter_le _ _) h1,fun n hn=>h2 n (List.mem_filter.1 hn).1,h3,h4,h3,Nat.zero_le _⟩,h4,fun _ hs=>by cases hs⟩,Nat.zero_le _⟩
end
end
section
open Go Go.Proofs
set_option maxRecDepth 20000
set_option maxHeartbeats 4000000
end
section
open Go Go.Proofs
set_option maxRecDepth 20000
set_option maxHeartbeats 4000000
def XbA:List (Nat×TyRow):=[ty3,Z1,Xal,Xki]
theorem Xb1:Bl Tryz.prog XbA:=Bl.of (by kernel_rfl)
theorem Xi4:Setup Tryz.prog XbA:=⟨Xb1,mixed⟩
def Rb(d:Aa)(v:Int):Int:=(Fo d v).length
theorem XhK{Ak:List Cj}{Bk:List (List D)}{Aj:List Ac}{Bg:List (List D)}{Am:List Ac}{Bf:List (List D)}{Al:List ByteArray}{Bi:List (List D)}{Ao:Int}{An:Int}{version:Int}{o:Int}(A1:Ak.map B3=Bk)(Ax:Aj.map Ad=Bg)(A6:Am.map Ad=Bf)(A5:Al.map cS=Bi)(ac:Pc (⟨Ak,Aj,Am,Al,Ao,An⟩:Aa))(hr:Rb (⟨Ak,Aj,Am,Al,Ao,An⟩:Aa) version=o):Fn Tryz.prog 46 [.agg [.d (.row 3 Bk),.d (.row 2 Bg),.d (.row 2 Bf),.d (.row 1 Bi),I Ao,I An],I version] [] ⟨I o,[],[]⟩:=by
 refine Fn.go Xi4 Tryz.func46 fun P hP Q hQ=>?_
 conv=>cbv
 generalize aa:Fo (⟨Ak,Aj,Am,Al,Ao,An⟩:Aa) version=l1
 generalize ab:l1.map eOp=ae
 refine .dd hP (Xfe A1 Ax A6 A5 ac.1 aa ab) ?_
 conv=>cbv
 refine .go ab fun v2 ad=>?_
 conv=>cbv
 have e:v2=Rb (⟨Ak,Aj,Am,Al,Ao,An⟩:Aa) version:=(by unfold Rb;rw[aa,ad])
 rw[hr]at e
 subst e
 exact hQ _ _ (.i rfl rfl)
end
section
open Go Go.Proofs
set_option maxRecDepth 20000
set_option maxHeartbeats 4000000
def Xij:List (Nat×TyRow):=[ty3,ty5,ty9,Xgo,Xal,Xlm,XlC]
theorem Xfp:Bl Tryz.prog Xij:=Bl.of (by kernel_rfl)
theorem S5:Setup Tryz.prog Xij:=⟨Xfp,mixed⟩
theorem Xia(a:Int):0≤Ku .and .i64 a 255∧Ku .and .i64 a 255≤255:=by
 have h:Ku .and .i64 a 255=IntKind.i64.wrap (BitVec.ofInt 64 a&&&BitVec.ofInt 64 255).toNat:=rfl
 have h2:(BitVec.ofInt 64 a&&&BitVec.ofInt 64 255).toNat≤255:=by
  rw[BitVec.toNat_and]
  exact Nat.le_trans Nat.and_le_right (by decide)
 rw[h,IntKind.wrap_i64]
 omega
theorem and30(a:Int):0≤Ku .and .i64 a 1073741823∧Ku .and .i64 a 1073741823≤1073741823:=by
 have h:Ku .and .i64 a 1073741823=IntKind.i64.wrap (BitVec.ofInt 64 a&&&BitVec.ofInt 64 1073741823).toNat:=rfl
 have h2:(BitVec.ofInt 64 a&&&BitVec.ofInt 64 1073741823).toNat≤1073741823:=by
  rw[BitVec.toNat_and]
  exact Nat.le_trans Nat.and_le_right (by decide)
 rw[h,IntKind.wrap_i64]
 omega
def drH(h:Int):Int:=IntKind.i64.wrap (IntKind.i64.wrap (h*6364136223846793005)+1442695040888963407)
def drX(h:Int):Int:=Ku .and .i64 (Ku .xor .i64 (h/2^ (33:Int).toNat) (h/2^ (45:Int).toNat)) 255
def C1(b:List UInt8)(i h:Int):Int×Int×Int:=if i<b.length then(Ku .and .i64 (drX (drH h)+(b.getD i.toNat 0).toNat) 255,i+1,drH h)else(drX (drH h),i,drH h)
def Ae(b:List UInt8)(i h n:Int):Int×Int×Int:=
 if n≤0 then(0,i,h)else if n≤256 then match C1 b i h with|(x,i,h)=>(x% n,i,h)
 else match C1 b i h with|(x,i,h)=>match C1 b i h with|(y,i,h)=>match C1 b i h with|(z,i,h)=>match C1 b i h with|(w,i,h)=>((x*16777216+y*65536+z*256+w)% n,i,h)
def Bt(b:List UInt8)(i h n:Int):Bool×Int×Int:=match Ae b i h n with|(x,i,h)=>(decide (x=0),i,h)
def Bn(b:List UInt8)(i h:Int)(l:List Int):Int×Int×Int:=match Ae b i h l.length with|(x,i,h)=>(l.getD x.toNat 0,i,h)
def Xgc(b:List UInt8):Nat→Int→Int→List UInt8×Int×Int
 |0,i,h=>([],i,h)
 |k+1,i,h=>match C1 b i h with|(x,i,h)=>match Xgc b k i h with|(l,i,h)=>(UInt8.ofNat x.toNat::l,i,h)
def Dp(b:List UInt8)(i h n:Int):ByteArray×Int×Int:=match Xgc b (min n 5000).toNat i h with|(l,i,h)=>(tx l,i,h)
def Dr(b:List UInt8)(i h:Int):ByteArray×Int×Int:=
 match Ae b i h 6 with|(x,i,h)=>if x=0 then(tx [],i,h)else if x=1 then match Ae b i h 41 with|(y,i,h)=>Dp b i h (20+y)else match Ae b i h 12 with|(y,i,h)=>Dp b i h y
theorem Ea{b:List UInt8}{i h o oi oh:Int}(e:C1 b i h=(o,oi,oh))(hc:0≤i∧i≤b.length∧b.length≤1000000000000):(0≤o∧o≤255)∧0≤oi∧oi≤b.length:=by
 unfold C1 at e
 split at e
 ·simp only[Prod.mk.injEq]at e
  have:=Xia (drX (drH h)+(b.getD i.toNat 0).toNat)
  omega
 ·simp only[Prod.mk.injEq]at e
  have:0≤drX (drH h)∧drX (drH h)≤255:=Xia _
  omega
theorem Ah{b:List UInt8}{i h n o oi oh:Int}(e:Ae b i h n=(o,oi,oh))(hc:0≤i∧i≤b.length∧b.length≤1000000000000):(0≤o∧(n≤0→o=0)∧(0<n→o<n))∧0≤oi∧oi≤b.length:=by
 unfold Ae at e
 split at e
 ·simp only[Prod.mk.injEq]at e
  omega
 ·split at e
  ·rcases h1:C1 b i h with⟨x,i1,h1'⟩
   have z1:=Ea h1 hc
   simp only[h1,Prod.mk.injEq]at e
   have:=Int.emod_nonneg x (show n≠0 by omega)
   have:=Int.emod_lt_of_pos x (show 0<n by omega)
   omega
  ·rcases h1:C1 b i h with⟨x,i1,h1'⟩
   have z1:=Ea h1 hc
   rcases h2:C1 b i1 h1' with⟨y,i2,h2'⟩
   have z2:=Ea h2 (by omega)
   rcases h3:C1 b i2 h2' with⟨z,i3,h3'⟩
   have z3:=Ea h3 (by omega)
   rcases h4:C1 b i3 h3' with⟨w,i4,h4'⟩
   have z4:=Ea h4 (by omega)
   simp only[h1,h2,h3,h4,Prod.mk.injEq]at e
   have:=Int.emod_nonneg (x*16777216+y*65536+z*256+w) (show n≠0 by omega)
   have:=Int.emod_lt_of_pos (x*16777216+y*65536+z*256+w) (show 0<n by omega)
   omega
theorem Cd{b:List UInt8}{i h n oi oh:Int}{o:Bool}(e:Bt b i h n=(o,oi,oh))(hc:0≤i∧i≤b.length∧b.length≤1000000000000):0≤oi∧oi≤b.length:=by
 unfold Bt at e
 rcases h1:Ae b i h n with⟨x,i1,h1'⟩
 have z1:=Ah h1 hc
 simp only[h1,Prod.mk.injEq]at e
 omega
theorem C5{b:List UInt8}{i h o oi oh:Int}{l:List Int}(e:Bn b i h l=(o,oi,oh))(hc:0≤i∧i≤b.length∧b.length≤1000000000000):0≤oi∧oi≤b.length:=by
 unfold Bn at e
 rcases h1:Ae b i h l.length with⟨x,i1,h1'⟩
 have z1:=Ah h1 hc
 simp only[h1,Prod.mk.injEq]at e
 omega
theorem Xj5{b:List UInt8}:∀{k:Nat} {i h oi oh:Int} {l:List UInt8},Xgc b k i h=(l,oi,oh)→(0≤i∧i≤b.length∧b.length≤1000000000000)→l.length=k∧0≤oi∧oi≤b.length
 |0,i,h,oi,oh,l,e,hc=>by
  simp only[Xgc,Prod.mk.injEq]at e
  rw[←e.1]
  exact⟨rfl,by omega,by omega⟩
 |k+1,i,h,oi,oh,l,e,hc=>by
  rcases h1:C1 b i h with⟨x,i1,h1'⟩
  have z1:=Ea h1 hc
  rcases h2:Xgc b k i1 h1' with⟨l2,i2,h2'⟩
  have z2:=Xj5 h2 (by omega)
  simp only[Xgc,h1,h2,Prod.mk.injEq]at e
  rw[←e.1,List.length_cons]
  omega
theorem F0{b:List UInt8}{i h n oi oh:Int}{o:ByteArray}(e:Dp b i h n=(o,oi,oh))(hc:0≤i∧i≤b.length∧b.length≤1000000000000):(o.size≤5000∧(0≤n→(o.size:Int)≤n))∧0≤oi∧oi≤b.length:=by
 unfold Dp at e
 rcases h1:Xgc b (min n 5000).toNat i h with⟨l,i1,h1'⟩
 have z1:=Xj5 h1 hc
 simp only[h1,Prod.mk.injEq]at e
 have:o.size=l.length:=by rw[←e.1,A3]
 omega
theorem Kv{b:List UInt8}{i h oi oh:Int}{o:ByteArray}(e:Dr b i h=(o,oi,oh))(hc:0≤i∧i≤b.length∧b.length≤1000000000000):o.size≤60∧0≤oi∧oi≤b.length:=by
 unfold Dr at e
 rcases h1:Ae b i h 6 with⟨x,i1,h1'⟩
 have z1:=Ah h1 hc
 simp only[h1]at e
 split at e
 ·simp only[Prod.mk.injEq]at e
  rw[←e.1]
  exact⟨by decide,by omega,by omega⟩
 ·split at e
  ·rcases h2:Ae b i1 h1' 41 with⟨y,i2,h2'⟩
   have z2:=Ah h2 (by omega)
   simp only[h2]at e
   have z3:=F0 e (by omega)
   omega
  ·rcases h2:Ae b i1 h1' 12 with⟨y,i2,h2'⟩
   have z2:=Ah h2 (by omega)
   simp only[h2]at e
   have z3:=F0 e (by omega)
   omega
theorem Qw{v:Int}(h:0≤v∧v<256):[D.sc (.int .u8 v)]=cB (UInt8.ofNat v.toNat):=by
 have e:((UInt8.ofNat v.toNat).toNat:Int)=v:=by
  rw[UInt8.toNat_ofNat',Nat.mod_eq_of_lt (by omega)]
  omega
 show[D.sc (.int .u8 v)]=[D.sc (.int .u8 ((UInt8.ofNat v.toNat).toNat:Int))]
 rw[e]
variable {cb:List UInt8} {xcb:List (List D)} {ci ch o oi oh n:Int}
theorem Ka(hcb:cb.map cB=xcb)(hc:0≤ci∧ci≤cb.length∧cb.length≤1000000000000)(hr:C1 cb ci ch=(o,oi,oh)):Fn Tryz.prog 239 [.ptr 0 0 0] [.box 140 [.d (.row 1 xcb),I ci,I ch]] ⟨I o,[],[(0,.box 140 [.d (.row 1 xcb),I oi,I oh])]⟩:=by
 refine Fn.goR S5 Tryz.func239 fun P hP Q hQ=>?_
 conv=>cbv
 refine .mulW fun v1 ab=>?_
 conv=>cbv
 refine .addW fun v2 ac=>?_
 conv=>cbv
 refine .shr fun v3 ad=>?_
 conv=>cbv
 refine .shr fun v4 ae=>?_
 conv=>cbv
 refine .xor fun v5 af=>?_
 conv=>cbv
 refine .and fun v6 aa=>?_
 conv=>cbv
 refine .go hcb fun v7 ao=>?_
 conv=>cbv
 refine .lss (fun h8=>?_) fun h8=>?_
 conv=>cbv
 refine .go ci.toNat hcb fun ag e9 al=>?_
 conv=>cbv
 have ap:=e9.toNat_lt
 refine .id (a:=(e9.toNat:Int)) fun aq ah=>?_
 conv=>cbv
 have hx6:0≤v6∧v6≤255:=by rw[aa];exact Xia _
 refine .add fun ar ai=>?_
 conv=>cbv
 refine .and fun am aj=>?_
 conv=>cbv
 refine .add fun an ak=>?_
 conv=>cbv
 have e:(am,an,v2)=C1 cb ci ch:=(by unfold C1;rw[if_pos (by omega),List.getD_eq_getElem?_getD,List.getElem?_eq_getElem ag,Option.getD_some,←al,aj,ai,ah,ak];unfold drX drH;rw[aa,af,ae,ad,ac,ab])
 rw[hr]at e
 simp only[Prod.mk.injEq]at e
 obtain⟨rfl,rfl,rfl⟩:=e
 exact hQ _ _ (.of [] (.inl rfl) rfl rfl rfl rfl)
 conv=>cbv
 have e:(v6,ci,v2)=C1 cb ci ch:=(by unfold C1;rw[if_neg (by omega)];unfold drX drH;rw[aa,af,ae,ad,ac,ab])
 rw[hr]at e
 simp only[Prod.mk.injEq]at e
 obtain⟨rfl,rfl,rfl⟩:=e
 exact hQ _ _ (.of [] (.inl rfl) rfl rfl rfl rfl)
theorem Bq(hcb:cb.map cB=xcb)(hc:0≤ci∧ci≤cb.length∧cb.length≤1000000000000)(hr:Ae cb ci ch n=(o,oi,oh)):Fn Tryz.prog 174 [.ptr 0 0 0,I n] [.box 140 [.d (.row 1 xcb),I ci,I ch]] ⟨I o,[],[(0,.box 140 [.d (.row 1 xcb),I oi,I oh])]⟩:=by
 refine Fn.goR S5 Tryz.func174 fun P hP Q hQ=>?_
 conv=>cbv
 refine .leq (fun h1=>?_) fun h1=>?_
 conv=>cbv
 have e:(0,ci,ch)=Ae cb ci ch n:=(by unfold Ae;rw[if_pos (by omega)])
 rw[hr]at e
 simp only[Prod.mk.injEq]at e
 obtain⟨rfl,rfl,rfl⟩:=e
 exact hQ _ _ (.of [] (.inl rfl) rfl rfl rfl rfl)
 conv=>cbv
 refine .leq (fun h2=>?_) fun h2=>?_
 conv=>cbv
 rcases aa:C1 cb ci ch with⟨d4,ri4,rh4⟩
 have zr4:=Ea aa (by omega)
 refine .bx [0] [] hP (Ka hcb (by omega) aa) rfl rfl rfl rfl ?_
 conv=>cbv
 refine .rem fun v5 al=>?_
 conv=>cbv
 have e:(v5,ri4,rh4)=Ae cb ci ch n:=(by unfold Ae;rw[if_neg (by omega),if_pos (by omega)];simp only[aa];rw[al])
 rw[hr]at e
 simp only[Prod.mk.injEq]at e
 obtain⟨rfl,rfl,rfl⟩:=e
 exact hQ _ _ (.of [] (.inl rfl) rfl rfl rfl rfl)
 conv=>cbv
 rcases aa:C1 cb ci ch with⟨d4,ri4,rh4⟩
 have zr4:=Ea aa (by omega)
 refine .bx [0] [] hP (Ka hcb (by omega) aa) rfl rfl rfl rfl ?_
 conv=>cbv
 rcases ac:C1 cb ri4 rh4 with⟨d6,ri6,rh6⟩
 have zr6:=Ea ac (by omega)
 refine .bx [0] [] hP (Ka hcb (by omega) ac) rfl rfl rfl rfl ?_
 conv=>cbv
 rcases ad:C1 cb ri6 rh6 with⟨d8,ri8,rh8⟩
 have zr8:=Ea ad (by omega)
 refine .bx [0] [] hP (Ka hcb (by omega) ad) rfl rfl rfl rfl ?_
 conv=>cbv
 rcases ab:C1 cb ri8 rh8 with⟨d10,ri10,rh10⟩
 have zr10:=Ea ab (by omega)
 refine .bx [0] [] hP (Ka hcb (by omega) ab) rfl rfl rfl rfl ?_
 conv=>cbv
 refine .mul fun an ae=>?_
 conv=>cbv
 refine .mul fun ao af=>?_
 conv=>cbv
 refine .add fun ap ag=>?_
 conv=>cbv
 refine .mul fun aq ah=>?_
 conv=>cbv
 refine .add fun ar ai=>?_
 conv=>cbv
 refine .add fun au aj=>?_
 conv=>cbv
 refine .rem fun am ak=>?_
 conv=>cbv
 have e:(am,ri10,rh10)=Ae cb ci ch n:=(by unfold Ae;rw[if_neg (by omega),if_neg (by omega)];simp only[aa,ac,ad,ab];rw[ak,aj,ai,ah,ag,af,ae])
 rw[hr]at e
 simp only[Prod.mk.injEq]at e
 obtain⟨rfl,rfl,rfl⟩:=e
 exact hQ _ _ (.of [] (.inl rfl) rfl rfl rfl rfl)
theorem Fi{o:Bool}(hcb:cb.map cB=xcb)(hc:0≤ci∧ci≤cb.length∧cb.length≤1000000000000)(hr:Bt cb ci ch n=(o,oi,oh)):Fn Tryz.prog 140 [.ptr 0 0 0,I n] [.box 140 [.d (.row 1 xcb),I ci,I ch]] ⟨B o,[],[(0,.box 140 [.d (.row 1 xcb),I oi,I oh])]⟩:=by
 refine Fn.goR S5 Tryz.func140 fun P hP Q hQ=>?_
 conv=>cbv
 rcases aa:Ae cb ci ch n with⟨d2,ri2,rh2⟩
 have zr2:=Ah aa (by omega)
 refine .bx [0] [] hP (Bq hcb (by omega) aa) rfl rfl rfl rfl ?_
 conv=>cbv
 refine .eql (fun h3=>?_) fun h3=>?_
 conv=>cbv
 have e:(true,ri2,rh2)=Bt cb ci ch n:=(by unfold Bt;simp only[aa];rw[decide_eq_true h3])
 rw[hr]at e
 simp only[Prod.mk.injEq]at e
 obtain⟨rfl,rfl,rfl⟩:=e
 exact hQ _ _ (.of [] (.inl rfl) rfl rfl rfl rfl)
 conv=>cbv
 have e:(false,ri2,rh2)=Bt cb ci ch n:=(by unfold Bt;simp only[aa];rw[decide_eq_false h3])
 rw[hr]at e
 simp only[Prod.mk.injEq]at e
 obtain⟨rfl,rfl,rfl⟩:=e
 exact hQ _ _ (.of [] (.inl rfl) rfl rfl rfl rfl)
theorem Hn{list:List Int}{xlist:List (List D)}(hcb:cb.map cB=xcb)(hlist:list.map cI=xlist)(hc:0≤ci∧ci≤cb.length∧cb.length≤1000000000000)(hl:0<list.length∧list.length≤1000)(hr:Bn cb ci ch list=(o,oi,oh)):Fn Tryz.prog 175 [.ptr 0 0 0,.d (.row 1 xlist)] [.box 140 [.d (.row 1 xcb),I ci,I ch]] ⟨I o,[],[(0,.box 140 [.d (.row 1 xcb),I oi,I oh])]⟩:=by
 refine Fn.goR S5 Tryz.func175 fun P hP Q hQ=>?_
 conv=>cbv
 refine .go hlist fun v1 ab=>?_
 conv=>cbv
 have ae:v1=(list.length:Int):=ab
 rcases aa:Ae cb ci ch v1 with⟨d3,ri3,rh3⟩
 have zr3:=Ah aa (by omega)
 refine .bx [0] [] hP (Bq hcb (by omega) aa) rfl rfl rfl rfl ?_
 conv=>cbv
 refine .go d3.toNat hlist fun ac e4 ad=>?_
 conv=>cbv
 have e:(e4,ri3,rh3)=Bn cb ci ch list:=(by unfold Bn;rw[←ab];simp only[aa];rw[List.getD_eq_getElem?_getD,List.getElem?_eq_getElem ac,Option.getD_some,←ad])
 rw[hr]at e
 simp only[Prod.mk.injEq]at e
 obtain⟨rfl,rfl,rfl⟩:=e
 exact hQ _ _ (.of [] (.inl rfl) rfl rfl rfl rfl)
theorem M5{o:ByteArray}(hcb:cb.map cB=xcb)(hc:0≤ci∧ci≤cb.length∧cb.length≤1000000000000)(hr:Dp cb ci ch n=(o,oi,oh)):Fn Tryz.prog 181 [.ptr 0 0 0,I n] [.box 140 [.d (.row 1 xcb),I ci,I ch]] ⟨S o,[],[(0,.box 140 [.d (.row 1 xcb),I oi,I oh])]⟩:=by
 refine Fn.goR S5 Tryz.func181 fun P hP Q hQ=>?_
 conv=>cbv
 refine .gtr (fun h1=>?_) fun h1=>?_
 conv=>cbv
 refine LoopW.lp (κ:=Int×Int×Int×(List (List D))×Nat) S5 hP [1] [0,1] (fun(i6,aa,ab,ac,ad)=>[(5,.ref 2 0 ad),(6,I i6)]) (fun(i6,aa,ab,ac,ad)=>[(0,.box 140 [.d (.row 1 xcb),I aa,I ab]),(2,.row 1 false ac)])
  (fun(i6,aa,ab,ac,ad)=>∃(w2:List UInt8),w2.map cB=ac∧ad=w2.length∧0≤i6∧(0≤aa∧aa≤cb.length)∧w2.length=i6.toNat∧i6≤5000∧Dp cb ci ch n=(match Xgc cb ((min n 5000).toNat - i6.toNat) aa ab with|(l,i,h)=>(tx (w2++l),i,h)))
  (fun(i6,aa,ab,ac,ad)=>(5000 - i6).toNat) (0,ci,ch,[],0) ⟨[],rfl,rfl,by omega,by omega,rfl,by omega,by unfold Dp;simp⟩ ⟨rfl,rfl,trivial⟩ rfl ?_
 rintro⟨i6,aa,ab,ac,ad⟩ J ⟨w2,af,ak,h0,hcu,hwl,h5,hw⟩ hJ
 conv=>cbv
 refine .lss (fun h2=>?_) fun h2=>?_
 conv=>cbv
 rcases ae:C1 cb aa ab with⟨d4,ri4,rh4⟩
 have zr4:=Ea ae (by omega)
 refine .bx [0] [] hP (Ka hcb (by omega) ae) rfl rfl rfl rfl ?_
 conv=>cbv
 refine .go fun v5 ag=>?_
 conv=>cbv
 refine .one (UInt8.ofNat v5.toNat) af (Qw (by rw[ag,Gs];omega)) fun ah z6 al ai=>?_
 conv=>cbv
 refine .add fun v7 am=>?_
 conv=>cbv
 exact .go [4] (v7,ri4,rh4,z6,ah) (hJ _ ⟨_,ai,Cv,by omega,by omega,by rw[List.length_append,hwl];simp;omega,by omega,by rw[hw,show(min n 5000).toNat - i6.toNat=((min n 5000).toNat - v7.toNat)+1 by omega];simp only[Xgc,ae];rw[show UInt8.ofNat d4.toNat=UInt8.ofNat v5.toNat by rw[ag,Gs];congr 1;omega];simp⟩ mlt)
 conv=>cbv
 refine .go af fun s3 aj=>?_
 conv=>cbv
 have e:(s3,aa,ab)=Dp cb ci ch n:=(by rw[hw,show(min n 5000).toNat - i6.toNat=0 by omega];simp only[Xgc,List.append_nil];rw[aj])
 rw[hr]at e
 simp only[Prod.mk.injEq]at e
 obtain⟨rfl,rfl,rfl⟩:=e
 exact hQ _ _ (.of [] (.inl rfl) rfl rfl rfl rfl)
 conv=>cbv
 refine LoopW.lp (κ:=Int×Int×Int×(List (List D))×Nat) S5 hP [1] [0,1] (fun(i6,aa,ab,ac,ad)=>[(5,.ref 2 0 ad),(6,I i6)]) (fun(i6,aa,ab,ac,ad)=>[(0,.box 140 [.d (.row 1 xcb),I aa,I ab]),(2,.row 1 false ac)])
  (fun(i6,aa,ab,ac,ad)=>∃(w2:List UInt8),w2.map cB=ac∧ad=w2.length∧0≤i6∧(0≤aa∧aa≤cb.length)∧w2.length=i6.toNat∧i6≤5000∧Dp cb ci ch n=(match Xgc cb ((min n 5000).toNat - i6.toNat) aa ab with|(l,i,h)=>(tx (w2++l),i,h)))
  (fun(i6,aa,ab,ac,ad)=>(5000 - i6).toNat) (0,ci,ch,[],0) ⟨[],rfl,rfl,by omega,by omega,rfl,by omega,by unfold Dp;simp⟩ ⟨rfl,rfl,trivial⟩ rfl ?_
 rintro⟨i6,aa,ab,ac,ad⟩ J ⟨w2,af,ak,h0,hcu,hwl,h5,hw⟩ hJ
 conv=>cbv
 refine .lss (fun h2=>?_) fun h2=>?_
 conv=>cbv
 rcases ae:C1 cb aa ab with⟨d4,ri4,rh4⟩
 have zr4:=Ea ae (by omega)
 refine .bx [0] [] hP (Ka hcb (by omega) ae) rfl rfl rfl rfl ?_
 conv=>cbv
 refine .go fun v5 ag=>?_
 conv=>cbv
 refine .one (UInt8.ofNat v5.toNat) af (Qw (by rw[ag,Gs];omega)) fun ah z6 al ai=>?_
 conv=>cbv
 refine .add fun v7 am=>?_
 conv=>cbv
 exact .go [4] (v7,ri4,rh4,z6,ah) (hJ _ ⟨_,ai,Cv,by omega,by omega,by rw[List.length_append,hwl];simp;omega,by omega,by rw[hw,show(min n 5000).toNat - i6.toNat=((min n 5000).toNat - v7.toNat)+1 by omega];simp only[Xgc,ae];rw[show UInt8.ofNat d4.toNat=UInt8.ofNat v5.toNat by rw[ag,Gs];congr 1;omega];simp⟩ mlt)
 conv=>cbv
 refine .go af fun s3 aj=>?_
 conv=>cbv
 have e:(s3,aa,ab)=Dp cb ci ch n:=(by rw[hw,show(min n 5000).toNat - i6.toNat=0 by omega];simp only[Xgc,List.append_nil];rw[aj])
 rw[hr]at e
 simp only[Prod.mk.injEq]at e
 obtain⟨rfl,rfl,rfl⟩:=e
 exact hQ _ _ (.of [] (.inl rfl) rfl rfl rfl rfl)
theorem Ur{o:ByteArray}(hcb:cb.map cB=xcb)(hc:0≤ci∧ci≤cb.length∧cb.length≤1000000000000)(hr:Dr cb ci ch=(o,oi,oh)):Fn Tryz.prog 179 [.ptr 0 0 0] [.box 140 [.d (.row 1 xcb),I ci,I ch]] ⟨S o,[],[(0,.box 140 [.d (.row 1 xcb),I oi,I oh])]⟩:=by
 refine Fn.goR S5 Tryz.func179 fun P hP Q hQ=>?_
 conv=>cbv
 rcases ab:Ae cb ci ch 6 with⟨d2,ri2,rh2⟩
 have zr2:=Ah ab (by omega)
 refine .bx [0] [] hP (Bq hcb (by omega) ab) rfl rfl rfl rfl ?_
 conv=>cbv
 refine .eql (fun h3=>?_) fun h3=>?_
 conv=>cbv
 have e:((tx []),ri2,rh2)=Dr cb ci ch:=(by unfold Dr;simp only[ab];repeat (first|rw[if_pos (by omega)]|rw[if_neg (by omega)]))
 rw[hr]at e
 simp only[Prod.mk.injEq]at e
 obtain⟨rfl,rfl,rfl⟩:=e
 exact hQ _ _ (.of [] (.inl rfl) rfl rfl rfl rfl)
 conv=>cbv
 refine .eql (fun h4=>?_) fun h4=>?_
 conv=>cbv
 rcases aa:Ae cb ri2 rh2 41 with⟨d6,ri6,rh6⟩
 have zr6:=Ah aa (by omega)
 refine .bx [0] [] hP (Bq hcb (by omega) aa) rfl rfl rfl rfl ?_
 conv=>cbv
 refine .add fun v7 ae=>?_
 conv=>cbv
 rcases ac:Dp cb ri6 rh6 v7 with⟨d9,ri9,rh9⟩
 have zr9:=F0 ac (by omega)
 refine .bx [0] [] hP (M5 hcb (by omega) ac) rfl rfl rfl rfl ?_
 conv=>cbv
 have e:(d9,ri9,rh9)=Dr cb ci ch:=(by unfold Dr;simp only[ab,aa,ac];rw[if_neg (by omega),if_pos (by omega),←ae];simp only[ab,aa,ac])
 rw[hr]at e
 simp only[Prod.mk.injEq]at e
 obtain⟨rfl,rfl,rfl⟩:=e
 exact hQ _ _ (.of [] (.inl rfl) rfl rfl rfl rfl)
 conv=>cbv
 rcases aa:Ae cb ri2 rh2 12 with⟨d6,ri6,rh6⟩
 have zr6:=Ah aa (by omega)
 refine .bx [0] [] hP (Bq hcb (by omega) aa) rfl rfl rfl rfl ?_
 conv=>cbv
 rcases ad:Dp cb ri6 rh6 d6 with⟨d8,ri8,rh8⟩
 have zr8:=F0 ad (by omega)
 refine .bx [0] [] hP (M5 hcb (by omega) ad) rfl rfl rfl rfl ?_
 conv=>cbv
 have e:(d8,ri8,rh8)=Dr cb ci ch:=(by unfold Dr;simp only[ab,aa,ad];repeat (first|rw[if_pos (by omega)]|rw[if_neg (by omega)]))
 rw[hr]at e
 simp only[Prod.mk.injEq]at e
 obtain⟨rfl,rfl,rfl⟩:=e
 exact hQ _ _ (.of [] (.inl rfl) rfl rfl rfl rfl)
end
end Go.Proofs.YtjbmpmmffjgedaaGreatDoor.Ab
