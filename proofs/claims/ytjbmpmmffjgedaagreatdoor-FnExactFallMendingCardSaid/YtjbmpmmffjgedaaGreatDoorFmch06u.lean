/- What functions come to. -/
import Derived.Test.YtjbmpmmffjgedaaGreatDoorFmch06j
import Derived.Test.YtjbmpmmffjgedaaGreatDoorFmZ9
set_option linter.unusedVariables false
set_option linter.unusedSimpArgs false
set_option maxHeartbeats 4000000
set_option maxRecDepth 20000
namespace Go.Proofs.YtjbmpmmffjgedaaGreatDoor.Ab
section
open Go Go.Proofs
def XcG:List (Nat×TyRow):=[ty3,ty9,Xp,ty48,XlJ]
theorem XcN:B1 Tryz.prog XcG:=B1.of (by kernel_rfl)
theorem L7:Setup Tryz.prog XcG:=⟨XcN,mixed⟩
theorem Xgx{α:Type}{f:α→Int}(h0:∀x,0≤f x):∀{l:List α} {x:α},x∈l→∀a,a+f x≤(l.map f).foldl (·+·) a
 |[],_,h,_=>by cases h
 |y::l,x,h,a=>by
  rw[List.map_cons,List.foldl_cons]
  rcases List.mem_cons.1 h with rfl|h
  ·exact XeN h0
  ·have h1:=Xgx h0 h (a+f y)
   have:=h0 y
   omega
theorem Xko{d:Aa}{n:A0}(h:n∈d.nodes_):(n.text_.size:Int)≤F9 d:=by
 have:=Xgx (f:=fun n:A0=>(n.text_.size:Int)) (fun x=>by omega) h 0
 unfold F9 XlL
 omega
theorem XiH{d:Aa}{i:Int}{x:A0}(h:J8 d)(hx:x.text_.size≤1000000000):J8 (XmQ d i x):=by
 obtain⟨⟨h1,h2,h3⟩,h4⟩:=h
 refine⟨⟨by show(d.nodes_.set _ _).length≤_;rw[List.length_set];exact h1,?_,h3⟩,h4⟩
 intro n hn
 rcases List.mem_or_eq_of_mem_set hn with hn|rfl
 ·exact h2 n hn
 ·exact hx
theorem Xly{d:Aa}{i:Int}(h0:0≤i)(h1:i<d.nodes_.length):gN d i∈d.nodes_:=by
 unfold gN
 have hk:i.toNat<d.nodes_.length:=by omega
 rw[←gD hk]
 exact List.getElem_mem hk
theorem Xa5{d:Aa}{s:ByteArray}(h:J8 d)(he:d.entries_.length≤1000000)(hs:s.size≤1000000000)(hl:d.steps_.length<1000000000):J8 (M2 d s):=by
 obtain⟨⟨h1,h2,h3,h4,h5,h6⟩,h7,h8⟩:=h
 obtain⟨e,b,hy⟩:∃e b,As d.entries_ s=(e,b):=⟨_,_,rfl⟩
 have hlen:=M9 hy
 have hok:=Xbh (l:=d.entries_) h4 hs hy
 unfold M2
 rw[hy]
 refine⟨⟨?_,?_,by show e.length≤_;omega,hok,h5,by rw[List.length_append,List.length_singleton];omega⟩,h7,Sm h8 hs⟩
 ·exact Nat.le_trans (List.length_filter_le _ _) h1
 ·intro n hn
  exact h2 n (List.mem_filter.1 hn).1
def okG(d d':Aa):Prop:=J8 d'∧d'.steps_.length≤d.steps_.length+1
theorem Ix{d:Aa}(h:J8 d):okG d d:=⟨h,Nat.le_succ _⟩
theorem Xai{d:Aa}(h:Bq d=true):d.entries_.length≤16:=Vh (P4 h).2.2
section
variable {d:Aa} {name text a b:ByteArray}
theorem XiK(h:J8 d)(hl:d.steps_.length<1000000000)(hm:name.size≤500000000):okG d (Bl d name).1:=by
 unfold Bl
 split
 ·exact Ix h
 ·rename_i hr
  have hr:=by simpa using hr
  split
  ·exact Ix h
  ·split
   ·exact Ix h
   ·split
    ·exact Ix h
    ·rename_i hc
     have hri:=Jc hr
     have hz:=Uc (rfl:Ch d.next_=_) (by unfold Xbj;omega)
     refine⟨Xa5 ?_ (by show d.entries_.length≤_;omega) ?_ hl,by show(d.steps_++[_]).length≤_;rw[List.length_append];exact Nat.le_refl _⟩
     ·obtain⟨⟨h1,h2,h3⟩,h4⟩:=h
      refine⟨⟨by show(d.nodes_++[_]).length≤_;rw[List.length_append,List.length_singleton];omega,?_,h3⟩,h4⟩
      intro n hn
      rcases List.mem_append.1 hn with hn|hn
      ·exact h2 n hn
      ·rw[List.mem_singleton.1 hn]
       exact Nat.zero_le _
     ·simp only[ByteArray.size_append,Bz,List.length_singleton]
      omega
theorem Xjj(h:J8 d)(hl:d.steps_.length<1000000000)(hm:name.size≤500000000):okG d (C8 d name).1:=by
 unfold C8
 split
 ·exact Ix h
 ·rename_i hr
  have hr:Bq d=true:=by
   cases hc:Bq d
   ·exact absurd (.inl hc) hr
   ·rfl
  refine⟨Xa5 h (by have:=Xai hr;omega) ?_ hl,by show(d.steps_++[_]).length≤_;rw[List.length_append];exact Nat.le_refl _⟩
  simp only[ByteArray.size_append,Bz,List.length_singleton]
  omega
theorem Xjl(h:J8 d)(hl:d.steps_.length<1000000000)(ha:a.size≤400000000)(hb:b.size≤400000000):okG d (B8 d a b).1:=by
 unfold B8
 split
 ·exact Ix h
 ·rename_i hr
  have hr:Bq d=true:=by
   cases hc:Bq d
   ·exact absurd (.inl hc) hr
   ·rfl
  split
  ·exact Ix h
  ·refine⟨Xa5 h (by have:=Xai hr;omega) ?_ hl,by show(d.steps_++[_]).length≤_;rw[List.length_append];exact Nat.le_refl _⟩
   simp only[ByteArray.size_append,Bz,List.length_singleton]
   omega
theorem Xiv(h:J8 d):okG d (Cl d name text).1:=by
 unfold Cl
 split
 ·exact Ix h
 ·rename_i hr
  have hk:0≤Da d name:=Int.not_lt.1 fun k=>hr (.inr k)
  have hr:Bq d=true:=by
   cases hc:Bq d
   ·exact absurd (.inl hc) hr
   ·rfl
  have hri:=Jc hr
  have hu:=Xko (Xly hk (Im rfl).2)
  refine⟨XiH h ?_,Nat.le_succ _⟩
  show((gN d (Da d name)).text_++text.extract 0 _).size≤_
  rw[ByteArray.size_append,ByteArray.size_extract]
  omega
theorem XlO(h:J8 d):okG d (D3 d name).1:=by
 unfold D3
 split
 ·exact Ix h
 ·rename_i hr
  have hk:0≤Da d name:=Int.not_lt.1 fun k=>hr (.inr k)
  refine⟨XiH (i:=Da d name) h ?_,Nat.le_succ _⟩
  show(gN d (Da d name)).text_.size≤_
  exact h.1.2.1 _ (Xly hk (Im rfl).2)
theorem XkN(h:J8 d):okG d (Ed d):=by
 unfold Ed
 split
 ·exact Ix h
 ·obtain⟨⟨h1,h2,h3,h4,h5,h6⟩,h7,h8⟩:=h
  refine⟨⟨⟨Nat.le_trans (List.length_filter_le _ _) h1,fun n hn=>h2 n (List.mem_filter.1 hn).1,h3,h4,h3,Nat.zero_le _⟩,h4,fun _ hs=>by cases hs⟩,Nat.zero_le _⟩
end
def Dy(d:Aa)(x:TOp):Aa×Int:=if x.kind_=1 then C8 d x.name_ else if x.kind_=2 then Bl d x.name_ else if x.kind_=3 then Cl d x.name_ x.text_ else if x.kind_=4 then D3 d x.name_ else if x.kind_=5 then B8 d x.name_ x.to_ else if x.kind_=6 then(Ed d,0)else(d,1)
def okO(x:TOp):Prop:=x.name_.size≤400000000∧x.to_.size≤400000000∧x.text_.size≤1000000000
theorem Xan{d:Aa}{x:TOp}(h:J8 d)(hl:d.steps_.length<1000000000)(hx:okO x):okG d (Dy d x).1:=by
 unfold okO at hx
 unfold Dy
 split
 ·exact Xjj h hl (by omega)
 ·split
  ·exact XiK h hl (by omega)
  ·split
   ·exact Xiv h
   ·split
    ·exact XlO h
    ·split
     ·exact Xjl h hl (by omega) (by omega)
     ·split
      ·exact XkN h
      ·exact Ix h
def Xav:Aa→List TOp→Aa×Int
 |d,[]=>(d,0)
 |d,x::l=>if(Dy d x).2=0 then Xav (Dy d x).1 l else Dy d x
def Iv(d:Aa)(l:List TOp)(n:Int):Aa×Int:=Xav d (l.take (Cs n 0 l.length).toNat)
theorem XfZ:∀{l:List TOp} {d:Aa},J8 d→d.steps_.length+l.length≤1000000000→(∀x∈l,okO x)→J8 (Xav d l).1∧(Xav d l).1.steps_.length≤d.steps_.length+l.length
 |[],d,h,_,_=>⟨h,Nat.le_refl _⟩
 |x::l,d,h,hl,hx=>by
  rw[List.length_cons]at hl
  have h1:=Xan h (by omega) (hx x List.mem_cons_self)
  have h2:=h1.2
  unfold Xav
  split
  ·have h3:=XfZ (l:=l) h1.1 (by omega) fun y hy=>hx y (List.mem_cons_of_mem _ hy)
   refine⟨h3.1,?_⟩
   rw[List.length_cons]
   omega
  ·refine⟨h1.1,?_⟩
   rw[List.length_cons]
   omega
theorem Y1{d:Aa}{l:List TOp}{k:Nat}{x:TOp}(hk:k<l.length)(hx:x=l[k]):Xav d (l.drop k)=if(Dy d x).2=0 then Xav (Dy d x).1 (l.drop (k+1))else Dy d x:=by
 rw[List.drop_eq_getElem_cons hk,←hx]
 rfl
def Gy(d:Aa)(v n:Int):Aa:=(Iv d (H9 d v) n).1
variable {Af G8 onod:List A0} {Bo Bn Bm Bp Eo Eu Et Es xlist Ho Hw Hy Hm:List (List D)} {Ah Ai Hk G9 oent oold:List Ad} {Ag Hj oste:List ByteArray} {Ap An xkin Hf He ob n version oroo onex:Int} {xnam xto xtex:ByteArray} {list:List TOp}
theorem Xmy(Al:Af.map Bf=Bo)(Am:Ah.map Ac=Bn)(Aq:Ai.map Ac=Bm)(Ao:Ag.map cS=Bp)(aa:J8 (⟨Af,Ah,Ai,Ag,Ap,An⟩:Aa))(hs:Ag.length<1000000000)(hx:okO (⟨xkin,xnam,xto,xtex⟩:TOp))(hr:Dy (⟨Af,Ah,Ai,Ag,Ap,An⟩:Aa) (⟨xkin,xnam,xto,xtex⟩:TOp)=(⟨G8,Hk,G9,Hj,Hf,He⟩,ob))(B3:G8.map Bf=Eo)(B4:Hk.map Ac=Eu)(B5:G9.map Ac=Et)(B2:Hj.map cS=Es):Fn Tryz.prog 207 [.agg [.d (.row 3 Bo),.d (.row 2 Bn),.d (.row 2 Bm),.d (.row 1 Bp),I Ap,I An],.agg [I xkin,S xnam,S xto,S xtex]] [] ⟨.tup [.agg [.d (.row 3 Eo),.d (.row 2 Eu),.d (.row 2 Et),.d (.row 1 Es),I Hf,I He],I ob],[],[]⟩:=by
 refine Fn.go L7 Tryz.func207 fun P hP Q hQ=>?_
 conv=>cbv
 have dg:Af.length≤1000000000:=aa.1.1
 have dh:Ah.length≤1000000000:=aa.1.2.2.1
 have di:Ai.length≤1000000000:=aa.1.2.2.2.2.1
 have hx3:xnam.size≤400000000∧xto.size≤400000000∧xtex.size≤1000000000:=hx
 refine .eql (fun h1=>?_) fun h1=>?_
 conv=>cbv
 rcases cc:C8 (⟨Af,Ah,Ai,Ag,Ap,An⟩:Aa) xnam with⟨⟨ay,az,a1,a2,bz,b0⟩,c8⟩
 generalize ab:ay.map Bf=cd
 generalize ac:az.map Ac=ce
 generalize ad:a1.map Ac=cf
 generalize ae:a2.map cS=cg
 refine .dd hP (Xce Al Am Aq Ao aa.1.1 aa.1.2.2.1 aa.1.2.2.2.2.1 hs aa.2.2 aa (by omega) cc ab ac ad ae) ?_
 conv=>cbv
 have e:((⟨ay,az,a1,a2,bz,b0⟩:Aa),c8)=Dy (⟨Af,Ah,Ai,Ag,Ap,An⟩:Aa) (⟨xkin,xnam,xto,xtex⟩:TOp):=(by unfold Dy;dsimp only;rw[if_pos h1];exact cc.symm)
 rw[hr]at e
 simp only[Prod.mk.injEq,Aa.mk.injEq]at e
 obtain⟨⟨rfl,rfl,rfl,rfl,rfl,rfl⟩,rfl⟩:=e
 refine hQ _ _ ?_
 exact .m rfl (.agg (.d rfl (Bj ab B3) (.d rfl (Bj ac B4) (.d rfl (Bj ad B5) (.d rfl (Bj ae B2) .d2)))) .d1)
 conv=>cbv
 refine .eql (fun h2=>?_) fun h2=>?_
 conv=>cbv
 rcases ch:Bl (⟨Af,Ah,Ai,Ag,Ap,An⟩:Aa) xnam with⟨⟨a6,a7,a8,ba,b2,b3⟩,c9⟩
 generalize af:a6.map Bf=ci
 generalize ag:a7.map Ac=cj
 generalize ah:a8.map Ac=ck
 generalize ai:ba.map cS=cm
 refine .dd hP (Xdh Al Am Aq Ao aa.1.1 aa.1.2.2.1 aa.1.2.2.2.2.1 hs aa.2.2 aa (by omega) ch af ag ah ai) ?_
 conv=>cbv
 have e:((⟨a6,a7,a8,ba,b2,b3⟩:Aa),c9)=Dy (⟨Af,Ah,Ai,Ag,Ap,An⟩:Aa) (⟨xkin,xnam,xto,xtex⟩:TOp):=(by unfold Dy;dsimp only;rw[if_neg h1,if_pos h2];exact ch.symm)
 rw[hr]at e
 simp only[Prod.mk.injEq,Aa.mk.injEq]at e
 obtain⟨⟨rfl,rfl,rfl,rfl,rfl,rfl⟩,rfl⟩:=e
 refine hQ _ _ ?_
 exact .m rfl (.agg (.d rfl (Bj af B3) (.d rfl (Bj ag B4) (.d rfl (Bj ah B5) (.d rfl (Bj ai B2) .d2)))) .d1)
 conv=>cbv
 refine .eql (fun h3=>?_) fun h3=>?_
 conv=>cbv
 rcases cn:Cl (⟨Af,Ah,Ai,Ag,Ap,An⟩:Aa) xnam xtex with⟨⟨bb,bc,bd,be,b4,b5⟩,da⟩
 generalize aj:bb.map Bf=co
 generalize ak:bc.map Ac=cp
 generalize al:bd.map Ac=cq
 generalize am:be.map cS=cr
 refine .dd hP (Xdt Al Am Aq Ao aa.1.1 aa.1.2.2.1 aa.1.2.2.2.2.1 hs aa.2.2 aa (by omega) cn aj ak al am) ?_
 conv=>cbv
 have e:((⟨bb,bc,bd,be,b4,b5⟩:Aa),da)=Dy (⟨Af,Ah,Ai,Ag,Ap,An⟩:Aa) (⟨xkin,xnam,xto,xtex⟩:TOp):=(by unfold Dy;dsimp only;rw[if_neg h1,if_neg h2,if_pos h3];exact cn.symm)
 rw[hr]at e
 simp only[Prod.mk.injEq,Aa.mk.injEq]at e
 obtain⟨⟨rfl,rfl,rfl,rfl,rfl,rfl⟩,rfl⟩:=e
 refine hQ _ _ ?_
 exact .m rfl (.agg (.d rfl (Bj aj B3) (.d rfl (Bj ak B4) (.d rfl (Bj al B5) (.d rfl (Bj am B2) .d2)))) .d1)
 conv=>cbv
 refine .eql (fun h4=>?_) fun h4=>?_
 conv=>cbv
 rcases ct:D3 (⟨Af,Ah,Ai,Ag,Ap,An⟩:Aa) xnam with⟨⟨bf,bg,bh,bi,b6,b7⟩,db⟩
 generalize an:bf.map Bf=cu
 generalize ao:bg.map Ac=cv
 generalize ap:bh.map Ac=cw
 generalize aq:bi.map cS=cx
 refine .dd hP (XgI Al Am Aq Ao aa.1.1 aa.1.2.2.1 aa.1.2.2.2.2.1 hs aa.2.2 aa ct an ao ap aq) ?_
 conv=>cbv
 have e:((⟨bf,bg,bh,bi,b6,b7⟩:Aa),db)=Dy (⟨Af,Ah,Ai,Ag,Ap,An⟩:Aa) (⟨xkin,xnam,xto,xtex⟩:TOp):=(by unfold Dy;dsimp only;rw[if_neg h1,if_neg h2,if_neg h3,if_pos h4];exact ct.symm)
 rw[hr]at e
 simp only[Prod.mk.injEq,Aa.mk.injEq]at e
 obtain⟨⟨rfl,rfl,rfl,rfl,rfl,rfl⟩,rfl⟩:=e
 refine hQ _ _ ?_
 exact .m rfl (.agg (.d rfl (Bj an B3) (.d rfl (Bj ao B4) (.d rfl (Bj ap B5) (.d rfl (Bj aq B2) .d2)))) .d1)
 conv=>cbv
 refine .eql (fun h5=>?_) fun h5=>?_
 conv=>cbv
 rcases cy:B8 (⟨Af,Ah,Ai,Ag,Ap,An⟩:Aa) xnam xto with⟨⟨bj,bk,bl,bm,b8,b9⟩,dc⟩
 generalize ar:bj.map Bf=cz
 generalize au:bk.map Ac=c0
 generalize aw:bl.map Ac=c1
 generalize ax:bm.map cS=c2
 refine .dd hP (Xc4 Al Am Aq Ao aa.1.1 aa.1.2.2.1 aa.1.2.2.2.2.1 hs aa.2.2 aa (by omega) cy ar au aw ax) ?_
 conv=>cbv
 have e:((⟨bj,bk,bl,bm,b8,b9⟩:Aa),dc)=Dy (⟨Af,Ah,Ai,Ag,Ap,An⟩:Aa) (⟨xkin,xnam,xto,xtex⟩:TOp):=(by unfold Dy;dsimp only;rw[if_neg h1,if_neg h2,if_neg h3,if_neg h4,if_pos h5];exact cy.symm)
 rw[hr]at e
 simp only[Prod.mk.injEq,Aa.mk.injEq]at e
 obtain⟨⟨rfl,rfl,rfl,rfl,rfl,rfl⟩,rfl⟩:=e
 refine hQ _ _ ?_
 exact .m rfl (.agg (.d rfl (Bj ar B3) (.d rfl (Bj au B4) (.d rfl (Bj aw B5) (.d rfl (Bj ax B2) .d2)))) .d1)
 conv=>cbv
 refine .eql (fun h6=>?_) fun h6=>?_
 conv=>cbv
 rcases c3:Ed (⟨Af,Ah,Ai,Ag,Ap,An⟩:Aa)with⟨bt,bu,bv,bw,ca,cb⟩
 generalize bn:bt.map Bf=c4
 generalize bo:bu.map Ac=c5
 generalize bp:bv.map Ac=c6
 generalize bq:bw.map cS=c7
 refine .dd hP (Xew Al Am Aq Ao aa.1.1 aa.1.2.2.1 aa.1.2.2.2.2.1 hs aa.2.2 aa c3 bn bo bp bq) ?_
 conv=>cbv
 have e:((⟨bt,bu,bv,bw,ca,cb⟩:Aa),0)=Dy (⟨Af,Ah,Ai,Ag,Ap,An⟩:Aa) (⟨xkin,xnam,xto,xtex⟩:TOp):=(by unfold Dy;dsimp only;rw[if_neg h1,if_neg h2,if_neg h3,if_neg h4,if_neg h5,if_pos h6];rw[c3])
 rw[hr]at e
 simp only[Prod.mk.injEq,Aa.mk.injEq]at e
 obtain⟨⟨rfl,rfl,rfl,rfl,rfl,rfl⟩,rfl⟩:=e
 refine hQ _ _ ?_
 exact .m rfl (.agg (.d rfl (Bj bn B3) (.d rfl (Bj bo B4) (.d rfl (Bj bp B5) (.d rfl (Bj bq B2) .d2)))) .d1)
 conv=>cbv
 obtain⟨n8,de⟩:∃m,m=Af.length:=⟨_,rfl⟩
 obtain⟨n9,df⟩:∃m,m=Ag.length:=⟨_,rfl⟩
 refine .ddN hP (Jf Al Am Aq Ao (by omega) (by omega) (by omega) (by omega) de df) rfl ?_
 conv=>cbv
 have e:((⟨Af,Ah,Ai,Ag,Ap,An⟩:Aa),1)=Dy (⟨Af,Ah,Ai,Ag,Ap,An⟩:Aa) (⟨xkin,xnam,xto,xtex⟩:TOp):=(by unfold Dy;dsimp only;rw[if_neg h1,if_neg h2,if_neg h3,if_neg h4,if_neg h5,if_neg h6])
 rw[hr]at e
 simp only[Prod.mk.injEq,Aa.mk.injEq]at e
 obtain⟨⟨rfl,rfl,rfl,rfl,rfl,rfl⟩,rfl⟩:=e
 refine hQ _ _ ?_
 exact .m rfl (.agg (.ref rfl (Ae Al) (Bt Al B3) (.d rfl (Bj Am B4) (.d rfl (Bj Aq B5) (.ref rfl (Ae Ao) (Bt Ao B2) .d2)))) .d1)
theorem XlT(Al:Af.map Bf=Bo)(Am:Ah.map Ac=Bn)(Aq:Ai.map Ac=Bm)(Ao:Ag.map cS=Bp)(aa:J8 (⟨Af,Ah,Ai,Ag,Ap,An⟩:Aa))(hs:Ag.length<1000000000)(hx:okO (⟨xkin,xnam,xto,xtex⟩:TOp))(hr:Dy (⟨Af,Ah,Ai,Ag,Ap,An⟩:Aa) (⟨xkin,xnam,xto,xtex⟩:TOp)=(⟨G8,Hk,G9,Hj,Hf,He⟩,ob))(B3:G8.map Bf=Eo)(B4:Hk.map Ac=Eu)(B5:G9.map Ac=Et)(B2:Hj.map cS=Es):Fn Tryz.prog 195 [.agg [.d (.row 3 Bo),.d (.row 2 Bn),.d (.row 2 Bm),.d (.row 1 Bp),I Ap,I An],.agg [I xkin,S xnam,S xto,S xtex]] [] ⟨.tup [.agg [.d (.row 3 Eo),.d (.row 2 Eu),.d (.row 2 Et),.d (.row 1 Es),I Hf,I He],I ob],[],[]⟩:=by
 refine Fn.go L7 Tryz.func195 fun P hP Q hQ=>?_
 conv=>cbv
 have di:Af.length≤1000000000:=aa.1.1
 have dj:Ah.length≤1000000000:=aa.1.2.2.1
 have dk:Ai.length≤1000000000:=aa.1.2.2.2.2.1
 have hx3:xnam.size≤400000000∧xto.size≤400000000∧xtex.size≤1000000000:=hx
 refine .eql (fun h1=>?_) fun h1=>?_
 conv=>cbv
 rcases cc:C8 (⟨Af,Ah,Ai,Ag,Ap,An⟩:Aa) xnam with⟨⟨ay,az,a1,a2,bz,b0⟩,da⟩
 generalize ab:ay.map Bf=cd
 generalize ac:az.map Ac=ce
 generalize ad:a1.map Ac=cf
 generalize ae:a2.map cS=cg
 refine .dd hP (XbD Al Am Aq Ao aa.1.1 aa.1.2.2.1 aa.1.2.2.2.2.1 hs aa.2.2 aa (by omega) cc ab ac ad ae) ?_
 conv=>cbv
 have e:((⟨ay,az,a1,a2,bz,b0⟩:Aa),da)=Dy (⟨Af,Ah,Ai,Ag,Ap,An⟩:Aa) (⟨xkin,xnam,xto,xtex⟩:TOp):=(by unfold Dy;dsimp only;rw[if_pos h1];exact cc.symm)
 rw[hr]at e
 simp only[Prod.mk.injEq,Aa.mk.injEq]at e
 obtain⟨⟨rfl,rfl,rfl,rfl,rfl,rfl⟩,rfl⟩:=e
 refine hQ _ _ ?_
 exact .m rfl (.agg (.d rfl (Bj ab B3) (.d rfl (Bj ac B4) (.d rfl (Bj ad B5) (.d rfl (Bj ae B2) .d2)))) .d1)
 conv=>cbv
 refine .eql (fun h2=>?_) fun h2=>?_
 conv=>cbv
 rcases ch:Bl (⟨Af,Ah,Ai,Ag,Ap,An⟩:Aa) xnam with⟨⟨a6,a7,a8,ba,b2,b3⟩,db⟩
 generalize af:a6.map Bf=ci
 generalize ag:a7.map Ac=cj
 generalize ah:a8.map Ac=ck
 generalize ai:ba.map cS=cm
 refine .dd hP (XdN Al Am Aq Ao aa.1.1 aa.1.2.2.1 aa.1.2.2.2.2.1 hs aa.2.2 aa (by omega) ch af ag ah ai) ?_
 conv=>cbv
 have e:((⟨a6,a7,a8,ba,b2,b3⟩:Aa),db)=Dy (⟨Af,Ah,Ai,Ag,Ap,An⟩:Aa) (⟨xkin,xnam,xto,xtex⟩:TOp):=(by unfold Dy;dsimp only;rw[if_neg h1,if_pos h2];exact ch.symm)
 rw[hr]at e
 simp only[Prod.mk.injEq,Aa.mk.injEq]at e
 obtain⟨⟨rfl,rfl,rfl,rfl,rfl,rfl⟩,rfl⟩:=e
 refine hQ _ _ ?_
 exact .m rfl (.agg (.d rfl (Bj af B3) (.d rfl (Bj ag B4) (.d rfl (Bj ah B5) (.d rfl (Bj ai B2) .d2)))) .d1)
 conv=>cbv
 refine .eql (fun h3=>?_) fun h3=>?_
 conv=>cbv
 rcases cn:Cl (⟨Af,Ah,Ai,Ag,Ap,An⟩:Aa) xnam xtex with⟨⟨bb,bc,bd,be,b4,b5⟩,dc⟩
 generalize aj:bb.map Bf=co
 generalize ak:bc.map Ac=cp
 generalize al:bd.map Ac=cq
 generalize am:be.map cS=cr
 refine .dd hP (Xdy Al Am Aq Ao aa.1.1 aa.1.2.2.1 aa.1.2.2.2.2.1 hs aa.2.2 aa (by omega) cn aj ak al am) ?_
 conv=>cbv
 have e:((⟨bb,bc,bd,be,b4,b5⟩:Aa),dc)=Dy (⟨Af,Ah,Ai,Ag,Ap,An⟩:Aa) (⟨xkin,xnam,xto,xtex⟩:TOp):=(by unfold Dy;dsimp only;rw[if_neg h1,if_neg h2,if_pos h3];exact cn.symm)
 rw[hr]at e
 simp only[Prod.mk.injEq,Aa.mk.injEq]at e
 obtain⟨⟨rfl,rfl,rfl,rfl,rfl,rfl⟩,rfl⟩:=e
 refine hQ _ _ ?_
 exact .m rfl (.agg (.d rfl (Bj aj B3) (.d rfl (Bj ak B4) (.d rfl (Bj al B5) (.d rfl (Bj am B2) .d2)))) .d1)
 conv=>cbv
 refine .eql (fun h4=>?_) fun h4=>?_
 conv=>cbv
 rcases ct:D3 (⟨Af,Ah,Ai,Ag,Ap,An⟩:Aa) xnam with⟨⟨bf,bg,bh,bi,b6,b7⟩,de⟩
 generalize an:bf.map Bf=cu
 generalize ao:bg.map Ac=cv
 generalize ap:bh.map Ac=cw
 generalize aq:bi.map cS=cx
 refine .dd hP (Xg1 Al Am Aq Ao aa.1.1 aa.1.2.2.1 aa.1.2.2.2.2.1 hs aa.2.2 aa ct an ao ap aq) ?_
 conv=>cbv
 have e:((⟨bf,bg,bh,bi,b6,b7⟩:Aa),de)=Dy (⟨Af,Ah,Ai,Ag,Ap,An⟩:Aa) (⟨xkin,xnam,xto,xtex⟩:TOp):=(by unfold Dy;dsimp only;rw[if_neg h1,if_neg h2,if_neg h3,if_pos h4];exact ct.symm)
 rw[hr]at e
 simp only[Prod.mk.injEq,Aa.mk.injEq]at e
 obtain⟨⟨rfl,rfl,rfl,rfl,rfl,rfl⟩,rfl⟩:=e
 refine hQ _ _ ?_
 exact .m rfl (.agg (.d rfl (Bj an B3) (.d rfl (Bj ao B4) (.d rfl (Bj ap B5) (.d rfl (Bj aq B2) .d2)))) .d1)
 conv=>cbv
 refine .eql (fun h5=>?_) fun h5=>?_
 conv=>cbv
 rcases cy:B8 (⟨Af,Ah,Ai,Ag,Ap,An⟩:Aa) xnam xto with⟨⟨bj,bk,bl,bm,b8,b9⟩,df⟩
 generalize ar:bj.map Bf=cz
 generalize au:bk.map Ac=c0
 generalize aw:bl.map Ac=c1
 generalize ax:bm.map cS=c2
 refine .dd hP (XbU Al Am Aq Ao aa.1.1 aa.1.2.2.1 aa.1.2.2.2.2.1 hs aa.2.2 aa (by omega) cy ar au aw ax) ?_
 conv=>cbv
 have e:((⟨bj,bk,bl,bm,b8,b9⟩:Aa),df)=Dy (⟨Af,Ah,Ai,Ag,Ap,An⟩:Aa) (⟨xkin,xnam,xto,xtex⟩:TOp):=(by unfold Dy;dsimp only;rw[if_neg h1,if_neg h2,if_neg h3,if_neg h4,if_pos h5];exact cy.symm)
 rw[hr]at e
 simp only[Prod.mk.injEq,Aa.mk.injEq]at e
 obtain⟨⟨rfl,rfl,rfl,rfl,rfl,rfl⟩,rfl⟩:=e
 refine hQ _ _ ?_
 exact .m rfl (.agg (.d rfl (Bj ar B3) (.d rfl (Bj au B4) (.d rfl (Bj aw B5) (.d rfl (Bj ax B2) .d2)))) .d1)
 conv=>cbv
 refine .eql (fun h6=>?_) fun h6=>?_
 conv=>cbv
 rcases c3:Ed (⟨Af,Ah,Ai,Ag,Ap,An⟩:Aa)with⟨bt,bu,bv,bw,ca,cb⟩
 generalize bn:bt.map Bf=c6
 generalize bo:bu.map Ac=c7
 generalize bp:bv.map Ac=c8
 generalize bq:bw.map cS=c9
 refine .dd hP (Xd6 Al Am Aq Ao aa.1.1 aa.1.2.2.1 aa.1.2.2.2.2.1 hs aa.2.2 aa c3 bn bo bp bq) ?_
 conv=>cbv
 have e:((⟨bt,bu,bv,bw,ca,cb⟩:Aa),0)=Dy (⟨Af,Ah,Ai,Ag,Ap,An⟩:Aa) (⟨xkin,xnam,xto,xtex⟩:TOp):=(by unfold Dy;dsimp only;rw[if_neg h1,if_neg h2,if_neg h3,if_neg h4,if_neg h5,if_pos h6];rw[c3])
 rw[hr]at e
 simp only[Prod.mk.injEq,Aa.mk.injEq]at e
 obtain⟨⟨rfl,rfl,rfl,rfl,rfl,rfl⟩,rfl⟩:=e
 refine hQ _ _ ?_
 exact .m rfl (.agg (.d rfl (Bj bn B3) (.d rfl (Bj bo B4) (.d rfl (Bj bp B5) (.d rfl (Bj bq B2) .d2)))) .d1)
 conv=>cbv
 obtain⟨n8,dg⟩:∃m,m=Af.length:=⟨_,rfl⟩
 obtain⟨n9,dh⟩:∃m,m=Ah.length:=⟨_,rfl⟩
 obtain⟨dl,c4⟩:∃m,m=Ai.length:=⟨_,rfl⟩
 obtain⟨dm,c5⟩:∃m,m=Ag.length:=⟨_,rfl⟩
 refine .ddN hP (J7 Al Am Aq Ao (by omega) (by omega) (by omega) (by omega) dg dh c4 c5) rfl ?_
 conv=>cbv
 have e:((⟨Af,Ah,Ai,Ag,Ap,An⟩:Aa),1)=Dy (⟨Af,Ah,Ai,Ag,Ap,An⟩:Aa) (⟨xkin,xnam,xto,xtex⟩:TOp):=(by unfold Dy;dsimp only;rw[if_neg h1,if_neg h2,if_neg h3,if_neg h4,if_neg h5,if_neg h6])
 rw[hr]at e
 simp only[Prod.mk.injEq,Aa.mk.injEq]at e
 obtain⟨⟨rfl,rfl,rfl,rfl,rfl,rfl⟩,rfl⟩:=e
 refine hQ _ _ ?_
 exact .m rfl (.agg (.ref rfl (Ae Al) (Bt Al B3) (.ref rfl (Ae Am) (Bt Am B4) (.ref rfl (Ae Aq) (Bt Aq B5) (.ref rfl (Ae Ao) (Bt Ao B2) .d2)))) .d1)
theorem Xkb(Al:Af.map Bf=Bo)(Am:Ah.map Ac=Bn)(Aq:Ai.map Ac=Bm)(Ao:Ag.map cS=Bp)(hlist:list.map eOp=xlist)(bf:J8 (⟨Af,Ah,Ai,Ag,Ap,An⟩:Aa))(hs:Ag.length+list.length≤900000000)(hl:∀x∈list,okO x)(hr:Iv (⟨Af,Ah,Ai,Ag,Ap,An⟩:Aa) list n=(⟨G8,Hk,G9,Hj,Hf,He⟩,ob))(B3:G8.map Bf=Eo)(B4:Hk.map Ac=Eu)(B5:G9.map Ac=Et)(B2:Hj.map cS=Es):Fn Tryz.prog 126 [.agg [.d (.row 3 Bo),.d (.row 2 Bn),.d (.row 2 Bm),.d (.row 1 Bp),I Ap,I An],.d (.row 4 xlist),I n] [] ⟨.tup [.agg [.d (.row 3 Eo),.d (.row 2 Eu),.d (.row 2 Et),.d (.row 1 Es),I Hf,I He],I ob],[],[]⟩:=by
 refine Fn.go L7 Tryz.func126 fun P hP Q hQ=>?_
 conv=>cbv
 have bq:Af.length≤1000000000:=bf.1.1
 have bh:Ah.length≤1000000000:=bf.1.2.2.1
 have bt:Ai.length≤1000000000:=bf.1.2.2.2.2.1
 refine .dd hP (XeY Al Am Aq Ao (by omega) (by omega) (by omega) (by omega)) ?_
 conv=>cbv
 refine .go hlist fun v2 bm=>?_
 conv=>cbv
 generalize bi:Cs n 0 v2=r3
 refine .dd hP (Wp bi) ?_
 conv=>cbv
 have hbr:0≤r3∧r3≤list.length:=by rw[←bi];unfold Cs;split<;>(try split)<;>(try split)<;>omega
 refine .hi hlist fun x4 hx4=>?_
 conv=>cbv
 refine .go hx4 fun v5 bu=>?_
 conv=>cbv
 refine LoopW.lp (κ:=Int×(List (List D))×(List (List D))×(List (List D))×(List (List D))×Int×Int) L7 hP [] [6,8,20,21] (fun(ak,ad,ae,af,ag,aa,ab)=>[(22,I ak)]) (fun(ak,ad,ae,af,ag,aa,ab)=>[(10,.box 28 [.d (.row 3 ad),.d (.row 2 ae),.d (.row 2 af),.d (.row 1 ag),I aa,I ab])])
  (fun(ak,ad,ae,af,ag,aa,ab)=>∃(ah:List A0) (ai:List Ad) (aj:List Ad) (ac:List ByteArray),ah.map Bf=ad∧ai.map Ac=ae∧aj.map Ac=af∧ac.map cS=ag∧0≤ak∧ak≤(list.take r3.toNat).length∧J8 (⟨ah,ai,aj,ac,aa,ab⟩:Aa)∧ac.length≤Ag.length+ak∧Iv (⟨Af,Ah,Ai,Ag,Ap,An⟩:Aa) list n=Xav (⟨ah,ai,aj,ac,aa,ab⟩:Aa) ((list.take r3.toNat).drop ak.toNat))
  (fun(ak,ad,ae,af,ag,aa,ab)=>((list.take r3.toNat).length - ak).toNat) (0,Bo,Bn,Bm,Bp,Ap,An) ⟨Af,Ah,Ai,Ag,Al,Am,Aq,Ao,by omega,by omega,bf,by omega,by unfold Iv;rw[←bm,bi];rfl⟩ ⟨rfl,trivial⟩ rfl ?_
 rintro⟨ak,ad,ae,af,ag,aa,ab⟩ J ⟨ah,ai,aj,ac,a2,a6,a7,a8,h0,h1,bh,hqs,hio⟩ hJ
 have htl:(list.take r3.toNat).length≤list.length:=by rw[List.length_take];omega
 conv=>cbv
 refine .lss (fun h6=>?_) fun h6=>?_
 conv=>cbv
 refine .go ak.toNat hx4 fun bg ⟨ap,aq,ba,ar⟩ bj=>?_
 conv=>cbv
 have hox:okO (⟨ap,aq,ba,ar⟩:TOp):=by rw[bj];exact hl _ (List.mem_of_mem_take (List.getElem_mem bg))
 rcases bk:Dy (⟨ah,ai,aj,ac,aa,ab⟩:Aa) (⟨ap,aq,ba,ar⟩:TOp)with⟨⟨au,aw,ax,ay,az,a1⟩,bn⟩
 generalize al:au.map Bf=bb
 generalize am:aw.map Ac=bc
 generalize an:ax.map Ac=bd
 generalize ao:ay.map cS=be
 refine .dd hP (Xmy a2 a6 a7 a8 bh (by omega) hox bk al am an ao) ?_
 conv=>cbv
 have hg:=Xan (d:=(⟨ah,ai,aj,ac,aa,ab⟩:Aa)) bh (by show ac.length<_;omega) hox
 have hstep:=Y1 (d:=(⟨ah,ai,aj,ac,aa,ab⟩:Aa)) (x:=(⟨ap,aq,ba,ar⟩:TOp)) bg bj
 rw[bk]at hg hstep
 have bo:=hg.2
 simp only[]at bo
 refine .neq (fun h9=>?_) fun h9=>?_
 conv=>cbv
 have e:((⟨au,aw,ax,ay,az,a1⟩:Aa),bn)=Iv (⟨Af,Ah,Ai,Ag,Ap,An⟩:Aa) list n:=(by rw[hio,hstep];symm;exact if_neg (by omega))
 rw[hr]at e
 simp only[Prod.mk.injEq,Aa.mk.injEq]at e
 obtain⟨⟨rfl,rfl,rfl,rfl,rfl,rfl⟩,rfl⟩:=e
 refine hQ _ _ ?_
 exact .m rfl (.agg (.d rfl (Bj al B3) (.d rfl (Bj am B4) (.d rfl (Bj an B5) (.d rfl (Bj ao B2) .d2)))) .d1)
 conv=>cbv
 refine .add fun bl bp=>?_
 conv=>cbv
 exact .go [] (bl,bb,bc,bd,be,az,a1) (hJ _ ⟨_,_,_,_,al,am,an,ao,by omega,by omega,hg.1,by omega,by rw[hio,hstep,show bl.toNat=ak.toNat+1 by omega];exact if_pos (by omega)⟩ mlt)
 conv=>cbv
 have e:((⟨ah,ai,aj,ac,aa,ab⟩:Aa),0)=Iv (⟨Af,Ah,Ai,Ag,Ap,An⟩:Aa) list n:=(by rw[hio,List.drop_of_length_le (by omega)];rfl)
 rw[hr]at e
 simp only[Prod.mk.injEq,Aa.mk.injEq]at e
 obtain⟨⟨rfl,rfl,rfl,rfl,rfl,rfl⟩,rfl⟩:=e
 refine hQ _ _ ?_
 exact .m rfl (.agg (.d rfl (Bj a2 B3) (.d rfl (Bj a6 B4) (.d rfl (Bj a7 B5) (.d rfl (Bj a8 B2) .d2)))) .d1)
theorem XkA(Al:Af.map Bf=Bo)(Am:Ah.map Ac=Bn)(Aq:Ai.map Ac=Bm)(Ao:Ag.map cS=Bp)(hlist:list.map eOp=xlist)(ba:J8 (⟨Af,Ah,Ai,Ag,Ap,An⟩:Aa))(hs:Ag.length+list.length≤900000000)(hl:∀x∈list,okO x)(hr:Iv (⟨Af,Ah,Ai,Ag,Ap,An⟩:Aa) list n=(⟨G8,Hk,G9,Hj,Hf,He⟩,ob))(B3:G8.map Bf=Eo)(B4:Hk.map Ac=Eu)(B5:G9.map Ac=Et)(B2:Hj.map cS=Es):Fn Tryz.prog 115 [.agg [.d (.row 3 Bo),.d (.row 2 Bn),.d (.row 2 Bm),.d (.row 1 Bp),I Ap,I An],.d (.row 4 xlist),I n] [] ⟨.tup [.agg [.d (.row 3 Eo),.d (.row 2 Eu),.d (.row 2 Et),.d (.row 1 Es),I Hf,I He],I ob],[],[]⟩:=by
 refine Fn.go L7 Tryz.func115 fun P hP Q hQ=>?_
 conv=>cbv
 have bn:Af.length≤1000000000:=ba.1.1
 have bf:Ah.length≤1000000000:=ba.1.2.2.1
 have bo:Ai.length≤1000000000:=ba.1.2.2.2.2.1
 refine .dd hP (XgW Al Am Aq Ao (by omega) (by omega) (by omega) (by omega)) ?_
 conv=>cbv
 refine .go hlist fun v2 bk=>?_
 conv=>cbv
 generalize bg:Cs n 0 v2=r3
 refine .dd hP (Wt bg) ?_
 conv=>cbv
 have hbr:0≤r3∧r3≤list.length:=by rw[←bg];unfold Cs;split<;>(try split)<;>(try split)<;>omega
 refine LoopW.lp (κ:=Int×(List (List D))×(List (List D))×(List (List D))×(List (List D))×Int×Int) L7 hP [] [1,2,3,6] (fun(i8,ah,ai,aj,ak,aa,ab)=>[(8,I i8)]) (fun(i8,ah,ai,aj,ak,aa,ab)=>[(0,.box 28 [.d (.row 3 ah),.d (.row 2 ai),.d (.row 2 aj),.d (.row 1 ak),I aa,I ab])])
  (fun(i8,ah,ai,aj,ak,aa,ab)=>∃(al:List A0) (am:List Ad) (an:List Ad) (ag:List ByteArray),al.map Bf=ah∧am.map Ac=ai∧an.map Ac=aj∧ag.map cS=ak∧0≤i8∧i8≤r3∧J8 (⟨al,am,an,ag,aa,ab⟩:Aa)∧ag.length≤Ag.length+i8∧Iv (⟨Af,Ah,Ai,Ag,Ap,An⟩:Aa) list n=Xav (⟨al,am,an,ag,aa,ab⟩:Aa) ((list.take r3.toNat).drop i8.toNat))
  (fun(i8,ah,ai,aj,ak,aa,ab)=>(r3 - i8).toNat) (0,Bo,Bn,Bm,Bp,Ap,An) ⟨Af,Ah,Ai,Ag,Al,Am,Aq,Ao,by omega,by omega,ba,by omega,by unfold Iv;rw[←bk,bg];rfl⟩ ⟨rfl,trivial⟩ rfl ?_
 rintro⟨i8,ah,ai,aj,ak,aa,ab⟩ J ⟨al,am,an,ag,bb,bc,bd,be,h0,h1,bf,hqs,hio⟩ hJ
 have htl:(list.take r3.toNat).length≤list.length:=by rw[List.length_take];omega
 conv=>cbv
 refine .lss (fun h4=>?_) fun h4=>?_
 conv=>cbv
 refine .go i8.toNat hlist fun bh ⟨ao,ap,a1,aq⟩ bi=>?_
 conv=>cbv
 have hox:okO (⟨ao,ap,a1,aq⟩:TOp):=by rw[bi];exact hl _ (List.getElem_mem bh)
 rcases bj:Dy (⟨al,am,an,ag,aa,ab⟩:Aa) (⟨ao,ap,a1,aq⟩:TOp)with⟨⟨ar,au,aw,ax,ay,az⟩,bl⟩
 generalize ac:ar.map Bf=a2
 generalize ad:au.map Ac=a6
 generalize ae:aw.map Ac=a7
 generalize af:ax.map cS=a8
 refine .dd hP (XlT bb bc bd be bf (by omega) hox bj ac ad ae af) ?_
 conv=>cbv
 have hg:=Xan (d:=(⟨al,am,an,ag,aa,ab⟩:Aa)) bf (by show ag.length<_;omega) hox
 have hstep:=Y1 (d:=(⟨al,am,an,ag,aa,ab⟩:Aa)) (x:=(⟨ao,ap,a1,aq⟩:TOp)) (show i8.toNat<(list.take r3.toNat).length by rw[List.length_take];omega) (by rw[List.getElem_take];exact bi)
 rw[bj]at hg hstep
 have bm:=hg.2
 simp only[]at bm
 refine .neq (fun h7=>?_) fun h7=>?_
 conv=>cbv
 have e:((⟨ar,au,aw,ax,ay,az⟩:Aa),bl)=Iv (⟨Af,Ah,Ai,Ag,Ap,An⟩:Aa) list n:=(by rw[hio,hstep];symm;exact if_neg (by omega))
 rw[hr]at e
 simp only[Prod.mk.injEq,Aa.mk.injEq]at e
 obtain⟨⟨rfl,rfl,rfl,rfl,rfl,rfl⟩,rfl⟩:=e
 refine hQ _ _ ?_
 exact .m rfl (.agg (.d rfl (Bj ac B3) (.d rfl (Bj ad B4) (.d rfl (Bj ae B5) (.d rfl (Bj af B2) .d2)))) .d1)
 conv=>cbv
 refine .add fun v8 bp=>?_
 conv=>cbv
 exact .go [] (v8,a2,a6,a7,a8,ay,az) (hJ _ ⟨_,_,_,_,ac,ad,ae,af,by omega,by omega,hg.1,by omega,by rw[hio,hstep,show v8.toNat=i8.toNat+1 by omega];exact if_pos (by omega)⟩ mlt)
 conv=>cbv
 have e:((⟨al,am,an,ag,aa,ab⟩:Aa),0)=Iv (⟨Af,Ah,Ai,Ag,Ap,An⟩:Aa) list n:=(by rw[hio,List.drop_of_length_le (by rw[List.length_take];omega)];rfl)
 rw[hr]at e
 simp only[Prod.mk.injEq,Aa.mk.injEq]at e
 obtain⟨⟨rfl,rfl,rfl,rfl,rfl,rfl⟩,rfl⟩:=e
 refine hQ _ _ ?_
 exact .m rfl (.agg (.d rfl (Bj bb B3) (.d rfl (Bj bc B4) (.d rfl (Bj bd B5) (.d rfl (Bj be B2) .d2)))) .d1)
theorem Xd3{n:ByteArray}(h:(Bv n).1=2∨(Bv n).1=1):n.size≤17:=by
 have h:(Bv n).1≠0:=by omega
 unfold Bv at h
 split at h
 ·split at h
  ·rename_i c;omega
  ·split at h
   ·rename_i c;omega
   ·exact absurd rfl h
 ·exact absurd rfl h
theorem XmN:(tx []).size=0:=by simp[Bz]
theorem XcT{l:List ByteArray}(h:∀n∈l,n.size≤17):∀x∈Fv l,okO x:=by
 unfold Fv
 split
 ·simp
 ·intro x hx
  rw[List.mem_append,List.mem_map,List.mem_singleton]at hx
  unfold okO
  rcases hx with⟨n,hn,rfl⟩|rfl
  ·have:=h n hn
   exact⟨by show n.size≤_;omega,by show(tx []).size≤_;rw[XmN];omega,by show(tx []).size≤_;rw[XmN];omega⟩
  ·simp only[XmN];omega
theorem Xmf(b:Int){t:ByteArray}(h:t.size≤200000):∀x∈Gi b t,okO x:=by
 have h1:(A4 b).size≤13:=Hx rfl
 have h2:(Cf b).size≤17:=Xek rfl
 intro x hx
 unfold Gi at hx
 simp only[List.mem_cons,List.not_mem_nil,or_false]at hx
 unfold okO
 rcases hx with rfl|rfl|rfl|rfl|rfl<;>(simp only[XmN];omega)
theorem Xif{d:Aa}{v:Int}:∀x∈H9 d v,okO x:=by
 have hn:∀n∈Cc d,n.size≤17:=fun n h=>Xd3 (Z3 rfl n h)
 intro x hx
 unfold H9 Xbc XaZ at hx
 simp only[List.mem_append,List.mem_flatMap]at hx
 rcases hx with(((⟨b,_,h⟩|h)|h)|⟨b,_,h⟩)|h
 ·have h1:(A4 b).size≤13:=Hx rfl
  unfold Gs at h
  split at h
  ·cases h
  ·rw[List.mem_singleton]at h
   subst h
   unfold okO
   simp only[XmN];omega
 ·split at h
  ·cases h
  ·rw[List.mem_singleton]at h
   subst h
   unfold okO
   simp only[XmN];omega
 ·exact XcT (fun n h=>hn n (List.mem_filter.1 h).1) x h
 ·unfold Fg at h
  split at h
  ·cases h
  ·exact Xmf b (Rl rfl) x h
 ·exact XcT (fun n h=>hn n (List.mem_filter.1 (List.mem_reverse.1 h)).1) x h
theorem W7{d:Aa}{v:Int}:(H9 d v).length≤100+2*d.entries_.length:=by
 unfold H9 Xbc XaZ
 have h1:=M1 (rfl:Fo d=_)
 have h2:(Cc d).length≤d.entries_.length:=by
  unfold Cc
  have:=List.length_filter_le (N8 (Fo d)) (d.entries_.map fun e=>e.name_)
  rw[List.length_map]at this
  exact this
 have h3:=XfD (fun x=>R8 (d:=d) x) (Fo d)
 have h4:=XfD (fun x=>XhY (d:=d) (v:=Yf v) x) (Fo d)
 have h5:=Nq (l:=(Cc d).filter Hd)
 have h6:=Nq (l:=((Cc d).filter (fun n=>!Hd n)).reverse)
 have h7:=List.length_filter_le Hd (Cc d)
 have h8:=List.length_filter_le (fun n=>!Hd n) (Cc d)
 rw[List.length_reverse]at h6
 have h9:(if d.steps_=[]then[]else[(⟨6,tx [],tx [],tx []⟩:TOp)]).length≤1:=by split<;>simp
 simp only[List.length_append]
 omega
theorem Xhu(Al:Af.map Bf=Bo)(Am:Ah.map Ac=Bn)(Aq:Ai.map Ac=Bm)(Ao:Ag.map cS=Bp)(al:J8 (⟨Af,Ah,Ai,Ag,Ap,An⟩:Aa))(hes:Ah.length≤100000000)(hst:Ag.length≤100000000)(hr:Gy (⟨Af,Ah,Ai,Ag,Ap,An⟩:Aa) version n=⟨onod,oent,oold,oste,oroo,onex⟩)(Kb:onod.map Bf=Ho)(Kc:oent.map Ac=Hw)(Ke:oold.map Ac=Hy)(J0:oste.map cS=Hm):Fn Tryz.prog 139 [.agg [.d (.row 3 Bo),.d (.row 2 Bn),.d (.row 2 Bm),.d (.row 1 Bp),I Ap,I An],I version,I n] [] ⟨.agg [.d (.row 3 Ho),.d (.row 2 Hw),.d (.row 2 Hy),.d (.row 1 Hm),I oroo,I onex],[],[]⟩:=by
 refine Fn.go L7 Tryz.func139 fun P hP Q hQ=>?_
 conv=>cbv
 generalize ai:H9 (⟨Af,Ah,Ai,Ag,Ap,An⟩:Aa) version=l1
 generalize am:l1.map eOp=au
 refine .dd hP (XkO Al Am Aq Ao al.1 ai am) ?_
 conv=>cbv
 have hpl:=W7 (d:=(⟨Af,Ah,Ai,Ag,Ap,An⟩:Aa)) (v:=version)
 rw[ai]at hpl
 simp only[]at hpl
 rcases an:Iv (⟨Af,Ah,Ai,Ag,Ap,An⟩:Aa) l1 n with⟨⟨ae,af,ag,ah,aj,ak⟩,aw⟩
 generalize aa:ae.map Bf=ao
 generalize ab:af.map Ac=ap
 generalize ac:ag.map Ac=aq
 generalize ad:ah.map cS=ar
 refine .dd hP (Xkb Al Am Aq Ao am al (by omega) (by rw[←ai];exact Xif) an aa ab ac ad) ?_
 conv=>cbv
 have e:(⟨ae,af,ag,ah,aj,ak⟩:Aa)=Gy (⟨Af,Ah,Ai,Ag,Ap,An⟩:Aa) version n:=(by unfold Gy;rw[ai,an])
 rw[hr]at e
 simp only[Aa.mk.injEq]at e
 obtain⟨rfl,rfl,rfl,rfl,rfl,rfl⟩:=e
 exact hQ _ _ (.one (.inl rfl) rfl (.agg (.d rfl (Bj aa Kb) (.d rfl (Bj ab Kc) (.d rfl (Bj ac Ke) (.d rfl (Bj ad J0) .d2)))) .nil))
theorem Xhr(Al:Af.map Bf=Bo)(Am:Ah.map Ac=Bn)(Aq:Ai.map Ac=Bm)(Ao:Ag.map cS=Bp)(al:J8 (⟨Af,Ah,Ai,Ag,Ap,An⟩:Aa))(hes:Ah.length≤100000000)(hst:Ag.length≤100000000)(hr:Gy (⟨Af,Ah,Ai,Ag,Ap,An⟩:Aa) version n=⟨onod,oent,oold,oste,oroo,onex⟩)(Kb:onod.map Bf=Ho)(Kc:oent.map Ac=Hw)(Ke:oold.map Ac=Hy)(J0:oste.map cS=Hm):Fn Tryz.prog 137 [.agg [.d (.row 3 Bo),.d (.row 2 Bn),.d (.row 2 Bm),.d (.row 1 Bp),I Ap,I An],I version,I n] [] ⟨.agg [.d (.row 3 Ho),.d (.row 2 Hw),.d (.row 2 Hy),.d (.row 1 Hm),I oroo,I onex],[],[]⟩:=by
 refine Fn.go L7 Tryz.func137 fun P hP Q hQ=>?_
 conv=>cbv
 generalize ai:H9 (⟨Af,Ah,Ai,Ag,Ap,An⟩:Aa) version=l1
 generalize am:l1.map eOp=au
 refine .dd hP (Xlg Al Am Aq Ao al.1 ai am) ?_
 conv=>cbv
 have hpl:=W7 (d:=(⟨Af,Ah,Ai,Ag,Ap,An⟩:Aa)) (v:=version)
 rw[ai]at hpl
 simp only[]at hpl
 rcases an:Iv (⟨Af,Ah,Ai,Ag,Ap,An⟩:Aa) l1 n with⟨⟨ae,af,ag,ah,aj,ak⟩,aw⟩
 generalize aa:ae.map Bf=ao
 generalize ab:af.map Ac=ap
 generalize ac:ag.map Ac=aq
 generalize ad:ah.map cS=ar
 refine .dd hP (XkA Al Am Aq Ao am al (by omega) (by rw[←ai];exact Xif) an aa ab ac ad) ?_
 conv=>cbv
 have e:(⟨ae,af,ag,ah,aj,ak⟩:Aa)=Gy (⟨Af,Ah,Ai,Ag,Ap,An⟩:Aa) version n:=(by unfold Gy;rw[ai,an])
 rw[hr]at e
 simp only[Aa.mk.injEq]at e
 obtain⟨rfl,rfl,rfl,rfl,rfl,rfl⟩:=e
 exact hQ _ _ (.one (.inl rfl) rfl (.agg (.d rfl (Bj aa Kb) (.d rfl (Bj ab Kc) (.d rfl (Bj ac Ke) (.d rfl (Bj ad J0) .d2)))) .nil))
end
section
open Go Go.Proofs
def XbB:List (Nat×TyRow):=[ty3,ty9,XfK,Z2,XaC,Xp,Xgj,U5,U1]
theorem Xdj:B1 Tryz.prog XbB:=B1.of (by kernel_rfl)
theorem Vo:Setup Tryz.prog XbB:=⟨Xdj,mixed⟩
def Fc(n:A0)(keeps:List Int):Int:=if keeps.length=0 then n.sure_ else n.sure_+Cs (keeps.getD (n.id_%(keeps.length:Int)).toNat 0) 0 ((n.text_.size:Int) - n.sure_)
def Hu(e:Ad)(n:A0):Bool:=decide (e.id_=n.id_)
def Xg0(keeps:List Int)(n:A0):A0:=⟨n.id_,n.text_.extract 0 (Fc n keeps).toNat,((n.text_.extract 0 (Fc n keeps).toNat).size:Int)⟩
def Hg(d:Aa)(names:Int)(keeps:List Int):Aa:=if Bq d=false then d else
 ⟨(d.nodes_.filter fun n=>Ol (Dp d.old_ d.steps_ names).1 n.id_).map (Xg0 keeps),(Dp d.old_ d.steps_ names).1,(Dp d.old_ d.steps_ names).1,[],d.room_,d.next_⟩
theorem Xn{a b:Int}(h:0≤b):0≤Cs a 0 b∧Cs a 0 b≤b:=by
 unfold Cs
 split<;>(try split)<;>(try split)<;>omega
theorem Xnm{n:A0}{keeps:List Int}(h0:0≤n.sure_)(h1:n.sure_≤n.text_.size):0≤Fc n keeps∧Fc n keeps≤n.text_.size:=by
 have h2:=Xn (a:=keeps.getD (n.id_%(keeps.length:Int)).toNat 0) (b:=(n.text_.size:Int) - n.sure_) (by omega)
 unfold Fc
 split<;>omega
theorem Xmj{α:Type}{p:α→Bool}{l:List α}:l.any p=decide (0≤Ug p l):=by
 cases h:l.any p with
 |true=>
  obtain⟨x,hx,hp⟩:=List.any_eq_true.1 h
  symm
  rw[decide_eq_true_eq]
  unfold Ug
  rw[if_pos (List.findIdx_lt_length_of_exists ⟨x,hx,hp⟩)]
  omega
 |false=>
  symm
  rw[decide_eq_false_iff_not]
  intro h0
  obtain⟨hi,hp⟩:=Rx (rfl:Ug p l=_) h0
  have:=List.any_eq_true.2 ⟨_,List.getElem_mem hi,hp⟩
  rw[h]at this
  cases this
theorem XiE{d:Aa}(h:Bq d=true)(h2:J8 d){i:Nat}(hi:i<d.nodes_.length):1≤d.nodes_[i].id_∧0≤d.nodes_[i].sure_∧d.nodes_[i].sure_≤d.nodes_[i].text_.size∧d.nodes_[i].text_.size≤1000000000:=by
 have h1:=(diskOk_iff.1 h).2.2.1
 unfold Ek at h1
 rw[Bool.and_eq_true]at h1
 have h3:=List.all_eq_true.1 h1.1 i (List.mem_range.2 hi)
 unfold Ey at h3
 rw[decide_eq_true_eq,Xjq hi rfl]at h3
 exact⟨h3.2.1.1,h3.2.2.1,h3.2.2.2,h2.1.2.1 _ (List.getElem_mem hi)⟩
theorem Xlx:∀(l:List ByteArray) (now:List Ad),(H6 now l).1.length≤now.length+l.length
 |[],_=>Nat.le_refl _
 |s::l,now=>by
  obtain⟨e,b,hy⟩:∃e b,As now s=(e,b):=⟨_,_,rfl⟩
  have h1:=M9 hy
  have h2:=Xlx l e
  unfold H6
  rw[hy]
  split
  ·exact Nat.zero_le _
  ·rw[List.length_cons]
   show(H6 e l).1.length≤_
   omega
theorem XkR(old:List Ad)(steps:List ByteArray)(n:Int):(Dp old steps n).1.length≤old.length+steps.length:=by
 have h1:=Xlx (steps.take (Cs n 0 steps.length).toNat) old
 have h2:(steps.take (Cs n 0 steps.length).toNat).length≤steps.length:=by rw[List.length_take];omega
 unfold Dp
 omega
theorem Xie{d:Aa}{n:Int}(h:Bq d=true):Ee d.old_ d.steps_ n=Dp d.old_ d.steps_ n:=(Vc (P6 _ (P4 h).1)).1
theorem Xz{α:Type}{f:α→α}{l:List α}{i:Nat}(h:i<l.length)(h2:i<((l.take i).map f++l.drop i).length):((l.take i).map f++l.drop i)[i]=l[i]:=by
 rw[List.getElem_append_right (by rw[List.length_map,List.length_take];omega)]
 simp only[List.length_map,List.length_take,List.getElem_drop]
 congr 1
 omega
theorem Xjm{α:Type}{f:α→α}{l:List α}{i:Nat}(h:i<l.length):((l.take i).map f++l.drop i).set i (f l[i])=(l.take (i+1)).map f++l.drop (i+1):=by
 rw[List.set_append_right _ _ (by rw[List.length_map,List.length_take];omega),List.length_map,List.length_take,show i - min i l.length=0 by omega,List.drop_eq_getElem_cons h,List.set_cons_zero,List.take_succ_eq_append_getElem h,List.map_append,List.append_assoc]
 rfl
theorem Xmw{α:Type}{f:α→α}{l:List α}{i:Nat}:((l.take i).map f++l.drop i).length=l.length:=by
 rw[List.length_append,List.length_map,List.length_take,List.length_drop]
 omega
theorem Xc1{nodes:List A0}{l:List Ad}{keeps:List Int}{r x:Int}:Er ⟨nodes.map (Xg0 keeps),l,l,[],r,x⟩=⟨(nodes.filter fun n=>Ol l n.id_).map (Xg0 keeps),l,l,[],r,x⟩:=by
 unfold Er
 dsimp only
 rw[List.filter_map]
 have:nodes.filter ((fun x=>XcZ l [] x.id_)∘Xg0 keeps)=nodes.filter fun n=>Ol l n.id_:=by
  refine List.filter_congr fun n _=>?_
  show(List.any [0] fun k=>Ol (Cv l (List.take k [])).1 n.id_)=_
  simp[Cv]
 rw[this]
theorem Zy{d:Aa}:∀{l:List ByteArray} {now:List Ad} (k:Nat),E3 d now l=true→Bk d (H6 now (l.take k)).1=true
 |[],now,k,h=>by
  rw[List.take_nil]
  unfold E3 at h
  rw[Bool.and_eq_true]at h
  exact h.1
 |s::ss,now,0,h=>by
  unfold E3 at h
  rw[Bool.and_eq_true,Bool.and_eq_true]at h
  exact h.1.1
 |s::ss,now,k+1,h=>by
  unfold E3 at h
  rw[Bool.and_eq_true,Bool.and_eq_true]at h
  rw[List.take_succ_cons,Ip h.1.2]
  exact Zy k h.2
theorem Xdx{d:Aa}(h:Bq d=true)(n:Int):Bk d (Dp d.old_ d.steps_ n).1=true:=Zy _ (diskOk_iff.1 h).2.2.2.2
theorem Yq{d:Aa}(h:Bq d=true)(n:Int):(Dp d.old_ d.steps_ n).1.length≤16:=Vh (Xdx h n)
theorem XkP{d:Aa}{l:List Ad}(h:Bk d l=true):okL l:=by
 intro e he
 obtain⟨i,hi,rfl⟩:=List.getElem_of_mem he
 have h1:=Xd9 h hi
 unfold Fr at h1
 rw[Xb4 hi rfl,Bool.and_eq_true,Bool.and_eq_true]at h1
 have:=Q8 h1.1.2
 omega
theorem XjB{d:Aa}{n:Int}{keeps:List Int}(h:J8 d):J8 (Hg d n keeps)∧(Hg d n keeps).steps_.length≤d.steps_.length:=by
 unfold Hg
 split
 ·exact⟨h,Nat.le_refl _⟩
 ·rename_i hr
  have hr:Bq d=true:=by simpa using hr
  have h1:=Yq hr n
  have h2:=XkP (Xdx hr n)
  refine⟨⟨⟨?_,?_,by show(Dp _ _ _).1.length≤_;omega,h2,by show(Dp _ _ _).1.length≤_;omega,Nat.zero_le _⟩,h2,fun _ hs=>by cases hs⟩,Nat.zero_le _⟩
  ·show(List.map _ _).length≤_
   rw[List.length_map]
   exact Nat.le_trans (List.length_filter_le _ _) h.1.1
  ·intro x hx
   obtain⟨y,hy,rfl⟩:=List.mem_map.1 hx
   have:=h.1.2.1 y (List.mem_filter.1 hy).1
   show(y.text_.extract 0 _).size≤_
   rw[ByteArray.size_extract]
   omega
theorem Xgp{t:ByteArray}{k:Int}(h0:0≤k)(h1:k≤t.size):((t.extract 0 k.toNat).size:Int)=k:=by
 rw[ByteArray.size_extract]
 omega
variable {nid nsur:Int} {ntex:ByteArray} {keeps:List Int} {xkeeps:List (List D)}
theorem Xhp{o:Int}(hkeeps:keeps.map cI=xkeeps)(ai:1≤nid)(aj:0≤nsur)(ak:nsur≤ntex.size)(al:ntex.size≤1000000000)(am:keeps.length≤1000000000)(hr:Fc (⟨nid,ntex,nsur⟩:A0) keeps=o):Fn Tryz.prog 216 [.agg [I nid,S ntex,I nsur],.ptr 0 0 0] [.box 34 [.d (.row 1 xkeeps)]] ⟨I o,[],[]⟩:=by
 refine Fn.goR Vo Tryz.func216 fun P hP Q hQ=>?_
 conv=>cbv
 refine .go hkeeps fun v1 an=>?_
 conv=>cbv
 refine .eql (fun h2=>?_) fun h2=>?_
 conv=>cbv
 have e:nsur=Fc (⟨nid,ntex,nsur⟩:A0) keeps:=(by unfold Fc;rw[if_pos (by omega)])
 rw[hr]at e
 subst e
 exact hQ _ _ (.o [] rfl)
 conv=>cbv
 refine .go hkeeps fun v3 ac=>?_
 conv=>cbv
 refine .rem fun v4 ad=>?_
 conv=>cbv
 have ao:=Int.emod_nonneg nid (show v3≠0 by omega)
 have ap:=Int.emod_lt_of_pos nid (show 0<v3 by omega)
 refine .go v4.toNat hkeeps fun ab e5 ae=>?_
 conv=>cbv
 refine .go fun v6 af=>?_
 conv=>cbv
 refine .sub fun v7 ag=>?_
 conv=>cbv
 generalize aa:Cs e5 0 v7=r8
 refine .dd hP (Wp aa) ?_
 conv=>cbv
 have hbr:=Xn (a:=e5) (b:=v7) (by omega)
 rw[aa]at hbr
 refine .add fun v9 ah=>?_
 conv=>cbv
 have e:v9=Fc (⟨nid,ntex,nsur⟩:A0) keeps:=(by unfold Fc;rw[if_neg (by omega)];dsimp only;rw[show keeps.getD (nid%(keeps.length:Int)).toNat 0=e5 by rw[←ac,←ad,ae,gD ab],←af,←ag,aa,ah])
 rw[hr]at e
 subst e
 exact hQ _ _ (.o [] rfl)
theorem Ws{enam:ByteArray}{eid:Int}{o:Bool}(hr:Hu (⟨enam,eid⟩:Ad) (⟨nid,ntex,nsur⟩:A0)=o):Fn Tryz.prog 275 [.agg [S enam,I eid],.ptr 0 0 0] [.box 103 [I nid,S ntex,I nsur]] ⟨B o,[],[]⟩:=by
 refine Fn.goR Vo Tryz.func275 fun P hP Q hQ=>?_
 conv=>cbv
 refine .eql (fun h1=>?_) fun h1=>?_
 conv=>cbv
 have e:true=Hu (⟨enam,eid⟩:Ad) (⟨nid,ntex,nsur⟩:A0):=(by unfold Hu;exact(decide_eq_true h1).symm)
 rw[hr]at e
 subst e
 exact hQ _ _ (.o [] rfl)
 conv=>cbv
 have e:false=Hu (⟨enam,eid⟩:Ad) (⟨nid,ntex,nsur⟩:A0):=(by unfold Hu;exact(decide_eq_false h1).symm)
 rw[hr]at e
 subst e
 exact hQ _ _ (.o [] rfl)
def Fb(l:List Ad)(n:A0):Int:=Ug (fun x=>Hu x n) l
def D9(l:List Ad)(n:A0):Bool:=Ol l n.id_
theorem Wj{l:List Ad}{n:A0}:D9 l n=decide (0≤Fb l n):=Xmj (p:=fun e:Ad=>decide (e.id_=n.id_))
theorem Xkd{Af:List A0}{Bo:List (List D)}{Ah:List Ad}{Bn:List (List D)}{Ai:List Ad}{Bm:List (List D)}{Ag:List ByteArray}{Bp:List (List D)}{Ap:Int}{An:Int}{names:Int}{onod:List A0}{Ho:List (List D)}{oent:List Ad}{Hw:List (List D)}{oold:List Ad}{Hy:List (List D)}{oste:List ByteArray}{Hm:List (List D)}{oroo:Int}{onex:Int}(Al:Af.map Bf=Bo)(Am:Ah.map Ac=Bn)(Aq:Ai.map Ac=Bm)(Ao:Ag.map cS=Bp)(hkeeps:keeps.map cI=xkeeps)(ai:J8 (⟨Af,Ah,Ai,Ag,Ap,An⟩:Aa))(hkl:keeps.length≤1000000000)(hr:Hg (⟨Af,Ah,Ai,Ag,Ap,An⟩:Aa) names keeps=⟨onod,oent,oold,oste,oroo,onex⟩)(Kb:onod.map Bf=Ho)(Kc:oent.map Ac=Hw)(Ke:oold.map Ac=Hy)(J0:oste.map cS=Hm):Fn Tryz.prog 136 [.agg [.d (.row 3 Bo),.d (.row 2 Bn),.d (.row 2 Bm),.d (.row 1 Bp),I Ap,I An],I names,.d (.row 1 xkeeps)] [] ⟨.agg [.d (.row 3 Ho),.d (.row 2 Hw),.d (.row 2 Hy),.d (.row 1 Hm),I oroo,I onex],[],[]⟩:=by
 refine Fn.go Vo Tryz.func136 fun P hP Q hQ=>?_
 conv=>cbv
 have dj:Af.length≤1000000000:=ai.1.1
 have dk:Ah.length≤1000000000:=ai.1.2.2.1
 have dl:Ai.length≤1000000000:=ai.1.2.2.2.2.1
 have dm:Ag.length≤1000000000:=ai.1.2.2.2.2.2
 obtain⟨n2,cv⟩:∃m,m=Af.length:=⟨_,rfl⟩
 obtain⟨n3,cw⟩:∃m,m=Ah.length:=⟨_,rfl⟩
 obtain⟨n4,cx⟩:∃m,m=Ai.length:=⟨_,rfl⟩
 obtain⟨n5,cy⟩:∃m,m=Ag.length:=⟨_,rfl⟩
 refine .ddN hP (J7 Al Am Aq Ao (by omega) (by omega) (by omega) (by omega) cv cw cx cy) rfl ?_
 conv=>cbv
 generalize bh:Bq (⟨Af,Ah,Ai,Ag,Ap,An⟩:Aa)=r6
 refine .lnt hP (Np Al Am Aq Ao ai bh) (.agg (.ref rfl (Ae Al) (.ref rfl (Ae Am) (.ref rfl (Ae Aq) (.ref rfl (Ae Ao) (.d rfl (.d rfl .nil)))))) .nil) ?_
 cases r6
 conv=>cbv
 have e:(⟨Af,Ah,Ai,Ag,Ap,An⟩:Aa)=Hg (⟨Af,Ah,Ai,Ag,Ap,An⟩:Aa) names keeps:=(by unfold Hg;rw[if_pos bh])
 rw[hr]at e
 simp only[Aa.mk.injEq]at e
 obtain⟨rfl,rfl,rfl,rfl,rfl,rfl⟩:=e
 exact hQ _ _ (.one (.inl rfl) rfl (.agg (.ref rfl (Ae Al) (Bt Al Kb) (.ref rfl (Ae Am) (Bt Am Kc) (.ref rfl (Ae Aq) (Bt Aq Ke) (.ref rfl (Ae Ao) (Bt Ao J0) .d2)))) .nil))
 conv=>cbv
 rcases bi:Ee Ai Ag names with⟨bq,dn⟩
 generalize bb:bq.map Ac=df
 refine .lntD hP (Rr Aq Ao ai.1.2.2.2.2.1 ai.1.2.2.2.2.2 ai.2.2 bi bb) (.ref rfl (Ae Aq) (.ref rfl (Ae Ao) (.d rfl .nil))) ?_
 conv=>cbv
 have hri:=bh
 rw[Xie (d:=(⟨Af,Ah,Ai,Ag,Ap,An⟩:Aa)) (n:=names) hri]at bi
 have bt:=Yq (d:=(⟨Af,Ah,Ai,Ag,Ap,An⟩:Aa)) hri names
 simp only[]at bt
 rw[bi]at bt
 simp only[]at bt
 refine .row0 bb fun dp z8 dg b6=>?_
 conv=>cbv
 refine LoopW.lp (κ:=Int×(List (List D))) Vo hP [] [2,3,6] (fun(i9,ba)=>[(9,I i9)]) (fun(i9,ba)=>[(6,.row 3 false ba)])
  (fun(i9,ba)=>∃(w6:List A0),w6.map Bf=ba∧0≤i9∧i9≤Af.length∧w6=(Af.take i9.toNat).map (Xg0 keeps)++Af.drop i9.toNat)
  (fun(i9,ba)=>(Af.length - i9).toNat) (0,Bo) ⟨Af,Al,by omega,by omega,rfl⟩ ⟨rfl,trivial⟩ rfl ?_
 rintro⟨i9,ba⟩ J ⟨w6,aj,h0,h1,hx⟩ hJ
 have hwl:w6.length=Af.length:=by rw[hx,Xmw]
 conv=>cbv
 refine .go fun v9 dq=>?_
 conv=>cbv
 refine .lss (fun h10=>?_) fun h10=>?_
 conv=>cbv
 refine .go i9.toNat fun dr b7 cz=>?_
 conv=>cbv
 refine .go aj fun c0 ⟨au,ak,al⟩ b8=>?_
 conv=>cbv
 have af:i9.toNat<Af.length:=by omega
 have aw:(⟨au,ak,al⟩:A0)=Af[i9.toNat]'af:=by subst b7;rw[b8];simp only[hx];exact Xz af _
 have hnf:=XiE hri ai af
 simp only[]at hnf
 rw[←aw]at hnf
 simp only[]at hnf
 refine .go hkeeps fun ds dh=>?_
 conv=>cbv
 refine .gtr (fun h14=>?_) fun h14=>?_
 conv=>cbv
 refine .go i9.toNat fun c1 ay bu=>?_
 conv=>cbv
 refine .go aj fun bv ⟨ab,ac,aa⟩ az=>?_
 conv=>cbv
 refine .go hkeeps fun b9 ca=>?_
 conv=>cbv
 have ah:(⟨ab,ac,aa⟩:A0)=Af[i9.toNat]'af:=by subst ay;rw[az];simp only[hx];exact Xz af _
 obtain⟨rfl,rfl,rfl⟩:ab=au∧ac=ak∧aa=al:=by have:=ah.trans aw.symm;simpa using this
 refine .rem fun c2 cb=>?_
 conv=>cbv
 have dt:=Int.emod_nonneg ab (show b9≠0 by omega)
 have du:=Int.emod_lt_of_pos ab (show 0<b9 by omega)
 refine .go c2.toNat hkeeps fun bw bz cc=>?_
 conv=>cbv
 refine .go i9.toNat fun cd a1 b0=>?_
 conv=>cbv
 refine .go aj fun c3 ⟨ax,am,an⟩ ce=>?_
 conv=>cbv
 have bc:(⟨ax,am,an⟩:A0)=Af[i9.toNat]'af:=by subst a1;rw[ce];simp only[hx];exact Xz af _
 obtain⟨rfl,rfl,rfl⟩:ax=ab∧am=ac∧an=aa:=by have:=bc.trans ah.symm;simpa using this
 refine .go fun b2 bl=>?_
 conv=>cbv
 refine .sub fun cf cg=>?_
 conv=>cbv
 generalize bd:Cs bz 0 cf=dv
 refine .dd hP (Wt bd) ?_
 conv=>cbv
 have hbr:=Xn (a:=bz) (b:=cf) (by omega)
 rw[bd]at hbr
 refine .add fun b3 ch=>?_
 conv=>cbv
 refine .go i9.toNat fun dw bm c4=>?_
 conv=>cbv
 refine .go aj fun c5 ⟨ad,ag,ae⟩ bn=>?_
 conv=>cbv
 have be:(⟨ad,ag,ae⟩:A0)=Af[i9.toNat]'af:=by subst bm;rw[bn];simp only[hx];exact Xz af _
 obtain⟨rfl,rfl,rfl⟩:ad=ax∧ag=am∧ae=an:=by have:=be.trans bc.symm;simpa using this
 refine .hi fun b4 ci=>?_
 conv=>cbv
 refine .go i9.toNat fun c6 bf c7=>?_
 conv=>cbv
 refine .go (⟨ad,b4,ae⟩:A0) aj (by omega) (by subst bm bf;rw[←bn];rfl) (show 1+1≤3 by decide) fun dx cj=>?_
 conv=>cbv
 refine .go i9.toNat fun c8 bo c9=>?_
 conv=>cbv
 refine .go (⟨ad,b4,b3⟩:A0) cj (by rw[List.length_set];omega) (by subst bf bo;rw[List.getElem_set_self];rfl) (show 2+1≤3 by decide) fun da ck=>?_
 conv=>cbv
 refine .add fun cm di=>?_
 conv=>cbv
 have hke:Fc (⟨ad,ag,ae⟩:A0) keeps=b3:=by unfold Fc;rw[if_neg (by omega)];dsimp only;rw[show keeps.getD (ad%(keeps.length:Int)).toNat 0=bz by rw[←ca,←cb,cc,gD bw],←bl,←cg,bd,ch]
 have hcu:Xg0 keeps (⟨ad,ag,ae⟩:A0)=⟨ad,b4,b3⟩:=by unfold Xg0;dsimp only;rw[hke,ci,Xgp (by omega) (by omega)]
 exact .go [] (cm,da) (hJ _ ⟨_,ck,by omega,by omega,by rw[show cm.toNat=i9.toNat+1 by omega,←Xjm af,←be,hcu,←hx,show c6=i9.toNat from bf,show c8=i9.toNat from bo,List.set_set]⟩ mlt)
 conv=>cbv
 refine .go i9.toNat fun c1 ay bu=>?_
 conv=>cbv
 refine .go aj fun bv ⟨ab,ac,aa⟩ az=>?_
 conv=>cbv
 have ah:(⟨ab,ac,aa⟩:A0)=Af[i9.toNat]'af:=by subst ay;rw[az];simp only[hx];exact Xz af _
 obtain⟨rfl,rfl,rfl⟩:ab=au∧ac=ak∧aa=al:=by have:=ah.trans aw.symm;simpa using this
 refine .hi fun b5 cn=>?_
 conv=>cbv
 refine .go i9.toNat fun db bg dc=>?_
 conv=>cbv
 refine .go (⟨ab,b5,aa⟩:A0) aj (by omega) (by subst ay bg;rw[←az];rfl) (show 1+1≤3 by decide) fun dy co=>?_
 conv=>cbv
 refine .go i9.toNat fun cd a1 b0=>?_
 conv=>cbv
 refine .go (⟨ab,b5,aa⟩:A0) co (by rw[List.length_set];omega) (by subst bg a1;rw[List.getElem_set_self];rfl) (show 2+1≤3 by decide) fun de cp=>?_
 conv=>cbv
 refine .add fun b2 bl=>?_
 conv=>cbv
 have hke:Fc (⟨ab,ac,aa⟩:A0) keeps=aa:=by unfold Fc;rw[if_pos (by omega)]
 have hcu:Xg0 keeps (⟨ab,ac,aa⟩:A0)=⟨ab,b5,aa⟩:=by unfold Xg0;dsimp only;rw[hke,cn,Xgp (by omega) (by omega)]
 exact .go [] (b2,de) (hJ _ ⟨_,cp,by omega,by omega,by rw[show b2.toNat=i9.toNat+1 by omega,←Xjm af,←ah,hcu,←hx,show db=i9.toNat from bg,show cd=i9.toNat from a1,List.set_set]⟩ mlt)
 conv=>cbv
 rcases bp:Er (⟨w6,bq,bq,[],Ap,An⟩:Aa)with⟨a2,a6,a7,a8,bj,bk⟩
 generalize ao:a2.map Bf=cq
 generalize ap:a6.map Ac=cr
 generalize aq:a7.map Ac=ct
 generalize ar:a8.map cS=cu
 refine .lntD hP (M0 aj b6 bb rfl (by omega) (by omega) (by simp) (fun _ h=>by cases h) bp ao ap aq ar) (.agg (.ref rfl (Ae aj) (.ref rfl (Ae b6) (.d rfl (.ref rfl rfl (.d rfl (.d rfl .nil)))))) .nil) ?_
 conv=>cbv
 have e:(⟨a2,a6,a7,a8,bj,bk⟩:Aa)=Hg (⟨Af,Ah,Ai,Ag,Ap,An⟩:Aa) names keeps:=(by unfold Hg;rw[if_neg (by rw[bh];decide)];dsimp only;rw[bi,←bp,hx,List.take_of_length_le (by omega),List.drop_of_length_le (by omega),List.append_nil];exact Xc1)
 rw[hr]at e
 simp only[Aa.mk.injEq]at e
 obtain⟨rfl,rfl,rfl,rfl,rfl,rfl⟩:=e
 exact hQ _ _ (.one (.inl rfl) rfl (.agg (.d rfl (Bj ao Kb) (.d rfl (Bj ap Kc) (.d rfl (Bj aq Ke) (.d rfl (Bj ar J0) .d2)))) .nil))
end
section
open Go Go.Proofs
def XcL:List (Nat×TyRow):=[ty3,Xp,Xgj,XlJ]
theorem Xc6:B1 Tryz.prog XcL:=B1.of (by kernel_rfl)
theorem Xk8:Setup Tryz.prog XcL:=⟨Xc6,mixed⟩
theorem Xs{d:Aa}{v n:Int}(h:J8 d)(he:d.entries_.length≤100000000)(hs:d.steps_.length≤100000000):J8 (Gy d v n):=by
 have:=W7 (d:=d) (v:=v)
 unfold Gy Iv
 exact(XfZ h (by rw[List.length_take];omega) (fun x hx=>Xif x (List.mem_of_mem_take hx))).1
def F0(d:Aa)(v n names:Int)(keeps:List Int):Aa:=Hg (Gy d v n) names keeps
theorem Yi{d:Aa}{v n m:Int}{keeps:List Int}(h:J8 d)(he:d.entries_.length≤100000000)(hs:d.steps_.length≤100000000):J8 (F0 d v n m keeps):=(XjB (Xs h he hs)).1
theorem Xbq{Af:List A0}{Bo:List (List D)}{Ah:List Ad}{Bn:List (List D)}{Ai:List Ad}{Bm:List (List D)}{Ag:List ByteArray}{Bp:List (List D)}{Ap:Int}{An:Int}{version:Int}{n:Int}{names:Int}{keeps:List Int}{xkeeps:List (List D)}{onod:List A0}{Ho:List (List D)}{oent:List Ad}{Hw:List (List D)}{oold:List Ad}{Hy:List (List D)}{oste:List ByteArray}{Hm:List (List D)}{oroo:Int}{onex:Int}(Al:Af.map Bf=Bo)(Am:Ah.map Ac=Bn)(Aq:Ai.map Ac=Bm)(Ao:Ag.map cS=Bp)(hkeeps:keeps.map cI=xkeeps)(ay:J8 (⟨Af,Ah,Ai,Ag,Ap,An⟩:Aa))(hes:Ah.length≤100000000)(hst:Ag.length≤100000000)(hkl:keeps.length≤1000000000)(hr:F0 (⟨Af,Ah,Ai,Ag,Ap,An⟩:Aa) version n names keeps=⟨onod,oent,oold,oste,oroo,onex⟩)(Kb:onod.map Bf=Ho)(Kc:oent.map Ac=Hw)(Ke:oold.map Ac=Hy)(J0:oste.map cS=Hm):Fn Tryz.prog 54 [.agg [.d (.row 3 Bo),.d (.row 2 Bn),.d (.row 2 Bm),.d (.row 1 Bp),I Ap,I An],I version,I n,I names,.d (.row 1 xkeeps)] [] ⟨.agg [.d (.row 3 Ho),.d (.row 2 Hw),.d (.row 2 Hy),.d (.row 1 Hm),I oroo,I onex],[],[]⟩:=by
 refine Fn.go Xk8 Tryz.func54 fun P hP Q hQ=>?_
 conv=>cbv
 rcases aq:Gy (⟨Af,Ah,Ai,Ag,Ap,An⟩:Aa) version n with⟨ai,aj,ak,al,ar,au⟩
 generalize aa:ai.map Bf=a1
 generalize ab:aj.map Ac=a2
 generalize ac:ak.map Ac=a6
 generalize ad:al.map cS=a7
 refine .dd hP (Xhr Al Am Aq Ao ay hes hst aq aa ab ac ad) ?_
 conv=>cbv
 have hm:=Xs (d:=(⟨Af,Ah,Ai,Ag,Ap,An⟩:Aa)) (v:=version) (n:=n) ay hes hst
 rw[aq]at hm
 rcases az:Hg (⟨ai,aj,ak,al,ar,au⟩:Aa) names keeps with⟨am,an,ao,ap,aw,ax⟩
 generalize ae:am.map Bf=a8
 generalize af:an.map Ac=ba
 generalize ag:ao.map Ac=bb
 generalize ah:ap.map cS=bc
 refine .dd hP (Xkd aa ab ac ad hkeeps hm hkl az ae af ag ah) ?_
 conv=>cbv
 have e:(⟨am,an,ao,ap,aw,ax⟩:Aa)=F0 (⟨Af,Ah,Ai,Ag,Ap,An⟩:Aa) version n names keeps:=(by unfold F0;rw[aq,az])
 rw[hr]at e
 simp only[Aa.mk.injEq]at e
 obtain⟨rfl,rfl,rfl,rfl,rfl,rfl⟩:=e
 exact hQ _ _ (.one (.inl rfl) rfl (.agg (.d rfl (Bj ae Kb) (.d rfl (Bj af Kc) (.d rfl (Bj ag Ke) (.d rfl (Bj ah J0) .d2)))) .nil))
end
section
open Go Go.Proofs
def XjC:List (Nat×TyRow):=[ty3,ty5,ty9,XfK,Z2,XaC,Xp,Xgj,U5,U1]
theorem Xhs:B1 Tryz.prog XjC:=B1.of (by kernel_rfl)
theorem On:Setup Tryz.prog XjC:=⟨Xhs,mixed⟩
variable {l oa Ah Ai oent oold:List Ad} {xl xoa Bo Bn Bm Bp Ho Hw Hy Hm xkeeps:List (List D)} {ob:Bool} {noa nonod noent noold noste nl:Nat} {n Ap An oroo onex nid nsur names:Int} {Af onod:List A0} {Ag oste:List ByteArray} {ntex:ByteArray} {keeps:List Int}
theorem XeR{step:ByteArray}(hl:l.map Ac=xl)(hn:l.length≤4000000000)(hs:step.size≤1000000000)(hr:As l step=(oa,ob))(hoa:oa.map Ac=xoa)(hnoa:noa=oa.length):Fn Tryz.prog 272 [.d (.row 2 xl),S step] [] ⟨.tup [.ref 0 0 noa,B ob],[.row 2 false xoa],[]⟩:=by
 refine Fn.goR On Tryz.func272 fun P hP Q hQ=>?_
 conv=>cbv
 refine .eql (fun h1=>?_) fun h1=>?_
 conv=>cbv
 have e:([],false)=As l step:=(by exact(XaL h1).symm)
 rw[hr]at e
 simp only[Prod.mk.injEq]at e
 obtain⟨rfl,rfl⟩:=e
 obtain rfl:[]=xoa:=by first|(rw[←hoa];done)|(rw[←hoa];rfl)
 obtain rfl:0=noa:=by first|omega|(rw[hnoa];simp;done)|(rw[hnoa];simp;omega)
 exact hQ _ _ (.o [1] rfl)
 conv=>cbv
 have hps:=XaS h1
 refine .lo fun s2 aw=>?_
 conv=>cbv
 have bf:s2.size≤step.size:=by rw[aw,ByteArray.size_extract];omega
 rcases aj:Lb s2 with⟨ae,ak,ao⟩
 have hcb:=XfH aj
 have hcu:Lb (step.extract 1 step.size)=(ae,ak,ao):=by rw[aw]at aj;exact aj
 refine .dd hP (R9 (by omega) aj) ?_
 conv=>cbv
 generalize ax:Ds l=l4
 have aa:l4=l:=ax.symm
 have be:l4.length=l.length:=by rw[aa]
 generalize af:l4.map Ac=bg
 obtain⟨nl4,hnl4⟩:∃m,m=l4.length:=⟨_,rfl⟩
 refine .ddA hP (Cz hl (by omega) ax af hnl4) rfl rfl rfl (af▸Ff (fun _=>rfl) l4) ?_
 conv=>cbv
 refine .go 0 fun hjv5 v5 ad bv5=>?_
 conv=>cbv
 refine .eql (fun h6=>?_) fun h6=>?_
 conv=>cbv
 have hh:step.data.toList.head?=some 43:=(Hz hps).trans (congrArg some (XeU (n:=43) ad (by omega) (by decide)))
 rcases ap:Bh ak with⟨a7,a8⟩
 refine .dd hP (Sa (by omega) ap) ?_
 conv=>cbv
 cases ao
 conv=>cbv
 have e:([],false)=As l step:=(by rw[Ht h1 hh hcu,if_pos (.inl rfl)])
 rw[hr]at e
 simp only[Prod.mk.injEq]at e
 obtain⟨rfl,rfl⟩:=e
 obtain rfl:[]=xoa:=by first|(rw[←hoa];done)|(rw[←hoa];rfl)
 obtain rfl:0=noa:=by first|omega|(rw[hnoa];simp;done)|(rw[hnoa];simp;omega)
 exact hQ _ _ (.o [2] rfl)
 conv=>cbv
 cases a8
 conv=>cbv
 have e:([],false)=As l step:=(by rw[Ht h1 hh hcu,ap,if_pos (.inr (.inl rfl))])
 rw[hr]at e
 simp only[Prod.mk.injEq]at e
 obtain⟨rfl,rfl⟩:=e
 obtain rfl:[]=xoa:=by first|(rw[←hoa];done)|(rw[←hoa];rfl)
 obtain rfl:0=noa:=by first|omega|(rw[hnoa];simp;done)|(rw[hnoa];simp;omega)
 exact hQ _ _ (.o [2] rfl)
 conv=>cbv
 generalize aq:Bs ae=r8
 refine .dd hP (Kt (by omega) aq) ?_
 cases r8
 conv=>cbv
 have e:([],false)=As l step:=(by rw[Ht h1 hh hcu,if_pos (.inr (.inr aq))])
 rw[hr]at e
 simp only[Prod.mk.injEq]at e
 obtain⟨rfl,rfl⟩:=e
 obtain rfl:[]=xoa:=by first|(rw[←hoa];done)|(rw[←hoa];rfl)
 obtain rfl:0=noa:=by first|omega|(rw[hnoa];simp;done)|(rw[hnoa];simp;omega)
 exact hQ _ _ (.o [2] rfl)
 conv=>cbv
 generalize ab:Uq l4 ae a7=l9
 generalize ay:l9.map Ac=ba
 obtain⟨nl9,hnl9⟩:∃m,m=l9.length:=⟨_,rfl⟩
 refine .bx [1] [] hP (Xkv af (by first|rfl|omega|(simp;omega)) (by omega) ab ay hnl9) rfl rfl rfl rfl ?_
 conv=>cbv
 have e:(l9,true)=As l step:=(by rw[Ht h1 hh hcu,ap,if_neg (by rw[aq];simp),←ab,aa])
 rw[hr]at e
 simp only[Prod.mk.injEq]at e
 obtain⟨rfl,rfl⟩:=e
 obtain rfl:ba=xoa:=by rw[←ay,←hoa]
 obtain rfl:nl9=noa:=by first|omega|(rw[hnoa];simp;done)|(rw[hnoa];simp;omega)
 exact hQ _ _ (.o [2] rfl)
 conv=>cbv
 refine .eql (fun h7=>?_) fun h7=>?_
 conv=>cbv
 have hh:step.data.toList.head?=some 45:=(Hz hps).trans (congrArg some (XeU (n:=45) ad (by omega) (by decide)))
 refine .lo fun s8 az=>?_
 conv=>cbv
 have bh:s8.size≤step.size:=by rw[az,ByteArray.size_extract];omega
 rcases ab:Gq l4 s8 with⟨ar,bb⟩
 generalize al:ar.map Ac=a1
 obtain⟨nr9a,hnr9a⟩:∃m,m=ar.length:=⟨_,rfl⟩
 refine .bx [1] [] hP (Xf2 af (by first|rfl|omega|(simp;omega)) (by omega) (by omega) ab al hnr9a) rfl rfl rfl rfl ?_
 conv=>cbv
 have e:(ar,bb)=As l step:=(by rw[Pu h1 hh];rw[az,aa]at ab;exact ab.symm)
 rw[hr]at e
 simp only[Prod.mk.injEq]at e
 obtain⟨rfl,rfl⟩:=e
 obtain rfl:a1=xoa:=by rw[←al,←hoa]
 obtain rfl:nr9a=noa:=by first|omega|(rw[hnoa];simp;done)|(rw[hnoa];simp;omega)
 exact hQ _ _ (.o [2] rfl)
 conv=>cbv
 refine .eql (fun h8=>?_) fun h8=>?_
 conv=>cbv
 have hh:step.data.toList.head?=some 62:=(Hz hps).trans (congrArg some (XeU (n:=62) ad (by omega) (by decide)))
 generalize ab:Cw l ae=r9
 refine .dd hP (Xcp hl (by omega) ab) ?_
 conv=>cbv
 rcases ac:Gq l4 ae with⟨ag,a2⟩
 have hdl:=Sb ac
 generalize ah:ag.map Ac=bc
 obtain⟨nr10a,hnr10a⟩:∃m,m=ag.length:=⟨_,rfl⟩
 refine .bx [1] [] hP (Xf2 af (by first|rfl|omega|(simp;omega)) (by omega) (by omega) ac ah hnr10a) rfl rfl rfl rfl ?_
 conv=>cbv
 cases ao
 conv=>cbv
 have e:([],false)=As l step:=(by rw[Gh h1 hh hcu,if_pos (.inl rfl)])
 rw[hr]at e
 simp only[Prod.mk.injEq]at e
 obtain⟨rfl,rfl⟩:=e
 obtain rfl:[]=xoa:=by first|(rw[←hoa];done)|(rw[←hoa];rfl)
 obtain rfl:0=noa:=by first|omega|(rw[hnoa];simp;done)|(rw[hnoa];simp;omega)
 exact hQ _ _ (.o [3] rfl)
 conv=>cbv
 cases a2
 conv=>cbv
 have e:([],false)=As l step:=(by rw[Gh h1 hh hcu,←aa,ac,if_pos (.inr (.inl rfl))])
 rw[hr]at e
 simp only[Prod.mk.injEq]at e
 obtain⟨rfl,rfl⟩:=e
 obtain rfl:[]=xoa:=by first|(rw[←hoa];done)|(rw[←hoa];rfl)
 obtain rfl:0=noa:=by first|omega|(rw[hnoa];simp;done)|(rw[hnoa];simp;omega)
 exact hQ _ _ (.o [3] rfl)
 conv=>cbv
 generalize ai:Bs ak=bd
 refine .dd hP (Kt (by omega) ai) ?_
 cases bd
 conv=>cbv
 have e:([],false)=As l step:=(by rw[Gh h1 hh hcu,if_pos (.inr (.inr (.inl ai)))])
 rw[hr]at e
 simp only[Prod.mk.injEq]at e
 obtain⟨rfl,rfl⟩:=e
 obtain rfl:[]=xoa:=by first|(rw[←hoa];done)|(rw[←hoa];rfl)
 obtain rfl:0=noa:=by first|omega|(rw[hnoa];simp;done)|(rw[hnoa];simp;omega)
 exact hQ _ _ (.o [3] rfl)
 conv=>cbv
 refine .eql (fun h12=>?_) fun h12=>?_
 conv=>cbv
 have e:([],false)=As l step:=(by rw[Gh h1 hh hcu,if_pos (.inr (.inr (.inr h12)))])
 rw[hr]at e
 simp only[Prod.mk.injEq]at e
 obtain⟨rfl,rfl⟩:=e
 obtain rfl:[]=xoa:=by first|(rw[←hoa];done)|(rw[←hoa];rfl)
 obtain rfl:0=noa:=by first|omega|(rw[hnoa];simp;done)|(rw[hnoa];simp;omega)
 exact hQ _ _ (.o [3] rfl)
 conv=>cbv
 generalize am:Uq ag ak r9=au
 generalize an:au.map Ac=a6
 obtain⟨nl13,hnl13⟩:∃m,m=au.length:=⟨_,rfl⟩
 refine .bx [2] [] hP (Xkv ah (by first|rfl|omega|(simp;omega)) (by omega) am an hnl13) rfl rfl rfl rfl ?_
 conv=>cbv
 have e:(au,true)=As l step:=(by rw[Gh h1 hh hcu,if_neg (by rw[←aa,ac,ai];simp;exact h12),ab,←am,←aa,ac])
 rw[hr]at e
 simp only[Prod.mk.injEq]at e
 obtain⟨rfl,rfl⟩:=e
 obtain rfl:a6=xoa:=by rw[←an,←hoa]
 obtain rfl:nl13=noa:=by first|omega|(rw[hnoa];simp;done)|(rw[hnoa];simp;omega)
 exact hQ _ _ (.o [3] rfl)
 conv=>cbv
 have e:([],false)=As l step:=(by rw[Wi h1 (Hz hps) (Xea (n:=43) ad h6 (by decide)) (Xea (n:=45) ad h7 (by decide)) (Xea (n:=62) ad h8 (by decide))])
 rw[hr]at e
 simp only[Prod.mk.injEq]at e
 obtain⟨rfl,rfl⟩:=e
 obtain rfl:[]=xoa:=by first|(rw[←hoa];done)|(rw[←hoa];rfl)
 obtain rfl:0=noa:=by first|omega|(rw[hnoa];simp;done)|(rw[hnoa];simp;omega)
 exact hQ _ _ (.o [2] rfl)
theorem XcQ{old:List Ad}{xold:List (List D)}{steps:List ByteArray}{xsteps:List (List D)}(hold:old.map Ac=xold)(hsteps:steps.map cS=xsteps)(hol:old.length≤1000000000)(hsl:steps.length≤1000000000)(hss:okS steps)(hr:Dp old steps n=(oa,ob))(hoa:oa.map Ac=xoa)(hnoa:noa=oa.length):Fn Tryz.prog 273 [.d (.row 2 xold),.d (.row 1 xsteps),I n] [] ⟨.tup [.ref 0 0 noa,B ob],[.row 2 false xoa],[]⟩:=by
 refine Fn.goR On Tryz.func273 fun P hP Q hQ=>?_
 conv=>cbv
 generalize ak:Ds old=l1
 generalize ah:l1.map Ac=ao
 obtain⟨nl1,hnl1⟩:∃m,m=l1.length:=⟨_,rfl⟩
 refine .ddA hP (Cz hold (by omega) ak ah hnl1) rfl rfl rfl (ah▸Ff (fun _=>rfl) l1) ?_
 conv=>cbv
 refine .go hsteps fun v2 ap=>?_
 conv=>cbv
 generalize ai:Cs n 0 v2=r3
 refine .dd hP (Wp ai) ?_
 conv=>cbv
 have hbr:0≤r3∧r3≤steps.length:=by rw[←ai];unfold Cs;split<;>(try split)<;>omega
 refine .hi hsteps fun x4 hx4=>?_
 conv=>cbv
 refine .go hx4 fun v5 au=>?_
 conv=>cbv
 have af:l1=old:=ak.symm
 refine LoopW.lp (κ:=Int×(List (List D))×Nat) On hP [1] [20,21] (fun(aa,ab,ac)=>[(8,.ref 2 0 ac),(22,I aa)]) (fun(aa,ab,ac)=>[(2,.row 2 false ab)])
  (fun(aa,ab,ac)=>∃(w2:List Ad),w2.map Ac=ab∧ac=w2.length∧0≤aa∧aa≤(steps.take r3.toNat).length∧Dp old steps n=H6 w2 ((steps.take r3.toNat).drop aa.toNat)∧w2.length≤old.length+aa)
  (fun(aa,ab,ac)=>((steps.take r3.toNat).length - aa).toNat) (0,ao,nl1) ⟨l1,ah,(by first|omega|(simp;omega)),by omega,by omega,by unfold Dp;rw[←ap,ai,af];rfl,by rw[af];omega⟩ ⟨rfl,rfl,trivial⟩ rfl ?_
 rintro⟨aa,ab,ac⟩ J ⟨w2,aj,ar,h0,h1,hio,hun⟩ hJ
 have htl:(steps.take r3.toNat).length≤steps.length:=by rw[List.length_take];omega
 conv=>cbv
 refine .lss (fun h6=>?_) fun h6=>?_
 conv=>cbv
 refine .go aa.toNat hx4 fun ag e7 al=>?_
 conv=>cbv
 have aw:e7.size≤1000000000:=by have hm:e7∈steps.take r3.toNat:=al▸List.getElem_mem ag;exact hss _ (List.mem_of_mem_take hm)
 have hdc:(steps.take r3.toNat).drop aa.toNat=e7::(steps.take r3.toNat).drop (aa.toNat+1):=by rw[List.drop_eq_getElem_cons ag,←al]
 rw[hdc]at hio
 rcases ae:As w2 e7 with⟨am,aq⟩
 generalize ad:am.map Ac=an
 obtain⟨nr8a,hnr8a⟩:∃m,m=am.length:=⟨_,rfl⟩
 refine .lntN hP (XeR aj (by omega) (by omega) ae ad hnr8a) (.ref rfl (Ae aj) (.d rfl .nil)) rfl rfl rfl (by simp only[List.all_cons,List.all_nil,Bool.and_self,Sq (fun _=>rfl) ad]) ?_
 conv=>cbv
 have hsl8:=M9 ae
 cases aq
 conv=>cbv
 have e:([],false)=Dp old steps n:=(by rw[hio];show _=(if(As w2 e7).2=false then _ else _);rw[ae];rfl)
 rw[hr]at e
 simp only[Prod.mk.injEq]at e
 obtain⟨rfl,rfl⟩:=e
 obtain rfl:[]=xoa:=by first|(rw[←hoa];done)|(rw[←hoa];rfl)
 obtain rfl:0=noa:=by first|omega|(rw[hnoa];simp;done)|(rw[hnoa];simp;omega)
 exact hQ _ _ (.o [4] rfl)
 conv=>cbv
 refine .add fun v9 ax=>?_
 conv=>cbv
 exact .go [3] (v9,an,nr8a) (hJ _ ⟨_,ad,Ic,by omega,by omega,by rw[hio,show v9.toNat=aa.toNat+1 by omega];show(if(As w2 e7).2=false then _ else _)=_;rw[ae];rfl,by omega⟩ mlt)
 conv=>cbv
 have e:(w2,true)=Dp old steps n:=(by rw[hio,List.drop_of_length_le (by omega)];rfl)
 rw[hr]at e
 simp only[Prod.mk.injEq]at e
 obtain⟨rfl,rfl⟩:=e
 obtain rfl:ab=xoa:=by rw[←aj,←hoa]
 obtain rfl:ac=noa:=by first|omega|(rw[hnoa];simp;done)|(rw[hnoa];simp;omega)
 exact hQ _ _ (.o [2] rfl)
def Rz(d:Aa):Aa:=d
def H0(d:Aa)(names:Int)(keeps:List Int):Aa:=⟨(d.nodes_.filter fun n=>Ol (Dp d.old_ d.steps_ names).1 n.id_).map (Xg0 keeps),(Dp d.old_ d.steps_ names).1,(Dp d.old_ d.steps_ names).1,[],d.room_,d.next_⟩
theorem Xeu(Al:Af.map Bf=Bo)(Am:Ah.map Ac=Bn)(Aq:Ai.map Ac=Bm)(Ao:Ag.map cS=Bp)(hn:Af.length≤4000000000)(he:Ah.length≤4000000000)(ho:Ai.length≤4000000000)(hs:Ag.length≤4000000000)(hr:Rz (⟨Af,Ah,Ai,Ag,Ap,An⟩:Aa)=⟨onod,oent,oold,oste,oroo,onex⟩)(Kb:onod.map Bf=Ho)(Kc:oent.map Ac=Hw)(Ke:oold.map Ac=Hy)(J0:oste.map cS=Hm)(hnonod:nonod=onod.length)(hnoent:noent=oent.length)(hnoold:noold=oold.length)(hnoste:noste=oste.length):Fn Tryz.prog 119 [.agg [.d (.row 3 Bo),.d (.row 2 Bn),.d (.row 2 Bm),.d (.row 1 Bp),I Ap,I An]] [] ⟨.agg [.ref 0 0 nonod,.ref 1 0 noent,.ref 2 0 noold,.ref 3 0 noste,I oroo,I onex],[.row 3 false Ho,.row 2 false Hw,.row 2 false Hy,.row 1 false Hm],[]⟩:=by
 refine Fn.goR On Tryz.func119 fun P hP Q hQ=>?_
 conv=>cbv
 generalize ae:Ds Af=l1
 generalize aa:l1.map Bf=ai
 obtain⟨nl1,hnl1⟩:∃m,m=l1.length:=⟨_,rfl⟩
 refine .ddA hP (Hp Al (by omega) ae aa hnl1) rfl rfl rfl (aa▸Ff (fun _=>rfl) l1) ?_
 conv=>cbv
 generalize af:Ds Ah=l2
 generalize ab:l2.map Ac=aj
 obtain⟨nl2,hnl2⟩:∃m,m=l2.length:=⟨_,rfl⟩
 refine .ddA hP (Cz Am (by omega) af ab hnl2) rfl rfl rfl (ab▸Ff (fun _=>rfl) l2) ?_
 conv=>cbv
 generalize ag:Ds Ai=l3
 generalize ac:l3.map Ac=ak
 obtain⟨nl3,hnl3⟩:∃m,m=l3.length:=⟨_,rfl⟩
 refine .ddA hP (Cz Aq (by omega) ag ac hnl3) rfl rfl rfl (ac▸Ff (fun _=>rfl) l3) ?_
 conv=>cbv
 generalize ah:Ds Ag=l4
 generalize ad:l4.map cS=al
 obtain⟨nl4,hnl4⟩:∃m,m=l4.length:=⟨_,rfl⟩
 refine .ddA hP (Gf Ao (by omega) ah ad hnl4) rfl rfl rfl (ad▸Ff (fun _=>rfl) l4) ?_
 conv=>cbv
 have e:(⟨l1,l2,l3,l4,Ap,An⟩:Aa)=Rz (⟨Af,Ah,Ai,Ag,Ap,An⟩:Aa):=(by unfold Rz;rw[←ae,←af,←ag,←ah];rfl)
 rw[hr]at e
 simp only[Aa.mk.injEq]at e
 obtain⟨rfl,rfl,rfl,rfl,rfl,rfl⟩:=e
 obtain rfl:ai=Ho:=by rw[←aa,←Kb]
 obtain rfl:nl1=nonod:=by first|omega|(rw[hnonod];simp;done)|(rw[hnonod];simp;omega)
 obtain rfl:aj=Hw:=by rw[←ab,←Kc]
 obtain rfl:nl2=noent:=by first|omega|(rw[hnoent];simp;done)|(rw[hnoent];simp;omega)
 obtain rfl:ak=Hy:=by rw[←ac,←Ke]
 obtain rfl:nl3=noold:=by first|omega|(rw[hnoold];simp;done)|(rw[hnoold];simp;omega)
 obtain rfl:al=Hm:=by rw[←ad,←J0]
 obtain rfl:nl4=noste:=by first|omega|(rw[hnoste];simp;done)|(rw[hnoste];simp;omega)
 exact hQ _ _ (.o [6,7,8,9] rfl)
theorem O9{o:Int}(hl:l.map Ac=xl)(hnl:nl=l.length)(hn:l.length<2^40)(hr:Fb l (⟨nid,ntex,nsur⟩:A0)=o):Fn Tryz.prog 284 [.ref 0 0 nl,.clo 275 [.ptr 1 0 0]] [.row 2 false xl,.box 103 [I nid,S ntex,I nsur]] ⟨I o,[],[]⟩:=by
 refine Fn.goR On Tryz.func284 fun P hP Q hQ=>?_
 conv=>cbv
 refine .go fun v1 ah=>?_
 conv=>cbv
 refine LoopW.lp (κ:=Int) On hP [] [0,1,7] (fun i8=>[(8,I i8)]) (fun i8=>[])
  (fun i8=>0≤i8∧i8≤l.length∧∀(j:Nat) (hj:j<l.length),j<i8.toNat→Hu l[j] (⟨nid,ntex,nsur⟩:A0)=false)
  (fun i8=>(l.length - i8).toNat) (0) ⟨by omega,by omega,fun j _ h=>by simp at h⟩ ⟨rfl,trivial⟩ rfl ?_
 rintro i8 J ⟨h0,h1,hb⟩ hJ
 conv=>cbv
 refine .lss (fun h2=>?_) fun h2=>?_
 conv=>cbv
 refine .go i8.toNat fun p3 ae af=>?_
 conv=>cbv
 refine .go hl fun ag ⟨aa,ac⟩ ad=>?_
 conv=>cbv
 subst ae
 generalize ab:Hu (⟨aa,ac⟩:Ad) (⟨nid,ntex,nsur⟩:A0)=r5
 refine .bx [1] [] hP (Ws ab) rfl rfl rfl rfl ?_
 cases r5
 conv=>cbv
 refine .add fun v6 ai=>?_
 conv=>cbv
 exact .go [] (v6) (hJ _ ⟨by omega,by omega,fun j hj h=>if e:j=i8.toNat then by subst e;rw[←ad];exact ab else hb j hj (by omega)⟩ mlt)
 conv=>cbv
 have e:i8=Fb l (⟨nid,ntex,nsur⟩:A0):=(by exact Me (p:=fun x=>Hu x (⟨nid,ntex,nsur⟩:A0)) h0 (by omega) (ad▸ab) hb)
 rw[hr]at e
 subst e
 exact hQ _ _ (.o [] rfl)
 conv=>cbv
 have e:(-1)=Fb l (⟨nid,ntex,nsur⟩:A0):=(by exact Hs (p:=fun x=>Hu x (⟨nid,ntex,nsur⟩:A0)) fun j hj=>hb j hj (by omega))
 rw[hr]at e
 subst e
 exact hQ _ _ (.o [] rfl)
theorem Na{o:Bool}(hl:l.map Ac=xl)(hnl:nl=l.length)(hn:l.length<2^40)(hr:D9 l (⟨nid,ntex,nsur⟩:A0)=o):Fn Tryz.prog 274 [.ref 0 0 nl,.clo 275 [.ptr 1 0 0]] [.row 2 false xl,.box 103 [I nid,S ntex,I nsur]] ⟨B o,[],[]⟩:=by
 refine Fn.goR On Tryz.func274 fun P hP Q hQ=>?_
 conv=>cbv
 generalize aa:Fb l (⟨nid,ntex,nsur⟩:A0)=r1
 refine .bx [0,1] [] hP (O9 hl (by first|rfl|omega|(simp;omega)) hn aa) rfl rfl rfl rfl ?_
 conv=>cbv
 refine .geq (fun h2=>?_) fun h2=>?_
 conv=>cbv
 have e:true=D9 l (⟨nid,ntex,nsur⟩:A0):=(by rw[Wj,aa];exact(decide_eq_true h2).symm)
 rw[hr]at e
 subst e
 exact hQ _ _ (.o [] rfl)
 conv=>cbv
 have e:false=D9 l (⟨nid,ntex,nsur⟩:A0):=(by rw[Wj,aa];exact(decide_eq_false (by omega)).symm)
 rw[hr]at e
 subst e
 exact hQ _ _ (.o [] rfl)
theorem Sf(Al:Af.map Bf=Bo)(Am:Ah.map Ac=Bn)(Aq:Ai.map Ac=Bm)(Ao:Ag.map cS=Bp)(hkeeps:keeps.map cI=xkeeps)(ai:J8 (⟨Af,Ah,Ai,Ag,Ap,An⟩:Aa))(hri:Bq (⟨Af,Ah,Ai,Ag,Ap,An⟩:Aa)=true)(hkl:keeps.length≤1000000000)(hr:H0 (⟨Af,Ah,Ai,Ag,Ap,An⟩:Aa) names keeps=⟨onod,oent,oold,oste,oroo,onex⟩)(Kb:onod.map Bf=Ho)(Kc:oent.map Ac=Hw)(Ke:oold.map Ac=Hy)(J0:oste.map cS=Hm)(hnonod:nonod=onod.length)(hnoent:noent=oent.length)(hnoold:noold=oold.length)(hnoste:noste=oste.length):Fn Tryz.prog 215 [.agg [.d (.row 3 Bo),.d (.row 2 Bn),.d (.row 2 Bm),.d (.row 1 Bp),I Ap,I An],I names,.clo 216 [.ptr 0 0 0]] [.box 34 [.d (.row 1 xkeeps)]] ⟨.agg [.ref 1 0 nonod,.ref 2 0 noent,.ref 3 0 noold,.ref 4 0 noste,I oroo,I onex],[.row 3 false Ho,.row 2 false Hw,.row 2 false Hy,.row 1 false Hm],[]⟩:=by
 refine Fn.goR On Tryz.func215 fun P hP Q hQ=>?_
 conv=>cbv
 rcases am:Dp Ai Ag names with⟨ag,bc⟩
 generalize ah:ag.map Ac=ar
 obtain⟨nr1a,hnr1a⟩:∃m,m=ag.length:=⟨_,rfl⟩
 refine .ddN hP (XcQ Aq Ao ai.1.2.2.2.2.1 ai.1.2.2.2.2.2 ai.2.2 am ah hnr1a) rfl ?_
 conv=>cbv
 have au:=XkR Ai Ag names
 rw[am]at au
 simp only[]at au
 have bd:Ai.length≤1000000000:=ai.1.2.2.2.2.1
 have be:Ag.length≤1000000000:=ai.1.2.2.2.2.2
 have bf:Af.length≤1000000000:=ai.1.1
 generalize aw:Ds ag=l2
 generalize an:l2.map Ac=a1
 obtain⟨nl2,hnl2⟩:∃m,m=l2.length:=⟨_,rfl⟩
 refine .lntR hP (Cz ah (by omega) aw an hnl2) (.ref rfl (Ae ah) .nil) (an▸Ff (fun _=>rfl) l2) ?_
 conv=>cbv
 refine .go Al fun v3 bg=>?_
 conv=>cbv
 refine LoopW.lp (κ:=Int×(List (List D))×Nat) On hP [9] [2,6,7,9,31,32] (fun(aa,ab,ac)=>[(33,I aa)]) (fun(aa,ab,ac)=>[(17,.box 28 [.ref 18 0 ac,.ref 7 0 nr1a,.ref 8 0 nl2,.ref 12 0 0,I Ap,I An]),(18,.row 3 false ab)])
  (fun(aa,ab,ac)=>∃(aj:List A0),aj.map Bf=ab∧ac=aj.length∧0≤aa∧aa≤Af.length∧aj=((Af.take aa.toNat).filter (fun n=>Ol ag n.id_)).map (Xg0 keeps)∧aj.length≤aa)
  (fun(aa,ab,ac)=>(Af.length - aa).toNat) (0,[],0) ⟨[],rfl,rfl,by omega,by omega,rfl,by simp⟩ ⟨rfl,trivial⟩ rfl ?_
 rintro⟨aa,ab,ac⟩ J ⟨aj,ak,a2,h0,h1,hx,hxl_⟩ hJ
 conv=>cbv
 refine .lss (fun h4=>?_) fun h4=>?_
 conv=>cbv
 refine .go aa.toNat Al fun al ⟨ad,ae,af⟩ ao=>?_
 conv=>cbv
 have hnf:=XiE hri ai al
 simp only[]at hnf
 rw[←ao]at hnf
 simp only[]at hnf
 generalize ap:D9 ag (⟨ad,ae,af⟩:A0)=r6
 refine .bx [7,19] [] hP (Na ah (by first|rfl|omega|(simp;omega)) (by omega) ap) rfl rfl rfl rfl ?_
 cases r6
 conv=>cbv
 refine .add fun v7 bh=>?_
 conv=>cbv
 have hha:Ol ag ad=false:=ap
 exact .go [18] (v7,ab,ac) (hJ _ ⟨_,ak,Ic,by omega,by omega,by rw[show v7.toNat=aa.toNat+1 by omega,Dv al,←ao];simp only[];rw[hha,hx];simp,by omega⟩ mlt)
 conv=>cbv
 generalize aq:Fc (⟨ad,ae,af⟩:A0) keeps=r7
 refine .bx [0] [] hP (Xhp hkeeps (by omega) (by omega) (by omega) (by omega) hkl aq) rfl rfl rfl rfl ?_
 conv=>cbv
 have hkb:=Xnm (n:=⟨ad,ae,af⟩) (keeps:=keeps) hnf.2.1 hnf.2.2.1
 rw[aq]at hkb
 simp only[]at hkb
 refine .hi fun s8 a6=>?_
 conv=>cbv
 refine .go fun v9 a7=>?_
 conv=>cbv
 refine .one (⟨ad,s8,v9⟩:A0) ak rfl fun ax a8 ba ay=>?_
 conv=>cbv
 refine .add fun az bb=>?_
 conv=>cbv
 have hha:Ol ag ad=true:=ap
 have hcu:Xg0 keeps ⟨ad,ae,af⟩=⟨ad,s8,v9⟩:=by unfold Xg0;rw[aq,←a6,←a7]
 exact .go [21] (az,a8,ax) (hJ _ ⟨_,ay,Ic,by omega,by omega,by rw[show az.toNat=aa.toNat+1 by omega,Dv al,←ao];simp only[];rw[hha,if_pos rfl,List.map_append,←hx,←hcu];rfl,by rw[List.length_append,List.length_singleton];omega⟩ mlt)
 conv=>cbv
 have e:(⟨aj,ag,l2,[],Ap,An⟩:Aa)=H0 (⟨Af,Ah,Ai,Ag,Ap,An⟩:Aa) names keeps:=(by unfold H0;dsimp only;rw[am,hx,List.take_of_length_le (by omega),←aw];rfl)
 rw[hr]at e
 simp only[Aa.mk.injEq]at e
 obtain⟨rfl,rfl,rfl,rfl,rfl,rfl⟩:=e
 obtain rfl:ab=Ho:=by rw[←ak,←Kb]
 obtain rfl:ac=nonod:=by first|omega|(rw[hnonod];simp;done)|(rw[hnonod];simp;omega)
 obtain rfl:ar=Hw:=by rw[←ah,←Kc]
 obtain rfl:nr1a=noent:=by first|omega|(rw[hnoent];simp;done)|(rw[hnoent];simp;omega)
 obtain rfl:a1=Hy:=by rw[←an,←Ke]
 obtain rfl:nl2=noold:=by first|omega|(rw[hnoold];simp;done)|(rw[hnoold];simp;omega)
 obtain rfl:[]=Hm:=by first|(rw[←J0];done)|(rw[←J0];rfl)
 obtain rfl:0=noste:=by first|omega|(rw[hnoste];simp;done)|(rw[hnoste];simp;omega)
 exact hQ _ _ (.o [18,7,8,12] rfl)
theorem XjL(Al:Af.map Bf=Bo)(Am:Ah.map Ac=Bn)(Aq:Ai.map Ac=Bm)(Ao:Ag.map cS=Bp)(hkeeps:keeps.map cI=xkeeps)(ai:J8 (⟨Af,Ah,Ai,Ag,Ap,An⟩:Aa))(hkl:keeps.length≤1000000000)(hr:Hg (⟨Af,Ah,Ai,Ag,Ap,An⟩:Aa) names keeps=⟨onod,oent,oold,oste,oroo,onex⟩)(Kb:onod.map Bf=Ho)(Kc:oent.map Ac=Hw)(Ke:oold.map Ac=Hy)(J0:oste.map cS=Hm)(hnonod:nonod=onod.length)(hnoent:noent=oent.length)(hnoold:noold=oold.length)(hnoste:noste=oste.length):Fn Tryz.prog 138 [.agg [.d (.row 3 Bo),.d (.row 2 Bn),.d (.row 2 Bm),.d (.row 1 Bp),I Ap,I An],I names,.d (.row 1 xkeeps)] [] ⟨.agg [.ref 0 0 nonod,.ref 1 0 noent,.ref 2 0 noold,.ref 3 0 noste,I oroo,I onex],[.row 3 false Ho,.row 2 false Hw,.row 2 false Hy,.row 1 false Hm],[]⟩:=by
 refine Fn.goR On Tryz.func138 fun P hP Q hQ=>?_
 conv=>cbv
 have ar:Af.length≤1000000000:=ai.1.1
 have au:Ah.length≤1000000000:=ai.1.2.2.1
 have aw:Ai.length≤1000000000:=ai.1.2.2.2.2.1
 have ax:Ag.length≤1000000000:=ai.1.2.2.2.2.2
 generalize aj:Bq (⟨Af,Ah,Ai,Ag,Ap,An⟩:Aa)=r1
 refine .dd hP (N1 Al Am Aq Ao ai aj) ?_
 cases r1
 conv=>cbv
 rcases aq:Rz (⟨Af,Ah,Ai,Ag,Ap,An⟩:Aa)with⟨aa,ab,ac,ad,ao,ap⟩
 generalize ae:aa.map Bf=ak
 generalize af:ab.map Ac=al
 generalize ag:ac.map Ac=am
 generalize ah:ad.map cS=an
 obtain⟨nr2nod,hnr2nod⟩:∃m,m=aa.length:=⟨_,rfl⟩
 obtain⟨nr2ent,hnr2ent⟩:∃m,m=ab.length:=⟨_,rfl⟩
 obtain⟨nr2old,hnr2old⟩:∃m,m=ac.length:=⟨_,rfl⟩
 obtain⟨nr2ste,hnr2ste⟩:∃m,m=ad.length:=⟨_,rfl⟩
 refine .ddN hP (Xeu Al Am Aq Ao (by omega) (by omega) (by omega) (by omega) aq ae af ag ah hnr2nod hnr2ent hnr2old hnr2ste) rfl ?_
 conv=>cbv
 have e:(⟨aa,ab,ac,ad,ao,ap⟩:Aa)=Hg (⟨Af,Ah,Ai,Ag,Ap,An⟩:Aa) names keeps:=(by unfold Hg;rw[if_pos aj];exact aq.symm)
 rw[hr]at e
 simp only[Aa.mk.injEq]at e
 obtain⟨rfl,rfl,rfl,rfl,rfl,rfl⟩:=e
 obtain rfl:ak=Ho:=by rw[←ae,←Kb]
 obtain rfl:nr2nod=nonod:=by first|omega|(rw[hnonod];simp;done)|(rw[hnonod];simp;omega)
 obtain rfl:al=Hw:=by rw[←af,←Kc]
 obtain rfl:nr2ent=noent:=by first|omega|(rw[hnoent];simp;done)|(rw[hnoent];simp;omega)
 obtain rfl:am=Hy:=by rw[←ag,←Ke]
 obtain rfl:nr2old=noold:=by first|omega|(rw[hnoold];simp;done)|(rw[hnoold];simp;omega)
 obtain rfl:an=Hm:=by rw[←ah,←J0]
 obtain rfl:nr2ste=noste:=by first|omega|(rw[hnoste];simp;done)|(rw[hnoste];simp;omega)
 exact hQ _ _ (.o [7,8,9,10] rfl)
 conv=>cbv
 rcases hfl:H0 (⟨Af,Ah,Ai,Ag,Ap,An⟩:Aa) names keeps with⟨fn,fe,fo,fs,fr,fx⟩
 generalize hxfn:fn.map Bf=xfn
 obtain⟨nfn,hnfn⟩:∃m,m=fn.length:=⟨_,rfl⟩
 generalize hxfe:fe.map Ac=xfe
 obtain⟨nfe,hnfe⟩:∃m,m=fe.length:=⟨_,rfl⟩
 generalize hxfo:fo.map Ac=xfo
 obtain⟨nfo,hnfo⟩:∃m,m=fo.length:=⟨_,rfl⟩
 generalize hxfs:fs.map cS=xfs
 obtain⟨nfs,hnfs⟩:∃m,m=fs.length:=⟨_,rfl⟩
 refine .bx [1] [] hP (Sf Al Am Aq Ao hkeeps ai aj hkl hfl hxfn hxfe hxfo hxfs hnfn hnfe hnfo hnfs) rfl rfl rfl rfl ?_
 conv=>cbv
 have e:(⟨fn,fe,fo,fs,fr,fx⟩:Aa)=Hg (⟨Af,Ah,Ai,Ag,Ap,An⟩:Aa) names keeps:=(by unfold Hg;rw[if_neg (by rw[aj];decide)];exact hfl.symm)
 rw[hr]at e
 simp only[Aa.mk.injEq]at e
 obtain⟨rfl,rfl,rfl,rfl,rfl,rfl⟩:=e
 obtain rfl:xfn=Ho:=by rw[←hxfn,←Kb]
 obtain rfl:nfn=nonod:=by first|omega|(rw[hnonod];simp;done)|(rw[hnonod];simp;omega)
 obtain rfl:xfe=Hw:=by rw[←hxfe,←Kc]
 obtain rfl:nfe=noent:=by first|omega|(rw[hnoent];simp;done)|(rw[hnoent];simp;omega)
 obtain rfl:xfo=Hy:=by rw[←hxfo,←Ke]
 obtain rfl:nfo=noold:=by first|omega|(rw[hnoold];simp;done)|(rw[hnoold];simp;omega)
 obtain rfl:xfs=Hm:=by rw[←hxfs,←J0]
 obtain rfl:nfs=noste:=by first|omega|(rw[hnoste];simp;done)|(rw[hnoste];simp;omega)
 exact hQ _ _ (.o [7,8,9,10] rfl)
theorem Qo{version:Int}(Al:Af.map Bf=Bo)(Am:Ah.map Ac=Bn)(Aq:Ai.map Ac=Bm)(Ao:Ag.map cS=Bp)(hkeeps:keeps.map cI=xkeeps)(a6:J8 (⟨Af,Ah,Ai,Ag,Ap,An⟩:Aa))(hes:Ah.length≤100000000)(hst:Ag.length≤100000000)(hkl:keeps.length≤1000000000)(hr:F0 (⟨Af,Ah,Ai,Ag,Ap,An⟩:Aa) version n names keeps=⟨onod,oent,oold,oste,oroo,onex⟩)(Kb:onod.map Bf=Ho)(Kc:oent.map Ac=Hw)(Ke:oold.map Ac=Hy)(J0:oste.map cS=Hm)(hnonod:nonod=onod.length)(hnoent:noent=oent.length)(hnoold:noold=oold.length)(hnoste:noste=oste.length):Fn Tryz.prog 56 [.agg [.d (.row 3 Bo),.d (.row 2 Bn),.d (.row 2 Bm),.d (.row 1 Bp),I Ap,I An],I version,I n,I names,.d (.row 1 xkeeps)] [] ⟨.agg [.ref 0 0 nonod,.ref 1 0 noent,.ref 2 0 noold,.ref 3 0 noste,I oroo,I onex],[.row 3 false Ho,.row 2 false Hw,.row 2 false Hy,.row 1 false Hm],[]⟩:=by
 refine Fn.goR On Tryz.func56 fun P hP Q hQ=>?_
 conv=>cbv
 rcases ax:Gy (⟨Af,Ah,Ai,Ag,Ap,An⟩:Aa) version n with⟨am,an,ao,ap,ay,az⟩
 generalize ae:am.map Bf=a8
 generalize af:an.map Ac=ba
 generalize ag:ao.map Ac=bb
 generalize ah:ap.map cS=bc
 refine .dd hP (Xhu Al Am Aq Ao a6 hes hst ax ae af ag ah) ?_
 conv=>cbv
 have hm:=Xs (d:=(⟨Af,Ah,Ai,Ag,Ap,An⟩:Aa)) (v:=version) (n:=n) a6 hes hst
 rw[ax]at hm
 rcases a7:Hg (⟨am,an,ao,ap,ay,az⟩:Aa) names keeps with⟨aa,ab,ac,ad,a1,a2⟩
 generalize ai:aa.map Bf=aq
 generalize aj:ab.map Ac=ar
 generalize ak:ac.map Ac=au
 generalize al:ad.map cS=aw
 obtain⟨nr2nod,hnr2nod⟩:∃m,m=aa.length:=⟨_,rfl⟩
 obtain⟨nr2ent,hnr2ent⟩:∃m,m=ab.length:=⟨_,rfl⟩
 obtain⟨nr2old,hnr2old⟩:∃m,m=ac.length:=⟨_,rfl⟩
 obtain⟨nr2ste,hnr2ste⟩:∃m,m=ad.length:=⟨_,rfl⟩
 refine .ddN hP (XjL ae af ag ah hkeeps hm hkl a7 ai aj ak al hnr2nod hnr2ent hnr2old hnr2ste) rfl ?_
 conv=>cbv
 have e:(⟨aa,ab,ac,ad,a1,a2⟩:Aa)=F0 (⟨Af,Ah,Ai,Ag,Ap,An⟩:Aa) version n names keeps:=(by unfold F0;rw[ax,a7])
 rw[hr]at e
 simp only[Aa.mk.injEq]at e
 obtain⟨rfl,rfl,rfl,rfl,rfl,rfl⟩:=e
 obtain rfl:aq=Ho:=by rw[←ai,←Kb]
 obtain rfl:nr2nod=nonod:=by first|omega|(rw[hnonod];simp;done)|(rw[hnonod];simp;omega)
 obtain rfl:ar=Hw:=by rw[←aj,←Kc]
 obtain rfl:nr2ent=noent:=by first|omega|(rw[hnoent];simp;done)|(rw[hnoent];simp;omega)
 obtain rfl:au=Hy:=by rw[←ak,←Ke]
 obtain rfl:nr2old=noold:=by first|omega|(rw[hnoold];simp;done)|(rw[hnoold];simp;omega)
 obtain rfl:aw=Hm:=by rw[←al,←J0]
 obtain rfl:nr2ste=noste:=by first|omega|(rw[hnoste];simp;done)|(rw[hnoste];simp;omega)
 exact hQ _ _ (.o [6,7,8,9] rfl)
end
end Go.Proofs.YtjbmpmmffjgedaaGreatDoor.Ab
