/- What functions of the program come to, for all arguments in the given bounds. -/
import Derived.Test.YtgdmjbcllgmepaaGreatDoorRbch06j
import Derived.Test.YtgdmjbcllgmepaaGreatDoorRbZ9
set_option linter.unusedVariables false
set_option linter.unusedSimpArgs false
namespace Go.Proofs.YtgdmjbcllgmepaaGreatDoor.Ab
section
open Go Go.Proofs
set_option maxRecDepth 20000
set_option maxHeartbeats 4000000
def XaL:List (Nat×TyRow):=[ty3,ty9,Zr,Xk9,Xmn]
theorem XcL:B9 Tryz.prog XaL:=B9.of (by kernel_rfl)
theorem K7:Setup Tryz.prog XaL:=⟨XcL,mixed⟩
theorem Xet{α:Type}{f:α→Int}(h0:∀x,0≤f x):∀{l:List α} {x:α},x∈l→∀a,a+f x≤(l.map f).foldl (·+·) a
 |[],_,h,_=>by cases h
 |y::l,x,h,a=>by
  rw[List.map_cons,List.foldl_cons]
  rcases List.mem_cons.1 h with rfl|h
  ·exact XdG h0
  ·have h1:=Xet h0 h (a+f y)
   have:=h0 y
   omega
theorem Xj6{d:Aa}{n:Bk}(h:n∈d.nodes_):(n.text_.size:Int)≤F2 d:=by
 have:=Xet (f:=fun n:Bk=>(n.text_.size:Int)) (fun x=>by omega) h 0
 unfold F2 XkK
 omega
theorem XhI{d:Aa}{i:Int}{x:Bk}(h:J8 d)(hx:x.text_.size≤1000000000):J8 (XlH d i x):=by
 obtain⟨⟨h1,h2,h3⟩,h4⟩:=h
 refine⟨⟨by show(d.nodes_.set _ _).length≤_;rw[List.length_set];exact h1,?_,h3⟩,h4⟩
 intro n hn
 rcases List.mem_or_eq_of_mem_set hn with hn|rfl
 ·exact h2 n hn
 ·exact hx
theorem Xkq{d:Aa}{i:Int}(h0:0≤i)(h1:i<d.nodes_.length):gN d i∈d.nodes_:=by
 unfold gN
 have hk:i.toNat<d.nodes_.length:=by omega
 rw[←gD hk]
 exact List.getElem_mem hk
theorem XaI{d:Aa}{s:ByteArray}(h:J8 d)(he:d.entries_.length≤1000000)(hs:s.size≤1000000000)(hl:d.steps_.length<1000000000):J8 (L9 d s):=by
 obtain⟨⟨h1,h2,h3,h4,h5,h6⟩,h7,h8⟩:=h
 obtain⟨e,b,hy⟩:∃e b,A3 d.entries_ s=(e,b):=⟨_,_,rfl⟩
 have hlen:=Rm hy
 have hok:=Xac (l:=d.entries_) h4 hs hy
 unfold L9
 rw[hy]
 refine⟨⟨?_,?_,by show e.length≤_;omega,hok,h5,by rw[List.length_append,List.length_singleton];omega⟩,h7,Q3 h8 hs⟩
 ·exact Nat.le_trans (List.length_filter_le _ _) h1
 ·intro n hn
  exact h2 n (List.mem_filter.1 hn).1
def okG(d d':Aa):Prop:=J8 d'∧d'.steps_.length≤d.steps_.length+1
theorem H4{d:Aa}(h:J8 d):okG d d:=⟨h,Nat.le_succ _⟩
theorem Xc{d:Aa}(h:By d=true):d.entries_.length≤16:=XaB (R6 h).2.2
section
variable {d:Aa} {name text a b:ByteArray}
theorem XhG(h:J8 d)(hl:d.steps_.length<1000000000)(hm:name.size≤500000000):okG d (Be d name).1:=by
 unfold Be
 split
 ·exact H4 h
 ·rename_i hr
  have hr:=by simpa using hr
  split
  ·exact H4 h
  ·split
   ·exact H4 h
   ·split
    ·exact H4 h
    ·rename_i hc
     have hri:=Ip hr
     have hz:=Sw (rfl:Ck d.next_=_) (by unfold Zz;omega)
     refine⟨XaI ?_ (by show d.entries_.length≤_;omega) ?_ hl,by show(d.steps_++[_]).length≤_;rw[List.length_append];exact Nat.le_refl _⟩
     ·obtain⟨⟨h1,h2,h3⟩,h4⟩:=h
      refine⟨⟨by show(d.nodes_++[_]).length≤_;rw[List.length_append,List.length_singleton];omega,?_,h3⟩,h4⟩
      intro n hn
      rcases List.mem_append.1 hn with hn|hn
      ·exact h2 n hn
      ·rw[List.mem_singleton.1 hn]
       exact Nat.zero_le _
     ·simp only[ByteArray.size_append,Bz,List.length_singleton]
      omega
theorem Xg6(h:J8 d)(hl:d.steps_.length<1000000000)(hm:name.size≤500000000):okG d (C6 d name).1:=by
 unfold C6
 split
 ·exact H4 h
 ·rename_i hr
  have hr:By d=true:=by
   cases hc:By d
   ·exact absurd (.inl hc) hr
   ·rfl
  refine⟨XaI h (by have:=Xc hr;omega) ?_ hl,by show(d.steps_++[_]).length≤_;rw[List.length_append];exact Nat.le_refl _⟩
  simp only[ByteArray.size_append,Bz,List.length_singleton]
  omega
theorem Xhh(h:J8 d)(hl:d.steps_.length<1000000000)(ha:a.size≤400000000)(hb:b.size≤400000000):okG d (B7 d a b).1:=by
 unfold B7
 split
 ·exact H4 h
 ·rename_i hr
  have hr:By d=true:=by
   cases hc:By d
   ·exact absurd (.inl hc) hr
   ·rfl
  split
  ·exact H4 h
  ·refine⟨XaI h (by have:=Xc hr;omega) ?_ hl,by show(d.steps_++[_]).length≤_;rw[List.length_append];exact Nat.le_refl _⟩
   simp only[ByteArray.size_append,Bz,List.length_singleton]
   omega
theorem XgL(h:J8 d):okG d (B8 d name text).1:=by
 unfold B8
 split
 ·exact H4 h
 ·rename_i hr
  have hk:0≤Db d name:=Int.not_lt.1 fun k=>hr (.inr k)
  have hr:By d=true:=by
   cases hc:By d
   ·exact absurd (.inl hc) hr
   ·rfl
  have hri:=Ip hr
  have hu:=Xj6 (Xkq hk (Hs rfl).2)
  refine⟨XhI h ?_,Nat.le_succ _⟩
  show((gN d (Db d name)).text_++text.extract 0 _).size≤_
  rw[ByteArray.size_append,ByteArray.size_extract]
  omega
theorem Xlm(h:J8 d):okG d (Dp d name).1:=by
 unfold Dp
 split
 ·exact H4 h
 ·rename_i hr
  have hk:0≤Db d name:=Int.not_lt.1 fun k=>hr (.inr k)
  refine⟨XhI (i:=Db d name) h ?_,Nat.le_succ _⟩
  show(gN d (Db d name)).text_.size≤_
  exact h.1.2.1 _ (Xkq hk (Hs rfl).2)
theorem XjZ(h:J8 d):okG d (D0 d):=by
 unfold D0
 split
 ·exact H4 h
 ·obtain⟨⟨h1,h2,h3,h4,h5,h6⟩,h7,h8⟩:=h
  refine⟨⟨⟨Nat.le_trans (List.length_filter_le _ _) h1,fun n hn=>h2 n (List.mem_filter.1 hn).1,h3,h4,h3,Nat.zero_le _⟩,h4,fun _ hs=>by cases hs⟩,Nat.zero_le _⟩
end
def Dv(d:Aa)(x:TOp):Aa×Int:=if x.kind_=1 then C6 d x.name_ else if x.kind_=2 then Be d x.name_ else if x.kind_=3 then B8 d x.name_ x.text_ else if x.kind_=4 then Dp d x.name_ else if x.kind_=5 then B7 d x.name_ x.to_ else if x.kind_=6 then(D0 d,0)else(d,1)
def okO(x:TOp):Prop:=x.name_.size≤400000000∧x.to_.size≤400000000∧x.text_.size≤1000000000
theorem Xaq{d:Aa}{x:TOp}(h:J8 d)(hl:d.steps_.length<1000000000)(hx:okO x):okG d (Dv d x).1:=by
 unfold okO at hx
 unfold Dv
 split
 ·exact Xg6 h hl (by omega)
 ·split
  ·exact XhG h hl (by omega)
  ·split
   ·exact XgL h
   ·split
    ·exact Xlm h
    ·split
     ·exact Xhh h hl (by omega) (by omega)
     ·split
      ·exact XjZ h
      ·exact H4 h
def Xav:Aa→List TOp→Aa×Int
 |d,[]=>(d,0)
 |d,x::l=>if(Dv d x).2=0 then Xav (Dv d x).1 l else Dv d x
def Hz(d:Aa)(l:List TOp)(n:Int):Aa×Int:=Xav d (l.take (Dt n 0 l.length).toNat)
theorem XeQ:∀{l:List TOp} {d:Aa},J8 d→d.steps_.length+l.length≤1000000000→(∀x∈l,okO x)→J8 (Xav d l).1∧(Xav d l).1.steps_.length≤d.steps_.length+l.length
 |[],d,h,_,_=>⟨h,Nat.le_refl _⟩
 |x::l,d,h,hl,hx=>by
  rw[List.length_cons]at hl
  have h1:=Xaq h (by omega) (hx x List.mem_cons_self)
  have h2:=h1.2
  unfold Xav
  split
  ·have h3:=XeQ (l:=l) h1.1 (by omega) fun y hy=>hx y (List.mem_cons_of_mem _ hy)
   refine⟨h3.1,?_⟩
   rw[List.length_cons]
   omega
  ·refine⟨h1.1,?_⟩
   rw[List.length_cons]
   omega
theorem X5{d:Aa}{l:List TOp}{k:Nat}{x:TOp}(hk:k<l.length)(hx:x=l[k]):Xav d (l.drop k)=if(Dv d x).2=0 then Xav (Dv d x).1 (l.drop (k+1))else Dv d x:=by
 rw[List.drop_eq_getElem_cons hk,←hx]
 rfl
def E4(d:Aa)(v n:Int):Aa:=(Hz d (D1 d v) n).1
variable {Ae G1 onod:List Bk} {Bo Bl Bj Bn Eh Ek Ee El xlist T4 Tx Tz T2:List (List D)} {Ag Ah G2 G3 oent oold:List Ad} {Af G8 oste:List ByteArray} {Ao An xkin G5 G6 ob n version oroo onex:Int} {xnam xto xtex:ByteArray} {list:List TOp}
theorem Xk1(Aj:Ae.map Bg=Bo)(Am:Ag.map Ac=Bl)(At:Ah.map Ac=Bj)(Ap:Af.map cS=Bn)(aa:J8 (⟨Ae,Ag,Ah,Af,Ao,An⟩:Aa))(hs:Af.length<1000000000)(hx:okO (⟨xkin,xnam,xto,xtex⟩:TOp))(hr:Dv (⟨Ae,Ag,Ah,Af,Ao,An⟩:Aa) (⟨xkin,xnam,xto,xtex⟩:TOp)=(⟨G1,G2,G3,G8,G5,G6⟩,ob))(B4:G1.map Bg=Eh)(B1:G2.map Ac=Ek)(B2:G3.map Ac=Ee)(B3:G8.map cS=El):Fn Tryz.prog 205 [.agg [.d (.row 3 Bo),.d (.row 2 Bl),.d (.row 2 Bj),.d (.row 1 Bn),I Ao,I An],.agg [I xkin,S xnam,S xto,S xtex]] [] ⟨.tup [.agg [.d (.row 3 Eh),.d (.row 2 Ek),.d (.row 2 Ee),.d (.row 1 El),I G5,I G6],I ob],[],[]⟩:=by
 refine Fn.go K7 Tryz.func205 fun P hP Q hQ=>?_
 conv=>cbv
 have dg:Ae.length≤1000000000:=aa.1.1
 have dh:Ag.length≤1000000000:=aa.1.2.2.1
 have di:Ah.length≤1000000000:=aa.1.2.2.2.2.1
 have hx3:xnam.size≤400000000∧xto.size≤400000000∧xtex.size≤1000000000:=hx
 refine .eql (fun h1=>?_) fun h1=>?_
 conv=>cbv
 rcases cc:C6 (⟨Ae,Ag,Ah,Af,Ao,An⟩:Aa) xnam with⟨⟨ay,az,a1,a2,bz,b0⟩,c8⟩
 generalize ab:ay.map Bg=cd
 generalize ac:az.map Ac=ce
 generalize ad:a1.map Ac=cf
 generalize ae:a2.map cS=cg
 refine .dd hP (XcV Aj Am At Ap aa.1.1 aa.1.2.2.1 aa.1.2.2.2.2.1 hs aa.2.2 aa (by omega) cc ab ac ad ae) ?_
 conv=>cbv
 have e:((⟨ay,az,a1,a2,bz,b0⟩:Aa),c8)=Dv (⟨Ae,Ag,Ah,Af,Ao,An⟩:Aa) (⟨xkin,xnam,xto,xtex⟩:TOp):=(by unfold Dv;dsimp only;rw[if_pos h1];exact cc.symm)
 rw[hr]at e
 simp only[Prod.mk.injEq,Aa.mk.injEq]at e
 obtain⟨⟨rfl,rfl,rfl,rfl,rfl,rfl⟩,rfl⟩:=e
 refine hQ _ _ ?_
 exact .many (.inl rfl) rfl rfl (.agg (.d rfl (Bm ab B4) (.d rfl (Bm ac B1) (.d rfl (Bm ad B2) (.d rfl (Bm ae B3) (.d rfl rfl (.d rfl rfl (.nil))))))) (.d rfl rfl (.nil)))
 conv=>cbv
 refine .eql (fun h2=>?_) fun h2=>?_
 conv=>cbv
 rcases ch:Be (⟨Ae,Ag,Ah,Af,Ao,An⟩:Aa) xnam with⟨⟨a6,a7,a8,ba,b2,b3⟩,c9⟩
 generalize af:a6.map Bg=ci
 generalize ag:a7.map Ac=cj
 generalize ah:a8.map Ac=ck
 generalize ai:ba.map cS=cm
 refine .dd hP (Xbz Aj Am At Ap aa.1.1 aa.1.2.2.1 aa.1.2.2.2.2.1 hs aa.2.2 aa (by omega) ch af ag ah ai) ?_
 conv=>cbv
 have e:((⟨a6,a7,a8,ba,b2,b3⟩:Aa),c9)=Dv (⟨Ae,Ag,Ah,Af,Ao,An⟩:Aa) (⟨xkin,xnam,xto,xtex⟩:TOp):=(by unfold Dv;dsimp only;rw[if_neg h1,if_pos h2];exact ch.symm)
 rw[hr]at e
 simp only[Prod.mk.injEq,Aa.mk.injEq]at e
 obtain⟨⟨rfl,rfl,rfl,rfl,rfl,rfl⟩,rfl⟩:=e
 refine hQ _ _ ?_
 exact .many (.inl rfl) rfl rfl (.agg (.d rfl (Bm af B4) (.d rfl (Bm ag B1) (.d rfl (Bm ah B2) (.d rfl (Bm ai B3) (.d rfl rfl (.d rfl rfl (.nil))))))) (.d rfl rfl (.nil)))
 conv=>cbv
 refine .eql (fun h3=>?_) fun h3=>?_
 conv=>cbv
 rcases cn:B8 (⟨Ae,Ag,Ah,Af,Ao,An⟩:Aa) xnam xtex with⟨⟨bb,bc,bd,be,b4,b5⟩,da⟩
 generalize aj:bb.map Bg=co
 generalize ak:bc.map Ac=cp
 generalize al:bd.map Ac=cq
 generalize am:be.map cS=cr
 refine .dd hP (Xb1 Aj Am At Ap aa.1.1 aa.1.2.2.1 aa.1.2.2.2.2.1 hs aa.2.2 aa (by omega) cn aj ak al am) ?_
 conv=>cbv
 have e:((⟨bb,bc,bd,be,b4,b5⟩:Aa),da)=Dv (⟨Ae,Ag,Ah,Af,Ao,An⟩:Aa) (⟨xkin,xnam,xto,xtex⟩:TOp):=(by unfold Dv;dsimp only;rw[if_neg h1,if_neg h2,if_pos h3];exact cn.symm)
 rw[hr]at e
 simp only[Prod.mk.injEq,Aa.mk.injEq]at e
 obtain⟨⟨rfl,rfl,rfl,rfl,rfl,rfl⟩,rfl⟩:=e
 refine hQ _ _ ?_
 exact .many (.inl rfl) rfl rfl (.agg (.d rfl (Bm aj B4) (.d rfl (Bm ak B1) (.d rfl (Bm al B2) (.d rfl (Bm am B3) (.d rfl rfl (.d rfl rfl (.nil))))))) (.d rfl rfl (.nil)))
 conv=>cbv
 refine .eql (fun h4=>?_) fun h4=>?_
 conv=>cbv
 rcases ct:Dp (⟨Ae,Ag,Ah,Af,Ao,An⟩:Aa) xnam with⟨⟨bf,bg,bh,bi,b6,b7⟩,db⟩
 generalize an:bf.map Bg=cu
 generalize ao:bg.map Ac=cv
 generalize ap:bh.map Ac=cw
 generalize aq:bi.map cS=cx
 refine .dd hP (XfO Aj Am At Ap aa.1.1 aa.1.2.2.1 aa.1.2.2.2.2.1 hs aa.2.2 aa ct an ao ap aq) ?_
 conv=>cbv
 have e:((⟨bf,bg,bh,bi,b6,b7⟩:Aa),db)=Dv (⟨Ae,Ag,Ah,Af,Ao,An⟩:Aa) (⟨xkin,xnam,xto,xtex⟩:TOp):=(by unfold Dv;dsimp only;rw[if_neg h1,if_neg h2,if_neg h3,if_pos h4];exact ct.symm)
 rw[hr]at e
 simp only[Prod.mk.injEq,Aa.mk.injEq]at e
 obtain⟨⟨rfl,rfl,rfl,rfl,rfl,rfl⟩,rfl⟩:=e
 refine hQ _ _ ?_
 exact .many (.inl rfl) rfl rfl (.agg (.d rfl (Bm an B4) (.d rfl (Bm ao B1) (.d rfl (Bm ap B2) (.d rfl (Bm aq B3) (.d rfl rfl (.d rfl rfl (.nil))))))) (.d rfl rfl (.nil)))
 conv=>cbv
 refine .eql (fun h5=>?_) fun h5=>?_
 conv=>cbv
 rcases cy:B7 (⟨Ae,Ag,Ah,Af,Ao,An⟩:Aa) xnam xto with⟨⟨bj,bk,bl,bm,b8,b9⟩,dc⟩
 generalize ar:bj.map Bg=cz
 generalize au:bk.map Ac=c0
 generalize aw:bl.map Ac=c1
 generalize ax:bm.map cS=c2
 refine .dd hP (Xa5 Aj Am At Ap aa.1.1 aa.1.2.2.1 aa.1.2.2.2.2.1 hs aa.2.2 aa (by omega) cy ar au aw ax) ?_
 conv=>cbv
 have e:((⟨bj,bk,bl,bm,b8,b9⟩:Aa),dc)=Dv (⟨Ae,Ag,Ah,Af,Ao,An⟩:Aa) (⟨xkin,xnam,xto,xtex⟩:TOp):=(by unfold Dv;dsimp only;rw[if_neg h1,if_neg h2,if_neg h3,if_neg h4,if_pos h5];exact cy.symm)
 rw[hr]at e
 simp only[Prod.mk.injEq,Aa.mk.injEq]at e
 obtain⟨⟨rfl,rfl,rfl,rfl,rfl,rfl⟩,rfl⟩:=e
 refine hQ _ _ ?_
 exact .many (.inl rfl) rfl rfl (.agg (.d rfl (Bm ar B4) (.d rfl (Bm au B1) (.d rfl (Bm aw B2) (.d rfl (Bm ax B3) (.d rfl rfl (.d rfl rfl (.nil))))))) (.d rfl rfl (.nil)))
 conv=>cbv
 refine .eql (fun h6=>?_) fun h6=>?_
 conv=>cbv
 rcases c3:D0 (⟨Ae,Ag,Ah,Af,Ao,An⟩:Aa)with⟨bt,bu,bv,bw,ca,cb⟩
 generalize bn:bt.map Bg=c4
 generalize bo:bu.map Ac=c5
 generalize bp:bv.map Ac=c6
 generalize bq:bw.map cS=c7
 refine .dd hP (Xdl Aj Am At Ap aa.1.1 aa.1.2.2.1 aa.1.2.2.2.2.1 hs aa.2.2 aa c3 bn bo bp bq) ?_
 conv=>cbv
 have e:((⟨bt,bu,bv,bw,ca,cb⟩:Aa),0)=Dv (⟨Ae,Ag,Ah,Af,Ao,An⟩:Aa) (⟨xkin,xnam,xto,xtex⟩:TOp):=(by unfold Dv;dsimp only;rw[if_neg h1,if_neg h2,if_neg h3,if_neg h4,if_neg h5,if_pos h6];rw[c3])
 rw[hr]at e
 simp only[Prod.mk.injEq,Aa.mk.injEq]at e
 obtain⟨⟨rfl,rfl,rfl,rfl,rfl,rfl⟩,rfl⟩:=e
 refine hQ _ _ ?_
 exact .many (.inl rfl) rfl rfl (.agg (.d rfl (Bm bn B4) (.d rfl (Bm bo B1) (.d rfl (Bm bp B2) (.d rfl (Bm bq B3) (.d rfl rfl (.d rfl rfl (.nil))))))) (.d rfl rfl (.nil)))
 conv=>cbv
 obtain⟨n8,de⟩:∃m,m=Ae.length:=⟨_,rfl⟩
 obtain⟨n9,df⟩:∃m,m=Af.length:=⟨_,rfl⟩
 refine .ddN hP (Iw Aj Am At Ap (by omega) (by omega) (by omega) (by omega) de df) rfl ?_
 conv=>cbv
 have e:((⟨Ae,Ag,Ah,Af,Ao,An⟩:Aa),1)=Dv (⟨Ae,Ag,Ah,Af,Ao,An⟩:Aa) (⟨xkin,xnam,xto,xtex⟩:TOp):=(by unfold Dv;dsimp only;rw[if_neg h1,if_neg h2,if_neg h3,if_neg h4,if_neg h5,if_neg h6])
 rw[hr]at e
 simp only[Prod.mk.injEq,Aa.mk.injEq]at e
 obtain⟨⟨rfl,rfl,rfl,rfl,rfl,rfl⟩,rfl⟩:=e
 refine hQ _ _ ?_
 exact .many (.inl rfl) rfl rfl (.agg (.ref rfl (Ai Aj) (Bv Aj B4) (.d rfl (Bm Am B1) (.d rfl (Bm At B2) (.ref rfl (Ai Ap) (Bv Ap B3) (.d rfl rfl (.d rfl rfl (.nil))))))) (.d rfl rfl (.nil)))
theorem Xlh(Aj:Ae.map Bg=Bo)(Am:Ag.map Ac=Bl)(At:Ah.map Ac=Bj)(Ap:Af.map cS=Bn)(aa:J8 (⟨Ae,Ag,Ah,Af,Ao,An⟩:Aa))(hs:Af.length<1000000000)(hx:okO (⟨xkin,xnam,xto,xtex⟩:TOp))(hr:Dv (⟨Ae,Ag,Ah,Af,Ao,An⟩:Aa) (⟨xkin,xnam,xto,xtex⟩:TOp)=(⟨G1,G2,G3,G8,G5,G6⟩,ob))(B4:G1.map Bg=Eh)(B1:G2.map Ac=Ek)(B2:G3.map Ac=Ee)(B3:G8.map cS=El):Fn Tryz.prog 192 [.agg [.d (.row 3 Bo),.d (.row 2 Bl),.d (.row 2 Bj),.d (.row 1 Bn),I Ao,I An],.agg [I xkin,S xnam,S xto,S xtex]] [] ⟨.tup [.agg [.d (.row 3 Eh),.d (.row 2 Ek),.d (.row 2 Ee),.d (.row 1 El),I G5,I G6],I ob],[],[]⟩:=by
 refine Fn.go K7 Tryz.func192 fun P hP Q hQ=>?_
 conv=>cbv
 have di:Ae.length≤1000000000:=aa.1.1
 have dj:Ag.length≤1000000000:=aa.1.2.2.1
 have dk:Ah.length≤1000000000:=aa.1.2.2.2.2.1
 have hx3:xnam.size≤400000000∧xto.size≤400000000∧xtex.size≤1000000000:=hx
 refine .eql (fun h1=>?_) fun h1=>?_
 conv=>cbv
 rcases cc:C6 (⟨Ae,Ag,Ah,Af,Ao,An⟩:Aa) xnam with⟨⟨ay,az,a1,a2,bz,b0⟩,da⟩
 generalize ab:ay.map Bg=cd
 generalize ac:az.map Ac=ce
 generalize ad:a1.map Ac=cf
 generalize ae:a2.map cS=cg
 refine .dd hP (Xcg Aj Am At Ap aa.1.1 aa.1.2.2.1 aa.1.2.2.2.2.1 hs aa.2.2 aa (by omega) cc ab ac ad ae) ?_
 conv=>cbv
 have e:((⟨ay,az,a1,a2,bz,b0⟩:Aa),da)=Dv (⟨Ae,Ag,Ah,Af,Ao,An⟩:Aa) (⟨xkin,xnam,xto,xtex⟩:TOp):=(by unfold Dv;dsimp only;rw[if_pos h1];exact cc.symm)
 rw[hr]at e
 simp only[Prod.mk.injEq,Aa.mk.injEq]at e
 obtain⟨⟨rfl,rfl,rfl,rfl,rfl,rfl⟩,rfl⟩:=e
 refine hQ _ _ ?_
 exact .many (.inl rfl) rfl rfl (.agg (.d rfl (Bm ab B4) (.d rfl (Bm ac B1) (.d rfl (Bm ad B2) (.d rfl (Bm ae B3) (.d rfl rfl (.d rfl rfl (.nil))))))) (.d rfl rfl (.nil)))
 conv=>cbv
 refine .eql (fun h2=>?_) fun h2=>?_
 conv=>cbv
 rcases ch:Be (⟨Ae,Ag,Ah,Af,Ao,An⟩:Aa) xnam with⟨⟨a6,a7,a8,ba,b2,b3⟩,db⟩
 generalize af:a6.map Bg=ci
 generalize ag:a7.map Ac=cj
 generalize ah:a8.map Ac=ck
 generalize ai:ba.map cS=cm
 refine .dd hP (Xcr Aj Am At Ap aa.1.1 aa.1.2.2.1 aa.1.2.2.2.2.1 hs aa.2.2 aa (by omega) ch af ag ah ai) ?_
 conv=>cbv
 have e:((⟨a6,a7,a8,ba,b2,b3⟩:Aa),db)=Dv (⟨Ae,Ag,Ah,Af,Ao,An⟩:Aa) (⟨xkin,xnam,xto,xtex⟩:TOp):=(by unfold Dv;dsimp only;rw[if_neg h1,if_pos h2];exact ch.symm)
 rw[hr]at e
 simp only[Prod.mk.injEq,Aa.mk.injEq]at e
 obtain⟨⟨rfl,rfl,rfl,rfl,rfl,rfl⟩,rfl⟩:=e
 refine hQ _ _ ?_
 exact .many (.inl rfl) rfl rfl (.agg (.d rfl (Bm af B4) (.d rfl (Bm ag B1) (.d rfl (Bm ah B2) (.d rfl (Bm ai B3) (.d rfl rfl (.d rfl rfl (.nil))))))) (.d rfl rfl (.nil)))
 conv=>cbv
 refine .eql (fun h3=>?_) fun h3=>?_
 conv=>cbv
 rcases cn:B8 (⟨Ae,Ag,Ah,Af,Ao,An⟩:Aa) xnam xtex with⟨⟨bb,bc,bd,be,b4,b5⟩,dc⟩
 generalize aj:bb.map Bg=co
 generalize ak:bc.map Ac=cp
 generalize al:bd.map Ac=cq
 generalize am:be.map cS=cr
 refine .dd hP (Xbx Aj Am At Ap aa.1.1 aa.1.2.2.1 aa.1.2.2.2.2.1 hs aa.2.2 aa (by omega) cn aj ak al am) ?_
 conv=>cbv
 have e:((⟨bb,bc,bd,be,b4,b5⟩:Aa),dc)=Dv (⟨Ae,Ag,Ah,Af,Ao,An⟩:Aa) (⟨xkin,xnam,xto,xtex⟩:TOp):=(by unfold Dv;dsimp only;rw[if_neg h1,if_neg h2,if_pos h3];exact cn.symm)
 rw[hr]at e
 simp only[Prod.mk.injEq,Aa.mk.injEq]at e
 obtain⟨⟨rfl,rfl,rfl,rfl,rfl,rfl⟩,rfl⟩:=e
 refine hQ _ _ ?_
 exact .many (.inl rfl) rfl rfl (.agg (.d rfl (Bm aj B4) (.d rfl (Bm ak B1) (.d rfl (Bm al B2) (.d rfl (Bm am B3) (.d rfl rfl (.d rfl rfl (.nil))))))) (.d rfl rfl (.nil)))
 conv=>cbv
 refine .eql (fun h4=>?_) fun h4=>?_
 conv=>cbv
 rcases ct:Dp (⟨Ae,Ag,Ah,Af,Ao,An⟩:Aa) xnam with⟨⟨bf,bg,bh,bi,b6,b7⟩,de⟩
 generalize an:bf.map Bg=cu
 generalize ao:bg.map Ac=cv
 generalize ap:bh.map Ac=cw
 generalize aq:bi.map cS=cx
 refine .dd hP (Xgy Aj Am At Ap aa.1.1 aa.1.2.2.1 aa.1.2.2.2.2.1 hs aa.2.2 aa ct an ao ap aq) ?_
 conv=>cbv
 have e:((⟨bf,bg,bh,bi,b6,b7⟩:Aa),de)=Dv (⟨Ae,Ag,Ah,Af,Ao,An⟩:Aa) (⟨xkin,xnam,xto,xtex⟩:TOp):=(by unfold Dv;dsimp only;rw[if_neg h1,if_neg h2,if_neg h3,if_pos h4];exact ct.symm)
 rw[hr]at e
 simp only[Prod.mk.injEq,Aa.mk.injEq]at e
 obtain⟨⟨rfl,rfl,rfl,rfl,rfl,rfl⟩,rfl⟩:=e
 refine hQ _ _ ?_
 exact .many (.inl rfl) rfl rfl (.agg (.d rfl (Bm an B4) (.d rfl (Bm ao B1) (.d rfl (Bm ap B2) (.d rfl (Bm aq B3) (.d rfl rfl (.d rfl rfl (.nil))))))) (.d rfl rfl (.nil)))
 conv=>cbv
 refine .eql (fun h5=>?_) fun h5=>?_
 conv=>cbv
 rcases cy:B7 (⟨Ae,Ag,Ah,Af,Ao,An⟩:Aa) xnam xto with⟨⟨bj,bk,bl,bm,b8,b9⟩,df⟩
 generalize ar:bj.map Bg=cz
 generalize au:bk.map Ac=c0
 generalize aw:bl.map Ac=c1
 generalize ax:bm.map cS=c2
 refine .dd hP (Xb4 Aj Am At Ap aa.1.1 aa.1.2.2.1 aa.1.2.2.2.2.1 hs aa.2.2 aa (by omega) cy ar au aw ax) ?_
 conv=>cbv
 have e:((⟨bj,bk,bl,bm,b8,b9⟩:Aa),df)=Dv (⟨Ae,Ag,Ah,Af,Ao,An⟩:Aa) (⟨xkin,xnam,xto,xtex⟩:TOp):=(by unfold Dv;dsimp only;rw[if_neg h1,if_neg h2,if_neg h3,if_neg h4,if_pos h5];exact cy.symm)
 rw[hr]at e
 simp only[Prod.mk.injEq,Aa.mk.injEq]at e
 obtain⟨⟨rfl,rfl,rfl,rfl,rfl,rfl⟩,rfl⟩:=e
 refine hQ _ _ ?_
 exact .many (.inl rfl) rfl rfl (.agg (.d rfl (Bm ar B4) (.d rfl (Bm au B1) (.d rfl (Bm aw B2) (.d rfl (Bm ax B3) (.d rfl rfl (.d rfl rfl (.nil))))))) (.d rfl rfl (.nil)))
 conv=>cbv
 refine .eql (fun h6=>?_) fun h6=>?_
 conv=>cbv
 rcases c3:D0 (⟨Ae,Ag,Ah,Af,Ao,An⟩:Aa)with⟨bt,bu,bv,bw,ca,cb⟩
 generalize bn:bt.map Bg=c6
 generalize bo:bu.map Ac=c7
 generalize bp:bv.map Ac=c8
 generalize bq:bw.map cS=c9
 refine .dd hP (Xdd Aj Am At Ap aa.1.1 aa.1.2.2.1 aa.1.2.2.2.2.1 hs aa.2.2 aa c3 bn bo bp bq) ?_
 conv=>cbv
 have e:((⟨bt,bu,bv,bw,ca,cb⟩:Aa),0)=Dv (⟨Ae,Ag,Ah,Af,Ao,An⟩:Aa) (⟨xkin,xnam,xto,xtex⟩:TOp):=(by unfold Dv;dsimp only;rw[if_neg h1,if_neg h2,if_neg h3,if_neg h4,if_neg h5,if_pos h6];rw[c3])
 rw[hr]at e
 simp only[Prod.mk.injEq,Aa.mk.injEq]at e
 obtain⟨⟨rfl,rfl,rfl,rfl,rfl,rfl⟩,rfl⟩:=e
 refine hQ _ _ ?_
 exact .many (.inl rfl) rfl rfl (.agg (.d rfl (Bm bn B4) (.d rfl (Bm bo B1) (.d rfl (Bm bp B2) (.d rfl (Bm bq B3) (.d rfl rfl (.d rfl rfl (.nil))))))) (.d rfl rfl (.nil)))
 conv=>cbv
 obtain⟨n8,dg⟩:∃m,m=Ae.length:=⟨_,rfl⟩
 obtain⟨n9,dh⟩:∃m,m=Ag.length:=⟨_,rfl⟩
 obtain⟨dl,c4⟩:∃m,m=Ah.length:=⟨_,rfl⟩
 obtain⟨dm,c5⟩:∃m,m=Af.length:=⟨_,rfl⟩
 refine .ddN hP (Ku Aj Am At Ap (by omega) (by omega) (by omega) (by omega) dg dh c4 c5) rfl ?_
 conv=>cbv
 have e:((⟨Ae,Ag,Ah,Af,Ao,An⟩:Aa),1)=Dv (⟨Ae,Ag,Ah,Af,Ao,An⟩:Aa) (⟨xkin,xnam,xto,xtex⟩:TOp):=(by unfold Dv;dsimp only;rw[if_neg h1,if_neg h2,if_neg h3,if_neg h4,if_neg h5,if_neg h6])
 rw[hr]at e
 simp only[Prod.mk.injEq,Aa.mk.injEq]at e
 obtain⟨⟨rfl,rfl,rfl,rfl,rfl,rfl⟩,rfl⟩:=e
 refine hQ _ _ ?_
 exact .many (.inl rfl) rfl rfl (.agg (.ref rfl (Ai Aj) (Bv Aj B4) (.ref rfl (Ai Am) (Bv Am B1) (.ref rfl (Ai At) (Bv At B2) (.ref rfl (Ai Ap) (Bv Ap B3) (.d rfl rfl (.d rfl rfl (.nil))))))) (.d rfl rfl (.nil)))
theorem Xjv(Aj:Ae.map Bg=Bo)(Am:Ag.map Ac=Bl)(At:Ah.map Ac=Bj)(Ap:Af.map cS=Bn)(hlist:list.map eOp=xlist)(bf:J8 (⟨Ae,Ag,Ah,Af,Ao,An⟩:Aa))(hs:Af.length+list.length≤900000000)(hl:∀x∈list,okO x)(hr:Hz (⟨Ae,Ag,Ah,Af,Ao,An⟩:Aa) list n=(⟨G1,G2,G3,G8,G5,G6⟩,ob))(B4:G1.map Bg=Eh)(B1:G2.map Ac=Ek)(B2:G3.map Ac=Ee)(B3:G8.map cS=El):Fn Tryz.prog 113 [.agg [.d (.row 3 Bo),.d (.row 2 Bl),.d (.row 2 Bj),.d (.row 1 Bn),I Ao,I An],.d (.row 4 xlist),I n] [] ⟨.tup [.agg [.d (.row 3 Eh),.d (.row 2 Ek),.d (.row 2 Ee),.d (.row 1 El),I G5,I G6],I ob],[],[]⟩:=by
 refine Fn.go K7 Tryz.func113 fun P hP Q hQ=>?_
 conv=>cbv
 have bq:Ae.length≤1000000000:=bf.1.1
 have bh:Ag.length≤1000000000:=bf.1.2.2.1
 have bt:Ah.length≤1000000000:=bf.1.2.2.2.2.1
 refine .dd hP (Xdj Aj Am At Ap (by omega) (by omega) (by omega) (by omega)) ?_
 conv=>cbv
 refine .go hlist fun v2 bm=>?_
 conv=>cbv
 generalize bi:Dt n 0 v2=r3
 refine .dd hP (XhC bi) ?_
 conv=>cbv
 have hbr:0≤r3∧r3≤list.length:=by rw[←bi];unfold Dt;split<;>(try split)<;>(try split)<;>omega
 refine .hi hlist fun x4 hx4=>?_
 conv=>cbv
 refine .go hx4 fun v5 bu=>?_
 conv=>cbv
 refine LoopW.lp (κ:=Int×(List (List D))×(List (List D))×(List (List D))×(List (List D))×Int×Int) K7 hP [] [6,8,20,21] (fun(ak,ad,ae,af,ag,aa,ab)=>[(22,I ak)]) (fun(ak,ad,ae,af,ag,aa,ab)=>[(10,.box 40 [.d (.row 3 ad),.d (.row 2 ae),.d (.row 2 af),.d (.row 1 ag),I aa,I ab])])
  (fun(ak,ad,ae,af,ag,aa,ab)=>∃(ah:List Bk) (ai:List Ad) (aj:List Ad) (ac:List ByteArray),ah.map Bg=ad∧ai.map Ac=ae∧aj.map Ac=af∧ac.map cS=ag∧0≤ak∧ak≤(list.take r3.toNat).length∧J8 (⟨ah,ai,aj,ac,aa,ab⟩:Aa)∧ac.length≤Af.length+ak∧Hz (⟨Ae,Ag,Ah,Af,Ao,An⟩:Aa) list n=Xav (⟨ah,ai,aj,ac,aa,ab⟩:Aa) ((list.take r3.toNat).drop ak.toNat))
  (fun(ak,ad,ae,af,ag,aa,ab)=>((list.take r3.toNat).length - ak).toNat) (0,Bo,Bl,Bj,Bn,Ao,An) ⟨Ae,Ag,Ah,Af,Aj,Am,At,Ap,by omega,by omega,bf,by omega,by unfold Hz;rw[←bm,bi];rfl⟩ ⟨rfl,trivial⟩ rfl ?_
 rintro⟨ak,ad,ae,af,ag,aa,ab⟩ J ⟨ah,ai,aj,ac,a2,a6,a7,a8,h0,h1,bh,hqs,hio⟩ hJ
 have htl:(list.take r3.toNat).length≤list.length:=by rw[List.length_take];omega
 conv=>cbv
 refine .lss (fun h6=>?_) fun h6=>?_
 conv=>cbv
 refine .go ak.toNat hx4 fun bg ⟨ap,aq,ba,ar⟩ bj=>?_
 conv=>cbv
 have hox:okO (⟨ap,aq,ba,ar⟩:TOp):=by rw[bj];exact hl _ (List.mem_of_mem_take (List.getElem_mem bg))
 rcases bk:Dv (⟨ah,ai,aj,ac,aa,ab⟩:Aa) (⟨ap,aq,ba,ar⟩:TOp)with⟨⟨au,aw,ax,ay,az,a1⟩,bn⟩
 generalize al:au.map Bg=bb
 generalize am:aw.map Ac=bc
 generalize an:ax.map Ac=bd
 generalize ao:ay.map cS=be
 refine .dd hP (Xk1 a2 a6 a7 a8 bh (by omega) hox bk al am an ao) ?_
 conv=>cbv
 have hg:=Xaq (d:=(⟨ah,ai,aj,ac,aa,ab⟩:Aa)) bh (by show ac.length<_;omega) hox
 have hstep:=X5 (d:=(⟨ah,ai,aj,ac,aa,ab⟩:Aa)) (x:=(⟨ap,aq,ba,ar⟩:TOp)) bg bj
 rw[bk]at hg hstep
 have bo:=hg.2
 simp only[]at bo
 refine .neq (fun h9=>?_) fun h9=>?_
 conv=>cbv
 have e:((⟨au,aw,ax,ay,az,a1⟩:Aa),bn)=Hz (⟨Ae,Ag,Ah,Af,Ao,An⟩:Aa) list n:=(by rw[hio,hstep];symm;exact if_neg (by omega))
 rw[hr]at e
 simp only[Prod.mk.injEq,Aa.mk.injEq]at e
 obtain⟨⟨rfl,rfl,rfl,rfl,rfl,rfl⟩,rfl⟩:=e
 refine hQ _ _ ?_
 exact .many (.inl rfl) rfl rfl (.agg (.d rfl (Bm al B4) (.d rfl (Bm am B1) (.d rfl (Bm an B2) (.d rfl (Bm ao B3) (.d rfl rfl (.d rfl rfl (.nil))))))) (.d rfl rfl (.nil)))
 conv=>cbv
 refine .add fun bl bp=>?_
 conv=>cbv
 exact .go [] (bl,bb,bc,bd,be,az,a1) (hJ _ ⟨_,_,_,_,al,am,an,ao,by omega,by omega,hg.1,by omega,by rw[hio,hstep,show bl.toNat=ak.toNat+1 by omega];exact if_pos (by omega)⟩ mlt)
 conv=>cbv
 have e:((⟨ah,ai,aj,ac,aa,ab⟩:Aa),0)=Hz (⟨Ae,Ag,Ah,Af,Ao,An⟩:Aa) list n:=(by rw[hio,List.drop_of_length_le (by omega)];rfl)
 rw[hr]at e
 simp only[Prod.mk.injEq,Aa.mk.injEq]at e
 obtain⟨⟨rfl,rfl,rfl,rfl,rfl,rfl⟩,rfl⟩:=e
 refine hQ _ _ ?_
 exact .many (.inl rfl) rfl rfl (.agg (.d rfl (Bm a2 B4) (.d rfl (Bm a6 B1) (.d rfl (Bm a7 B2) (.d rfl (Bm a8 B3) (.d rfl rfl (.d rfl rfl (.nil))))))) (.d rfl rfl (.nil)))
theorem Xjn(Aj:Ae.map Bg=Bo)(Am:Ag.map Ac=Bl)(At:Ah.map Ac=Bj)(Ap:Af.map cS=Bn)(hlist:list.map eOp=xlist)(ba:J8 (⟨Ae,Ag,Ah,Af,Ao,An⟩:Aa))(hs:Af.length+list.length≤900000000)(hl:∀x∈list,okO x)(hr:Hz (⟨Ae,Ag,Ah,Af,Ao,An⟩:Aa) list n=(⟨G1,G2,G3,G8,G5,G6⟩,ob))(B4:G1.map Bg=Eh)(B1:G2.map Ac=Ek)(B2:G3.map Ac=Ee)(B3:G8.map cS=El):Fn Tryz.prog 103 [.agg [.d (.row 3 Bo),.d (.row 2 Bl),.d (.row 2 Bj),.d (.row 1 Bn),I Ao,I An],.d (.row 4 xlist),I n] [] ⟨.tup [.agg [.d (.row 3 Eh),.d (.row 2 Ek),.d (.row 2 Ee),.d (.row 1 El),I G5,I G6],I ob],[],[]⟩:=by
 refine Fn.go K7 Tryz.func103 fun P hP Q hQ=>?_
 conv=>cbv
 have bn:Ae.length≤1000000000:=ba.1.1
 have bf:Ag.length≤1000000000:=ba.1.2.2.1
 have bo:Ah.length≤1000000000:=ba.1.2.2.2.2.1
 refine .dd hP (Xgw Aj Am At Ap (by omega) (by omega) (by omega) (by omega)) ?_
 conv=>cbv
 refine .go hlist fun v2 bk=>?_
 conv=>cbv
 generalize bg:Dt n 0 v2=r3
 refine .dd hP (XcD bg) ?_
 conv=>cbv
 have hbr:0≤r3∧r3≤list.length:=by rw[←bg];unfold Dt;split<;>(try split)<;>(try split)<;>omega
 refine LoopW.lp (κ:=Int×(List (List D))×(List (List D))×(List (List D))×(List (List D))×Int×Int) K7 hP [] [1,2,3,6] (fun(i8,ah,ai,aj,ak,aa,ab)=>[(8,I i8)]) (fun(i8,ah,ai,aj,ak,aa,ab)=>[(0,.box 40 [.d (.row 3 ah),.d (.row 2 ai),.d (.row 2 aj),.d (.row 1 ak),I aa,I ab])])
  (fun(i8,ah,ai,aj,ak,aa,ab)=>∃(al:List Bk) (am:List Ad) (an:List Ad) (ag:List ByteArray),al.map Bg=ah∧am.map Ac=ai∧an.map Ac=aj∧ag.map cS=ak∧0≤i8∧i8≤r3∧J8 (⟨al,am,an,ag,aa,ab⟩:Aa)∧ag.length≤Af.length+i8∧Hz (⟨Ae,Ag,Ah,Af,Ao,An⟩:Aa) list n=Xav (⟨al,am,an,ag,aa,ab⟩:Aa) ((list.take r3.toNat).drop i8.toNat))
  (fun(i8,ah,ai,aj,ak,aa,ab)=>(r3 - i8).toNat) (0,Bo,Bl,Bj,Bn,Ao,An) ⟨Ae,Ag,Ah,Af,Aj,Am,At,Ap,by omega,by omega,ba,by omega,by unfold Hz;rw[←bk,bg];rfl⟩ ⟨rfl,trivial⟩ rfl ?_
 rintro⟨i8,ah,ai,aj,ak,aa,ab⟩ J ⟨al,am,an,ag,bb,bc,bd,be,h0,h1,bf,hqs,hio⟩ hJ
 have htl:(list.take r3.toNat).length≤list.length:=by rw[List.length_take];omega
 conv=>cbv
 refine .lss (fun h4=>?_) fun h4=>?_
 conv=>cbv
 refine .go i8.toNat hlist fun bh ⟨ao,ap,a1,aq⟩ bi=>?_
 conv=>cbv
 have hox:okO (⟨ao,ap,a1,aq⟩:TOp):=by rw[bi];exact hl _ (List.getElem_mem bh)
 rcases bj:Dv (⟨al,am,an,ag,aa,ab⟩:Aa) (⟨ao,ap,a1,aq⟩:TOp)with⟨⟨ar,au,aw,ax,ay,az⟩,bl⟩
 generalize ac:ar.map Bg=a2
 generalize ad:au.map Ac=a6
 generalize ae:aw.map Ac=a7
 generalize af:ax.map cS=a8
 refine .dd hP (Xlh bb bc bd be bf (by omega) hox bj ac ad ae af) ?_
 conv=>cbv
 have hg:=Xaq (d:=(⟨al,am,an,ag,aa,ab⟩:Aa)) bf (by show ag.length<_;omega) hox
 have hstep:=X5 (d:=(⟨al,am,an,ag,aa,ab⟩:Aa)) (x:=(⟨ao,ap,a1,aq⟩:TOp)) (show i8.toNat<(list.take r3.toNat).length by rw[List.length_take];omega) (by rw[List.getElem_take];exact bi)
 rw[bj]at hg hstep
 have bm:=hg.2
 simp only[]at bm
 refine .neq (fun h7=>?_) fun h7=>?_
 conv=>cbv
 have e:((⟨ar,au,aw,ax,ay,az⟩:Aa),bl)=Hz (⟨Ae,Ag,Ah,Af,Ao,An⟩:Aa) list n:=(by rw[hio,hstep];symm;exact if_neg (by omega))
 rw[hr]at e
 simp only[Prod.mk.injEq,Aa.mk.injEq]at e
 obtain⟨⟨rfl,rfl,rfl,rfl,rfl,rfl⟩,rfl⟩:=e
 refine hQ _ _ ?_
 exact .many (.inl rfl) rfl rfl (.agg (.d rfl (Bm ac B4) (.d rfl (Bm ad B1) (.d rfl (Bm ae B2) (.d rfl (Bm af B3) (.d rfl rfl (.d rfl rfl (.nil))))))) (.d rfl rfl (.nil)))
 conv=>cbv
 refine .add fun v8 bp=>?_
 conv=>cbv
 exact .go [] (v8,a2,a6,a7,a8,ay,az) (hJ _ ⟨_,_,_,_,ac,ad,ae,af,by omega,by omega,hg.1,by omega,by rw[hio,hstep,show v8.toNat=i8.toNat+1 by omega];exact if_pos (by omega)⟩ mlt)
 conv=>cbv
 have e:((⟨al,am,an,ag,aa,ab⟩:Aa),0)=Hz (⟨Ae,Ag,Ah,Af,Ao,An⟩:Aa) list n:=(by rw[hio,List.drop_of_length_le (by rw[List.length_take];omega)];rfl)
 rw[hr]at e
 simp only[Prod.mk.injEq,Aa.mk.injEq]at e
 obtain⟨⟨rfl,rfl,rfl,rfl,rfl,rfl⟩,rfl⟩:=e
 refine hQ _ _ ?_
 exact .many (.inl rfl) rfl rfl (.agg (.d rfl (Bm bb B4) (.d rfl (Bm bc B1) (.d rfl (Bm bd B2) (.d rfl (Bm be B3) (.d rfl rfl (.d rfl rfl (.nil))))))) (.d rfl rfl (.nil)))
theorem Xdx{n:ByteArray}(h:(Bu n).1=2∨(Bu n).1=1):n.size≤17:=by
 have h:(Bu n).1≠0:=by omega
 unfold Bu at h
 split at h
 ·split at h
  ·rename_i c;omega
  ·split at h
   ·rename_i c;omega
   ·exact absurd rfl h
 ·exact absurd rfl h
theorem XlG:(tx []).size=0:=by simp[Bz]
theorem Xct{l:List ByteArray}(h:∀n∈l,n.size≤17):∀x∈Fm l,okO x:=by
 unfold Fm
 split
 ·simp
 ·intro x hx
  rw[List.mem_append,List.mem_map,List.mem_singleton]at hx
  unfold okO
  rcases hx with⟨n,hn,rfl⟩|rfl
  ·have:=h n hn
   exact⟨by show n.size≤_;omega,by show(tx []).size≤_;rw[XlG];omega,by show(tx []).size≤_;rw[XlG];omega⟩
  ·simp only[XlG];omega
theorem Xlw(b:Int){t:ByteArray}(h:t.size≤200000):∀x∈F9 b t,okO x:=by
 have h1:(As b).size≤13:=Hf rfl
 have h2:(Cg b).size≤17:=Xej rfl
 intro x hx
 unfold F9 at hx
 simp only[List.mem_cons,List.not_mem_nil,or_false]at hx
 unfold okO
 rcases hx with rfl|rfl|rfl|rfl|rfl<;>(simp only[XlG];omega)
theorem XiH{d:Aa}{v:Int}:∀x∈D1 d v,okO x:=by
 have hn:∀n∈Ce d,n.size≤17:=fun n h=>Xdx (Ys rfl n h)
 intro x hx
 unfold D1 Zs Xat at hx
 simp only[List.mem_append,List.mem_flatMap]at hx
 rcases hx with(((⟨b,_,h⟩|h)|h)|⟨b,_,h⟩)|h
 ·have h1:(As b).size≤13:=Hf rfl
  unfold Gm at h
  split at h
  ·cases h
  ·rw[List.mem_singleton]at h
   subst h
   unfold okO
   simp only[XlG];omega
 ·split at h
  ·cases h
  ·rw[List.mem_singleton]at h
   subst h
   unfold okO
   simp only[XlG];omega
 ·exact Xct (fun n h=>hn n (List.mem_filter.1 h).1) x h
 ·unfold E8 at h
  split at h
  ·cases h
  ·exact Xlw b (Qc rfl) x h
 ·exact Xct (fun n h=>hn n (List.mem_filter.1 (List.mem_reverse.1 h)).1) x h
theorem Kd{d:Aa}{v:Int}:(D1 d v).length≤100+2*d.entries_.length:=by
 unfold D1 Zs Xat
 have h1:=J7 (rfl:Ex d=_)
 have h2:(Ce d).length≤d.entries_.length:=by
  unfold Ce
  have:=List.length_filter_le (Nj (Ex d)) (d.entries_.map fun e=>e.name_)
  rw[List.length_map]at this
  exact this
 have h3:=Xfk (fun x=>Ry (d:=d) x) (Ex d)
 have h4:=Xfk (fun x=>XgY (d:=d) (v:=W9 v) x) (Ex d)
 have h5:=Mx (l:=(Ce d).filter G7)
 have h6:=Mx (l:=((Ce d).filter (fun n=>!G7 n)).reverse)
 have h7:=List.length_filter_le G7 (Ce d)
 have h8:=List.length_filter_le (fun n=>!G7 n) (Ce d)
 rw[List.length_reverse]at h6
 have h9:(if d.steps_=[]then[]else[(⟨6,tx [],tx [],tx []⟩:TOp)]).length≤1:=by split<;>simp
 simp only[List.length_append]
 omega
theorem Xgc(Aj:Ae.map Bg=Bo)(Am:Ag.map Ac=Bl)(At:Ah.map Ac=Bj)(Ap:Af.map cS=Bn)(al:J8 (⟨Ae,Ag,Ah,Af,Ao,An⟩:Aa))(hes:Ag.length≤100000000)(hst:Af.length≤100000000)(hr:E4 (⟨Ae,Ag,Ah,Af,Ao,An⟩:Aa) version n=⟨onod,oent,oold,oste,oroo,onex⟩)(Vy:onod.map Bg=T4)(U1:oent.map Ac=Tx)(Uu:oold.map Ac=Tz)(Vj:oste.map cS=T2):Fn Tryz.prog 125 [.agg [.d (.row 3 Bo),.d (.row 2 Bl),.d (.row 2 Bj),.d (.row 1 Bn),I Ao,I An],I version,I n] [] ⟨.agg [.d (.row 3 T4),.d (.row 2 Tx),.d (.row 2 Tz),.d (.row 1 T2),I oroo,I onex],[],[]⟩:=by
 refine Fn.go K7 Tryz.func125 fun P hP Q hQ=>?_
 conv=>cbv
 generalize ai:D1 (⟨Ae,Ag,Ah,Af,Ao,An⟩:Aa) version=l1
 generalize am:l1.map eOp=au
 refine .dd hP (Xev Aj Am At Ap al.1 ai am) ?_
 conv=>cbv
 have hpl:=Kd (d:=(⟨Ae,Ag,Ah,Af,Ao,An⟩:Aa)) (v:=version)
 rw[ai]at hpl
 simp only[]at hpl
 rcases an:Hz (⟨Ae,Ag,Ah,Af,Ao,An⟩:Aa) l1 n with⟨⟨ae,af,ag,ah,aj,ak⟩,aw⟩
 generalize aa:ae.map Bg=ao
 generalize ab:af.map Ac=ap
 generalize ac:ag.map Ac=aq
 generalize ad:ah.map cS=ar
 refine .dd hP (Xjv Aj Am At Ap am al (by omega) (by rw[←ai];exact XiH) an aa ab ac ad) ?_
 conv=>cbv
 have e:(⟨ae,af,ag,ah,aj,ak⟩:Aa)=E4 (⟨Ae,Ag,Ah,Af,Ao,An⟩:Aa) version n:=(by unfold E4;rw[ai,an])
 rw[hr]at e
 simp only[Aa.mk.injEq]at e
 obtain⟨rfl,rfl,rfl,rfl,rfl,rfl⟩:=e
 exact hQ _ _ (.one (.inl rfl) rfl (.agg (.d rfl (Bm aa Vy) (.d rfl (Bm ab U1) (.d rfl (Bm ac Uu) (.d rfl (Bm ad Vj) (.d rfl rfl (.d rfl rfl (.nil))))))) .nil))
theorem Xgo(Aj:Ae.map Bg=Bo)(Am:Ag.map Ac=Bl)(At:Ah.map Ac=Bj)(Ap:Af.map cS=Bn)(al:J8 (⟨Ae,Ag,Ah,Af,Ao,An⟩:Aa))(hes:Ag.length≤100000000)(hst:Af.length≤100000000)(hr:E4 (⟨Ae,Ag,Ah,Af,Ao,An⟩:Aa) version n=⟨onod,oent,oold,oste,oroo,onex⟩)(Vy:onod.map Bg=T4)(U1:oent.map Ac=Tx)(Uu:oold.map Ac=Tz)(Vj:oste.map cS=T2):Fn Tryz.prog 122 [.agg [.d (.row 3 Bo),.d (.row 2 Bl),.d (.row 2 Bj),.d (.row 1 Bn),I Ao,I An],I version,I n] [] ⟨.agg [.d (.row 3 T4),.d (.row 2 Tx),.d (.row 2 Tz),.d (.row 1 T2),I oroo,I onex],[],[]⟩:=by
 refine Fn.go K7 Tryz.func122 fun P hP Q hQ=>?_
 conv=>cbv
 generalize ai:D1 (⟨Ae,Ag,Ah,Af,Ao,An⟩:Aa) version=l1
 generalize am:l1.map eOp=au
 refine .dd hP (XfK Aj Am At Ap al.1 ai am) ?_
 conv=>cbv
 have hpl:=Kd (d:=(⟨Ae,Ag,Ah,Af,Ao,An⟩:Aa)) (v:=version)
 rw[ai]at hpl
 simp only[]at hpl
 rcases an:Hz (⟨Ae,Ag,Ah,Af,Ao,An⟩:Aa) l1 n with⟨⟨ae,af,ag,ah,aj,ak⟩,aw⟩
 generalize aa:ae.map Bg=ao
 generalize ab:af.map Ac=ap
 generalize ac:ag.map Ac=aq
 generalize ad:ah.map cS=ar
 refine .dd hP (Xjn Aj Am At Ap am al (by omega) (by rw[←ai];exact XiH) an aa ab ac ad) ?_
 conv=>cbv
 have e:(⟨ae,af,ag,ah,aj,ak⟩:Aa)=E4 (⟨Ae,Ag,Ah,Af,Ao,An⟩:Aa) version n:=(by unfold E4;rw[ai,an])
 rw[hr]at e
 simp only[Aa.mk.injEq]at e
 obtain⟨rfl,rfl,rfl,rfl,rfl,rfl⟩:=e
 exact hQ _ _ (.one (.inl rfl) rfl (.agg (.d rfl (Bm aa Vy) (.d rfl (Bm ab U1) (.d rfl (Bm ac Uu) (.d rfl (Bm ad Vj) (.d rfl rfl (.d rfl rfl (.nil))))))) .nil))
end
section
open Go Go.Proofs
set_option maxRecDepth 20000
set_option maxHeartbeats 4000000
end
section
open Go Go.Proofs
set_option maxRecDepth 20000
set_option maxHeartbeats 4000000
def Xb6:List (Nat×TyRow):=[ty3,Xcn,XgK,Zr,ty43,Xk9]
theorem Xa1:B9 Tryz.prog Xb6:=B9.of (by kernel_rfl)
theorem La:Setup Tryz.prog Xb6:=⟨Xa1,mixed⟩
theorem Xbc{d:Aa}{v n:Int}(h:J8 d)(he:d.entries_.length≤100000000)(hs:d.steps_.length≤100000000):J8 (E4 d v n):=by
 have:=Kd (d:=d) (v:=v)
 unfold E4 Hz
 exact(XeQ h (by rw[List.length_take];omega) (fun x hx=>XiH x (List.mem_of_mem_take hx))).1
def Lf(d:Aa)(v:Int):Int:=(D1 d v).length
def Im(d:Aa):Int:=(Pz d).length
def D4(d:Aa)(v:Int):List Int:=(List.range ((D1 d v).length+1)).map fun n:Nat=>Im (E4 d v (n:Int))
variable {Ae:List Bk} {Bo Bl Bj Bn xo:List (List D)} {Ag Ah:List Ad} {Af:List ByteArray} {Ao An version o:Int}
theorem XiL(Aj:Ae.map Bg=Bo)(Am:Ag.map Ac=Bl)(At:Ah.map Ac=Bj)(Ap:Af.map cS=Bn)(ac:J8 (⟨Ae,Ag,Ah,Af,Ao,An⟩:Aa))(hr:Lf (⟨Ae,Ag,Ah,Af,Ao,An⟩:Aa) version=o):Fn Tryz.prog 123 [.agg [.d (.row 3 Bo),.d (.row 2 Bl),.d (.row 2 Bj),.d (.row 1 Bn),I Ao,I An],I version] [] ⟨I o,[],[]⟩:=by
 refine Fn.go La Tryz.func123 fun P hP Q hQ=>?_
 conv=>cbv
 generalize aa:D1 (⟨Ae,Ag,Ah,Af,Ao,An⟩:Aa) version=l1
 generalize ab:l1.map eOp=ae
 refine .dd hP (Xev Aj Am At Ap ac.1 aa ab) ?_
 conv=>cbv
 refine .go ab fun v2 ad=>?_
 conv=>cbv
 have e:v2=Lf (⟨Ae,Ag,Ah,Af,Ao,An⟩:Aa) version:=(by unfold Lf;rw[aa,ad])
 rw[hr]at e
 subst e
 exact hQ _ _ (.i rfl rfl)
theorem Xi9(Aj:Ae.map Bg=Bo)(Am:Ag.map Ac=Bl)(At:Ah.map Ac=Bj)(Ap:Af.map cS=Bn)(ac:J8 (⟨Ae,Ag,Ah,Af,Ao,An⟩:Aa))(hr:Im (⟨Ae,Ag,Ah,Af,Ao,An⟩:Aa)=o):Fn Tryz.prog 124 [.agg [.d (.row 3 Bo),.d (.row 2 Bl),.d (.row 2 Bj),.d (.row 1 Bn),I Ao,I An]] [] ⟨I o,[],[]⟩:=by
 refine Fn.go La Tryz.func124 fun P hP Q hQ=>?_
 conv=>cbv
 generalize aa:Pz (⟨Ae,Ag,Ah,Af,Ao,An⟩:Aa)=l1
 generalize ab:l1.map cS=ae
 refine .dd hP (Xlq Aj Am At Ap ac.1 aa ab) ?_
 conv=>cbv
 refine .go ab fun v2 ad=>?_
 conv=>cbv
 have e:v2=Im (⟨Ae,Ag,Ah,Af,Ao,An⟩:Aa):=(by unfold Im;rw[aa,ad])
 rw[hr]at e
 subst e
 exact hQ _ _ (.i rfl rfl)
theorem XiI(Aj:Ae.map Bg=Bo)(Am:Ag.map Ac=Bl)(At:Ah.map Ac=Bj)(Ap:Af.map cS=Bn)(ac:J8 (⟨Ae,Ag,Ah,Af,Ao,An⟩:Aa))(hr:Lf (⟨Ae,Ag,Ah,Af,Ao,An⟩:Aa) version=o):Fn Tryz.prog 120 [.agg [.d (.row 3 Bo),.d (.row 2 Bl),.d (.row 2 Bj),.d (.row 1 Bn),I Ao,I An],I version] [] ⟨I o,[],[]⟩:=by
 refine Fn.go La Tryz.func120 fun P hP Q hQ=>?_
 conv=>cbv
 generalize aa:D1 (⟨Ae,Ag,Ah,Af,Ao,An⟩:Aa) version=l1
 generalize ab:l1.map eOp=ae
 refine .dd hP (XfK Aj Am At Ap ac.1 aa ab) ?_
 conv=>cbv
 refine .go ab fun v2 ad=>?_
 conv=>cbv
 have e:v2=Lf (⟨Ae,Ag,Ah,Af,Ao,An⟩:Aa) version:=(by unfold Lf;rw[aa,ad])
 rw[hr]at e
 subst e
 exact hQ _ _ (.i rfl rfl)
theorem Xjl(Aj:Ae.map Bg=Bo)(Am:Ag.map Ac=Bl)(At:Ah.map Ac=Bj)(Ap:Af.map cS=Bn)(ac:J8 (⟨Ae,Ag,Ah,Af,Ao,An⟩:Aa))(hr:Im (⟨Ae,Ag,Ah,Af,Ao,An⟩:Aa)=o):Fn Tryz.prog 121 [.agg [.d (.row 3 Bo),.d (.row 2 Bl),.d (.row 2 Bj),.d (.row 1 Bn),I Ao,I An]] [] ⟨I o,[],[]⟩:=by
 refine Fn.go La Tryz.func121 fun P hP Q hQ=>?_
 conv=>cbv
 generalize aa:Pz (⟨Ae,Ag,Ah,Af,Ao,An⟩:Aa)=l1
 generalize ab:l1.map cS=ae
 refine .dd hP (Xk8 Aj Am At Ap ac.1 aa ab) ?_
 conv=>cbv
 refine .go ab fun v2 ad=>?_
 conv=>cbv
 have e:v2=Im (⟨Ae,Ag,Ah,Af,Ao,An⟩:Aa):=(by unfold Im;rw[aa,ad])
 rw[hr]at e
 subst e
 exact hQ _ _ (.i rfl rfl)
theorem Xbu{o:List Int}{no:Nat}(Aj:Ae.map Bg=Bo)(Am:Ag.map Ac=Bl)(At:Ah.map Ac=Bj)(Ap:Af.map cS=Bn)(al:J8 (⟨Ae,Ag,Ah,Af,Ao,An⟩:Aa))(hes:Ag.length≤100000000)(hst:Af.length≤100000000)(hr:D4 (⟨Ae,Ag,Ah,Af,Ao,An⟩:Aa) version=o)(ho:o.map cI=xo)(hno:no=o.length):Fn Tryz.prog 45 [.agg [.d (.row 3 Bo),.d (.row 2 Bl),.d (.row 2 Bj),.d (.row 1 Bn),I Ao,I An],I version] [] ⟨.ref 0 0 no,[.row 1 false xo],[]⟩:=by
 refine Fn.goR La Tryz.func45 fun P hP Q hQ=>?_
 conv=>cbv
 generalize ap:Lf (⟨Ae,Ag,Ah,Af,Ao,An⟩:Aa) version=r1
 refine .dd hP (XiL Aj Am At Ap al ap) ?_
 conv=>cbv
 have hpl:=Kd (d:=(⟨Ae,Ag,Ah,Af,Ao,An⟩:Aa)) (v:=version)
 simp only[]at hpl
 have a2:((D1 (⟨Ae,Ag,Ah,Af,Ao,An⟩:Aa) version).length:Int)=r1:=ap
 refine .add fun v2 a8=>?_
 conv=>cbv
 refine LoopW.lp (κ:=Int×(List (List D))×Nat) La hP [2] [1,2,11] (fun(aa,ab,ac)=>[(5,.ref 3 0 ac),(12,I aa)]) (fun(aa,ab,ac)=>[(3,.row 1 false ab)])
  (fun(aa,ab,ac)=>∃(w3:List Int),w3.map cI=ab∧ac=w3.length∧0≤aa∧aa≤((D1 (⟨Ae,Ag,Ah,Af,Ao,An⟩:Aa) version).length:Int)+1∧w3=(List.range aa.toNat).map (fun n:Nat=>Im (E4 (⟨Ae,Ag,Ah,Af,Ao,An⟩:Aa) version (n:Int)))∧w3.length≤aa)
  (fun(aa,ab,ac)=>((D1 (⟨Ae,Ag,Ah,Af,Ao,An⟩:Aa) version).length+1 - aa).toNat) (0,[],0) ⟨[],rfl,rfl,by omega,by omega,rfl,by simp⟩ ⟨rfl,rfl,trivial⟩ rfl ?_
 rintro⟨aa,ab,ac⟩ J ⟨w3,aq,a6,h0,h1,hx,hxl⟩ hJ
 have hpl:=Kd (d:=(⟨Ae,Ag,Ah,Af,Ao,An⟩:Aa)) (v:=version)
 simp only[]at hpl
 have ba:Ag.length≤100000000:=hes
 conv=>cbv
 refine .lss (fun h3=>?_) fun h3=>?_
 conv=>cbv
 rcases am:E4 (⟨Ae,Ag,Ah,Af,Ao,An⟩:Aa) version aa with⟨ah,ai,aj,ak,an,ao⟩
 generalize ad:ah.map Bg=au
 generalize ae:ai.map Ac=aw
 generalize af:aj.map Ac=ax
 generalize ag:ak.map cS=ay
 refine .dd hP (Xgc Aj Am At Ap al hes hst am ad ae af ag) ?_
 conv=>cbv
 have hm:=Xbc (d:=(⟨Ae,Ag,Ah,Af,Ao,An⟩:Aa)) (v:=version) (n:=aa) al hes hst
 rw[am]at hm
 generalize ar:Im (⟨ah,ai,aj,ak,an,ao⟩:Aa)=r5
 refine .dd hP (Xi9 ad ae af ag hm ar) ?_
 conv=>cbv
 refine .one r5 aq rfl fun az z6 a7 a1=>?_
 conv=>cbv
 refine .add fun v7 bb=>?_
 conv=>cbv
 exact .go [5] (v7,z6,az) (hJ _ ⟨_,a1,Hg,by omega,by omega,by rw[show v7.toNat=aa.toNat+1 by omega,List.range_succ,List.map_append,←hx];show _=w3++[Im (E4 _ version ((aa.toNat:Nat):Int))];rw[Int.toNat_of_nonneg h0,am,ar],by rw[List.length_append,List.length_singleton];omega⟩ mlt)
 conv=>cbv
 have e:w3=D4 (⟨Ae,Ag,Ah,Af,Ao,An⟩:Aa) version:=(by unfold D4;rw[hx,show aa.toNat=(D1 (⟨Ae,Ag,Ah,Af,Ao,An⟩:Aa) version).length+1 by omega])
 rw[hr]at e
 subst e
 obtain rfl:ab=xo:=by rw[←aq,←ho]
 obtain rfl:ac=no:=by first|omega|(rw[hno];simp;done)|(rw[hno];simp;omega)
 exact hQ _ _ (.of [3] (.inl rfl) rfl rfl rfl rfl)
theorem Xda{o:List Int}(Aj:Ae.map Bg=Bo)(Am:Ag.map Ac=Bl)(At:Ah.map Ac=Bj)(Ap:Af.map cS=Bn)(ak:J8 (⟨Ae,Ag,Ah,Af,Ao,An⟩:Aa))(hes:Ag.length≤100000000)(hst:Af.length≤100000000)(hr:D4 (⟨Ae,Ag,Ah,Af,Ao,An⟩:Aa) version=o)(ho:o.map cI=xo):Fn Tryz.prog 44 [.agg [.d (.row 3 Bo),.d (.row 2 Bl),.d (.row 2 Bj),.d (.row 1 Bn),I Ao,I An],I version] [] ⟨.d (.row 1 xo),[],[]⟩:=by
 refine Fn.go La Tryz.func44 fun P hP Q hQ=>?_
 conv=>cbv
 refine LoopW.lp (κ:=Int×(List (List D))×Nat) La hP [2] [1,2] (fun(i6,ae,af)=>[(5,.ref 3 0 af),(6,I i6)]) (fun(i6,ae,af)=>[(3,.row 1 false ae)])
  (fun(i6,ae,af)=>∃(w3:List Int),w3.map cI=ae∧af=w3.length∧0≤i6∧i6≤((D1 (⟨Ae,Ag,Ah,Af,Ao,An⟩:Aa) version).length:Int)+1∧w3=(List.range i6.toNat).map (fun n:Nat=>Im (E4 (⟨Ae,Ag,Ah,Af,Ao,An⟩:Aa) version (n:Int)))∧w3.length≤i6)
  (fun(i6,ae,af)=>((D1 (⟨Ae,Ag,Ah,Af,Ao,An⟩:Aa) version).length+1 - i6).toNat) (0,[],0) ⟨[],rfl,rfl,by omega,by omega,rfl,by simp⟩ ⟨rfl,rfl,trivial⟩ rfl ?_
 rintro⟨i6,ae,af⟩ J ⟨w3,al,a1,h0,h1,hx,hxl⟩ hJ
 have hpl:=Kd (d:=(⟨Ae,Ag,Ah,Af,Ao,An⟩:Aa)) (v:=version)
 simp only[]at hpl
 have a7:Ag.length≤100000000:=hes
 conv=>cbv
 generalize ap:Lf (⟨Ae,Ag,Ah,Af,Ao,An⟩:Aa) version=r1
 refine .dd hP (XiI Aj Am At Ap ak ap) ?_
 conv=>cbv
 have a2:((D1 (⟨Ae,Ag,Ah,Af,Ao,An⟩:Aa) version).length:Int)=r1:=ap
 refine .leq (fun h2=>?_) fun h2=>?_
 conv=>cbv
 rcases am:E4 (⟨Ae,Ag,Ah,Af,Ao,An⟩:Aa) version i6 with⟨ag,ah,ai,aj,an,ao⟩
 generalize aa:ag.map Bg=ar
 generalize ab:ah.map Ac=au
 generalize ac:ai.map Ac=aw
 generalize ad:aj.map cS=ax
 refine .dd hP (Xgo Aj Am At Ap ak hes hst am aa ab ac ad) ?_
 conv=>cbv
 have hm:=Xbc (d:=(⟨Ae,Ag,Ah,Af,Ao,An⟩:Aa)) (v:=version) (n:=i6) ak hes hst
 rw[am]at hm
 generalize aq:Im (⟨ag,ah,ai,aj,an,ao⟩:Aa)=r4
 refine .dd hP (Xjl aa ab ac ad hm aq) ?_
 conv=>cbv
 refine .one r4 al rfl fun ay z5 a6 az=>?_
 conv=>cbv
 refine .add fun v6 a8=>?_
 conv=>cbv
 exact .go [5] (v6,z5,ay) (hJ _ ⟨_,az,Hg,by omega,by omega,by rw[show v6.toNat=i6.toNat+1 by omega,List.range_succ,List.map_append,←hx];show _=w3++[Im (E4 _ version ((i6.toNat:Nat):Int))];rw[Int.toNat_of_nonneg h0,am,aq],by rw[List.length_append,List.length_singleton];omega⟩ mlt)
 conv=>cbv
 have e:w3=D4 (⟨Ae,Ag,Ah,Af,Ao,An⟩:Aa) version:=(by unfold D4;rw[hx,show i6.toNat=(D1 (⟨Ae,Ag,Ah,Af,Ao,An⟩:Aa) version).length+1 by omega])
 rw[hr]at e
 subst e
 exact hQ _ _ (.r rfl rfl (Ai al) (by rw[←al,←ho]))
end
section
open Go Go.Proofs
set_option maxRecDepth 20000
set_option maxHeartbeats 4000000
end
section
open Go Go.Proofs
set_option maxRecDepth 20000
set_option maxHeartbeats 4000000
end
section
open Go Go.Proofs
set_option maxRecDepth 20000
set_option maxHeartbeats 4000000
def Xka(w:P6):Ca:=⟨w.version_,w.stride_,w.base_,w.link_⟩
def begC(d:Aa)(w:P6):Int:=if(Be d (As w.base_)).2≠0 then 4 else if(B8 (Be d (As w.base_)).1 (As w.base_) (Cf (Xka w))).2≠0 then 2 else 0
def begD(d:Aa)(w:P6):Aa:=if(Be d (As w.base_)).2≠0 then(Be d (As w.base_)).1 else if(B8 (Be d (As w.base_)).1 (As w.base_) (Cf (Xka w))).2≠0 then(B8 (Be d (As w.base_)).1 (As w.base_) (Cf (Xka w))).1
 else D0 (Dp (B8 (Be d (As w.base_)).1 (As w.base_) (Cf (Xka w))).1 (As w.base_)).1
def begW(d:Aa)(w:P6):P6:=if begC d w=0 then⟨w.version_,w.stride_,w.roll_,w.base_,w.link_,[],24,true,w.code_⟩else⟨w.version_,w.stride_,w.roll_,w.base_,w.link_,w.offsets_,w.end_,w.open_,begC d w⟩
def appB(s:Aa×P6):Aa×P6:=if s.2.code_=0∧s.2.open_=false then(begD s.1 s.2,begW s.1 s.2)else s
end
section
open Go Go.Proofs
set_option maxRecDepth 20000
set_option maxHeartbeats 4000000
end
end Go.Proofs.YtgdmjbcllgmepaaGreatDoor.Ab
