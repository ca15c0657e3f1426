/- What functions come to. -/
import Derived.Test.YtjbmpmmffjgedaaGreatDoorFmch06c
import Derived.Test.YtjbmpmmffjgedaaGreatDoorFmZ9
set_option linter.unusedVariables false
set_option linter.unusedSimpArgs false
set_option maxHeartbeats 4000000
set_option maxRecDepth 20000
namespace Go.Proofs.YtjbmpmmffjgedaaGreatDoor.Ab
section
open Go Go.Proofs
def XdL:List (Nat×TyRow):=[ty3,XfK,U5,Xnp]
theorem XcD:B1 Tryz.prog XdL:=B1.of (by kernel_rfl)
theorem Tb:Setup Tryz.prog XdL:=⟨XcD,mixed⟩
def Fi(x:A0)(used:List Int):Bool:=!decide (x.id_∈used)
variable {used:List Int} {l:List A0} {xl:List (List D)} {nl:Nat}
theorem Qt{xid:Int}{xtex:ByteArray}{xsur:Int}{o:Bool}(hr:Fi (⟨xid,xtex,xsur⟩:A0) used=o):Fn Tryz.prog 328 [.agg [I xid,S xtex,I xsur],.ptr 0 0 0] [.box 266 [.ptr 1 0 0],.map used] ⟨B o,[],[]⟩:=by
 refine Fn.goR Tb Tryz.func328 fun P hP Q hQ=>?_
 conv=>cbv
 refine .go hP Tryz.underlying266 (by kernel_rfl) (by kernel_rfl) (by kernel_rfl) fun b1 aa=>?_
 conv=>cbv
 cases b1
 conv=>cbv
 have e:true=Fi (⟨xid,xtex,xsur⟩:A0) used:=(by unfold Fi;simp[←aa])
 rw[hr]at e
 subst e
 exact hQ _ _ (.o [] rfl)
 conv=>cbv
 have e:false=Fi (⟨xid,xtex,xsur⟩:A0) used:=(by unfold Fi;simp[←aa])
 rw[hr]at e
 subst e
 exact hQ _ _ (.o [] rfl)
def Gp(l:List A0)(used:List Int):Int:=Ug (fun x=>Fi x used) l
theorem Ra{o:Int}(hl:l.map Bf=xl)(hnl:nl=l.length)(hn:l.length<2^40)(hr:Gp l used=o):Fn Tryz.prog 286 [.ref 0 0 nl,.clo 328 [.ptr 1 0 0]] [.row 3 false xl,.box 266 [.ptr 2 0 0],.map used] ⟨I o,[],[]⟩:=by
 refine Fn.goR Tb Tryz.func286 fun P hP Q hQ=>?_
 conv=>cbv
 refine .go fun v1 ai=>?_
 conv=>cbv
 refine LoopW.lp (κ:=Int) Tb hP [] [0,1,7] (fun i8=>[(8,I i8)]) (fun i8=>[])
  (fun i8=>0≤i8∧i8≤l.length∧∀(j:Nat) (hj:j<l.length),j<i8.toNat→Fi l[j] used=false)
  (fun i8=>(l.length - i8).toNat) (0) ⟨by omega,by omega,fun j _ h=>by simp at h⟩ ⟨rfl,trivial⟩ rfl ?_
 rintro i8 J ⟨h0,h1,hb⟩ hJ
 conv=>cbv
 refine .lss (fun h2=>?_) fun h2=>?_
 conv=>cbv
 refine .go i8.toNat fun p3 af ag=>?_
 conv=>cbv
 refine .go hl fun ah ⟨ad,aa,ab⟩ ae=>?_
 conv=>cbv
 subst af
 generalize ac:Fi (⟨ad,aa,ab⟩:A0) used=r5
 refine .bx [1,2] [2] hP (Qt ac) rfl rfl rfl rfl ?_
 cases r5
 conv=>cbv
 refine .add fun v6 aj=>?_
 conv=>cbv
 exact .go [] (v6) (hJ _ ⟨by omega,by omega,fun j hj h=>if e:j=i8.toNat then by subst e;rw[←ae];exact ac else hb j hj (by omega)⟩ mlt)
 conv=>cbv
 have e:i8=Gp l used:=(by exact Me (p:=fun x=>Fi x used) h0 (by omega) (by rw[←ae];exact ac) hb)
 rw[hr]at e
 subst e
 exact hQ _ _ (.o [] rfl)
 conv=>cbv
 have e:(-1)=Gp l used:=(by exact Hs (p:=fun x=>Fi x used) fun j hj=>hb j hj (by omega))
 rw[hr]at e
 subst e
 exact hQ _ _ (.o [] rfl)
def F8(l:List A0)(used:List Int):List A0:=l.filter (fun x=>!Fi x used)
theorem Qk{o:List A0}{xf:List (List D)}{no:Nat}(hl:l.map Bf=xl)(hnl:nl=l.length)(hn:l.length<2^40)(hr:F8 l used=o)(hf:(o++List.replicate (l.length - o.length) (⟨0,tx [],0⟩:A0)).map Bf=xf)(hno:no=o.length):Fn Tryz.prog 327 [.ref 0 0 nl,.clo 328 [.ptr 1 0 0]] [.row 3 false xl,.box 266 [.ptr 2 0 0],.map used] ⟨.ref 0 0 no,[],[(0,.row 3 false xf)]⟩:=by
 refine Fn.goR Tb Tryz.func327 fun P hP Q hQ=>?_
 conv=>cbv
 generalize af:Gp l used=r1
 refine .bx [0,1,2] [2] hP (Ra hl (by first|rfl|omega|(simp;omega)) hn af) rfl rfl rfl rfl ?_
 conv=>cbv
 refine .eql (fun h2=>?_) fun h2=>?_
 conv=>cbv
 have e:l=o:=by rw[←hr];unfold F8;symm;rw[List.filter_eq_self];intro x hx;rw[XdW (p:=fun x=>Fi x used) af (by omega) x hx];rfl
 subst e
 obtain rfl:xl=xf:=by rw[←hl,←hf];simp
 obtain rfl:nl=no:=by omega
 exact hQ _ _ (.o [] rfl)
 conv=>cbv
 have hd:=Xiq (p:=fun x=>Fi x used) af h2
 refine .add fun v3 am=>?_
 conv=>cbv
 refine LoopW.lp (κ:=Int×Int×(List (List D))) Tb hP [] [0,1] (fun(i5,i6,aa)=>[(5,I i5),(6,I i6)]) (fun(i5,i6,aa)=>[(0,.row 3 false aa)])
  (fun(i5,i6,aa)=>∃(w0:List A0),w0.map Bf=aa∧(0≤i5∧i5<i6∧i6≤l.length)∧w0.length=l.length∧w0.take i5.toNat=(l.take i6.toNat).filter (fun x=>!Fi x used)∧w0.drop i6.toNat=l.drop i6.toNat)
  (fun(i5,i6,aa)=>(l.length - i6).toNat) (r1,v3,xl) ⟨l,hl,by omega,rfl,by rw[hd.2.2,am],rfl⟩ ⟨rfl,rfl,trivial⟩ rfl ?_
 rintro⟨i5,i6,aa⟩ J ⟨w0,ae,hb,hwl,hwt,hwd⟩ hJ
 conv=>cbv
 refine .go fun v4 az=>?_
 conv=>cbv
 refine .lss (fun h5=>?_) fun h5=>?_
 conv=>cbv
 refine .go i6.toNat fun p6 an au=>?_
 conv=>cbv
 refine .go ae fun aj ⟨ad,ab,ac⟩ ao=>?_
 conv=>cbv
 subst an
 have ag:(⟨ad,ab,ac⟩:A0)=l[i6.toNat]:=ao.trans (Xm8 aj (by omega) hwd)
 generalize ah:Fi (⟨ad,ab,ac⟩:A0) used=r8
 refine .bx [1,2] [2] hP (Qt ah) rfl rfl rfl rfl ?_
 cases r8
 conv=>cbv
 refine .go i5.toNat fun p9 ap aw=>?_
 conv=>cbv
 refine .all ((⟨ad,ab,ac⟩:A0)) ae rfl fun aq ak=>?_
 conv=>cbv
 refine .add fun al ax=>?_
 conv=>cbv
 refine .add fun ai ay=>?_
 conv=>cbv
 have hk:=Xh2 (i:=i5.toNat) (p:=fun x=>Fi x used) (show i6.toNat<l.length by omega) (by omega) hwl hwt hwd (by rw[←ag];exact ah)
 rw[←ag]at hk
 subst ap
 exact .go [] (al,ai,aq) (hJ _ ⟨_,ak,by omega,by rw[List.length_set];exact hwl,by rw[show al.toNat=i5.toNat+1 by omega,show ai.toNat=i6.toNat+1 by omega];exact hk.1,by rw[show ai.toNat=i6.toNat+1 by omega];exact hk.2⟩ mlt)
 conv=>cbv
 refine .add fun v9 a1=>?_
 conv=>cbv
 have hk:=XiN (p:=fun x=>Fi x used) (show i6.toNat<l.length by omega) hwt hwd (by rw[←ag];exact ah)
 exact .go [] (i5,v9,aa) (hJ _ ⟨_,ae,by omega,hwl,by rw[show v9.toNat=i6.toNat+1 by omega];exact hk.1,by rw[show v9.toNat=i6.toNat+1 by omega];exact hk.2⟩ mlt)
 conv=>cbv
 refine .lo fun on6 n6 hon6 a2=>?_
 conv=>cbv
 refine .goN (zz:=[(.int .i64 0,0),(.string ⟨#[]⟩,0),(.int .i64 0,0)]) (⟨0,tx [],0⟩:A0) hP ae Tryz.underlying24 (by kernel_rfl) rfl rfl (by decide) fun z7 ar=>?_
 conv=>cbv
 refine .hi fun on8 n8 hon8 a6=>?_
 conv=>cbv
 have e:w0.take on6=o:=by rw[hon6,Nat.zero_add,hwt,List.take_of_length_le (by omega),←hr];rfl
 obtain⟨e1,e2⟩:=Xls (by omega) (by omega) e ar
 rw[hwl,hf]at e2
 subst e2
 obtain rfl:n8=no:=by omega
 subst hon8
 exact hQ _ _ (.o [] rfl)
end
section
open Go Go.Proofs
def Xcg:List (Nat×TyRow):=[ty3,ty9,XfK,Z2,XaC,Xp,U1,Xnp]
theorem Xck:B1 Tryz.prog Xcg:=B1.of (by kernel_rfl)
theorem Xbm:Setup Tryz.prog Xcg:=⟨Xck,mixed⟩
def Sz:List Ad→List ByteArray→Int→Bool
 |now,[],id=>now.any fun e=>decide (e.id_=id)
 |now,s::ss,id=>(now.any fun e=>decide (e.id_=id))||Sz (As now s).1 ss id
def Oe(nodes:List A0)(old:List Ad)(steps:List ByteArray):List A0:=nodes.filter fun x=>Sz old steps x.id_
theorem XgC{l:List Ad}{k:Nat}{id:Int}(hk:k<l.length):(l.take (k+1)).any (fun e=>decide (e.id_=id))=((l.take k).any (fun e=>decide (e.id_=id))||decide (l[k].id_=id)):=by
 rw[List.take_succ_eq_append_getElem hk,List.any_append]
 simp
theorem Xhl{ks:List Int}{n id:Int}:id∈Qw ks n↔id∈ks∨n=id:=by
 unfold Qw
 split
 ·constructor
  ·exact .inl
  ·rintro(h|rfl)
   ·exact h
   ·assumption
 ·rw[List.mem_append,List.mem_singleton]
  constructor
  ·rintro(h|rfl)
   ·exact .inl h
   ·exact .inr rfl
  ·rintro(h|rfl)
   ·exact .inl h
   ·exact .inr rfl
theorem Ur{Af:List A0}{Bo:List (List D)}{Ah:List Ad}{Bn:List (List D)}{Ai:List Ad}{Bm:List (List D)}{Ag:List ByteArray}{Bp:List (List D)}{Ap:Int}{An:Int}{ndnod:Nat}{ndste:Nat}{o:List A0}{no:Nat}{xf:List (List D)}(Al:Af.map Bf=Bo)(Am:Ah.map Ac=Bn)(Aq:Ai.map Ac=Bm)(Ao:Ag.map cS=Bp)(hndnod:ndnod=Af.length)(hndste:ndste=Ag.length)(hn:Af.length<2^40)(hol:Ai.length≤1000000000)(hsl:Ag.length≤1000000000)(hss:okS Ag)(hr:Oe Af Ai Ag=o)(hno:no=o.length)(hf:(o++List.replicate (Af.length - o.length) (⟨0,tx [],0⟩:A0)).map Bf=xf):Fn Tryz.prog 303 [.ptr 0 0 0] [.box 28 [.ref 1 0 ndnod,.d (.row 2 Bn),.d (.row 2 Bm),.ref 2 0 ndste,I Ap,I An],.row 3 false Bo,.row 1 false Bp] ⟨.tup [],[],[(0,.box 28 [.ref 1 0 no,.d (.row 2 Bn),.d (.row 2 Bm),.ref 2 0 ndste,I Ap,I An]),(1,.row 3 false xf)]⟩:=by
 refine Fn.goR Xbm Tryz.func303 fun P hP Q hQ=>?_
 conv=>cbv
 refine LoopW.lp (κ:=(List (List D))×Int×(List Int)) Xbm hP [] [0,2] (fun(ab,i4,ks3)=>[(3,.d (.row 2 ab)),(4,I i4)]) (fun(ab,i4,ks3)=>[(3,.map ks3)])
  (fun(ab,i4,ks3)=>∃(u3:List Ad),u3.map Ac=ab∧0≤i4∧i4≤Ag.length∧u3.length≤Ai.length+i4∧∀id,(id∈ks3∨Sz u3 (Ag.drop i4.toNat) id=true)↔Sz Ai Ag id=true)
  (fun(ab,i4,ks3)=>(Ag.length - i4).toNat) (Bm,0,[]) ⟨Ai,Aq,by omega,by omega,by omega,fun id=>by simp⟩ ⟨rfl,rfl,trivial⟩ rfl ?_
 rintro⟨ab,i4,ks3⟩ J ⟨u3,ae,h0,h1,hun,hio⟩ hJ
 conv=>cbv
 refine .go ae fun v1 aw=>?_
 conv=>cbv
 refine LoopW.lp (κ:=Int×(List Int)) Xbm hP [] [0,2,3,4,14,15] (fun(aa,ks3p)=>[(16,I aa)]) (fun(aa,ks3p)=>[(3,.map ks3p)])
  (fun(aa,ks3p)=>0≤aa∧aa≤u3.length∧∀id,id∈ks3p↔id∈ks3∨((u3.take aa.toNat).any fun e=>decide (e.id_=id))=true)
  (fun(aa,ks3p)=>(u3.length - aa).toNat) (0,ks3) ⟨by omega,by omega,fun id=>by simp⟩ ⟨rfl,trivial⟩ rfl ?_
 rintro⟨aa,ks3p⟩ J1 ⟨k0,k1,hi⟩ al
 conv=>cbv
 refine .lss (fun h2=>?_) fun h2=>?_
 conv=>cbv
 refine .go aa.toNat ae fun ag ⟨am,ar⟩ an=>?_
 conv=>cbv
 refine .go hP Tryz.underlying266 (by kernel_rfl) fun ks4 hks4=>?_
 conv=>cbv
 refine .add fun v5 ax=>?_
 conv=>cbv
 exact .go [] (v5,ks4) (al _ ⟨by omega,by omega,fun id=>by rw[hks4,Xhl,hi id,show v5.toNat=aa.toNat+1 by omega,XgC ag,←an,Bool.or_eq_true,or_assoc,decide_eq_true_eq]⟩ mlt)
 conv=>cbv
 refine .go fun v3 ay=>?_
 conv=>cbv
 refine .eql (fun h4=>?_) fun h4=>?_
 conv=>cbv
 have hks:∀id,id∈ks3p↔Sz Ai Ag id=true:=fun id=>by rw[hi,←hio id,List.take_of_length_le (show u3.length≤aa.toNat by omega),List.drop_of_length_le (show Ag.length≤i4.toNat by omega)];show _↔_∨(u3.any fun e=>decide (e.id_=id))=true;exact Iff.rfl
 generalize ah:F8 Af ks3p=l5
 generalize ai:(l5++List.replicate (Af.length - l5.length) (⟨0,tx [],0⟩:A0)).map Bf=ao
 obtain⟨nl5,hnl5⟩:∃m,m=l5.length:=⟨_,rfl⟩
 refine .bx [1,4,3] [3] hP (Qk Al (by first|rfl|omega|(simp;omega)) hn ah ai hnl5) rfl rfl rfl rfl ?_
 conv=>cbv
 have e:l5=o:=by rw[←ah,←hr];unfold F8 Fi Oe;congr 1;funext x;simp only[Bool.not_not,hks x.id_,Bool.decide_eq_true]
 subst e
 obtain rfl:ao=xf:=by rw[←ai,←hf]
 obtain rfl:nl5=no:=by omega
 exact hQ _ _ (.of [] (.inr rfl) rfl rfl rfl rfl)
 conv=>cbv
 refine .go i4.toNat fun p5 ap au=>?_
 conv=>cbv
 refine .go Ao fun ac e6 aj=>?_
 conv=>cbv
 have az:e6.size≤1000000000:=aj▸hss _ (List.getElem_mem ac)
 subst ap
 have hdc:Ag.drop i4.toNat=e6::Ag.drop (i4.toNat+1):=by rw[List.drop_eq_getElem_cons ac,←aj]
 rcases af:As u3 e6 with⟨aq,a1⟩
 have hsl7:=M9 af
 generalize ad:aq.map Ac=ak
 refine .dd hP (Ti ae (by omega) (by omega) af ad) ?_
 conv=>cbv
 refine .add fun v8 a2=>?_
 conv=>cbv
 exact .go [] (ak,v8,ks3p) (hJ _ ⟨_,ad,by omega,by omega,by omega,fun id=>by rw[←hio id,hi id,show v8.toNat=i4.toNat+1 by omega,hdc,List.take_of_length_le (show u3.length≤aa.toNat by omega)];show _↔_∨((u3.any fun e=>decide (e.id_=id))||Sz (As u3 e6).1 (Ag.drop (i4.toNat+1)) id)=true;rw[af,Bool.or_eq_true,or_assoc]⟩ mlt)
end
section
open Go Go.Proofs
def Xcj:List (Nat×TyRow):=[ty9,Z2,XaC,Xp,ty265]
theorem XdO:B1 Tryz.prog Xcj:=B1.of (by kernel_rfl)
theorem Xj0:Setup Tryz.prog Xcj:=⟨XdO,mixed⟩
theorem Sm{l:List ByteArray}{s:ByteArray}(h:okS l)(hs:s.size≤1000000000):okS (l++[s]):=fun t ht=>by
 rcases List.mem_append.1 ht with ht|ht
 ·exact h t ht
 ·rw[List.mem_singleton.1 ht];exact hs
theorem Rp{Af:List A0}{Bo:List (List D)}{Ah:List Ad}{Bn:List (List D)}{Ai:List Ad}{Bm:List (List D)}{Ag:List ByteArray}{Bp:List (List D)}{Ap:Int}{An:Int}{ndnod:Nat}{ndste:Nat}{step:ByteArray}{xe:List (List D)}{o:List A0}{no:Nat}{xf xs:List (List D)}{ns:Nat}(Al:Af.map Bf=Bo)(Am:Ah.map Ac=Bn)(Aq:Ai.map Ac=Bm)(Ao:Ag.map cS=Bp)(hndnod:ndnod=Af.length)(hndste:ndste=Ag.length)(hn:Af.length<2^40)(hel:Ah.length≤4000000000)(hss0:step.size≤1000000000)(hol:Ai.length≤1000000000)(hsl:Ag.length<1000000000)(hss:okS Ag)(he:(As Ah step).1.map Ac=xe)(hr:Oe Af Ai (Ag++[step])=o)(hno:no=o.length)(hf:(o++List.replicate (Af.length - o.length) (⟨0,tx [],0⟩:A0)).map Bf=xf)(hs:(Ag++[step]).map cS=xs)(hns:ns=(Ag++[step]).length):Fn Tryz.prog 301 [.ptr 0 0 0,S step] [.box 28 [.ref 1 0 ndnod,.d (.row 2 Bn),.d (.row 2 Bm),.ref 2 0 ndste,I Ap,I An],.row 3 false Bo,.row 1 false Bp] ⟨.tup [],[.row 1 false xs],[(0,.box 28 [.ref 1 0 no,.d (.row 2 xe),.d (.row 2 Bm),.ref 3 0 ns,I Ap,I An]),(1,.row 3 false xf),(2,.dead)]⟩:=by
 refine Fn.goR Xj0 Tryz.func301 fun P hP Q hQ=>?_
 conv=>cbv
 refine .one step Ao rfl fun ai z1 ad ae=>?_
 conv=>cbv
 rcases af:As Ah step with⟨aj,am⟩
 generalize aa:aj.map Ac=ag
 refine .dd hP (Ti Am hel hss0 af aa) ?_
 conv=>cbv
 generalize ah:Oe Af Ai (Ag++[step])=o4
 obtain⟨ak,ab⟩:∃m,m=o4.length:=⟨_,rfl⟩
 generalize ac:(o4++List.replicate (Af.length - o4.length) (⟨0,tx [],0⟩:A0)).map Bf=al
 refine .bx [0,1,4] [1,4] hP (Ur Al aa Aq ae (by first|assumption|omega) (by first|assumption|omega|rfl|(simp at*;omega)) hn hol (by rw[List.length_append];simp;omega) (Sm hss hss0) ah ab ac) rfl rfl rfl rfl ?_
 conv=>cbv
 obtain rfl:ag=xe:=by rw[←aa,←he,af]
 obtain rfl:z1=xs:=by rw[←ae,←hs]
 obtain rfl:ai=ns:=by rw[hns,ad,List.length_append];rfl
 obtain rfl:o4=o:=by rw[←ah,←hr]
 obtain rfl:ak=no:=by rw[hno,ab]
 obtain rfl:al=xf:=by rw[←ac,←hf]
 exact hQ _ _ (.of [4] (.inr rfl) rfl rfl rfl rfl)
end
section
open Go Go.Proofs
def Xb2:List (Nat×TyRow):=[XfK,Z2,XaC,Xp]
theorem Xch:B1 Tryz.prog Xb2:=B1.of (by kernel_rfl)
theorem XgB:Setup Tryz.prog Xb2:=⟨Xch,mixed⟩
variable {Af:List A0} {Bo Bn Bm Bp:List (List D)} {Ah Ai:List Ad} {Ag:List ByteArray} {Ap An:Int}
theorem Jf{nn ns:Nat}(Al:Af.map Bf=Bo)(Am:Ah.map Ac=Bn)(Aq:Ai.map Ac=Bm)(Ao:Ag.map cS=Bp)(hn:Af.length≤4000000000)(he:Ah.length≤4000000000)(ho:Ai.length≤4000000000)(hs:Ag.length≤4000000000)(hnn:nn=Af.length)(hns:ns=Ag.length):Fn Tryz.prog 119 [.agg [.d (.row 3 Bo),.d (.row 2 Bn),.d (.row 2 Bm),.d (.row 1 Bp),I Ap,I An]] [] ⟨.agg [.ref 0 0 nn,.d (.row 2 Bn),.d (.row 2 Bm),.ref 1 0 ns,I Ap,I An],[.row 3 false Bo,.row 1 false Bp],[]⟩:=by
 refine Fn.goR XgB Tryz.func119 fun P hP Q hQ=>?_
 conv=>cbv
 generalize ac:Ds Af=l1
 generalize aa:l1.map Bf=ai
 obtain⟨nl1,hnl1⟩:∃m,m=l1.length:=⟨_,rfl⟩
 refine .ddA hP (Hp Al (by omega) ac aa hnl1) rfl rfl rfl (aa▸Ff (fun _=>rfl) l1) ?_
 conv=>cbv
 generalize ad:Ds Ah=l2
 generalize ae:l2.map Ac=aj
 refine .dd hP (C5 Am (by omega) ad ae) ?_
 conv=>cbv
 generalize af:Ds Ai=l3
 generalize ag:l3.map Ac=ak
 refine .dd hP (C5 Aq (by omega) af ag) ?_
 conv=>cbv
 generalize ah:Ds Ag=l4
 generalize ab:l4.map cS=al
 obtain⟨nl4,hnl4⟩:∃m,m=l4.length:=⟨_,rfl⟩
 refine .ddA hP (Gf Ao (by omega) ah ab hnl4) rfl rfl rfl (ab▸Ff (fun _=>rfl) l4) ?_
 conv=>cbv
 obtain rfl:l1=Af:=ac.symm
 obtain rfl:l2=Ah:=ad.symm
 obtain rfl:l3=Ai:=af.symm
 obtain rfl:l4=Ag:=ah.symm
 obtain rfl:nl1=nn:=by rw[hnn,hnl1]
 obtain rfl:nl4=ns:=by rw[hns,hnl4]
 obtain rfl:ai=Bo:=by rw[←aa,Al]
 obtain rfl:aj=Bn:=by rw[←ae,Am]
 obtain rfl:ak=Bm:=by rw[←ag,Aq]
 obtain rfl:al=Bp:=by rw[←ab,Ao]
 exact hQ _ _ (.o [6,7] rfl)
theorem XeY(Al:Af.map Bf=Bo)(Am:Ah.map Ac=Bn)(Aq:Ai.map Ac=Bm)(Ao:Ag.map cS=Bp)(hn:Af.length≤4000000000)(he:Ah.length≤4000000000)(ho:Ai.length≤4000000000)(hs:Ag.length≤4000000000):Fn Tryz.prog 119 [.agg [.d (.row 3 Bo),.d (.row 2 Bn),.d (.row 2 Bm),.d (.row 1 Bp),I Ap,I An]] [] ⟨.agg [.d (.row 3 Bo),.d (.row 2 Bn),.d (.row 2 Bm),.d (.row 1 Bp),I Ap,I An],[],[]⟩:=by
 refine Fn.go XgB Tryz.func119 fun P hP Q hQ=>?_
 conv=>cbv
 generalize aa:Ds Af=l1
 generalize ab:l1.map Bf=ai
 refine .dd hP (Mz Al (by omega) aa ab) ?_
 conv=>cbv
 generalize ac:Ds Ah=l2
 generalize ad:l2.map Ac=aj
 refine .dd hP (C5 Am (by omega) ac ad) ?_
 conv=>cbv
 generalize ae:Ds Ai=l3
 generalize af:l3.map Ac=ak
 refine .dd hP (C5 Aq (by omega) ae af) ?_
 conv=>cbv
 generalize ag:Ds Ag=l4
 generalize ah:l4.map cS=al
 refine .dd hP (Kr Ao (by omega) ag ah) ?_
 conv=>cbv
 obtain rfl:l1=Af:=aa.symm
 obtain rfl:l2=Ah:=ac.symm
 obtain rfl:l3=Ai:=ae.symm
 obtain rfl:l4=Ag:=ag.symm
 obtain rfl:ai=Bo:=by rw[←ab,Al]
 obtain rfl:aj=Bn:=by rw[←ad,Am]
 obtain rfl:ak=Bm:=by rw[←af,Aq]
 obtain rfl:al=Bp:=by rw[←ah,Ao]
 exact hQ _ _ (.one (.inl rfl) rfl (.agg (.c (.d rfl rfl .d4)) .nil))
end
section
open Go Go.Proofs
def XcH:List (Nat×TyRow):=[ty3,ty9,Z2,Xp]
theorem Xc0:B1 Tryz.prog XcH:=B1.of (by kernel_rfl)
theorem Xj2:Setup Tryz.prog XcH:=⟨Xc0,mixed⟩
def M2(d:Aa)(s:ByteArray):Aa:=⟨Oe d.nodes_ d.old_ (d.steps_++[s]),(As d.entries_ s).1,d.old_,d.steps_++[s],d.room_,d.next_⟩
def C8(d:Aa)(name:ByteArray):Aa×Int:=if Bq d=false∨Bd d.entries_ name<0 then(d,3)else(M2 d (tx [45]++name),0)
theorem Xce{Af:List A0}{Bo:List (List D)}{Ah:List Ad}{Bn:List (List D)}{Ai:List Ad}{Bm:List (List D)}{Ag:List ByteArray}{Bp:List (List D)}{Ap:Int}{An:Int}{name:ByteArray}{G8:List A0}{Eo:List (List D)}{Hk:List Ad}{Eu:List (List D)}{G9:List Ad}{Et:List (List D)}{Hj:List ByteArray}{Es:List (List D)}{Hf:Int}{He:Int}{ob:Int}(Al:Af.map Bf=Bo)(Am:Ah.map Ac=Bn)(Aq:Ai.map Ac=Bm)(Ao:Ag.map cS=Bp)(hn:Af.length≤1000000000)(he:Ah.length≤1000000000)(ho:Ai.length≤1000000000)(hs:Ag.length<1000000000)(hss:okS Ag)(ak:J8 (⟨Af,Ah,Ai,Ag,Ap,An⟩:Aa))(hm:name.size<1000000000)(hr:C8 (⟨Af,Ah,Ai,Ag,Ap,An⟩:Aa) name=(⟨G8,Hk,G9,Hj,Hf,He⟩,ob))(B3:G8.map Bf=Eo)(B4:Hk.map Ac=Eu)(B5:G9.map Ac=Et)(B2:Hj.map cS=Es):Fn Tryz.prog 256 [.agg [.d (.row 3 Bo),.d (.row 2 Bn),.d (.row 2 Bm),.d (.row 1 Bp),I Ap,I An],S name] [] ⟨.tup [.agg [.d (.row 3 Eo),.d (.row 2 Eu),.d (.row 2 Et),.d (.row 1 Es),I Hf,I He],I ob],[],[]⟩:=by
 refine Fn.go Xj2 Tryz.func256 fun P hP Q hQ=>?_
 conv=>cbv
 obtain⟨n2,al⟩:∃m,m=Af.length:=⟨_,rfl⟩
 obtain⟨n3,am⟩:∃m,m=Ag.length:=⟨_,rfl⟩
 refine .ddN hP (Jf Al Am Aq Ao (by omega) (by omega) (by omega) (by omega) al am) rfl ?_
 conv=>cbv
 generalize ag:Bq (⟨Af,Ah,Ai,Ag,Ap,An⟩:Aa)=r4
 refine .dd hP (N1 Al Am Aq Ao ak ag) ?_
 cases r4
 conv=>cbv
 have e:((⟨Af,Ah,Ai,Ag,Ap,An⟩:Aa),3)=C8 (⟨Af,Ah,Ai,Ag,Ap,An⟩:Aa) name:=(by unfold C8;rw[if_pos (.inl ag)])
 rw[hr]at e
 simp only[Prod.mk.injEq,Aa.mk.injEq]at e
 obtain⟨⟨rfl,rfl,rfl,rfl,rfl,rfl⟩,rfl⟩:=e
 refine hQ _ _ ?_
 exact .m rfl (.agg (.ref rfl (Ae Al) (Bt Al B3) (.d rfl (Bj Am B4) (.d rfl (Bj Aq B5) (.ref rfl (Ae Ao) (Bt Ao B2) .d2)))) .d1)
 conv=>cbv
 generalize ai:Bd Ah name=r5
 refine .dd hP (K2 Am (by omega) ai) ?_
 conv=>cbv
 refine .lss (fun h6=>?_) fun h6=>?_
 conv=>cbv
 have e:((⟨Af,Ah,Ai,Ag,Ap,An⟩:Aa),3)=C8 (⟨Af,Ah,Ai,Ag,Ap,An⟩:Aa) name:=(by unfold C8;rw[if_pos (.inr (by rw[ai];exact h6))])
 rw[hr]at e
 simp only[Prod.mk.injEq,Aa.mk.injEq]at e
 obtain⟨⟨rfl,rfl,rfl,rfl,rfl,rfl⟩,rfl⟩:=e
 refine hQ _ _ ?_
 exact .m rfl (.agg (.ref rfl (Ae Al) (Bt Al B3) (.d rfl (Bj Am B4) (.d rfl (Bj Aq B5) (.ref rfl (Ae Ao) (Bt Ao B2) .d2)))) .d1)
 conv=>cbv
 refine .litL 1 fun s7 an ar=>?_
 conv=>cbv
 generalize ab:(As Ah s7).1=ae
 generalize ac:ae.map Ac=ao
 generalize aj:Oe Af Ai (Ag++[s7])=o9
 obtain⟨au,af⟩:∃m,m=o9.length:=⟨_,rfl⟩
 generalize aa:(o9++List.replicate (Af.length - o9.length) (⟨0,tx [],0⟩:A0)).map Bf=ap
 generalize ad:(Ag++[s7]).map cS=aw
 obtain⟨aq,ah⟩:∃m,m=(Ag++[s7]).length:=⟨_,rfl⟩
 refine .bx [12,6,7] [6,7] hP (Rp Al Am Aq Ao (by first|assumption|omega|(simp;omega)) (by first|assumption|omega|(simp;omega)) (by omega) (by omega) (by omega) (by omega) (by omega) hss ((congrArg (List.map Ac) ab).trans ac) aj af aa ad ah) rfl rfl rfl rfl ?_
 conv=>cbv
 have e:((⟨o9,ae,Ai,Ag++[s7],Ap,An⟩:Aa),0)=C8 (⟨Af,Ah,Ai,Ag,Ap,An⟩:Aa) name:=(by unfold C8;rw[if_neg (by rintro(h|h);rw[ag]at h;cases h;dsimp only at h;omega)];unfold M2;dsimp only;rw[show tx [45]++name=s7 from an.symm,aj,ab])
 rw[hr]at e
 simp only[Prod.mk.injEq,Aa.mk.injEq]at e
 obtain⟨⟨rfl,rfl,rfl,rfl,rfl,rfl⟩,rfl⟩:=e
 refine hQ _ _ ?_
 exact .m rfl (.agg (.sub rfl (by rw[←aa,List.length_map,List.length_append];omega) (by rw[←aa,←B3,af,List.drop_zero,List.map_append,List.take_left' (by rw[List.length_map])]) (.d rfl (Bj ac B4) (.d rfl (Bj Aq B5) (.ref rfl (Ae ad) (Bt ad B2) .d2)))) .d1)
end
section
open Go Go.Proofs
def Xc3:List (Nat×TyRow):=[ty3,ty9,Z2,Xp]
theorem XcP:B1 Tryz.prog Xc3:=B1.of (by kernel_rfl)
theorem XkL:Setup Tryz.prog Xc3:=⟨XcP,mixed⟩
def B8(d:Aa)(from_ to_:ByteArray):Aa×Int:=if Bq d=false∨Bd d.entries_ from_<0 then(d,3)else if Bs to_=false∨from_=to_ then(d,1)else(M2 d (tx [62]++from_++tx [58]++to_),0)
theorem Xc4{Af:List A0}{Bo:List (List D)}{Ah:List Ad}{Bn:List (List D)}{Ai:List Ad}{Bm:List (List D)}{Ag:List ByteArray}{Bp:List (List D)}{Ap:Int}{An:Int}{from_:ByteArray}{to_:ByteArray}{G8:List A0}{Eo:List (List D)}{Hk:List Ad}{Eu:List (List D)}{G9:List Ad}{Et:List (List D)}{Hj:List ByteArray}{Es:List (List D)}{Hf:Int}{He:Int}{ob:Int}(Al:Af.map Bf=Bo)(Am:Ah.map Ac=Bn)(Aq:Ai.map Ac=Bm)(Ao:Ag.map cS=Bp)(hn:Af.length≤1000000000)(he:Ah.length≤1000000000)(ho:Ai.length≤1000000000)(hs:Ag.length<1000000000)(hss:okS Ag)(ap:J8 (⟨Af,Ah,Ai,Ag,Ap,An⟩:Aa))(hm:from_.size+to_.size<999999999)(hr:B8 (⟨Af,Ah,Ai,Ag,Ap,An⟩:Aa) from_ to_=(⟨G8,Hk,G9,Hj,Hf,He⟩,ob))(B3:G8.map Bf=Eo)(B4:Hk.map Ac=Eu)(B5:G9.map Ac=Et)(B2:Hj.map cS=Es):Fn Tryz.prog 260 [.agg [.d (.row 3 Bo),.d (.row 2 Bn),.d (.row 2 Bm),.d (.row 1 Bp),I Ap,I An],S from_,S to_] [] ⟨.tup [.agg [.d (.row 3 Eo),.d (.row 2 Eu),.d (.row 2 Et),.d (.row 1 Es),I Hf,I He],I ob],[],[]⟩:=by
 refine Fn.go XkL Tryz.func260 fun P hP Q hQ=>?_
 conv=>cbv
 obtain⟨n2,aq⟩:∃m,m=Af.length:=⟨_,rfl⟩
 obtain⟨n3,ar⟩:∃m,m=Ag.length:=⟨_,rfl⟩
 refine .ddN hP (Jf Al Am Aq Ao (by omega) (by omega) (by omega) (by omega) aq ar) rfl ?_
 conv=>cbv
 generalize ac:Bq (⟨Af,Ah,Ai,Ag,Ap,An⟩:Aa)=r4
 refine .dd hP (N1 Al Am Aq Ao ap ac) ?_
 cases r4
 conv=>cbv
 have e:((⟨Af,Ah,Ai,Ag,Ap,An⟩:Aa),3)=B8 (⟨Af,Ah,Ai,Ag,Ap,An⟩:Aa) from_ to_:=(by unfold B8;rw[if_pos (.inl ac)])
 rw[hr]at e
 simp only[Prod.mk.injEq,Aa.mk.injEq]at e
 obtain⟨⟨rfl,rfl,rfl,rfl,rfl,rfl⟩,rfl⟩:=e
 refine hQ _ _ ?_
 exact .m rfl (.agg (.ref rfl (Ae Al) (Bt Al B3) (.d rfl (Bj Am B4) (.d rfl (Bj Aq B5) (.ref rfl (Ae Ao) (Bt Ao B2) .d2)))) .d1)
 conv=>cbv
 generalize am:Bd Ah from_=r5
 refine .dd hP (K2 Am (by omega) am) ?_
 conv=>cbv
 refine .lss (fun h6=>?_) fun h6=>?_
 conv=>cbv
 have e:((⟨Af,Ah,Ai,Ag,Ap,An⟩:Aa),3)=B8 (⟨Af,Ah,Ai,Ag,Ap,An⟩:Aa) from_ to_:=(by unfold B8;rw[if_pos (.inr (by rw[am];exact h6))])
 rw[hr]at e
 simp only[Prod.mk.injEq,Aa.mk.injEq]at e
 obtain⟨⟨rfl,rfl,rfl,rfl,rfl,rfl⟩,rfl⟩:=e
 refine hQ _ _ ?_
 exact .m rfl (.agg (.ref rfl (Ae Al) (Bt Al B3) (.d rfl (Bj Am B4) (.d rfl (Bj Aq B5) (.ref rfl (Ae Ao) (Bt Ao B2) .d2)))) .d1)
 conv=>cbv
 generalize ak:Bs to_=r7
 refine .dd hP (Kt (by omega) ak) ?_
 cases r7
 conv=>cbv
 have e:((⟨Af,Ah,Ai,Ag,Ap,An⟩:Aa),1)=B8 (⟨Af,Ah,Ai,Ag,Ap,An⟩:Aa) from_ to_:=(by unfold B8;rw[if_neg (by rintro(h|h);rw[ac]at h;cases h;dsimp only at h;omega),if_pos (.inl ak)])
 rw[hr]at e
 simp only[Prod.mk.injEq,Aa.mk.injEq]at e
 obtain⟨⟨rfl,rfl,rfl,rfl,rfl,rfl⟩,rfl⟩:=e
 refine hQ _ _ ?_
 exact .m rfl (.agg (.ref rfl (Ae Al) (Bt Al B3) (.d rfl (Bj Am B4) (.d rfl (Bj Aq B5) (.ref rfl (Ae Ao) (Bt Ao B2) .d2)))) .d1)
 conv=>cbv
 refine .eql (fun h8=>?_) fun h8=>?_
 conv=>cbv
 have e:((⟨Af,Ah,Ai,Ag,Ap,An⟩:Aa),1)=B8 (⟨Af,Ah,Ai,Ag,Ap,An⟩:Aa) from_ to_:=(by unfold B8;rw[if_neg (by rintro(h|h);rw[ac]at h;cases h;dsimp only at h;omega),if_pos (.inr h8)])
 rw[hr]at e
 simp only[Prod.mk.injEq,Aa.mk.injEq]at e
 obtain⟨⟨rfl,rfl,rfl,rfl,rfl,rfl⟩,rfl⟩:=e
 refine hQ _ _ ?_
 exact .m rfl (.agg (.ref rfl (Ae Al) (Bt Al B3) (.d rfl (Bj Am B4) (.d rfl (Bj Aq B5) (.ref rfl (Ae Ao) (Bt Ao B2) .d2)))) .d1)
 conv=>cbv
 refine .litL 1 fun s9 au a6=>?_
 conv=>cbv
 refine .litR 1 fun a7 an aw=>?_
 conv=>cbv
 refine .go fun ab ao ax=>?_
 conv=>cbv
 generalize ad:(As Ah ab).1=ai
 generalize ae:ai.map Ac=ay
 generalize aj:Oe Af Ai (Ag++[ab])=ah
 obtain⟨az,af⟩:∃m,m=ah.length:=⟨_,rfl⟩
 generalize aa:(ah++List.replicate (Af.length - ah.length) (⟨0,tx [],0⟩:A0)).map Bf=a1
 generalize ag:(Ag++[ab]).map cS=a8
 obtain⟨a2,al⟩:∃m,m=(Ag++[ab]).length:=⟨_,rfl⟩
 refine .bx [12,6,7] [6,7] hP (Rp Al Am Aq Ao (by first|assumption|omega|(simp;omega)) (by first|assumption|omega|(simp;omega)) (by omega) (by omega) (by omega) (by omega) (by omega) hss ((congrArg (List.map Ac) ad).trans ae) aj af aa ag al) rfl rfl rfl rfl ?_
 conv=>cbv
 have e:((⟨ah,ai,Ai,Ag++[ab],Ap,An⟩:Aa),0)=B8 (⟨Af,Ah,Ai,Ag,Ap,An⟩:Aa) from_ to_:=(by unfold B8;rw[if_neg (by rintro(h|h);rw[ac]at h;cases h;dsimp only at h;omega),if_neg (by rintro(h|h);rw[ak]at h;cases h;exact h8 h)];unfold M2;dsimp only;rw[show tx [62]++from_++tx [58]++to_=ab from by rw[ao,an,au];rfl,aj,ad])
 rw[hr]at e
 simp only[Prod.mk.injEq,Aa.mk.injEq]at e
 obtain⟨⟨rfl,rfl,rfl,rfl,rfl,rfl⟩,rfl⟩:=e
 refine hQ _ _ ?_
 exact .m rfl (.agg (.sub rfl (by rw[←aa,List.length_map,List.length_append];omega) (by rw[←aa,←B3,af,List.drop_zero,List.map_append,List.take_left' (by rw[List.length_map])]) (.d rfl (Bj ae B4) (.d rfl (Bj Aq B5) (.ref rfl (Ae ag) (Bt ag B2) .d2)))) .d1)
end
section
open Go Go.Proofs
def Xcq:List (Nat×TyRow):=[ty3,ty9,XfK,Xp,U5]
theorem Xco:B1 Tryz.prog Xcq:=B1.of (by kernel_rfl)
theorem Xkm:Setup Tryz.prog Xcq:=⟨Xco,mixed⟩
def D3(d:Aa)(name:ByteArray):Aa×Int:=if Bq d=false∨Da d name<0 then(d,3)else
 (⟨d.nodes_.set (Da d name).toNat ⟨(d.nodes_.getD (Da d name).toNat ⟨0,tx [],0⟩).id_,(d.nodes_.getD (Da d name).toNat ⟨0,tx [],0⟩).text_,((d.nodes_.getD (Da d name).toNat ⟨0,tx [],0⟩).text_.size:Int)⟩,d.entries_,d.old_,d.steps_,d.room_,d.next_⟩,0)
theorem XgI{Af:List A0}{Bo:List (List D)}{Ah:List Ad}{Bn:List (List D)}{Ai:List Ad}{Bm:List (List D)}{Ag:List ByteArray}{Bp:List (List D)}{Ap:Int}{An:Int}{name:ByteArray}{G8:List A0}{Eo:List (List D)}{Hk:List Ad}{Eu:List (List D)}{G9:List Ad}{Et:List (List D)}{Hj:List ByteArray}{Es:List (List D)}{Hf:Int}{He:Int}{ob:Int}(Al:Af.map Bf=Bo)(Am:Ah.map Ac=Bn)(Aq:Ai.map Ac=Bm)(Ao:Ag.map cS=Bp)(hn:Af.length≤1000000000)(he:Ah.length≤1000000000)(ho:Ai.length≤1000000000)(hs:Ag.length<1000000000)(hss:okS Ag)(af:J8 (⟨Af,Ah,Ai,Ag,Ap,An⟩:Aa))(hr:D3 (⟨Af,Ah,Ai,Ag,Ap,An⟩:Aa) name=(⟨G8,Hk,G9,Hj,Hf,He⟩,ob))(B3:G8.map Bf=Eo)(B4:Hk.map Ac=Eu)(B5:G9.map Ac=Et)(B2:Hj.map cS=Es):Fn Tryz.prog 259 [.agg [.d (.row 3 Bo),.d (.row 2 Bn),.d (.row 2 Bm),.d (.row 1 Bp),I Ap,I An],S name] [] ⟨.tup [.agg [.d (.row 3 Eo),.d (.row 2 Eu),.d (.row 2 Et),.d (.row 1 Es),I Hf,I He],I ob],[],[]⟩:=by
 refine Fn.go Xkm Tryz.func259 fun P hP Q hQ=>?_
 conv=>cbv
 obtain⟨n2,ah⟩:∃m,m=Af.length:=⟨_,rfl⟩
 obtain⟨n3,ai⟩:∃m,m=Ag.length:=⟨_,rfl⟩
 refine .ddN hP (Jf Al Am Aq Ao (by omega) (by omega) (by omega) (by omega) ah ai) rfl ?_
 conv=>cbv
 generalize ab:Da (⟨Af,Ah,Ai,Ag,Ap,An⟩:Aa) name=r4
 refine .dd hP (Nl Al Am Aq Ao af.1 ab) ?_
 conv=>cbv
 have hb:=Im ab
 simp only[]at hb
 generalize ad:Bq (⟨Af,Ah,Ai,Ag,Ap,An⟩:Aa)=r5
 refine .dd hP (N1 Al Am Aq Ao af ad) ?_
 cases r5
 conv=>cbv
 have e:((⟨Af,Ah,Ai,Ag,Ap,An⟩:Aa),3)=D3 (⟨Af,Ah,Ai,Ag,Ap,An⟩:Aa) name:=(by unfold D3;rw[if_pos (.inl ad)])
 rw[hr]at e
 simp only[Prod.mk.injEq,Aa.mk.injEq]at e
 obtain⟨⟨rfl,rfl,rfl,rfl,rfl,rfl⟩,rfl⟩:=e
 refine hQ _ _ ?_
 exact .m rfl (.agg (.ref rfl (Ae Al) (Bt Al B3) (.d rfl (Bj Am B4) (.d rfl (Bj Aq B5) (.ref rfl (Ae Ao) (Bt Ao B2) .d2)))) .d1)
 conv=>cbv
 refine .lss (fun h6=>?_) fun h6=>?_
 conv=>cbv
 have e:((⟨Af,Ah,Ai,Ag,Ap,An⟩:Aa),3)=D3 (⟨Af,Ah,Ai,Ag,Ap,An⟩:Aa) name:=(by unfold D3;rw[if_pos (.inr (by rw[ab];exact h6))])
 rw[hr]at e
 simp only[Prod.mk.injEq,Aa.mk.injEq]at e
 obtain⟨⟨rfl,rfl,rfl,rfl,rfl,rfl⟩,rfl⟩:=e
 refine hQ _ _ ?_
 exact .m rfl (.agg (.ref rfl (Ae Al) (Bt Al B3) (.d rfl (Bj Am B4) (.d rfl (Bj Aq B5) (.ref rfl (Ae Ao) (Bt Ao B2) .d2)))) .d1)
 conv=>cbv
 refine .go r4.toNat fun p7 aq an=>?_
 conv=>cbv
 refine .go Al fun ao ⟨ap,ae,aj⟩ ak=>?_
 conv=>cbv
 refine .go fun v9 al=>?_
 conv=>cbv
 refine .go r4.toNat fun aa ag am=>?_
 conv=>cbv
 refine .go (⟨(Af.getD aa ⟨0,tx [],0⟩).id_,(Af.getD aa ⟨0,tx [],0⟩).text_,v9⟩:A0) Al (by omega) (by rw[←gD (show aa<Af.length by omega)];rfl) (Nat.le_refl 3) fun ar ac=>?_
 conv=>cbv
 have e:((⟨Af.set aa (⟨(Af.getD aa ⟨0,tx [],0⟩).id_,(Af.getD aa ⟨0,tx [],0⟩).text_,v9⟩:A0),Ah,Ai,Ag,Ap,An⟩:Aa),0)=D3 (⟨Af,Ah,Ai,Ag,Ap,An⟩:Aa) name:=(by unfold D3;rw[if_neg (by rintro(h|h);rw[ad]at h;cases h;rw[ab]at h;omega),ab];dsimp only;have e9:ae=(Af.getD aa ⟨0,tx [],0⟩).text_:=(by have h9:p7=aa:=(by omega);subst h9;rw[←gD (show p7<Af.length by omega),←ak]);rw[al,e9,←ag])
 rw[hr]at e
 simp only[Prod.mk.injEq,Aa.mk.injEq]at e
 obtain⟨⟨rfl,rfl,rfl,rfl,rfl,rfl⟩,rfl⟩:=e
 refine hQ _ _ ?_
 exact .m rfl (.agg (.ref rfl (Ae ac) (Bt ac B3) (.d rfl (Bj Am B4) (.d rfl (Bj Aq B5) (.ref rfl (Ae Ao) (Bt Ao B2) .d2)))) .d1)
end
section
open Go Go.Proofs
def XdB:List (Nat×TyRow):=[ty3,ty9,XfK,Z2,XaC,Xp,U5]
theorem Xcr:B1 Tryz.prog XdB:=B1.of (by kernel_rfl)
theorem Xa4:Setup Tryz.prog XdB:=⟨Xcr,mixed⟩
theorem XeN{α:Type}{f:α→Int}(h:∀x,0≤f x):∀{l:List α} {a:Int},a≤(l.map f).foldl (·+·) a
 |[],a=>by simp
 |x::l,a=>by
  rw[List.map_cons,List.foldl_cons]
  have:=XeN h (l:=l) (a:=a+f x)
  have:=h x
  omega
theorem Xg3(d:Aa):0≤F9 d:=XeN (f:=fun n:A0=>(n.text_.size:Int)) (fun x=>by omega)
theorem Jc{d:Aa}(h:Bq d=true):0≤d.room_∧d.room_≤1000000000∧1≤d.next_∧d.next_≤1000000000∧0≤F9 d∧F9 d≤d.room_:=by
 have h1:=diskOk_iff.1 h
 exact⟨h1.1.1,h1.1.2,h1.2.1.1,h1.2.1.2,Xg3 d,h1.2.2.2.1⟩
def gN(d:Aa)(i:Int):A0:=d.nodes_.getD i.toNat ⟨0,tx [],0⟩
def XmQ(d:Aa)(i:Int)(x:A0):Aa:=⟨d.nodes_.set i.toNat x,d.entries_,d.old_,d.steps_,d.room_,d.next_⟩
def Cl(d:Aa)(name text:ByteArray):Aa×Int:=if Bq d=false∨Da d name<0 then(d,3)else
 (XmQ d (Da d name) ⟨(gN d (Da d name)).id_,(gN d (Da d name)).text_++text.extract 0 (min (text.size:Int) (d.room_ - F9 d)).toNat,(gN d (Da d name)).sure_⟩,if d.room_ - F9 d<text.size then 5 else 0)
def Bl(d:Aa)(name:ByteArray):Aa×Int:=if Bq d=false then(d,3)else if Bs name=false then(d,1)else if 0≤Bd d.entries_ name then(d,2)else if 16≤d.entries_.length∨64≤d.nodes_.length∨1000000000≤d.next_ then(d,4)else
 (M2 ⟨d.nodes_++[⟨d.next_,tx [],0⟩],d.entries_,d.old_,d.steps_,d.room_,d.next_+1⟩ (tx [43]++name++tx [58]++Ch d.next_),0)
def Ed(d:Aa):Aa:=if Bq d=false then d else⟨Oe d.nodes_ d.entries_ [],d.entries_,d.entries_,[],d.room_,d.next_⟩
variable {Af G8:List A0} {Bo Bn Bm Bp Eo Eu Et Es:List (List D)} {Ah Ai Hk G9:List Ad} {Ag Hj:List ByteArray} {Ap An Hf He ob:Int} {name:ByteArray}
theorem Xdt{text:ByteArray}(Al:Af.map Bf=Bo)(Am:Ah.map Ac=Bn)(Aq:Ai.map Ac=Bm)(Ao:Ag.map cS=Bp)(hn:Af.length≤1000000000)(he:Ah.length≤1000000000)(ho:Ai.length≤1000000000)(hs:Ag.length<1000000000)(hss:okS Ag)(ah:J8 (⟨Af,Ah,Ai,Ag,Ap,An⟩:Aa))(ht:text.size≤1000000000)(hr:Cl (⟨Af,Ah,Ai,Ag,Ap,An⟩:Aa) name text=(⟨G8,Hk,G9,Hj,Hf,He⟩,ob))(B3:G8.map Bf=Eo)(B4:Hk.map Ac=Eu)(B5:G9.map Ac=Et)(B2:Hj.map cS=Es):Fn Tryz.prog 258 [.agg [.d (.row 3 Bo),.d (.row 2 Bn),.d (.row 2 Bm),.d (.row 1 Bp),I Ap,I An],S name,S text] [] ⟨.tup [.agg [.d (.row 3 Eo),.d (.row 2 Eu),.d (.row 2 Et),.d (.row 1 Es),I Hf,I He],I ob],[],[]⟩:=by
 refine Fn.go Xa4 Tryz.func258 fun P hP Q hQ=>?_
 conv=>cbv
 obtain⟨n2,au⟩:∃m,m=Af.length:=⟨_,rfl⟩
 obtain⟨n3,aw⟩:∃m,m=Ag.length:=⟨_,rfl⟩
 refine .ddN hP (Jf Al Am Aq Ao (by omega) (by omega) (by omega) (by omega) au aw) rfl ?_
 conv=>cbv
 generalize ac:Da (⟨Af,Ah,Ai,Ag,Ap,An⟩:Aa) name=r4
 refine .dd hP (Nl Al Am Aq Ao ah.1 ac) ?_
 conv=>cbv
 have hb:=Im ac
 simp only[]at hb
 generalize ae:Bq (⟨Af,Ah,Ai,Ag,Ap,An⟩:Aa)=r5
 refine .dd hP (N1 Al Am Aq Ao ah ae) ?_
 cases r5
 conv=>cbv
 have e:((⟨Af,Ah,Ai,Ag,Ap,An⟩:Aa),3)=Cl (⟨Af,Ah,Ai,Ag,Ap,An⟩:Aa) name text:=(by unfold Cl;rw[if_pos (.inl ae)])
 rw[hr]at e
 simp only[Prod.mk.injEq,Aa.mk.injEq]at e
 obtain⟨⟨rfl,rfl,rfl,rfl,rfl,rfl⟩,rfl⟩:=e
 refine hQ _ _ ?_
 exact .m rfl (.agg (.ref rfl (Ae Al) (Bt Al B3) (.d rfl (Bj Am B4) (.d rfl (Bj Aq B5) (.ref rfl (Ae Ao) (Bt Ao B2) .d2)))) .d1)
 conv=>cbv
 refine .lss (fun h6=>?_) fun h6=>?_
 conv=>cbv
 have e:((⟨Af,Ah,Ai,Ag,Ap,An⟩:Aa),3)=Cl (⟨Af,Ah,Ai,Ag,Ap,An⟩:Aa) name text:=(by unfold Cl;rw[if_pos (.inr (by rw[ac];exact h6))])
 rw[hr]at e
 simp only[Prod.mk.injEq,Aa.mk.injEq]at e
 obtain⟨⟨rfl,rfl,rfl,rfl,rfl,rfl⟩,rfl⟩:=e
 refine hQ _ _ ?_
 exact .m rfl (.agg (.ref rfl (Ae Al) (Bt Al B3) (.d rfl (Bj Am B4) (.d rfl (Bj Aq B5) (.ref rfl (Ae Ao) (Bt Ao B2) .d2)))) .d1)
 conv=>cbv
 refine .go fun v7 ap=>?_
 conv=>cbv
 generalize ai:F9 (⟨Af,Ah,Ai,Ag,Ap,An⟩:Aa)=r8
 refine .dd hP (Xgd Al Am Aq Ao ah.1 ai) ?_
 conv=>cbv
 have hri:=Jc ae
 simp only[ai]at hri
 refine .sub fun v9 aq=>?_
 conv=>cbv
 refine .go fun bb ak=>?_
 conv=>cbv
 refine .go r4.toNat fun aj a2 ax=>?_
 conv=>cbv
 refine .go Al fun an ⟨ay,ab,ar⟩ af=>?_
 conv=>cbv
 refine .hi fun az ag=>?_
 conv=>cbv
 have a6:ab.size≤1000000000:=by have h9:=ah.1.2.1 _ (List.getElem_mem an);rw[←af]at h9;exact h9
 have a7:az.size≤text.size:=by rw[ag,ByteArray.size_extract];omega
 refine .go fun ao al a8=>?_
 conv=>cbv
 refine .go r4.toNat fun aa am a1=>?_
 conv=>cbv
 refine .go (⟨(Af.getD aa ⟨0,tx [],0⟩).id_,ao,(Af.getD aa ⟨0,tx [],0⟩).sure_⟩:A0) Al (by omega) (by rw[←gD (show aa<Af.length by omega)];rfl) (show 1+1≤3 by decide) fun bc ad=>?_
 conv=>cbv
 refine .go fun bd ba=>?_
 conv=>cbv
 refine .lss (fun h18=>?_) fun h18=>?_
 conv=>cbv
 have e:((⟨Af.set aa (⟨(Af.getD aa ⟨0,tx [],0⟩).id_,ao,(Af.getD aa ⟨0,tx [],0⟩).sure_⟩:A0),Ah,Ai,Ag,Ap,An⟩:Aa),5)=Cl (⟨Af,Ah,Ai,Ag,Ap,An⟩:Aa) name text:=(by unfold Cl;rw[if_neg (by rintro(h|h);rw[ae]at h;cases h;rw[ac]at h;omega),ac,ai];dsimp only;rw[if_pos (by omega)];unfold XmQ gN;dsimp only;have e9:ab=(Af.getD aa ⟨0,tx [],0⟩).text_:=(by have h9:aj=aa:=(by omega);subst h9;rw[←gD (show aj<Af.length by omega),←af]);rw[←am,al,e9,ag,ak,ap,aq])
 rw[hr]at e
 simp only[Prod.mk.injEq,Aa.mk.injEq]at e
 obtain⟨⟨rfl,rfl,rfl,rfl,rfl,rfl⟩,rfl⟩:=e
 refine hQ _ _ ?_
 exact .m rfl (.agg (.ref rfl (Ae ad) (Bt ad B3) (.d rfl (Bj Am B4) (.d rfl (Bj Aq B5) (.ref rfl (Ae Ao) (Bt Ao B2) .d2)))) .d1)
 conv=>cbv
 have e:((⟨Af.set aa (⟨(Af.getD aa ⟨0,tx [],0⟩).id_,ao,(Af.getD aa ⟨0,tx [],0⟩).sure_⟩:A0),Ah,Ai,Ag,Ap,An⟩:Aa),0)=Cl (⟨Af,Ah,Ai,Ag,Ap,An⟩:Aa) name text:=(by unfold Cl;rw[if_neg (by rintro(h|h);rw[ae]at h;cases h;rw[ac]at h;omega),ac,ai];dsimp only;rw[if_neg (by omega)];unfold XmQ gN;dsimp only;have e9:ab=(Af.getD aa ⟨0,tx [],0⟩).text_:=(by have h9:aj=aa:=(by omega);subst h9;rw[←gD (show aj<Af.length by omega),←af]);rw[←am,al,e9,ag,ak,ap,aq])
 rw[hr]at e
 simp only[Prod.mk.injEq,Aa.mk.injEq]at e
 obtain⟨⟨rfl,rfl,rfl,rfl,rfl,rfl⟩,rfl⟩:=e
 refine hQ _ _ ?_
 exact .m rfl (.agg (.ref rfl (Ae ad) (Bt ad B3) (.d rfl (Bj Am B4) (.d rfl (Bj Aq B5) (.ref rfl (Ae Ao) (Bt Ao B2) .d2)))) .d1)
theorem Xdh(Al:Af.map Bf=Bo)(Am:Ah.map Ac=Bn)(Aq:Ai.map Ac=Bm)(Ao:Ag.map cS=Bp)(hn:Af.length≤1000000000)(he:Ah.length≤1000000000)(ho:Ai.length≤1000000000)(hs:Ag.length<1000000000)(hss:okS Ag)(aw:J8 (⟨Af,Ah,Ai,Ag,Ap,An⟩:Aa))(hm:name.size≤1000000000)(hr:Bl (⟨Af,Ah,Ai,Ag,Ap,An⟩:Aa) name=(⟨G8,Hk,G9,Hj,Hf,He⟩,ob))(B3:G8.map Bf=Eo)(B4:Hk.map Ac=Eu)(B5:G9.map Ac=Et)(B2:Hj.map cS=Es):Fn Tryz.prog 257 [.agg [.d (.row 3 Bo),.d (.row 2 Bn),.d (.row 2 Bm),.d (.row 1 Bp),I Ap,I An],S name] [] ⟨.tup [.agg [.d (.row 3 Eo),.d (.row 2 Eu),.d (.row 2 Et),.d (.row 1 Es),I Hf,I He],I ob],[],[]⟩:=by
 refine Fn.go Xa4 Tryz.func257 fun P hP Q hQ=>?_
 conv=>cbv
 obtain⟨n2,ax⟩:∃m,m=Af.length:=⟨_,rfl⟩
 obtain⟨n3,ay⟩:∃m,m=Ag.length:=⟨_,rfl⟩
 refine .ddN hP (Jf Al Am Aq Ao (by omega) (by omega) (by omega) (by omega) ax ay) rfl ?_
 conv=>cbv
 generalize aa:Bq (⟨Af,Ah,Ai,Ag,Ap,An⟩:Aa)=r4
 refine .dd hP (N1 Al Am Aq Ao aw aa) ?_
 cases r4
 conv=>cbv
 have e:((⟨Af,Ah,Ai,Ag,Ap,An⟩:Aa),3)=Bl (⟨Af,Ah,Ai,Ag,Ap,An⟩:Aa) name:=(by unfold Bl;rw[if_pos aa])
 rw[hr]at e
 simp only[Prod.mk.injEq,Aa.mk.injEq]at e
 obtain⟨⟨rfl,rfl,rfl,rfl,rfl,rfl⟩,rfl⟩:=e
 refine hQ _ _ ?_
 exact .m rfl (.agg (.ref rfl (Ae Al) (Bt Al B3) (.d rfl (Bj Am B4) (.d rfl (Bj Aq B5) (.ref rfl (Ae Ao) (Bt Ao B2) .d2)))) .d1)
 conv=>cbv
 generalize ab:Bs name=r5
 refine .dd hP (Kt (by omega) ab) ?_
 cases r5
 conv=>cbv
 have e:((⟨Af,Ah,Ai,Ag,Ap,An⟩:Aa),1)=Bl (⟨Af,Ah,Ai,Ag,Ap,An⟩:Aa) name:=(by unfold Bl;rw[if_neg (by rw[aa];decide),if_pos ab])
 rw[hr]at e
 simp only[Prod.mk.injEq,Aa.mk.injEq]at e
 obtain⟨⟨rfl,rfl,rfl,rfl,rfl,rfl⟩,rfl⟩:=e
 refine hQ _ _ ?_
 exact .m rfl (.agg (.ref rfl (Ae Al) (Bt Al B3) (.d rfl (Bj Am B4) (.d rfl (Bj Aq B5) (.ref rfl (Ae Ao) (Bt Ao B2) .d2)))) .d1)
 conv=>cbv
 generalize ad:Bd Ah name=r6
 refine .dd hP (K2 Am (by omega) ad) ?_
 conv=>cbv
 refine .geq (fun h7=>?_) fun h7=>?_
 conv=>cbv
 have e:((⟨Af,Ah,Ai,Ag,Ap,An⟩:Aa),2)=Bl (⟨Af,Ah,Ai,Ag,Ap,An⟩:Aa) name:=(by unfold Bl;rw[if_neg (by rw[aa];decide),if_neg (by rw[ab];decide),if_pos (by rw[ad];omega)])
 rw[hr]at e
 simp only[Prod.mk.injEq,Aa.mk.injEq]at e
 obtain⟨⟨rfl,rfl,rfl,rfl,rfl,rfl⟩,rfl⟩:=e
 refine hQ _ _ ?_
 exact .m rfl (.agg (.ref rfl (Ae Al) (Bt Al B3) (.d rfl (Bj Am B4) (.d rfl (Bj Aq B5) (.ref rfl (Ae Ao) (Bt Ao B2) .d2)))) .d1)
 conv=>cbv
 refine .go Am fun v8 bf=>?_
 conv=>cbv
 refine .geq (fun h9=>?_) fun h9=>?_
 conv=>cbv
 have e:((⟨Af,Ah,Ai,Ag,Ap,An⟩:Aa),4)=Bl (⟨Af,Ah,Ai,Ag,Ap,An⟩:Aa) name:=(by unfold Bl;rw[if_neg (by rw[aa];decide),if_neg (by rw[ab];decide),if_neg (by rw[ad];omega),if_pos (by dsimp only;omega)])
 rw[hr]at e
 simp only[Prod.mk.injEq,Aa.mk.injEq]at e
 obtain⟨⟨rfl,rfl,rfl,rfl,rfl,rfl⟩,rfl⟩:=e
 refine hQ _ _ ?_
 exact .m rfl (.agg (.ref rfl (Ae Al) (Bt Al B3) (.d rfl (Bj Am B4) (.d rfl (Bj Aq B5) (.ref rfl (Ae Ao) (Bt Ao B2) .d2)))) .d1)
 conv=>cbv
 refine .go Al fun bg a2=>?_
 conv=>cbv
 refine .geq (fun h11=>?_) fun h11=>?_
 conv=>cbv
 have e:((⟨Af,Ah,Ai,Ag,Ap,An⟩:Aa),4)=Bl (⟨Af,Ah,Ai,Ag,Ap,An⟩:Aa) name:=(by unfold Bl;rw[if_neg (by rw[aa];decide),if_neg (by rw[ab];decide),if_neg (by rw[ad];omega),if_pos (by dsimp only;omega)])
 rw[hr]at e
 simp only[Prod.mk.injEq,Aa.mk.injEq]at e
 obtain⟨⟨rfl,rfl,rfl,rfl,rfl,rfl⟩,rfl⟩:=e
 refine hQ _ _ ?_
 exact .m rfl (.agg (.ref rfl (Ae Al) (Bt Al B3) (.d rfl (Bj Am B4) (.d rfl (Bj Aq B5) (.ref rfl (Ae Ao) (Bt Ao B2) .d2)))) .d1)
 conv=>cbv
 refine .geq (fun h12=>?_) fun h12=>?_
 conv=>cbv
 have e:((⟨Af,Ah,Ai,Ag,Ap,An⟩:Aa),4)=Bl (⟨Af,Ah,Ai,Ag,Ap,An⟩:Aa) name:=(by unfold Bl;rw[if_neg (by rw[aa];decide),if_neg (by rw[ab];decide),if_neg (by rw[ad];omega),if_pos (by dsimp only;omega)])
 rw[hr]at e
 simp only[Prod.mk.injEq,Aa.mk.injEq]at e
 obtain⟨⟨rfl,rfl,rfl,rfl,rfl,rfl⟩,rfl⟩:=e
 refine hQ _ _ ?_
 exact .m rfl (.agg (.ref rfl (Ae Al) (Bt Al B3) (.d rfl (Bj Am B4) (.d rfl (Bj Aq B5) (.ref rfl (Ae Ao) (Bt Ao B2) .d2)))) .d1)
 conv=>cbv
 refine .one (⟨An,tx [],0⟩:A0) Al rfl fun a6 bh az ao=>?_
 conv=>cbv
 have hri:=Jc aa
 simp only[]at hri
 have hnz:=Q8 ab
 refine .add fun a1 ap=>?_
 conv=>cbv
 refine .litL 1 fun bi aq a7=>?_
 conv=>cbv
 refine .litR 1 fun bj ar a8=>?_
 conv=>cbv
 generalize af:Ch An=bk
 refine .dd hP (Xc7 (by unfold Xbj;omega) af) ?_
 conv=>cbv
 have zr17:=Uc af (by unfold Xbj;omega)
 refine .go fun ae au ba=>?_
 conv=>cbv
 generalize ag:(As Ah ae).1=al
 generalize ah:al.map Ac=bb
 generalize am:Oe (Af++[(⟨An,tx [],0⟩:A0)]) Ai (Ag++[ae])=ak
 obtain⟨bc,ai⟩:∃m,m=ak.length:=⟨_,rfl⟩
 generalize ac:(ak++List.replicate ((Af++[(⟨An,tx [],0⟩:A0)]).length - ak.length) (⟨0,tx [],0⟩:A0)).map Bf=bd
 generalize aj:(Ag++[ae]).map cS=bl
 obtain⟨be,an⟩:∃m,m=(Ag++[ae]).length:=⟨_,rfl⟩
 refine .bx [12,14,7] [14,7] hP (Rp ao Am Aq Ao (by first|assumption|omega|(simp;omega)) (by first|assumption|omega|(simp;omega)) (by rw[List.length_append,List.length_singleton];omega) (by omega) (by omega) (by omega) (by omega) hss ((congrArg (List.map Ac) ag).trans ah) am ai ac aj an) rfl rfl rfl rfl ?_
 conv=>cbv
 have e:((⟨ak,al,Ai,Ag++[ae],Ap,a1⟩:Aa),0)=Bl (⟨Af,Ah,Ai,Ag,Ap,An⟩:Aa) name:=(by unfold Bl;rw[if_neg (by rw[aa];decide),if_neg (by rw[ab];decide),if_neg (by rw[ad];omega),if_neg (by dsimp only;omega)];unfold M2;dsimp only;rw[show tx [43]++name++tx [58]++Ch An=ae from(by rw[au,ar,aq,af];rfl),am,ag,ap])
 rw[hr]at e
 simp only[Prod.mk.injEq,Aa.mk.injEq]at e
 obtain⟨⟨rfl,rfl,rfl,rfl,rfl,rfl⟩,rfl⟩:=e
 refine hQ _ _ ?_
 exact .m rfl (.agg (.sub rfl (by rw[←ac,List.length_map,List.length_append];omega) (by rw[←ac,←B3,ai,List.drop_zero,List.map_append,List.take_left' (by rw[List.length_map])]) (.d rfl (Bj ah B4) (.d rfl (Bj Aq B5) (.ref rfl (Ae aj) (Bt aj B2) .d2)))) .d1)
theorem Xew{onod:List A0}{Ho:List (List D)}{oent:List Ad}{Hw:List (List D)}{oold:List Ad}{Hy:List (List D)}{oste:List ByteArray}{Hm:List (List D)}{oroo:Int}{onex:Int}(Al:Af.map Bf=Bo)(Am:Ah.map Ac=Bn)(Aq:Ai.map Ac=Bm)(Ao:Ag.map cS=Bp)(hn:Af.length≤1000000000)(he:Ah.length≤1000000000)(ho:Ai.length≤1000000000)(hs:Ag.length<1000000000)(hss:okS Ag)(ag:J8 (⟨Af,Ah,Ai,Ag,Ap,An⟩:Aa))(hr:Ed (⟨Af,Ah,Ai,Ag,Ap,An⟩:Aa)=⟨onod,oent,oold,oste,oroo,onex⟩)(Kb:onod.map Bf=Ho)(Kc:oent.map Ac=Hw)(Ke:oold.map Ac=Hy)(J0:oste.map cS=Hm):Fn Tryz.prog 261 [.agg [.d (.row 3 Bo),.d (.row 2 Bn),.d (.row 2 Bm),.d (.row 1 Bp),I Ap,I An]] [] ⟨.agg [.d (.row 3 Ho),.d (.row 2 Hw),.d (.row 2 Hy),.d (.row 1 Hm),I oroo,I onex],[],[]⟩:=by
 refine Fn.go Xa4 Tryz.func261 fun P hP Q hQ=>?_
 conv=>cbv
 obtain⟨n2,ah⟩:∃m,m=Af.length:=⟨_,rfl⟩
 obtain⟨n3,ai⟩:∃m,m=Ag.length:=⟨_,rfl⟩
 refine .ddN hP (Jf Al Am Aq Ao (by omega) (by omega) (by omega) (by omega) ah ai) rfl ?_
 conv=>cbv
 generalize ac:Bq (⟨Af,Ah,Ai,Ag,Ap,An⟩:Aa)=r4
 refine .dd hP (N1 Al Am Aq Ao ag ac) ?_
 cases r4
 conv=>cbv
 have e:(⟨Af,Ah,Ai,Ag,Ap,An⟩:Aa)=Ed (⟨Af,Ah,Ai,Ag,Ap,An⟩:Aa):=(by unfold Ed;rw[if_pos ac])
 rw[hr]at e
 simp only[Aa.mk.injEq]at e
 obtain⟨rfl,rfl,rfl,rfl,rfl,rfl⟩:=e
 exact hQ _ _ (.one (.inl rfl) rfl (.agg (.ref rfl (Ae Al) (Bt Al Kb) (.d rfl (Bj Am Kc) (.d rfl (Bj Aq Ke) (.ref rfl (Ae Ao) (Bt Ao J0) .d2)))) .nil))
 conv=>cbv
 generalize ae:Ds Ah=l5
 generalize ad:l5.map Ac=aj
 refine .dd hP (C5 Am (by omega) ae ad) ?_
 conv=>cbv
 have e5:l5=Ah:=ae.symm
 have ak:l5.length≤1000000000:=by rw[e5];exact he
 generalize af:Oe Af l5 []=o7
 obtain⟨al,ab⟩:∃m,m=o7.length:=⟨_,rfl⟩
 generalize aa:(o7++List.replicate (Af.length - o7.length) (⟨0,tx [],0⟩:A0)).map Bf=am
 refine .bx [12,6,13] [6,13] hP (Ur Al Am ad rfl (by first|assumption|omega) (by first|assumption|omega|rfl|(simp at*;omega)) (by omega) (by omega) (by simp) (fun _ h=>by cases h) af ab aa) rfl rfl rfl rfl ?_
 conv=>cbv
 have e:(⟨o7,Ah,l5,[],Ap,An⟩:Aa)=Ed (⟨Af,Ah,Ai,Ag,Ap,An⟩:Aa):=(by unfold Ed;rw[if_neg (by rw[ac];decide)];dsimp only;rw[←af,e5])
 rw[hr]at e
 simp only[Aa.mk.injEq]at e
 obtain⟨rfl,rfl,rfl,rfl,rfl,rfl⟩:=e
 exact hQ _ _ (.one (.inl rfl) rfl (.agg (.sub rfl (by rw[←aa,List.length_map,List.length_append];omega) (by rw[←aa,←Kb,ab,List.drop_zero,List.map_append,List.take_left' (by rw[List.length_map])]) (.d rfl (Bj Am Kc) (.d rfl (Bj ad Ke) (.ref rfl rfl (by rw[←J0];rfl) .d2)))) .nil))
end
section
open Go Go.Proofs
def Xv:List Ad→List ByteArray→Prop
 |_,[]=>True
 |now,s::ss=>srt now∧(As now s).2=true∧Xv (As now s).1 ss
theorem Ip{now:List Ad}{s:ByteArray}{ss:List ByteArray}(h:(As now s).2=true):H6 now (s::ss)=H6 (As now s).1 ss:=if_neg (by rw[h];decide)
theorem XfI{d:Aa}:∀{l:List ByteArray} {now:List Ad},E3 d now l=true→Xv now l∧H6 now l=(d.entries_,true)∧Bk d d.entries_=true
 |[],now,h=>by
  unfold E3 at h
  rw[Bool.and_eq_true]at h
  have e:now=d.entries_:=by
   have:=h.2
   unfold Jy at this
   exact of_decide_eq_true this
  refine⟨trivial,by rw[←e];rfl,by rw[←e];exact h.1⟩
 |s::ss,now,h=>by
  unfold E3 at h
  rw[Bool.and_eq_true,Bool.and_eq_true]at h
  obtain⟨a,b,c⟩:=XfI (now:=(As now s).1) h.2
  exact⟨⟨XiA h.1.1,h.1.2,a⟩,by rw[Ip h.1.2,b],c⟩
theorem P6:∀{l:List ByteArray} {now:List Ad} (k:Nat),Xv now l→Xv now (l.take k)
 |[],_,k,_=>by rw[List.take_nil];trivial
 |_::_,_,0,_=>trivial
 |_::_,_,k+1,h=>⟨h.1,h.2.1,P6 k h.2.2⟩
theorem Z7{s:ByteArray}{e:List Ad}:∀{l:List ByteArray} {now:List Ad},Xv now l→H6 now l=(e,true)→srt e→(As e s).2=true→Xv now (l++[s])
 |[],now,_,h,hs,h2=>by
  have e1:now=e:=congrArg Prod.fst h
  rw[e1]
  exact⟨hs,h2,trivial⟩
 |x::l,now,h,h1,hs,h2=>by
  rw[Ip h.2.1]at h1
  exact⟨h.1,h.2.1,Z7 h.2.2 h1 hs h2⟩
theorem Vc:∀{l:List ByteArray} {now:List Ad},Xv now l→Cv now l=H6 now l∧(H6 now l).2=true
 |[],now,_=>⟨rfl,rfl⟩
 |s::ss,now,h=>by
  obtain⟨a,b⟩:=Vc (now:=(As now s).1) h.2.2
  have e2:Cv now (s::ss)=Cv (E6 now s).1 ss:=if_neg (by rw[Wb h.1,h.2.1];decide)
  rw[Ip h.2.1,e2,Wb h.1,a]
  exact⟨rfl,b⟩
def Ol(l:List Ad)(id:Int):Bool:=l.any fun e=>decide (e.id_=id)
def XcZ(old:List Ad)(steps:List ByteArray)(id:Int):Bool:=(List.range (steps.length+1)).any fun k=>Ol (Cv old (steps.take k)).1 id
theorem Y5{id:Int}:∀{l:List ByteArray} {now:List Ad},Xv now l→(Sz now l id=true↔∃k,k≤l.length∧Ol (H6 now (l.take k)).1 id=true)
 |[],now,_=>by
  constructor
  ·intro h;exact⟨0,Nat.le_refl _,h⟩
  ·rintro⟨k,_,h⟩
   rw[List.take_nil]at h
   exact h
 |s::ss,now,h=>by
  have ih:=Y5 (id:=id) (now:=(As now s).1) h.2.2
  show(Ol now id||Sz (As now s).1 ss id)=true↔_
  rw[Bool.or_eq_true,ih]
  constructor
  ·rintro(h1|⟨k,hk,h1⟩)
   ·exact⟨0,Nat.zero_le _,h1⟩
   ·refine⟨k+1,by rw[List.length_cons];omega,?_⟩
    rw[List.take_succ_cons,Ip h.2.1]
    exact h1
  ·rintro⟨k,hk,h1⟩
   cases k with
   |zero=>exact .inl h1
   |succ k=>
    rw[List.take_succ_cons,Ip h.2.1]at h1
    exact .inr ⟨k,by rw[List.length_cons]at hk;omega,h1⟩
theorem Xi6{old:List Ad}{steps:List ByteArray}(h:Xv old steps)(id:Int):XcZ old steps id=Sz old steps id:=by
 rw[Bool.eq_iff_iff,Y5 h]
 unfold XcZ
 rw[List.any_eq_true]
 constructor
 ·rintro⟨k,hk,h1⟩
  rw[(Vc (P6 k h)).1]at h1
  exact⟨k,by have:=List.mem_range.1 hk;omega,h1⟩
 ·rintro⟨k,hk,h1⟩
  refine⟨k,List.mem_range.2 (by omega),?_⟩
  rw[(Vc (P6 k h)).1]
  exact h1
def Er(d:Aa):Aa:=⟨d.nodes_.filter (fun x=>XcZ d.old_ d.steps_ x.id_),d.entries_,d.old_,d.steps_,d.room_,d.next_⟩
theorem Xaj{d:Aa}(h:Xv d.old_ d.steps_):Er d=⟨Oe d.nodes_ d.old_ d.steps_,d.entries_,d.old_,d.steps_,d.room_,d.next_⟩:=by
 unfold Er Oe
 rw[List.filter_congr fun x _=>Xi6 h x.id_]
theorem Xk2{n:ByteArray}(h:Bs n=true):∀(j:Nat) x,n.data.toList[j]? =some x→x≠58:=by
 intro j x hx e
 unfold Bs at h
 rw[Bool.and_eq_true]at h
 have:=List.all_eq_true.1 h.1 x (List.mem_of_getElem? hx)
 rw[e]at this
 exact absurd this (by decide)
theorem Xgf{a b:ByteArray}(h:Bs a=true):Lb (a++tx [58]++b)=(a,b,true):=by
 have hl:(a++tx [58]++b).data.toList=a.data.toList++58::b.data.toList:=by
  rw[ByteArray.data_append,ByteArray.data_append,Array.toList_append,Array.toList_append,Rq,List.append_assoc]
  rfl
 have ha:a.data.toList.length=a.size:=Array.length_toList
 have e:J9 (a++tx [58]++b)=(a.size:Int):=by
  unfold J9
  rw[hl,Pb _ a.size]
  ·rw[List.getElem?_append_right (by omega),ha,Nat.sub_self]
   rfl
  ·intro j hj x hx
   rw[List.getElem?_append_left (by omega)]at hx
   exact Xk2 h j x hx
 unfold Lb
 rw[e,if_pos (by omega),Int.toNat_natCast]
 have hz:(a++tx [58]++b).size=a.size+1+b.size:=by rw[ByteArray.size_append,ByteArray.size_append,Bz];rfl
 have hb:b.data.toList.length=b.size:=Array.length_toList
 have e1:(a++tx [58]++b).extract 0 a.size=a:=by
  apply Nj
  rw[Dw,hl,List.drop_zero,List.take_left' ha]
 have e2:(a++tx [58]++b).extract (a.size+1) (a++tx [58]++b).size=b:=by
  apply Nj
  rw[Dw,List.take_of_length_le (by rw[Array.length_toList];exact Nat.le_refl _),hl,List.drop_append,List.drop_of_length_le (by omega),ha,Nat.add_sub_cancel_left]
  rfl
 rw[e1,e2]
theorem Rh{c:UInt8}{s:ByteArray}:(tx [c]++s).extract 1 (tx [c]++s).size=s:=by
 apply Nj
 rw[Dw,List.take_of_length_le (by rw[Array.length_toList];exact Nat.le_refl _),ByteArray.data_append,Array.toList_append,Rq]
 rfl
theorem Xbk{c:UInt8}{s:ByteArray}:(tx [c]++s).data.toList.head?=some c:=by
 rw[ByteArray.data_append,Array.toList_append,Rq]
 rfl
theorem Xir{c:UInt8}{s:ByteArray}:tx [c]++s≠tx []:=by
 intro e
 have:=congrArg ByteArray.size e
 rw[ByteArray.size_append,Bz,Bz]at this
 simp at this
theorem Xjs{l:List Ad}{n:ByteArray}{i:Int}(hn:Bs n=true)(h0:0≤i)(h1:i≤1000000000):As l (tx [43]++(n++tx [58]++Ch i))=(Uq l n i,true):=by
 have hc:Lb ((tx [43]++(n++tx [58]++Ch i)).extract 1 (tx [43]++(n++tx [58]++Ch i)).size)=(n,Ch i,true):=by rw[Rh];exact Xgf hn
 rw[Ht Xir Xbk hc,Xlc h0 h1,if_neg (by rw[hn];simp)]
theorem XgL{l:List Ad}{n:ByteArray}(hn:Bs n=true)(h:0≤Bd l n):As l (tx [45]++n)=(K4 l (Bd l n) (Bd l n+1),true):=by
 rw[Pu Xir Xbk,Rh]
 unfold Gq
 rw[if_neg (by rw[hn];rintro(k|k);omega;cases k)]
theorem Xii{l:List Ad}{a b:ByteArray}(hn:Bs a=true)(hb:Bs b=true)(hne:a≠b)(h:0≤Bd l a):As l (tx [62]++(a++tx [58]++b))=(Uq (K4 l (Bd l a) (Bd l a+1)) b (Cw l a),true):=by
 have hd:Gq l a=(K4 l (Bd l a) (Bd l a+1),true):=by
  unfold Gq
  rw[if_neg (by rw[hn];rintro(k|k);omega;cases k)]
 have hc:Lb ((tx [62]++(a++tx [58]++b)).extract 1 (tx [62]++(a++tx [58]++b)).size)=(a,b,true):=by rw[Rh];exact Xgf hn
 rw[Gh Xir Xbk hc,hd,if_neg (by rw[hb];simp;exact hne)]
theorem app3(a b c d:ByteArray):a++b++c++d=a++(b++c++d):=by
 rw[ByteArray.append_assoc,ByteArray.append_assoc,ByteArray.append_assoc]
theorem P4{d:Aa}(h:Bq d=true):Xv d.old_ d.steps_∧H6 d.old_ d.steps_=(d.entries_,true)∧Bk d d.entries_=true:=XfI (diskOk_iff.1 h).2.2.2.2
theorem Pd{d:Aa}(h:Bq d=true):srt d.entries_:=XiA (P4 h).2.2
theorem Xgr{d:Aa}{n:ByteArray}(h:Bq d=true)(hp:0≤Bd d.entries_ n):Bs n=true∧0≤Da d n:=by
 obtain⟨hi,hq⟩:=Rx (p:=fun e=>Cm e n) (rfl:Bd d.entries_ n=_) hp
 have h1:=Xd9 (P4 h).2.2 hi
 unfold Cm at hq
 rw[decide_eq_true_eq]at hq
 unfold Fr at h1
 rw[Xb4 hi rfl,Bool.and_eq_true,Bool.and_eq_true,decide_eq_true_eq]at h1
 refine⟨by rw[←hq];exact h1.1.2,?_⟩
 unfold Da
 rw[if_neg (by omega)]
 unfold Cw
 rw[if_neg (by omega),←gD hi]
 exact h1.2
theorem Z0{d:Aa}{n:ByteArray}(h:Bd d.entries_ n<0):Da d n<0:=by
 unfold Da
 rw[if_pos h]
 decide
theorem Tn{d:Aa}{s:ByteArray}{e:List Ad}{nodes:List A0}{r x:Int}(h:Bq d=true)(hs:As d.entries_ s=(e,true)):Er ⟨nodes,e,d.old_,d.steps_++[s],r,x⟩=M2 ⟨nodes,d.entries_,d.old_,d.steps_,r,x⟩ s:=by
 rw[Xaj (Z7 (P4 h).1 (P4 h).2.1 (Pd h) (by rw[hs]))]
 unfold M2
 rw[hs]
theorem Xeg{d:Aa}{name:ByteArray}{nodes:List A0}{r x:Int}(h:Bq d=true)(hn:Bs name=true):Er ⟨nodes,En d.entries_ ⟨name,d.next_⟩,d.old_,d.steps_++[tx [43]++name++tx [58]++Ch d.next_],r,x⟩=M2 ⟨nodes,d.entries_,d.old_,d.steps_,r,x⟩ (tx [43]++name++tx [58]++Ch d.next_):=by
 have hr:=Jc h
 rw[Xb5 (Pd h),app3]
 exact Tn h (Xjs hn (by omega) (by omega))
theorem XeK{d:Aa}{name:ByteArray}(h:Bq d=true)(hp:0≤Bd d.entries_ name):Er ⟨d.nodes_,D2 d.entries_ name,d.old_,d.steps_++[tx [45]++name],d.room_,d.next_⟩=M2 d (tx [45]++name):=by
 rw[X0 (Pd h) hp]
 exact Tn h (XgL (Xgr h hp).1 hp)
theorem Xem{d:Aa}{a b:ByteArray}(h:Bq d=true)(hp:0≤Bd d.entries_ a)(hb:Bs b=true)(hne:a≠b):Er ⟨d.nodes_,En (D2 d.entries_ a) ⟨b,Cw d.entries_ a⟩,d.old_,d.steps_++[tx [62]++a++tx [58]++b],d.room_,d.next_⟩=M2 d (tx [62]++a++tx [58]++b):=by
 rw[Xb5 (Xfc (Pd h)),X0 (Pd h) hp,app3]
 exact Tn h (Xii (Xgr h hp).1 hb hne hp)
theorem Zp{d:Aa}{n:ByteArray}(h:0≤Bd d.entries_ n):Jb d (Cw d.entries_ n)=Da d n:=by
 unfold Da
 rw[if_neg (by omega)]
theorem Xba{l:List Ad}{n:ByteArray}(h:El l n=true):0≤Bd l n:=by
 unfold El at h
 exact of_decide_eq_true h
theorem XcY{l:List Ad}{n:ByteArray}(h:El l n=false):Bd l n<0:=by
 unfold El at h
 have:=of_decide_eq_false h
 omega
theorem Yk{p:Nat→Bool}{k:Nat}:(List.range (k+1)).any p=((List.range k).any p||p k):=by
 rw[List.range_succ,List.any_append]
 simp
theorem Y0{old:List Ad}{steps:List ByteArray}{id:Int}{k:Nat}(hk:k≤steps.length+1)(h:true=(List.range k).any fun k=>Ol (Cv old (steps.take k)).1 id):XcZ old steps id=true:=by
 obtain⟨j,hj,h1⟩:=List.any_eq_true.1 h.symm
 exact List.any_eq_true.2 ⟨j,List.mem_range.2 (by have:=List.mem_range.1 hj;omega),h1⟩
theorem T8{l:List Ad}{k:Nat}{id:Int}(hk:k<l.length):Ol (l.take (k+1)) id=(Ol (l.take k) id||decide (l[k].id_=id)):=XgC hk
theorem Xhj(l:List Ad)(s:ByteArray):(E6 l s).1.length≤l.length+1:=by
 unfold E6
 split
 ·simp
 ·split
  ·exact Gj rfl
  ·have h1:=Jd (rfl:D2 l (B7 s).1=_)
   split
   ·have h2:=Gj (rfl:En (D2 l (B7 s).1) ⟨(B7 s).2.1,Cw l (B7 s).1⟩=_)
    show(En _ _).length≤_
    omega
   ·show(D2 _ _).length≤_
    omega
theorem XiC:∀(l:List ByteArray) (now:List Ad),(Cv now l).1.length≤now.length+l.length
 |[],_=>Nat.le_refl _
 |s::l,now=>by
  have h1:=Xhj now s
  have h2:=XiC l (E6 now s).1
  unfold Cv
  split
  ·exact Nat.zero_le _
  ·rw[List.length_cons]
   omega
theorem Xbl{t:ByteArray}{n:Nat}(h:t.size≤n):t.extract 0 n=t:=by
 apply Nj
 rw[Dw,List.drop_zero,List.take_of_length_le (by rw[Array.length_toList];exact h)]
end
section
open Go Go.Proofs
def XbQ:List (Nat×TyRow):=[ty3,ty9,XfK,Z2,XaC,Xp,U5,U1]
theorem XbH:B1 Tryz.prog XbQ:=B1.of (by kernel_rfl)
theorem H3:Setup Tryz.prog XbQ:=⟨XbH,mixed⟩
variable {Af onod G8:List A0} {Bo Bn Bm Bp Ho Hw Hy Hm Eo Eu Et Es:List (List D)} {Ah Ai oent oold Hk G9:List Ad} {Ag oste Hj:List ByteArray} {Ap An oroo onex Hf He ob:Int} {name:ByteArray}
theorem J7{nn ne no ns:Nat}(Al:Af.map Bf=Bo)(Am:Ah.map Ac=Bn)(Aq:Ai.map Ac=Bm)(Ao:Ag.map cS=Bp)(hn:Af.length≤4000000000)(he:Ah.length≤4000000000)(ho:Ai.length≤4000000000)(hs:Ag.length≤4000000000)(hnn:nn=Af.length)(hne:ne=Ah.length)(hno:no=Ai.length)(hns:ns=Ag.length):Fn Tryz.prog 112 [.agg [.d (.row 3 Bo),.d (.row 2 Bn),.d (.row 2 Bm),.d (.row 1 Bp),I Ap,I An]] [] ⟨.agg [.ref 0 0 nn,.ref 1 0 ne,.ref 2 0 no,.ref 3 0 ns,I Ap,I An],[.row 3 false Bo,.row 2 false Bn,.row 2 false Bm,.row 1 false Bp],[]⟩:=by
 refine Fn.goR H3 Tryz.func112 fun P hP Q hQ=>?_
 conv=>cbv
 refine .row0 Al fun aa z1 ai ab=>?_
 conv=>cbv
 refine .row0 Am fun ac z2 aj ad=>?_
 conv=>cbv
 refine .row0 Aq fun ae z3 ak af=>?_
 conv=>cbv
 refine .row0 Ao fun ag z4 al ah=>?_
 conv=>cbv
 obtain rfl:z1=Bo:=by rw[←ab,Al]
 obtain rfl:z2=Bn:=by rw[←ad,Am]
 obtain rfl:z3=Bm:=by rw[←af,Aq]
 obtain rfl:z4=Bp:=by rw[←ah,Ao]
 obtain rfl:aa=nn:=by omega
 obtain rfl:ac=ne:=by omega
 obtain rfl:ae=no:=by omega
 obtain rfl:ag=ns:=by omega
 exact hQ _ _ (.o [7,9,11,13] rfl)
theorem XgW(Al:Af.map Bf=Bo)(Am:Ah.map Ac=Bn)(Aq:Ai.map Ac=Bm)(Ao:Ag.map cS=Bp)(hn:Af.length≤4000000000)(he:Ah.length≤4000000000)(ho:Ai.length≤4000000000)(hs:Ag.length≤4000000000):Fn Tryz.prog 112 [.agg [.d (.row 3 Bo),.d (.row 2 Bn),.d (.row 2 Bm),.d (.row 1 Bp),I Ap,I An]] [] ⟨.agg [.d (.row 3 Bo),.d (.row 2 Bn),.d (.row 2 Bm),.d (.row 1 Bp),I Ap,I An],[],[]⟩:=by
 refine Fn.go H3 Tryz.func112 fun P hP Q hQ=>?_
 conv=>cbv
 refine .row0 Al fun ai z1 ae aa=>?_
 conv=>cbv
 refine .row0 Am fun aj z2 af ab=>?_
 conv=>cbv
 refine .row0 Aq fun ak z3 ag ac=>?_
 conv=>cbv
 refine .row0 Ao fun al z4 ah ad=>?_
 conv=>cbv
 obtain rfl:z1=Bo:=by rw[←aa,Al]
 obtain rfl:z2=Bn:=by rw[←ab,Am]
 obtain rfl:z3=Bm:=by rw[←ac,Aq]
 obtain rfl:z4=Bp:=by rw[←ad,Ao]
 exact hQ _ _ (.one (.inl rfl) rfl (.agg (.ref rfl (Ae Al) rfl (.ref rfl (Ae Am) rfl (.ref rfl (Ae Aq) rfl (.ref rfl (Ae Ao) rfl .d2)))) .nil))
theorem M0(Al:Af.map Bf=Bo)(Am:Ah.map Ac=Bn)(Aq:Ai.map Ac=Bm)(Ao:Ag.map cS=Bp)(hn:Af.length≤2000000000)(hol:Ai.length≤1000000000)(hsl:Ag.length≤1000000000)(hss:okS Ag)(hr:Er (⟨Af,Ah,Ai,Ag,Ap,An⟩:Aa)=⟨onod,oent,oold,oste,oroo,onex⟩)(Kb:onod.map Bf=Ho)(Kc:oent.map Ac=Hw)(Ke:oold.map Ac=Hy)(J0:oste.map cS=Hm):Fn Tryz.prog 213 [.agg [.d (.row 3 Bo),.d (.row 2 Bn),.d (.row 2 Bm),.d (.row 1 Bp),I Ap,I An]] [] ⟨.agg [.d (.row 3 Ho),.d (.row 2 Hw),.d (.row 2 Hy),.d (.row 1 Hm),I oroo,I onex],[],[]⟩:=by
 refine Fn.go H3 Tryz.func213 fun P hP Q hQ=>?_
 conv=>cbv
 refine LoopW.lp (κ:=Int×(List (List D))×Nat) H3 hP [6] [1,2] (fun(i4,ad,ae)=>[(3,.ref 7 0 ae),(4,I i4)]) (fun(i4,ad,ae)=>[(7,.row 3 false ad)])
  (fun(i4,ad,ae)=>∃(w7:List A0),w7.map Bf=ad∧ae=w7.length∧0≤i4∧i4≤Af.length∧w7=(Af.take i4.toNat).filter (fun x=>XcZ Ai Ag x.id_)∧w7.length≤i4)
  (fun(i4,ad,ae)=>(Af.length - i4).toNat) (0,[],0) ⟨[],rfl,rfl,by omega,by omega,by simp,by simp⟩ ⟨rfl,rfl,trivial⟩ rfl ?_
 rintro⟨i4,ad,ae⟩ J ⟨w7,ah,bb,h0,h1,hx,hxl⟩ hJ
 conv=>cbv
 refine .go Al fun v1 be=>?_
 conv=>cbv
 refine .lss (fun h2=>?_) fun h2=>?_
 conv=>cbv
 refine LoopW.lp (κ:=Bool×Int) H3 hP [] [1,2,3,4] (fun(b5,i6)=>[(5,B b5),(6,I i6)]) (fun(b5,i6)=>[])
  (fun(b5,i6)=>0≤i6∧i6≤Ag.length+1∧b5=(List.range i6.toNat).any (fun k=>Ol (Cv Ai (Ag.take k)).1 (Af.getD i4.toNat ⟨0,tx [],0⟩).id_))
  (fun(b5,i6)=>(Ag.length+1 - i6).toNat) (false,0) ⟨by omega,by omega,rfl⟩ ⟨rfl,rfl,trivial⟩ rfl ?_
 rintro⟨b5,i6⟩ J1 ⟨k0,k1,hu⟩ ay
 conv=>cbv
 refine .go Ao fun v3 bf=>?_
 conv=>cbv
 refine .leq (fun h4=>?_) fun h4=>?_
 conv=>cbv
 cases b5
 conv=>cbv
 rcases ap:Ee Ai Ag i6 with⟨aa,az⟩
 generalize ai:aa.map Ac=bc
 have hS:Cv Ai (Ag.take i6.toNat)=(aa,az):=by rw[←Xcf (by omega) (by omega)];exact ap
 have bg:aa.length≤2000000000:=by
  have:=XiC (Ag.take i6.toNat) Ai
  rw[hS,List.length_take]at this
  simp only[]at this
  omega
 refine .dd hP (Rr Aq Ao hol hsl hss ap ai) ?_
 conv=>cbv
 refine LoopW.lp (κ:=Bool×Int) H3 hP [] [1,2,3,4,6,7,24,25] (fun(b5,i9)=>[(5,B b5),(9,I i9)]) (fun(b5,i9)=>[])
  (fun(b5,i9)=>0≤i9∧i9≤aa.length∧b5=Ol (aa.take i9.toNat) (Af.getD i4.toNat ⟨0,tx [],0⟩).id_)
  (fun(b5,i9)=>(aa.length - i9).toNat) (false,0) ⟨by omega,by omega,rfl⟩ ⟨rfl,rfl,trivial⟩ rfl ?_
 rintro⟨b5,i9⟩ J2 ⟨m0,m1,hb⟩ am
 conv=>cbv
 refine .go ai fun v6 bh=>?_
 conv=>cbv
 refine .lss (fun h7=>?_) fun h7=>?_
 conv=>cbv
 cases b5
 conv=>cbv
 refine .go i9.toNat ai fun al ⟨a1,bd⟩ aq=>?_
 conv=>cbv
 refine .go i4.toNat Al fun ar ⟨au,a2,a6⟩ a7=>?_
 conv=>cbv
 have hide:(Af.getD i4.toNat ⟨0,tx [],0⟩).id_=au:=by rw[←gD ar,←a7]
 refine .eql (fun h10=>?_) fun h10=>?_
 conv=>cbv
 refine .add fun aj aw=>?_
 conv=>cbv
 exact .go [] (true,aj) (am _ ⟨by omega,by omega,by rw[show aj.toNat=i9.toNat+1 by omega,T8 al,←aq,hide];simp only[];rw[decide_eq_true h10,Bool.or_true]⟩ mlt)
 conv=>cbv
 refine .add fun aj aw=>?_
 conv=>cbv
 exact .go [] (false,aj) (am _ ⟨by omega,by omega,by rw[show aj.toNat=i9.toNat+1 by omega,T8 al,←aq,←hb,hide];simp only[];rw[decide_eq_false h10];rfl⟩ mlt)
 conv=>cbv
 refine .add fun v8 a8=>?_
 conv=>cbv
 exact .go [] (true,v8) (am _ ⟨by omega,by omega,by rw[show v8.toNat=i9.toNat+1 by omega,T8 (show i9.toNat<aa.length by omega),←hb];rfl⟩ mlt)
 conv=>cbv
 refine .add fun v8 a8=>?_
 conv=>cbv
 exact .go [] (b5,v8) (ay _ ⟨by omega,by omega,by rw[show v8.toNat=i6.toNat+1 by omega,Yk,←hu,Bool.false_or,hS];show _=Ol aa _;rw[hb,List.take_of_length_le (by omega)]⟩ mlt)
 conv=>cbv
 refine .go i4.toNat Al fun ab ⟨ac,af,ag⟩ ak=>?_
 conv=>cbv
 refine .one (⟨ac,af,ag⟩:A0) ah rfl fun an z6 ax ao=>?_
 conv=>cbv
 refine .add fun v7 ba=>?_
 conv=>cbv
 have hid:(Af.getD i4.toNat ⟨0,tx [],0⟩).id_=ac:=by rw[←gD ab,←ak]
 have hus:=Y0 (show i6.toNat≤Ag.length+1 by omega) hu
 rw[hid]at hus
 exact .go [9] (v7,z6,an) (hJ _ ⟨_,ao,Ic,by omega,by omega,by rw[show v7.toNat=i4.toNat+1 by omega,Dv ab,←hx,←ak];simp only[];rw[hus];rfl,by rw[List.length_append,List.length_singleton];omega⟩ mlt)
 conv=>cbv
 cases b5
 conv=>cbv
 refine .add fun v5 bi=>?_
 conv=>cbv
 have hj:i4.toNat<Af.length:=by omega
 have hus:XcZ Ai Ag Af[i4.toNat].id_=false:=by rw[gD hj (d:=⟨0,tx [],0⟩)];unfold XcZ;rw[show Ag.length+1=i6.toNat by omega];exact hu.symm
 exact .go [7] (v5,ad,ae) (hJ _ ⟨_,ah,Ic,by omega,by omega,by rw[show v5.toNat=i4.toNat+1 by omega,Dv hj,←hx,hus];simp,by omega⟩ mlt)
 conv=>cbv
 refine .go i4.toNat Al fun ab ⟨ac,af,ag⟩ ak=>?_
 conv=>cbv
 refine .one (⟨ac,af,ag⟩:A0) ah rfl fun an z6 ax ao=>?_
 conv=>cbv
 refine .add fun v7 ba=>?_
 conv=>cbv
 have hid:(Af.getD i4.toNat ⟨0,tx [],0⟩).id_=ac:=by rw[←gD ab,←ak]
 have hus:=Y0 (show i6.toNat≤Ag.length+1 by omega) hu
 rw[hid]at hus
 exact .go [9] (v7,z6,an) (hJ _ ⟨_,ao,Ic,by omega,by omega,by rw[show v7.toNat=i4.toNat+1 by omega,Dv ab,←hx,←ak];simp only[];rw[hus];rfl,by rw[List.length_append,List.length_singleton];omega⟩ mlt)
 conv=>cbv
 have e:(⟨w7,Ah,Ai,Ag,Ap,An⟩:Aa)=Er (⟨Af,Ah,Ai,Ag,Ap,An⟩:Aa):=(by unfold Er;dsimp only;rw[hx,List.take_of_length_le (by omega)])
 rw[hr]at e
 simp only[Aa.mk.injEq]at e
 obtain⟨rfl,rfl,rfl,rfl,rfl,rfl⟩:=e
 exact hQ _ _ (.one (.inl rfl) rfl (.agg (.ref rfl (Ae ah) (Bt ah Kb) (.d rfl (Bj Am Kc) (.d rfl (Bj Aq Ke) (.d rfl (Bj Ao J0) .d2)))) .nil))
theorem XdN(Al:Af.map Bf=Bo)(Am:Ah.map Ac=Bn)(Aq:Ai.map Ac=Bm)(Ao:Ag.map cS=Bp)(hn:Af.length≤1000000000)(he:Ah.length≤1000000000)(ho:Ai.length≤1000000000)(hs:Ag.length<1000000000)(hss:okS Ag)(bb:J8 (⟨Af,Ah,Ai,Ag,Ap,An⟩:Aa))(hm:name.size≤1000000000)(hr:Bl (⟨Af,Ah,Ai,Ag,Ap,An⟩:Aa) name=(⟨G8,Hk,G9,Hj,Hf,He⟩,ob))(B3:G8.map Bf=Eo)(B4:Hk.map Ac=Eu)(B5:G9.map Ac=Et)(B2:Hj.map cS=Es):Fn Tryz.prog 223 [.agg [.d (.row 3 Bo),.d (.row 2 Bn),.d (.row 2 Bm),.d (.row 1 Bp),I Ap,I An],S name] [] ⟨.tup [.agg [.d (.row 3 Eo),.d (.row 2 Eu),.d (.row 2 Et),.d (.row 1 Es),I Hf,I He],I ob],[],[]⟩:=by
 refine Fn.go H3 Tryz.func223 fun P hP Q hQ=>?_
 conv=>cbv
 obtain⟨n2,bc⟩:∃m,m=Af.length:=⟨_,rfl⟩
 obtain⟨n3,bd⟩:∃m,m=Ah.length:=⟨_,rfl⟩
 obtain⟨n4,be⟩:∃m,m=Ai.length:=⟨_,rfl⟩
 obtain⟨n5,bf⟩:∃m,m=Ag.length:=⟨_,rfl⟩
 refine .ddN hP (J7 Al Am Aq Ao (by omega) (by omega) (by omega) (by omega) bc bd be bf) rfl ?_
 conv=>cbv
 generalize aa:Bq (⟨Af,Ah,Ai,Ag,Ap,An⟩:Aa)=r6
 refine .lnt hP (Np Al Am Aq Ao bb aa) (.agg (.ref rfl (Ae Al) (.ref rfl (Ae Am) (.ref rfl (Ae Aq) (.ref rfl (Ae Ao) (.d rfl (.d rfl .nil)))))) .nil) ?_
 cases r6
 conv=>cbv
 have e:((⟨Af,Ah,Ai,Ag,Ap,An⟩:Aa),3)=Bl (⟨Af,Ah,Ai,Ag,Ap,An⟩:Aa) name:=(by unfold Bl;rw[if_pos aa])
 rw[hr]at e
 simp only[Prod.mk.injEq,Aa.mk.injEq]at e
 obtain⟨⟨rfl,rfl,rfl,rfl,rfl,rfl⟩,rfl⟩:=e
 refine hQ _ _ ?_
 exact .m rfl (.agg (.ref rfl (Ae Al) (Bt Al B3) (.ref rfl (Ae Am) (Bt Am B4) (.ref rfl (Ae Aq) (Bt Aq B5) (.ref rfl (Ae Ao) (Bt Ao B2) .d2)))) .d1)
 conv=>cbv
 generalize ab:Bs name=r7
 refine .dd hP (Nh (by omega) ab) ?_
 cases r7
 conv=>cbv
 have e:((⟨Af,Ah,Ai,Ag,Ap,An⟩:Aa),1)=Bl (⟨Af,Ah,Ai,Ag,Ap,An⟩:Aa) name:=(by unfold Bl;rw[if_neg (by rw[aa];decide),if_pos ab])
 rw[hr]at e
 simp only[Prod.mk.injEq,Aa.mk.injEq]at e
 obtain⟨⟨rfl,rfl,rfl,rfl,rfl,rfl⟩,rfl⟩:=e
 refine hQ _ _ ?_
 exact .m rfl (.agg (.ref rfl (Ae Al) (Bt Al B3) (.ref rfl (Ae Am) (Bt Am B4) (.ref rfl (Ae Aq) (Bt Aq B5) (.ref rfl (Ae Ao) (Bt Ao B2) .d2)))) .d1)
 conv=>cbv
 generalize ak:El Ah name=r8
 refine .lnt hP (Nn Am (by omega) ak) (.ref rfl (Ae Am) (.d rfl .nil)) ?_
 cases r8
 conv=>cbv
 refine .go fun v9 bq=>?_
 conv=>cbv
 refine .geq (fun h10=>?_) fun h10=>?_
 conv=>cbv
 have e:((⟨Af,Ah,Ai,Ag,Ap,An⟩:Aa),4)=Bl (⟨Af,Ah,Ai,Ag,Ap,An⟩:Aa) name:=(by unfold Bl;rw[if_neg (by rw[aa];decide),if_neg (by rw[ab];decide),if_neg (by have:=XcY ak;dsimp only;omega),if_pos (by dsimp only;omega)])
 rw[hr]at e
 simp only[Prod.mk.injEq,Aa.mk.injEq]at e
 obtain⟨⟨rfl,rfl,rfl,rfl,rfl,rfl⟩,rfl⟩:=e
 refine hQ _ _ ?_
 exact .m rfl (.agg (.ref rfl (Ae Al) (Bt Al B3) (.ref rfl (Ae Am) (Bt Am B4) (.ref rfl (Ae Aq) (Bt Aq B5) (.ref rfl (Ae Ao) (Bt Ao B2) .d2)))) .d1)
 conv=>cbv
 refine .go fun bt bj=>?_
 conv=>cbv
 refine .geq (fun h12=>?_) fun h12=>?_
 conv=>cbv
 have e:((⟨Af,Ah,Ai,Ag,Ap,An⟩:Aa),4)=Bl (⟨Af,Ah,Ai,Ag,Ap,An⟩:Aa) name:=(by unfold Bl;rw[if_neg (by rw[aa];decide),if_neg (by rw[ab];decide),if_neg (by have:=XcY ak;dsimp only;omega),if_pos (by dsimp only;omega)])
 rw[hr]at e
 simp only[Prod.mk.injEq,Aa.mk.injEq]at e
 obtain⟨⟨rfl,rfl,rfl,rfl,rfl,rfl⟩,rfl⟩:=e
 refine hQ _ _ ?_
 exact .m rfl (.agg (.ref rfl (Ae Al) (Bt Al B3) (.ref rfl (Ae Am) (Bt Am B4) (.ref rfl (Ae Aq) (Bt Aq B5) (.ref rfl (Ae Ao) (Bt Ao B2) .d2)))) .d1)
 conv=>cbv
 refine .geq (fun h13=>?_) fun h13=>?_
 conv=>cbv
 have e:((⟨Af,Ah,Ai,Ag,Ap,An⟩:Aa),4)=Bl (⟨Af,Ah,Ai,Ag,Ap,An⟩:Aa) name:=(by unfold Bl;rw[if_neg (by rw[aa];decide),if_neg (by rw[ab];decide),if_neg (by have:=XcY ak;dsimp only;omega),if_pos (by dsimp only;omega)])
 rw[hr]at e
 simp only[Prod.mk.injEq,Aa.mk.injEq]at e
 obtain⟨⟨rfl,rfl,rfl,rfl,rfl,rfl⟩,rfl⟩:=e
 refine hQ _ _ ?_
 exact .m rfl (.agg (.ref rfl (Ae Al) (Bt Al B3) (.ref rfl (Ae Am) (Bt Am B4) (.ref rfl (Ae Aq) (Bt Aq B5) (.ref rfl (Ae Ao) (Bt Ao B2) .d2)))) .d1)
 conv=>cbv
 have hri:=Jc aa
 simp only[]at hri
 refine .one (⟨An,tx [],0⟩:A0) Al rfl fun bk bu bg ao=>?_
 conv=>cbv
 generalize ap:En Ah (⟨name,An⟩:Ad)=ax
 generalize aq:ax.map Ac=bl
 refine .lntD hP (Jp Am (by omega) ap aq) (.ref rfl (Ae Am) (.agg (.d rfl (.d rfl .nil)) .nil)) ?_
 conv=>cbv
 have hnz:=Q8 ab
 refine .litL 1 fun bv ay bm=>?_
 conv=>cbv
 refine .litR 1 fun bw az bn=>?_
 conv=>cbv
 generalize al:Ch An=bz
 refine .dd hP (XdJ (by unfold Xbj;omega) al) ?_
 conv=>cbv
 have zr18:=Uc al (by unfold Xbj;omega)
 refine .go fun aw a1 bo=>?_
 conv=>cbv
 refine .one aw Ao rfl fun bp b0 bh ar=>?_
 conv=>cbv
 refine .add fun bi a2=>?_
 conv=>cbv
 rcases au:Er (⟨Af++[(⟨An,tx [],0⟩:A0)],ax,Ai,Ag++[aw],Ap,bi⟩:Aa)with⟨ag,ah,ai,aj,am,an⟩
 generalize ac:ag.map Bf=a6
 generalize ad:ah.map Ac=a7
 generalize ae:ai.map Ac=a8
 generalize af:aj.map cS=ba
 refine .lntD hP (M0 ao aq Aq ar (by rw[List.length_append,List.length_singleton];omega) (by omega) (by rw[List.length_append,List.length_singleton];omega) (Sm hss (by omega)) au ac ad ae af) (.agg (.ref rfl (Ae ao) (.d rfl (.ref rfl (Ae Aq) (.ref rfl (Ae ar) (.d rfl (.d rfl .nil)))))) .nil) ?_
 conv=>cbv
 have e:((⟨ag,ah,ai,aj,am,an⟩:Aa),0)=Bl (⟨Af,Ah,Ai,Ag,Ap,An⟩:Aa) name:=(by unfold Bl;rw[if_neg (by rw[aa];decide),if_neg (by rw[ab];decide),if_neg (by have:=XcY ak;dsimp only;omega),if_neg (by dsimp only;omega)];exact congrArg (fun x:Aa=>(x,(0:Int))) (au.symm.trans (by rw[←ap,a2,show aw=tx [43]++name++tx [58]++Ch An from(by rw[a1,az,ay,al];rfl)];exact Xeg aa ab)))
 rw[hr]at e
 simp only[Prod.mk.injEq,Aa.mk.injEq]at e
 obtain⟨⟨rfl,rfl,rfl,rfl,rfl,rfl⟩,rfl⟩:=e
 refine hQ _ _ ?_
 exact .m rfl (.agg (.d rfl (Bj ac B3) (.d rfl (Bj ad B4) (.d rfl (Bj ae B5) (.d rfl (Bj af B2) .d2)))) .d1)
 conv=>cbv
 have e:((⟨Af,Ah,Ai,Ag,Ap,An⟩:Aa),2)=Bl (⟨Af,Ah,Ai,Ag,Ap,An⟩:Aa) name:=(by unfold Bl;rw[if_neg (by rw[aa];decide),if_neg (by rw[ab];decide),if_pos (Xba ak)])
 rw[hr]at e
 simp only[Prod.mk.injEq,Aa.mk.injEq]at e
 obtain⟨⟨rfl,rfl,rfl,rfl,rfl,rfl⟩,rfl⟩:=e
 refine hQ _ _ ?_
 exact .m rfl (.agg (.ref rfl (Ae Al) (Bt Al B3) (.ref rfl (Ae Am) (Bt Am B4) (.ref rfl (Ae Aq) (Bt Aq B5) (.ref rfl (Ae Ao) (Bt Ao B2) .d2)))) .d1)
theorem Xdy{text:ByteArray}(Al:Af.map Bf=Bo)(Am:Ah.map Ac=Bn)(Aq:Ai.map Ac=Bm)(Ao:Ag.map cS=Bp)(hn:Af.length≤1000000000)(he:Ah.length≤1000000000)(ho:Ai.length≤1000000000)(hs:Ag.length<1000000000)(hss:okS Ag)(aj:J8 (⟨Af,Ah,Ai,Ag,Ap,An⟩:Aa))(ht:text.size≤1000000000)(hr:Cl (⟨Af,Ah,Ai,Ag,Ap,An⟩:Aa) name text=(⟨G8,Hk,G9,Hj,Hf,He⟩,ob))(B3:G8.map Bf=Eo)(B4:Hk.map Ac=Eu)(B5:G9.map Ac=Et)(B2:Hj.map cS=Es):Fn Tryz.prog 145 [.agg [.d (.row 3 Bo),.d (.row 2 Bn),.d (.row 2 Bm),.d (.row 1 Bp),I Ap,I An],S name,S text] [] ⟨.tup [.agg [.d (.row 3 Eo),.d (.row 2 Eu),.d (.row 2 Et),.d (.row 1 Es),I Hf,I He],I ob],[],[]⟩:=by
 refine Fn.go H3 Tryz.func145 fun P hP Q hQ=>?_
 conv=>cbv
 obtain⟨n2,a8⟩:∃m,m=Af.length:=⟨_,rfl⟩
 obtain⟨n3,ba⟩:∃m,m=Ah.length:=⟨_,rfl⟩
 obtain⟨n4,bb⟩:∃m,m=Ai.length:=⟨_,rfl⟩
 obtain⟨n5,bc⟩:∃m,m=Ag.length:=⟨_,rfl⟩
 refine .ddN hP (J7 Al Am Aq Ao (by omega) (by omega) (by omega) (by omega) a8 ba bb bc) rfl ?_
 conv=>cbv
 generalize ah:Bq (⟨Af,Ah,Ai,Ag,Ap,An⟩:Aa)=r6
 refine .lnt hP (Np Al Am Aq Ao aj ah) (.agg (.ref rfl (Ae Al) (.ref rfl (Ae Am) (.ref rfl (Ae Aq) (.ref rfl (Ae Ao) (.d rfl (.d rfl .nil)))))) .nil) ?_
 cases r6
 conv=>cbv
 have e:((⟨Af,Ah,Ai,Ag,Ap,An⟩:Aa),3)=Cl (⟨Af,Ah,Ai,Ag,Ap,An⟩:Aa) name text:=(by unfold Cl;rw[if_pos (.inl ah)])
 rw[hr]at e
 simp only[Prod.mk.injEq,Aa.mk.injEq]at e
 obtain⟨⟨rfl,rfl,rfl,rfl,rfl,rfl⟩,rfl⟩:=e
 refine hQ _ _ ?_
 exact .m rfl (.agg (.ref rfl (Ae Al) (Bt Al B3) (.ref rfl (Ae Am) (Bt Am B4) (.ref rfl (Ae Aq) (Bt Aq B5) (.ref rfl (Ae Ao) (Bt Ao B2) .d2)))) .d1)
 conv=>cbv
 generalize ao:El Ah name=r7
 refine .lnt hP (Nn Am (by omega) ao) (.ref rfl (Ae Am) (.d rfl .nil)) ?_
 cases r7
 conv=>cbv
 have e:((⟨Af,Ah,Ai,Ag,Ap,An⟩:Aa),3)=Cl (⟨Af,Ah,Ai,Ag,Ap,An⟩:Aa) name text:=(by unfold Cl;rw[if_pos (.inr (Z0 (XcY ao)))])
 rw[hr]at e
 simp only[Prod.mk.injEq,Aa.mk.injEq]at e
 obtain⟨⟨rfl,rfl,rfl,rfl,rfl,rfl⟩,rfl⟩:=e
 refine hQ _ _ ?_
 exact .m rfl (.agg (.ref rfl (Ae Al) (Bt Al B3) (.ref rfl (Ae Am) (Bt Am B4) (.ref rfl (Ae Aq) (Bt Aq B5) (.ref rfl (Ae Ao) (Bt Ao B2) .d2)))) .d1)
 conv=>cbv
 generalize ar:Cw Ah name=r8
 refine .lnt hP (Nb Am (by omega) ar) (.ref rfl (Ae Am) (.d rfl .nil)) ?_
 conv=>cbv
 generalize au:H2 (⟨Af,Ah,Ai,Ag,Ap,An⟩:Aa) r8=r9
 refine .lnt hP (S8 Al Am Aq Ao (by omega) au) (.agg (.ref rfl (Ae Al) (.ref rfl (Ae Am) (.ref rfl (Ae Aq) (.ref rfl (Ae Ao) (.d rfl (.d rfl .nil)))))) (.d rfl .nil)) ?_
 conv=>cbv
 have hpl:=Xba ao
 have hk:Da (⟨Af,Ah,Ai,Ag,Ap,An⟩:Aa) name=r9:=by rw[←Zp (d:=(⟨Af,Ah,Ai,Ag,Ap,An⟩:Aa)) hpl];show H2 _ (Cw Ah name)=r9;rw[ar,au]
 have hb:=Im hk
 have bd:=(Xgr ah hpl).2
 rw[hk]at bd
 simp only[]at hb
 generalize af:F9 (⟨Af,Ah,Ai,Ag,Ap,An⟩:Aa)=aw
 refine .lnt hP (Xgl Al Am Aq Ao aj.1 af) (.agg (.ref rfl (Ae Al) (.ref rfl (Ae Am) (.ref rfl (Ae Aq) (.ref rfl (Ae Ao) (.d rfl (.d rfl .nil)))))) .nil) ?_
 conv=>cbv
 have hri:=Jc ah
 simp only[af]at hri
 refine .sub fun bk ax=>?_
 conv=>cbv
 refine .go fun bl bg=>?_
 conv=>cbv
 refine .gtr (fun h13=>?_) fun h13=>?_
 conv=>cbv
 refine .go r9.toNat fun ai ay ap=>?_
 conv=>cbv
 refine .go Al fun ae ⟨aq,aa,ak⟩ ab=>?_
 conv=>cbv
 have az:aa.size≤1000000000:=by have h9:=aj.1.2.1 _ (List.getElem_mem ae);rw[←ab]at h9;exact h9
 refine .hi fun al ag=>?_
 conv=>cbv
 have bh:al.size≤text.size:=by rw[ag,ByteArray.size_extract];omega
 refine .go fun a1 a2 bi=>?_
 conv=>cbv
 refine .go r9.toNat fun ac a6 be=>?_
 conv=>cbv
 refine .go (⟨(Af.getD ac ⟨0,tx [],0⟩).id_,a1,(Af.getD ac ⟨0,tx [],0⟩).sure_⟩:A0) Al (by omega) (by rw[←gD (show ac<Af.length by omega)];rfl) (show 1+1≤3 by decide) fun bm am=>?_
 conv=>cbv
 have e:((⟨Af.set ac (⟨(Af.getD ac ⟨0,tx [],0⟩).id_,a1,(Af.getD ac ⟨0,tx [],0⟩).sure_⟩:A0),Ah,Ai,Ag,Ap,An⟩:Aa),5)=Cl (⟨Af,Ah,Ai,Ag,Ap,An⟩:Aa) name text:=(by unfold Cl;rw[if_neg (by rintro(h|h);rw[ah]at h;cases h;rw[hk]at h;omega),hk,af];dsimp only;rw[if_pos (by omega)];unfold XmQ gN;dsimp only;have e9:aa=(Af.getD ac ⟨0,tx [],0⟩).text_:=(by have h9:ai=ac:=(by omega);subst h9;rw[←gD (show ai<Af.length by omega),←ab]);rw[←a6,a2,e9,ag,ax,show min (text.size:Int) (Ap - aw)=Ap - aw by omega])
 rw[hr]at e
 simp only[Prod.mk.injEq,Aa.mk.injEq]at e
 obtain⟨⟨rfl,rfl,rfl,rfl,rfl,rfl⟩,rfl⟩:=e
 refine hQ _ _ ?_
 exact .m rfl (.agg (.ref rfl (Ae am) (Bt am B3) (.ref rfl (Ae Am) (Bt Am B4) (.ref rfl (Ae Aq) (Bt Aq B5) (.ref rfl (Ae Ao) (Bt Ao B2) .d2)))) .d1)
 conv=>cbv
 refine .go r9.toNat fun ai ay ap=>?_
 conv=>cbv
 refine .go Al fun ae ⟨aq,aa,ak⟩ ab=>?_
 conv=>cbv
 have az:aa.size≤1000000000:=by have h9:=aj.1.2.1 _ (List.getElem_mem ae);rw[←ab]at h9;exact h9
 refine .go fun al ag bj=>?_
 conv=>cbv
 refine .go r9.toNat fun ad a7 bf=>?_
 conv=>cbv
 refine .go (⟨(Af.getD ad ⟨0,tx [],0⟩).id_,al,(Af.getD ad ⟨0,tx [],0⟩).sure_⟩:A0) Al (by omega) (by rw[←gD (show ad<Af.length by omega)];rfl) (show 1+1≤3 by decide) fun bn an=>?_
 conv=>cbv
 have e:((⟨Af.set ad (⟨(Af.getD ad ⟨0,tx [],0⟩).id_,al,(Af.getD ad ⟨0,tx [],0⟩).sure_⟩:A0),Ah,Ai,Ag,Ap,An⟩:Aa),0)=Cl (⟨Af,Ah,Ai,Ag,Ap,An⟩:Aa) name text:=(by unfold Cl;rw[if_neg (by rintro(h|h);rw[ah]at h;cases h;rw[hk]at h;omega),hk,af];dsimp only;rw[if_neg (by omega)];unfold XmQ gN;dsimp only;have e9:aa=(Af.getD ad ⟨0,tx [],0⟩).text_:=(by have h9:ai=ad:=(by omega);subst h9;rw[←gD (show ai<Af.length by omega),←ab]);rw[←a7,ag,e9,Xbl (t:=text) (by omega)])
 rw[hr]at e
 simp only[Prod.mk.injEq,Aa.mk.injEq]at e
 obtain⟨⟨rfl,rfl,rfl,rfl,rfl,rfl⟩,rfl⟩:=e
 refine hQ _ _ ?_
 exact .m rfl (.agg (.ref rfl (Ae an) (Bt an B3) (.ref rfl (Ae Am) (Bt Am B4) (.ref rfl (Ae Aq) (Bt Aq B5) (.ref rfl (Ae Ao) (Bt Ao B2) .d2)))) .d1)
theorem Xg1(Al:Af.map Bf=Bo)(Am:Ah.map Ac=Bn)(Aq:Ai.map Ac=Bm)(Ao:Ag.map cS=Bp)(hn:Af.length≤1000000000)(he:Ah.length≤1000000000)(ho:Ai.length≤1000000000)(hs:Ag.length<1000000000)(hss:okS Ag)(an:J8 (⟨Af,Ah,Ai,Ag,Ap,An⟩:Aa))(hr:D3 (⟨Af,Ah,Ai,Ag,Ap,An⟩:Aa) name=(⟨G8,Hk,G9,Hj,Hf,He⟩,ob))(B3:G8.map Bf=Eo)(B4:Hk.map Ac=Eu)(B5:G9.map Ac=Et)(B2:Hj.map cS=Es):Fn Tryz.prog 222 [.agg [.d (.row 3 Bo),.d (.row 2 Bn),.d (.row 2 Bm),.d (.row 1 Bp),I Ap,I An],S name] [] ⟨.tup [.agg [.d (.row 3 Eo),.d (.row 2 Eu),.d (.row 2 Et),.d (.row 1 Es),I Hf,I He],I ob],[],[]⟩:=by
 refine Fn.go H3 Tryz.func222 fun P hP Q hQ=>?_
 conv=>cbv
 obtain⟨n2,ao⟩:∃m,m=Af.length:=⟨_,rfl⟩
 obtain⟨n3,ap⟩:∃m,m=Ah.length:=⟨_,rfl⟩
 obtain⟨n4,aq⟩:∃m,m=Ai.length:=⟨_,rfl⟩
 obtain⟨n5,ar⟩:∃m,m=Ag.length:=⟨_,rfl⟩
 refine .ddN hP (J7 Al Am Aq Ao (by omega) (by omega) (by omega) (by omega) ao ap aq ar) rfl ?_
 conv=>cbv
 generalize ab:Bq (⟨Af,Ah,Ai,Ag,Ap,An⟩:Aa)=r6
 refine .lnt hP (Np Al Am Aq Ao an ab) (.agg (.ref rfl (Ae Al) (.ref rfl (Ae Am) (.ref rfl (Ae Aq) (.ref rfl (Ae Ao) (.d rfl (.d rfl .nil)))))) .nil) ?_
 cases r6
 conv=>cbv
 have e:((⟨Af,Ah,Ai,Ag,Ap,An⟩:Aa),3)=D3 (⟨Af,Ah,Ai,Ag,Ap,An⟩:Aa) name:=(by unfold D3;rw[if_pos (.inl ab)])
 rw[hr]at e
 simp only[Prod.mk.injEq,Aa.mk.injEq]at e
 obtain⟨⟨rfl,rfl,rfl,rfl,rfl,rfl⟩,rfl⟩:=e
 refine hQ _ _ ?_
 exact .m rfl (.agg (.ref rfl (Ae Al) (Bt Al B3) (.ref rfl (Ae Am) (Bt Am B4) (.ref rfl (Ae Aq) (Bt Aq B5) (.ref rfl (Ae Ao) (Bt Ao B2) .d2)))) .d1)
 conv=>cbv
 generalize ae:El Ah name=r7
 refine .lnt hP (Nn Am (by omega) ae) (.ref rfl (Ae Am) (.d rfl .nil)) ?_
 cases r7
 conv=>cbv
 have e:((⟨Af,Ah,Ai,Ag,Ap,An⟩:Aa),3)=D3 (⟨Af,Ah,Ai,Ag,Ap,An⟩:Aa) name:=(by unfold D3;rw[if_pos (.inr (Z0 (XcY ae)))])
 rw[hr]at e
 simp only[Prod.mk.injEq,Aa.mk.injEq]at e
 obtain⟨⟨rfl,rfl,rfl,rfl,rfl,rfl⟩,rfl⟩:=e
 refine hQ _ _ ?_
 exact .m rfl (.agg (.ref rfl (Ae Al) (Bt Al B3) (.ref rfl (Ae Am) (Bt Am B4) (.ref rfl (Ae Aq) (Bt Aq B5) (.ref rfl (Ae Ao) (Bt Ao B2) .d2)))) .d1)
 conv=>cbv
 generalize af:Cw Ah name=r8
 refine .lnt hP (Nb Am (by omega) af) (.ref rfl (Ae Am) (.d rfl .nil)) ?_
 conv=>cbv
 generalize ag:H2 (⟨Af,Ah,Ai,Ag,Ap,An⟩:Aa) r8=r9
 refine .lnt hP (S8 Al Am Aq Ao (by omega) ag) (.agg (.ref rfl (Ae Al) (.ref rfl (Ae Am) (.ref rfl (Ae Aq) (.ref rfl (Ae Ao) (.d rfl (.d rfl .nil)))))) (.d rfl .nil)) ?_
 conv=>cbv
 have hpl:=Xba ae
 have hk:Da (⟨Af,Ah,Ai,Ag,Ap,An⟩:Aa) name=r9:=by rw[←Zp (d:=(⟨Af,Ah,Ai,Ag,Ap,An⟩:Aa)) hpl];show H2 _ (Cw Ah name)=r9;rw[af,ag]
 have hb:=Im hk
 have au:=(Xgr ab hpl).2
 rw[hk]at au
 simp only[]at hb
 refine .go r9.toNat fun ah a1 aw=>?_
 conv=>cbv
 refine .go Al fun ax ⟨ay,ac,am⟩ ai=>?_
 conv=>cbv
 refine .go fun aj ak=>?_
 conv=>cbv
 refine .go r9.toNat fun aa al az=>?_
 conv=>cbv
 refine .go (⟨(Af.getD aa ⟨0,tx [],0⟩).id_,(Af.getD aa ⟨0,tx [],0⟩).text_,aj⟩:A0) Al (by omega) (by rw[←gD (show aa<Af.length by omega)];rfl) (show 2+1≤3 by decide) fun a2 ad=>?_
 conv=>cbv
 have e:((⟨Af.set aa (⟨(Af.getD aa ⟨0,tx [],0⟩).id_,(Af.getD aa ⟨0,tx [],0⟩).text_,aj⟩:A0),Ah,Ai,Ag,Ap,An⟩:Aa),0)=D3 (⟨Af,Ah,Ai,Ag,Ap,An⟩:Aa) name:=(by unfold D3;rw[if_neg (by rintro(h|h);rw[ab]at h;cases h;rw[hk]at h;omega),hk];dsimp only;have e9:ac=(Af.getD aa ⟨0,tx [],0⟩).text_:=(by have h9:ah=aa:=(by omega);subst h9;rw[←gD (show ah<Af.length by omega),←ai]);rw[ak,e9,←al])
 rw[hr]at e
 simp only[Prod.mk.injEq,Aa.mk.injEq]at e
 obtain⟨⟨rfl,rfl,rfl,rfl,rfl,rfl⟩,rfl⟩:=e
 refine hQ _ _ ?_
 exact .m rfl (.agg (.ref rfl (Ae ad) (Bt ad B3) (.ref rfl (Ae Am) (Bt Am B4) (.ref rfl (Ae Aq) (Bt Aq B5) (.ref rfl (Ae Ao) (Bt Ao B2) .d2)))) .d1)
theorem XbU{from_:ByteArray}{to_:ByteArray}(Al:Af.map Bf=Bo)(Am:Ah.map Ac=Bn)(Aq:Ai.map Ac=Bm)(Ao:Ag.map cS=Bp)(hn:Af.length≤1000000000)(he:Ah.length≤1000000000)(ho:Ai.length≤1000000000)(hs:Ag.length<1000000000)(hss:okS Ag)(bc:J8 (⟨Af,Ah,Ai,Ag,Ap,An⟩:Aa))(hm:from_.size+to_.size<999999999)(hr:B8 (⟨Af,Ah,Ai,Ag,Ap,An⟩:Aa) from_ to_=(⟨G8,Hk,G9,Hj,Hf,He⟩,ob))(B3:G8.map Bf=Eo)(B4:Hk.map Ac=Eu)(B5:G9.map Ac=Et)(B2:Hj.map cS=Es):Fn Tryz.prog 238 [.agg [.d (.row 3 Bo),.d (.row 2 Bn),.d (.row 2 Bm),.d (.row 1 Bp),I Ap,I An],S from_,S to_] [] ⟨.tup [.agg [.d (.row 3 Eo),.d (.row 2 Eu),.d (.row 2 Et),.d (.row 1 Es),I Hf,I He],I ob],[],[]⟩:=by
 refine Fn.go H3 Tryz.func238 fun P hP Q hQ=>?_
 conv=>cbv
 obtain⟨n2,bd⟩:∃m,m=Af.length:=⟨_,rfl⟩
 obtain⟨n3,be⟩:∃m,m=Ah.length:=⟨_,rfl⟩
 obtain⟨n4,bf⟩:∃m,m=Ai.length:=⟨_,rfl⟩
 obtain⟨n5,bg⟩:∃m,m=Ag.length:=⟨_,rfl⟩
 refine .ddN hP (J7 Al Am Aq Ao (by omega) (by omega) (by omega) (by omega) bd be bf bg) rfl ?_
 conv=>cbv
 generalize ai:Bq (⟨Af,Ah,Ai,Ag,Ap,An⟩:Aa)=r6
 refine .lnt hP (Np Al Am Aq Ao bc ai) (.agg (.ref rfl (Ae Al) (.ref rfl (Ae Am) (.ref rfl (Ae Aq) (.ref rfl (Ae Ao) (.d rfl (.d rfl .nil)))))) .nil) ?_
 cases r6
 conv=>cbv
 have e:((⟨Af,Ah,Ai,Ag,Ap,An⟩:Aa),3)=B8 (⟨Af,Ah,Ai,Ag,Ap,An⟩:Aa) from_ to_:=(by unfold B8;rw[if_pos (.inl ai)])
 rw[hr]at e
 simp only[Prod.mk.injEq,Aa.mk.injEq]at e
 obtain⟨⟨rfl,rfl,rfl,rfl,rfl,rfl⟩,rfl⟩:=e
 refine hQ _ _ ?_
 exact .m rfl (.agg (.ref rfl (Ae Al) (Bt Al B3) (.ref rfl (Ae Am) (Bt Am B4) (.ref rfl (Ae Aq) (Bt Aq B5) (.ref rfl (Ae Ao) (Bt Ao B2) .d2)))) .d1)
 conv=>cbv
 generalize aj:El Ah from_=r7
 refine .lnt hP (Nn Am (by omega) aj) (.ref rfl (Ae Am) (.d rfl .nil)) ?_
 cases r7
 conv=>cbv
 have e:((⟨Af,Ah,Ai,Ag,Ap,An⟩:Aa),3)=B8 (⟨Af,Ah,Ai,Ag,Ap,An⟩:Aa) from_ to_:=(by unfold B8;rw[if_pos (.inr (XcY aj))])
 rw[hr]at e
 simp only[Prod.mk.injEq,Aa.mk.injEq]at e
 obtain⟨⟨rfl,rfl,rfl,rfl,rfl,rfl⟩,rfl⟩:=e
 refine hQ _ _ ?_
 exact .m rfl (.agg (.ref rfl (Ae Al) (Bt Al B3) (.ref rfl (Ae Am) (Bt Am B4) (.ref rfl (Ae Aq) (Bt Aq B5) (.ref rfl (Ae Ao) (Bt Ao B2) .d2)))) .d1)
 conv=>cbv
 generalize al:Bs to_=r8
 refine .dd hP (Nh (by omega) al) ?_
 cases r8
 conv=>cbv
 have e:((⟨Af,Ah,Ai,Ag,Ap,An⟩:Aa),1)=B8 (⟨Af,Ah,Ai,Ag,Ap,An⟩:Aa) from_ to_:=(by unfold B8;rw[if_neg (by rintro(h|h);rw[ai]at h;cases h;have:=Xba aj;dsimp only at h;omega),if_pos (.inl al)])
 rw[hr]at e
 simp only[Prod.mk.injEq,Aa.mk.injEq]at e
 obtain⟨⟨rfl,rfl,rfl,rfl,rfl,rfl⟩,rfl⟩:=e
 refine hQ _ _ ?_
 exact .m rfl (.agg (.ref rfl (Ae Al) (Bt Al B3) (.ref rfl (Ae Am) (Bt Am B4) (.ref rfl (Ae Aq) (Bt Aq B5) (.ref rfl (Ae Ao) (Bt Ao B2) .d2)))) .d1)
 conv=>cbv
 refine .eql (fun h9=>?_) fun h9=>?_
 conv=>cbv
 have e:((⟨Af,Ah,Ai,Ag,Ap,An⟩:Aa),1)=B8 (⟨Af,Ah,Ai,Ag,Ap,An⟩:Aa) from_ to_:=(by unfold B8;rw[if_neg (by rintro(h|h);rw[ai]at h;cases h;have:=Xba aj;dsimp only at h;omega),if_pos (.inr h9)])
 rw[hr]at e
 simp only[Prod.mk.injEq,Aa.mk.injEq]at e
 obtain⟨⟨rfl,rfl,rfl,rfl,rfl,rfl⟩,rfl⟩:=e
 refine hQ _ _ ?_
 exact .m rfl (.agg (.ref rfl (Ae Al) (Bt Al B3) (.ref rfl (Ae Am) (Bt Am B4) (.ref rfl (Ae Aq) (Bt Aq B5) (.ref rfl (Ae Ao) (Bt Ao B2) .d2)))) .d1)
 conv=>cbv
 generalize ao:Cw Ah from_=bh
 refine .lnt hP (Nb Am (by omega) ao) (.ref rfl (Ae Am) (.d rfl .nil)) ?_
 conv=>cbv
 generalize ak:D2 Ah from_=ay
 have bi:=Jd ak
 generalize ap:ay.map Ac=bk
 refine .lntD hP (M6 Am (by omega) ak ap) (.ref rfl (Ae Am) (.d rfl .nil)) ?_
 conv=>cbv
 generalize aq:En ay (⟨to_,bh⟩:Ad)=az
 generalize ar:az.map Ac=bl
 refine .dd hP (Jp ap (by omega) aq ar) ?_
 conv=>cbv
 refine .litL 1 fun bq a1 bm=>?_
 conv=>cbv
 refine .litR 1 fun bt a2 bn=>?_
 conv=>cbv
 refine .go fun ax a6 bo=>?_
 conv=>cbv
 refine .one ax Ao rfl fun bp bu bj au=>?_
 conv=>cbv
 rcases aw:Er (⟨Af,az,Ai,Ag++[ax],Ap,An⟩:Aa)with⟨ae,af,ag,ah,am,an⟩
 generalize aa:ae.map Bf=a7
 generalize ab:af.map Ac=a8
 generalize ac:ag.map Ac=ba
 generalize ad:ah.map cS=bb
 refine .lntD hP (M0 Al ar Aq au (by omega) (by omega) (by rw[List.length_append,List.length_singleton];omega) (Sm hss (by omega)) aw aa ab ac ad) (.agg (.ref rfl (Ae Al) (.d rfl (.ref rfl (Ae Aq) (.ref rfl (Ae au) (.d rfl (.d rfl .nil)))))) .nil) ?_
 conv=>cbv
 have e:((⟨ae,af,ag,ah,am,an⟩:Aa),0)=B8 (⟨Af,Ah,Ai,Ag,Ap,An⟩:Aa) from_ to_:=(by unfold B8;rw[if_neg (by rintro(h|h);rw[ai]at h;cases h;have:=Xba aj;dsimp only at h;omega),if_neg (by rintro(h|h);rw[al]at h;cases h;exact h9 h)];exact congrArg (fun x:Aa=>(x,(0:Int))) (aw.symm.trans (by rw[←aq,←ak,←ao,show ax=tx [62]++from_++tx [58]++to_ from(by rw[a6,a2,a1];rfl)];exact Xem ai (Xba aj) al h9)))
 rw[hr]at e
 simp only[Prod.mk.injEq,Aa.mk.injEq]at e
 obtain⟨⟨rfl,rfl,rfl,rfl,rfl,rfl⟩,rfl⟩:=e
 refine hQ _ _ ?_
 exact .m rfl (.agg (.d rfl (Bj aa B3) (.d rfl (Bj ab B4) (.d rfl (Bj ac B5) (.d rfl (Bj ad B2) .d2)))) .d1)
theorem XbD(Al:Af.map Bf=Bo)(Am:Ah.map Ac=Bn)(Aq:Ai.map Ac=Bm)(Ao:Ag.map cS=Bp)(hn:Af.length≤1000000000)(he:Ah.length≤1000000000)(ho:Ai.length≤1000000000)(hs:Ag.length<1000000000)(hss:okS Ag)(ax:J8 (⟨Af,Ah,Ai,Ag,Ap,An⟩:Aa))(hm:name.size<1000000000)(hr:C8 (⟨Af,Ah,Ai,Ag,Ap,An⟩:Aa) name=(⟨G8,Hk,G9,Hj,Hf,He⟩,ob))(B3:G8.map Bf=Eo)(B4:Hk.map Ac=Eu)(B5:G9.map Ac=Et)(B2:Hj.map cS=Es):Fn Tryz.prog 237 [.agg [.d (.row 3 Bo),.d (.row 2 Bn),.d (.row 2 Bm),.d (.row 1 Bp),I Ap,I An],S name] [] ⟨.tup [.agg [.d (.row 3 Eo),.d (.row 2 Eu),.d (.row 2 Et),.d (.row 1 Es),I Hf,I He],I ob],[],[]⟩:=by
 refine Fn.go H3 Tryz.func237 fun P hP Q hQ=>?_
 conv=>cbv
 obtain⟨n2,ay⟩:∃m,m=Af.length:=⟨_,rfl⟩
 obtain⟨n3,az⟩:∃m,m=Ah.length:=⟨_,rfl⟩
 obtain⟨n4,a1⟩:∃m,m=Ai.length:=⟨_,rfl⟩
 obtain⟨n5,a2⟩:∃m,m=Ag.length:=⟨_,rfl⟩
 refine .ddN hP (J7 Al Am Aq Ao (by omega) (by omega) (by omega) (by omega) ay az a1 a2) rfl ?_
 conv=>cbv
 generalize ai:Bq (⟨Af,Ah,Ai,Ag,Ap,An⟩:Aa)=r6
 refine .lnt hP (Np Al Am Aq Ao ax ai) (.agg (.ref rfl (Ae Al) (.ref rfl (Ae Am) (.ref rfl (Ae Aq) (.ref rfl (Ae Ao) (.d rfl (.d rfl .nil)))))) .nil) ?_
 cases r6
 conv=>cbv
 have e:((⟨Af,Ah,Ai,Ag,Ap,An⟩:Aa),3)=C8 (⟨Af,Ah,Ai,Ag,Ap,An⟩:Aa) name:=(by unfold C8;rw[if_pos (.inl ai)])
 rw[hr]at e
 simp only[Prod.mk.injEq,Aa.mk.injEq]at e
 obtain⟨⟨rfl,rfl,rfl,rfl,rfl,rfl⟩,rfl⟩:=e
 refine hQ _ _ ?_
 exact .m rfl (.agg (.ref rfl (Ae Al) (Bt Al B3) (.ref rfl (Ae Am) (Bt Am B4) (.ref rfl (Ae Aq) (Bt Aq B5) (.ref rfl (Ae Ao) (Bt Ao B2) .d2)))) .d1)
 conv=>cbv
 generalize aj:El Ah name=r7
 refine .lnt hP (Nn Am (by omega) aj) (.ref rfl (Ae Am) (.d rfl .nil)) ?_
 cases r7
 conv=>cbv
 have e:((⟨Af,Ah,Ai,Ag,Ap,An⟩:Aa),3)=C8 (⟨Af,Ah,Ai,Ag,Ap,An⟩:Aa) name:=(by unfold C8;rw[if_pos (.inr (XcY aj))])
 rw[hr]at e
 simp only[Prod.mk.injEq,Aa.mk.injEq]at e
 obtain⟨⟨rfl,rfl,rfl,rfl,rfl,rfl⟩,rfl⟩:=e
 refine hQ _ _ ?_
 exact .m rfl (.agg (.ref rfl (Ae Al) (Bt Al B3) (.ref rfl (Ae Am) (Bt Am B4) (.ref rfl (Ae Aq) (Bt Aq B5) (.ref rfl (Ae Ao) (Bt Ao B2) .d2)))) .d1)
 conv=>cbv
 generalize ao:D2 Ah name=l8
 generalize ap:l8.map Ac=ba
 refine .lntD hP (M6 Am (by omega) ao ap) (.ref rfl (Ae Am) (.d rfl .nil)) ?_
 conv=>cbv
 refine .litL 1 fun s9 a6 bb=>?_
 conv=>cbv
 refine .one s9 Ao rfl fun a8 bc a7 am=>?_
 conv=>cbv
 rcases an:Er (⟨Af,l8,Ai,Ag++[s9],Ap,An⟩:Aa)with⟨ae,af,ag,ah,ak,al⟩
 generalize aa:ae.map Bf=aq
 generalize ab:af.map Ac=ar
 generalize ac:ag.map Ac=au
 generalize ad:ah.map cS=aw
 refine .lntD hP (M0 Al ap Aq am (by omega) (by omega) (by rw[List.length_append,List.length_singleton];omega) (Sm hss (by omega)) an aa ab ac ad) (.agg (.ref rfl (Ae Al) (.d rfl (.ref rfl (Ae Aq) (.ref rfl (Ae am) (.d rfl (.d rfl .nil)))))) .nil) ?_
 conv=>cbv
 have e:((⟨ae,af,ag,ah,ak,al⟩:Aa),0)=C8 (⟨Af,Ah,Ai,Ag,Ap,An⟩:Aa) name:=(by unfold C8;rw[if_neg (by rintro(h|h);rw[ai]at h;cases h;have:=Xba aj;dsimp only at h;omega)];exact congrArg (fun x:Aa=>(x,(0:Int))) (an.symm.trans (by rw[←ao,a6];exact XeK ai (Xba aj))))
 rw[hr]at e
 simp only[Prod.mk.injEq,Aa.mk.injEq]at e
 obtain⟨⟨rfl,rfl,rfl,rfl,rfl,rfl⟩,rfl⟩:=e
 refine hQ _ _ ?_
 exact .m rfl (.agg (.d rfl (Bj aa B3) (.d rfl (Bj ab B4) (.d rfl (Bj ac B5) (.d rfl (Bj ad B2) .d2)))) .d1)
theorem Xd6(Al:Af.map Bf=Bo)(Am:Ah.map Ac=Bn)(Aq:Ai.map Ac=Bm)(Ao:Ag.map cS=Bp)(hn:Af.length≤1000000000)(he:Ah.length≤1000000000)(ho:Ai.length≤1000000000)(hs:Ag.length<1000000000)(hss:okS Ag)(ar:J8 (⟨Af,Ah,Ai,Ag,Ap,An⟩:Aa))(hr:Ed (⟨Af,Ah,Ai,Ag,Ap,An⟩:Aa)=⟨onod,oent,oold,oste,oroo,onex⟩)(Kb:onod.map Bf=Ho)(Kc:oent.map Ac=Hw)(Ke:oold.map Ac=Hy)(J0:oste.map cS=Hm):Fn Tryz.prog 224 [.agg [.d (.row 3 Bo),.d (.row 2 Bn),.d (.row 2 Bm),.d (.row 1 Bp),I Ap,I An]] [] ⟨.agg [.d (.row 3 Ho),.d (.row 2 Hw),.d (.row 2 Hy),.d (.row 1 Hm),I oroo,I onex],[],[]⟩:=by
 refine Fn.go H3 Tryz.func224 fun P hP Q hQ=>?_
 conv=>cbv
 obtain⟨n2,au⟩:∃m,m=Af.length:=⟨_,rfl⟩
 obtain⟨n3,aw⟩:∃m,m=Ah.length:=⟨_,rfl⟩
 obtain⟨n4,ax⟩:∃m,m=Ai.length:=⟨_,rfl⟩
 obtain⟨n5,ay⟩:∃m,m=Ag.length:=⟨_,rfl⟩
 refine .ddN hP (J7 Al Am Aq Ao (by omega) (by omega) (by omega) (by omega) au aw ax ay) rfl ?_
 conv=>cbv
 generalize ai:Bq (⟨Af,Ah,Ai,Ag,Ap,An⟩:Aa)=r6
 refine .lnt hP (Np Al Am Aq Ao ar ai) (.agg (.ref rfl (Ae Al) (.ref rfl (Ae Am) (.ref rfl (Ae Aq) (.ref rfl (Ae Ao) (.d rfl (.d rfl .nil)))))) .nil) ?_
 cases r6
 conv=>cbv
 have e:(⟨Af,Ah,Ai,Ag,Ap,An⟩:Aa)=Ed (⟨Af,Ah,Ai,Ag,Ap,An⟩:Aa):=(by unfold Ed;rw[if_pos ai])
 rw[hr]at e
 simp only[Aa.mk.injEq]at e
 obtain⟨rfl,rfl,rfl,rfl,rfl,rfl⟩:=e
 exact hQ _ _ (.one (.inl rfl) rfl (.agg (.ref rfl (Ae Al) (Bt Al Kb) (.ref rfl (Ae Am) (Bt Am Kc) (.ref rfl (Ae Aq) (Bt Aq Ke) (.ref rfl (Ae Ao) (Bt Ao J0) .d2)))) .nil))
 conv=>cbv
 refine .sub0 Am fun a1 z7 az al=>?_
 conv=>cbv
 rcases am:Er (⟨Af,Ah,Ah,[],Ap,An⟩:Aa)with⟨ae,af,ag,ah,aj,ak⟩
 generalize aa:ae.map Bf=an
 generalize ab:af.map Ac=ao
 generalize ac:ag.map Ac=ap
 generalize ad:ah.map cS=aq
 refine .lntD hP (M0 Al Am al rfl (by omega) (by omega) (by simp) (fun _ h=>by cases h) am aa ab ac ad) (.agg (.ref rfl (Ae Al) (.ref rfl (Ae Am) (.ref rfl (Ae al) (.ref rfl rfl (.d rfl (.d rfl .nil)))))) .nil) ?_
 conv=>cbv
 have e:(⟨ae,af,ag,ah,aj,ak⟩:Aa)=Ed (⟨Af,Ah,Ai,Ag,Ap,An⟩:Aa):=(by unfold Ed;rw[if_neg (by rw[ai];decide)];dsimp only;rw[←am];exact Xaj (d:=⟨Af,Ah,Ah,[],Ap,An⟩) trivial)
 rw[hr]at e
 simp only[Aa.mk.injEq]at e
 obtain⟨rfl,rfl,rfl,rfl,rfl,rfl⟩:=e
 exact hQ _ _ (.one (.inl rfl) rfl (.agg (.d rfl (Bj aa Kb) (.d rfl (Bj ab Kc) (.d rfl (Bj ac Ke) (.d rfl (Bj ad J0) .d2)))) .nil))
end
end Go.Proofs.YtjbmpmmffjgedaaGreatDoor.Ab
