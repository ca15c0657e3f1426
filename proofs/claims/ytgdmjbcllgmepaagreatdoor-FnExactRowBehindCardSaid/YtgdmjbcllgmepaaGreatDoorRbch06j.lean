/- What functions of the program come to, for all arguments in the given bounds. -/
import Derived.Test.YtgdmjbcllgmepaaGreatDoorRbch06c
import Derived.Test.YtgdmjbcllgmepaaGreatDoorRbZ9
set_option linter.unusedVariables false
set_option linter.unusedSimpArgs false
namespace Go.Proofs.YtgdmjbcllgmepaaGreatDoor.Ab
section
open Go Go.Proofs
set_option maxRecDepth 20000
set_option maxHeartbeats 4000000
def Xcf:List (Nat×TyRow):=[ty3,XhE,Zd,XlR]
theorem XbT:B9 Tryz.prog Xcf:=B9.of (by kernel_rfl)
theorem Re:Setup Tryz.prog Xcf:=⟨XbT,mixed⟩
def E6(x:Bk)(used:List Int):Bool:=!decide (x.id_∈used)
variable {used:List Int} {l:List Bk} {xl:List (List D)} {nl:Nat}
theorem P1{xid:Int}{xtex:ByteArray}{xsur:Int}{o:Bool}(hr:E6 (⟨xid,xtex,xsur⟩:Bk) used=o):Fn Tryz.prog 329 [.agg [I xid,S xtex,I xsur],.ptr 0 0 0] [.box 256 [.ptr 1 0 0],.map used] ⟨B o,[],[]⟩:=by
 refine Fn.goR Re Tryz.func329 fun P hP Q hQ=>?_
 conv=>cbv
 refine .go hP Tryz.underlying256 (by kernel_rfl) (by kernel_rfl) (by kernel_rfl) fun b1 aa=>?_
 conv=>cbv
 cases b1
 conv=>cbv
 have e:true=E6 (⟨xid,xtex,xsur⟩:Bk) used:=(by unfold E6;simp[←aa])
 rw[hr]at e
 subst e
 exact hQ _ _ (.of [] (.inl rfl) rfl rfl rfl rfl)
 conv=>cbv
 have e:false=E6 (⟨xid,xtex,xsur⟩:Bk) used:=(by unfold E6;simp[←aa])
 rw[hr]at e
 subst e
 exact hQ _ _ (.of [] (.inl rfl) rfl rfl rfl rfl)
def Gc(l:List Bk)(used:List Int):Int:=Vd (fun x=>E6 x used) l
theorem Qj{o:Int}(hl:l.map Bg=xl)(hnl:nl=l.length)(hn:l.length<2^40)(hr:Gc l used=o):Fn Tryz.prog 302 [.ref 0 0 nl,.clo 329 [.ptr 1 0 0]] [.row 3 false xl,.box 256 [.ptr 2 0 0],.map used] ⟨I o,[],[]⟩:=by
 refine Fn.goR Re Tryz.func302 fun P hP Q hQ=>?_
 conv=>cbv
 refine .go fun v1 ai=>?_
 conv=>cbv
 refine LoopW.lp (κ:=Int) Re hP [] [0,1,7] (fun i8=>[(8,I i8)]) (fun i8=>[])
  (fun i8=>0≤i8∧i8≤l.length∧∀(j:Nat) (hj:j<l.length),j<i8.toNat→E6 l[j] used=false)
  (fun i8=>(l.length - i8).toNat) (0) ⟨by omega,by omega,fun j _ h=>by simp at h⟩ ⟨rfl,trivial⟩ rfl ?_
 rintro i8 J ⟨h0,h1,hb⟩ hJ
 conv=>cbv
 refine .lss (fun h2=>?_) fun h2=>?_
 conv=>cbv
 refine .go i8.toNat fun p3 af ag=>?_
 conv=>cbv
 refine .go hl fun ah ⟨ad,aa,ab⟩ ae=>?_
 conv=>cbv
 subst af
 generalize ac:E6 (⟨ad,aa,ab⟩:Bk) used=r5
 refine .bx [1,2] [2] hP (P1 ac) rfl rfl rfl rfl ?_
 cases r5
 conv=>cbv
 refine .add fun v6 aj=>?_
 conv=>cbv
 exact .go [] (v6) (hJ _ ⟨by omega,by omega,fun j hj h=>if e:j=i8.toNat then by subst e;rw[←ae];exact ac else hb j hj (by omega)⟩ mlt)
 conv=>cbv
 have e:i8=Gc l used:=(by exact Mu (p:=fun x=>E6 x used) h0 (by omega) (by rw[←ae];exact ac) hb)
 rw[hr]at e
 subst e
 exact hQ _ _ (.of [] (.inl rfl) rfl rfl rfl rfl)
 conv=>cbv
 have e:(-1)=Gc l used:=(by exact Ib (p:=fun x=>E6 x used) fun j hj=>hb j hj (by omega))
 rw[hr]at e
 subst e
 exact hQ _ _ (.of [] (.inl rfl) rfl rfl rfl rfl)
def F5(l:List Bk)(used:List Int):List Bk:=l.filter (fun x=>!E6 x used)
theorem Ps{o:List Bk}{xf:List (List D)}{no:Nat}(hl:l.map Bg=xl)(hnl:nl=l.length)(hn:l.length<2^40)(hr:F5 l used=o)(hf:(o++List.replicate (l.length - o.length) (⟨0,tx [],0⟩:Bk)).map Bg=xf)(hno:no=o.length):Fn Tryz.prog 328 [.ref 0 0 nl,.clo 329 [.ptr 1 0 0]] [.row 3 false xl,.box 256 [.ptr 2 0 0],.map used] ⟨.ref 0 0 no,[],[(0,.row 3 false xf)]⟩:=by
 refine Fn.goR Re Tryz.func328 fun P hP Q hQ=>?_
 conv=>cbv
 generalize af:Gc l used=r1
 refine .bx [0,1,2] [2] hP (Qj hl (by first|rfl|omega|(simp;omega)) hn af) rfl rfl rfl rfl ?_
 conv=>cbv
 refine .eql (fun h2=>?_) fun h2=>?_
 conv=>cbv
 have e:l=o:=by rw[←hr];unfold F5;symm;rw[List.filter_eq_self];intro x hx;rw[XdC (p:=fun x=>E6 x used) af (by omega) x hx];rfl
 subst e
 obtain rfl:xl=xf:=by rw[←hl,←hf];simp
 obtain rfl:nl=no:=by omega
 exact hQ _ _ (.of [] (.inl rfl) rfl rfl rfl rfl)
 conv=>cbv
 have hd:=Xiu (p:=fun x=>E6 x used) af h2
 refine .add fun v3 am=>?_
 conv=>cbv
 refine LoopW.lp (κ:=Int×Int×(List (List D))) Re hP [] [0,1] (fun(i5,i6,aa)=>[(5,I i5),(6,I i6)]) (fun(i5,i6,aa)=>[(0,.row 3 false aa)])
  (fun(i5,i6,aa)=>∃(w0:List Bk),w0.map Bg=aa∧(0≤i5∧i5<i6∧i6≤l.length)∧w0.length=l.length∧w0.take i5.toNat=(l.take i6.toNat).filter (fun x=>!E6 x used)∧w0.drop i6.toNat=l.drop i6.toNat)
  (fun(i5,i6,aa)=>(l.length - i6).toNat) (r1,v3,xl) ⟨l,hl,by omega,rfl,by rw[hd.2.2,am],rfl⟩ ⟨rfl,rfl,trivial⟩ rfl ?_
 rintro⟨i5,i6,aa⟩ J ⟨w0,ae,hb,hwl,hwt,hwd⟩ hJ
 conv=>cbv
 refine .go fun v4 az=>?_
 conv=>cbv
 refine .lss (fun h5=>?_) fun h5=>?_
 conv=>cbv
 refine .go i6.toNat fun p6 an au=>?_
 conv=>cbv
 refine .go ae fun aj ⟨ad,ab,ac⟩ ao=>?_
 conv=>cbv
 subst an
 have ag:(⟨ad,ab,ac⟩:Bk)=l[i6.toNat]:=ao.trans (XlW aj (by omega) hwd)
 generalize ah:E6 (⟨ad,ab,ac⟩:Bk) used=r8
 refine .bx [1,2] [2] hP (P1 ah) rfl rfl rfl rfl ?_
 cases r8
 conv=>cbv
 refine .go i5.toNat fun p9 ap aw=>?_
 conv=>cbv
 refine .all ((⟨ad,ab,ac⟩:Bk)) ae rfl fun aq ak=>?_
 conv=>cbv
 refine .add fun al ax=>?_
 conv=>cbv
 refine .add fun ai ay=>?_
 conv=>cbv
 have hk:=Xiy (i:=i5.toNat) (p:=fun x=>E6 x used) (show i6.toNat<l.length by omega) (by omega) hwl hwt hwd (by rw[←ag];exact ah)
 rw[←ag]at hk
 subst ap
 exact .go [] (al,ai,aq) (hJ _ ⟨_,ak,by omega,by rw[List.length_set];exact hwl,by rw[show al.toNat=i5.toNat+1 by omega,show ai.toNat=i6.toNat+1 by omega];exact hk.1,by rw[show ai.toNat=i6.toNat+1 by omega];exact hk.2⟩ mlt)
 conv=>cbv
 refine .add fun v9 a1=>?_
 conv=>cbv
 have hk:=Xhd (p:=fun x=>E6 x used) (show i6.toNat<l.length by omega) hwt hwd (by rw[←ag];exact ah)
 exact .go [] (i5,v9,aa) (hJ _ ⟨_,ae,by omega,hwl,by rw[show v9.toNat=i6.toNat+1 by omega];exact hk.1,by rw[show v9.toNat=i6.toNat+1 by omega];exact hk.2⟩ mlt)
 conv=>cbv
 refine .lo fun on6 n6 hon6 a2=>?_
 conv=>cbv
 refine .goN (zz:=[(.int .i64 0,0),(.string ⟨#[]⟩,0),(.int .i64 0,0)]) (⟨0,tx [],0⟩:Bk) hP ae Tryz.underlying37 (by kernel_rfl) rfl rfl (by decide) fun z7 ar=>?_
 conv=>cbv
 refine .hi fun on8 n8 hon8 a6=>?_
 conv=>cbv
 have e:w0.take on6=o:=by rw[hon6,Nat.zero_add,hwt,List.take_of_length_le (by omega),←hr];rfl
 obtain⟨e1,e2⟩:=Xki (by omega) (by omega) e ar
 rw[hwl,hf]at e2
 subst e2
 obtain rfl:n8=no:=by omega
 subst hon8
 exact hQ _ _ (.of [] (.inl rfl) rfl rfl rfl rfl)
end
section
open Go Go.Proofs
set_option maxRecDepth 20000
set_option maxHeartbeats 4000000
def XcK:List (Nat×TyRow):=[ty3,ty9,Xcn,XhE,XaP,Zr,Xai,XlR]
theorem Xa6:B9 Tryz.prog XcK:=B9.of (by kernel_rfl)
theorem Xaw:Setup Tryz.prog XcK:=⟨Xa6,mixed⟩
def Rk:List Ad→List ByteArray→Int→Bool
 |now,[],id=>now.any fun e=>decide (e.id_=id)
 |now,s::ss,id=>(now.any fun e=>decide (e.id_=id))||Rk (A3 now s).1 ss id
def Nn(nodes:List Bk)(old:List Ad)(steps:List ByteArray):List Bk:=nodes.filter fun x=>Rk old steps x.id_
theorem XeB{l:List Ad}{k:Nat}{id:Int}(hk:k<l.length):(l.take (k+1)).any (fun e=>decide (e.id_=id))=((l.take k).any (fun e=>decide (e.id_=id))||decide (l[k].id_=id)):=by
 rw[List.take_succ_eq_append_getElem hk,List.any_append]
 simp
theorem XgI{ks:List Int}{n id:Int}:id∈Pu ks n↔id∈ks∨n=id:=by
 unfold Pu
 split
 ·constructor
  ·exact .inl
  ·rintro(h|rfl)
   ·exact h
   ·assumption
 ·rw[List.mem_append,List.mem_singleton]
  constructor
  ·rintro(h|rfl)
   ·exact .inl h
   ·exact .inr rfl
  ·rintro(h|rfl)
   ·exact .inl h
   ·exact .inr rfl
theorem Tq{Ae:List Bk}{Bo:List (List D)}{Ag:List Ad}{Bl:List (List D)}{Ah:List Ad}{Bj:List (List D)}{Af:List ByteArray}{Bn:List (List D)}{Ao:Int}{An:Int}{ndnod:Nat}{ndste:Nat}{o:List Bk}{no:Nat}{xf:List (List D)}(Aj:Ae.map Bg=Bo)(Am:Ag.map Ac=Bl)(At:Ah.map Ac=Bj)(Ap:Af.map cS=Bn)(hndnod:ndnod=Ae.length)(hndste:ndste=Af.length)(hn:Ae.length<2^40)(hol:Ah.length≤1000000000)(hsl:Af.length≤1000000000)(hss:okS Af)(hr:Nn Ae Ah Af=o)(hno:no=o.length)(hf:(o++List.replicate (Ae.length - o.length) (⟨0,tx [],0⟩:Bk)).map Bg=xf):Fn Tryz.prog 297 [.ptr 0 0 0] [.box 40 [.ref 1 0 ndnod,.d (.row 2 Bl),.d (.row 2 Bj),.ref 2 0 ndste,I Ao,I An],.row 3 false Bo,.row 1 false Bn] ⟨.tup [],[],[(0,.box 40 [.ref 1 0 no,.d (.row 2 Bl),.d (.row 2 Bj),.ref 2 0 ndste,I Ao,I An]),(1,.row 3 false xf)]⟩:=by
 refine Fn.goR Xaw Tryz.func297 fun P hP Q hQ=>?_
 conv=>cbv
 refine LoopW.lp (κ:=(List (List D))×Int×(List Int)) Xaw hP [] [0,2] (fun(ab,i4,ks3)=>[(3,.d (.row 2 ab)),(4,I i4)]) (fun(ab,i4,ks3)=>[(3,.map ks3)])
  (fun(ab,i4,ks3)=>∃(u3:List Ad),u3.map Ac=ab∧0≤i4∧i4≤Af.length∧u3.length≤Ah.length+i4∧∀id,(id∈ks3∨Rk u3 (Af.drop i4.toNat) id=true)↔Rk Ah Af id=true)
  (fun(ab,i4,ks3)=>(Af.length - i4).toNat) (Bj,0,[]) ⟨Ah,At,by omega,by omega,by omega,fun id=>by simp⟩ ⟨rfl,rfl,trivial⟩ rfl ?_
 rintro⟨ab,i4,ks3⟩ J ⟨u3,ae,h0,h1,hun,hio⟩ hJ
 conv=>cbv
 refine .go ae fun v1 aw=>?_
 conv=>cbv
 refine LoopW.lp (κ:=Int×(List Int)) Xaw hP [] [0,2,3,4,14,15] (fun(aa,ks3p)=>[(16,I aa)]) (fun(aa,ks3p)=>[(3,.map ks3p)])
  (fun(aa,ks3p)=>0≤aa∧aa≤u3.length∧∀id,id∈ks3p↔id∈ks3∨((u3.take aa.toNat).any fun e=>decide (e.id_=id))=true)
  (fun(aa,ks3p)=>(u3.length - aa).toNat) (0,ks3) ⟨by omega,by omega,fun id=>by simp⟩ ⟨rfl,trivial⟩ rfl ?_
 rintro⟨aa,ks3p⟩ J1 ⟨k0,k1,hi⟩ al
 conv=>cbv
 refine .lss (fun h2=>?_) fun h2=>?_
 conv=>cbv
 refine .go aa.toNat ae fun ag ⟨am,ar⟩ an=>?_
 conv=>cbv
 refine .go hP Tryz.underlying256 (by kernel_rfl) fun ks4 hks4=>?_
 conv=>cbv
 refine .add fun v5 ax=>?_
 conv=>cbv
 exact .go [] (v5,ks4) (al _ ⟨by omega,by omega,fun id=>by rw[hks4,XgI,hi id,show v5.toNat=aa.toNat+1 by omega,XeB ag,←an,Bool.or_eq_true,or_assoc,decide_eq_true_eq]⟩ mlt)
 conv=>cbv
 refine .go fun v3 ay=>?_
 conv=>cbv
 refine .eql (fun h4=>?_) fun h4=>?_
 conv=>cbv
 have hks:∀id,id∈ks3p↔Rk Ah Af id=true:=fun id=>by rw[hi,←hio id,List.take_of_length_le (show u3.length≤aa.toNat by omega),List.drop_of_length_le (show Af.length≤i4.toNat by omega)];show _↔_∨(u3.any fun e=>decide (e.id_=id))=true;exact Iff.rfl
 generalize ah:F5 Ae ks3p=l5
 generalize ai:(l5++List.replicate (Ae.length - l5.length) (⟨0,tx [],0⟩:Bk)).map Bg=ao
 obtain⟨nl5,hnl5⟩:∃m,m=l5.length:=⟨_,rfl⟩
 refine .bx [1,4,3] [3] hP (Ps Aj (by first|rfl|omega|(simp;omega)) hn ah ai hnl5) rfl rfl rfl rfl ?_
 conv=>cbv
 have e:l5=o:=by rw[←ah,←hr];unfold F5 E6 Nn;congr 1;funext x;simp only[Bool.not_not,hks x.id_,Bool.decide_eq_true]
 subst e
 obtain rfl:ao=xf:=by rw[←ai,←hf]
 obtain rfl:nl5=no:=by omega
 exact hQ _ _ (.of [] (.inr rfl) rfl rfl rfl rfl)
 conv=>cbv
 refine .go i4.toNat fun p5 ap au=>?_
 conv=>cbv
 refine .go Ap fun ac e6 aj=>?_
 conv=>cbv
 have az:e6.size≤1000000000:=aj▸hss _ (List.getElem_mem ac)
 subst ap
 have hdc:Af.drop i4.toNat=e6::Af.drop (i4.toNat+1):=by rw[List.drop_eq_getElem_cons ac,←aj]
 rcases af:A3 u3 e6 with⟨aq,a1⟩
 have hsl7:=Rm af
 generalize ad:aq.map Ac=ak
 refine .dd hP (Ta ae (by omega) (by omega) af ad) ?_
 conv=>cbv
 refine .add fun v8 a2=>?_
 conv=>cbv
 exact .go [] (ak,v8,ks3p) (hJ _ ⟨_,ad,by omega,by omega,by omega,fun id=>by rw[←hio id,hi id,show v8.toNat=i4.toNat+1 by omega,hdc,List.take_of_length_le (show u3.length≤aa.toNat by omega)];show _↔_∨((u3.any fun e=>decide (e.id_=id))||Rk (A3 u3 e6).1 (Af.drop (i4.toNat+1)) id)=true;rw[af,Bool.or_eq_true,or_assoc]⟩ mlt)
end
section
open Go Go.Proofs
set_option maxRecDepth 20000
set_option maxHeartbeats 4000000
def Xb2:List (Nat×TyRow):=[ty9,Xcn,XaP,Zr,ty255]
theorem XcH:B9 Tryz.prog Xb2:=B9.of (by kernel_rfl)
theorem Xje:Setup Tryz.prog Xb2:=⟨XcH,mixed⟩
theorem Q3{l:List ByteArray}{s:ByteArray}(h:okS l)(hs:s.size≤1000000000):okS (l++[s]):=fun t ht=>by
 rcases List.mem_append.1 ht with ht|ht
 ·exact h t ht
 ·rw[List.mem_singleton.1 ht];exact hs
theorem Qb{Ae:List Bk}{Bo:List (List D)}{Ag:List Ad}{Bl:List (List D)}{Ah:List Ad}{Bj:List (List D)}{Af:List ByteArray}{Bn:List (List D)}{Ao:Int}{An:Int}{ndnod:Nat}{ndste:Nat}{step:ByteArray}{xe:List (List D)}{o:List Bk}{no:Nat}{xf xs:List (List D)}{ns:Nat}(Aj:Ae.map Bg=Bo)(Am:Ag.map Ac=Bl)(At:Ah.map Ac=Bj)(Ap:Af.map cS=Bn)(hndnod:ndnod=Ae.length)(hndste:ndste=Af.length)(hn:Ae.length<2^40)(hel:Ag.length≤4000000000)(hss0:step.size≤1000000000)(hol:Ah.length≤1000000000)(hsl:Af.length<1000000000)(hss:okS Af)(he:(A3 Ag step).1.map Ac=xe)(hr:Nn Ae Ah (Af++[step])=o)(hno:no=o.length)(hf:(o++List.replicate (Ae.length - o.length) (⟨0,tx [],0⟩:Bk)).map Bg=xf)(hs:(Af++[step]).map cS=xs)(hns:ns=(Af++[step]).length):Fn Tryz.prog 295 [.ptr 0 0 0,S step] [.box 40 [.ref 1 0 ndnod,.d (.row 2 Bl),.d (.row 2 Bj),.ref 2 0 ndste,I Ao,I An],.row 3 false Bo,.row 1 false Bn] ⟨.tup [],[.row 1 false xs],[(0,.box 40 [.ref 1 0 no,.d (.row 2 xe),.d (.row 2 Bj),.ref 3 0 ns,I Ao,I An]),(1,.row 3 false xf),(2,.dead)]⟩:=by
 refine Fn.goR Xje Tryz.func295 fun P hP Q hQ=>?_
 conv=>cbv
 refine .one step Ap rfl fun ai z1 ad ae=>?_
 conv=>cbv
 rcases af:A3 Ag step with⟨aj,am⟩
 generalize aa:aj.map Ac=ag
 refine .dd hP (Ta Am hel hss0 af aa) ?_
 conv=>cbv
 generalize ah:Nn Ae Ah (Af++[step])=o4
 obtain⟨ak,ab⟩:∃m,m=o4.length:=⟨_,rfl⟩
 generalize ac:(o4++List.replicate (Ae.length - o4.length) (⟨0,tx [],0⟩:Bk)).map Bg=al
 refine .bx [0,1,4] [1,4] hP (Tq Aj aa At ae (by first|assumption|omega) (by first|assumption|omega|rfl|(simp at*;omega)) hn hol (by rw[List.length_append];simp;omega) (Q3 hss hss0) ah ab ac) rfl rfl rfl rfl ?_
 conv=>cbv
 obtain rfl:ag=xe:=by rw[←aa,←he,af]
 obtain rfl:z1=xs:=by rw[←ae,←hs]
 obtain rfl:ai=ns:=by rw[hns,ad,List.length_append];rfl
 obtain rfl:o4=o:=by rw[←ah,←hr]
 obtain rfl:ak=no:=by rw[hno,ab]
 obtain rfl:al=xf:=by rw[←ac,←hf]
 exact hQ _ _ (.of [4] (.inr rfl) rfl rfl rfl rfl)
end
section
open Go Go.Proofs
set_option maxRecDepth 20000
set_option maxHeartbeats 4000000
def Xbt:List (Nat×TyRow):=[Xcn,XhE,XaP,Zr]
theorem Xbd:B9 Tryz.prog Xbt:=B9.of (by kernel_rfl)
theorem XfA:Setup Tryz.prog Xbt:=⟨Xbd,mixed⟩
variable {Ae:List Bk} {Bo Bl Bj Bn:List (List D)} {Ag Ah:List Ad} {Af:List ByteArray} {Ao An:Int}
theorem Iw{nn ns:Nat}(Aj:Ae.map Bg=Bo)(Am:Ag.map Ac=Bl)(At:Ah.map Ac=Bj)(Ap:Af.map cS=Bn)(hn:Ae.length≤4000000000)(he:Ag.length≤4000000000)(ho:Ah.length≤4000000000)(hs:Af.length≤4000000000)(hnn:nn=Ae.length)(hns:ns=Af.length):Fn Tryz.prog 106 [.agg [.d (.row 3 Bo),.d (.row 2 Bl),.d (.row 2 Bj),.d (.row 1 Bn),I Ao,I An]] [] ⟨.agg [.ref 0 0 nn,.d (.row 2 Bl),.d (.row 2 Bj),.ref 1 0 ns,I Ao,I An],[.row 3 false Bo,.row 1 false Bn],[]⟩:=by
 refine Fn.goR XfA Tryz.func106 fun P hP Q hQ=>?_
 conv=>cbv
 generalize ac:D9 Ae=l1
 generalize aa:l1.map Bg=ai
 obtain⟨nl1,hnl1⟩:∃m,m=l1.length:=⟨_,rfl⟩
 refine .ddA hP (Ly Aj (by omega) ac aa hnl1) rfl rfl rfl (aa▸Hk (fun _=>rfl) l1) ?_
 conv=>cbv
 generalize ad:D9 Ag=l2
 generalize ae:l2.map Ac=aj
 refine .dd hP (C4 Am (by omega) ad ae) ?_
 conv=>cbv
 generalize af:D9 Ah=l3
 generalize ag:l3.map Ac=ak
 refine .dd hP (C4 At (by omega) af ag) ?_
 conv=>cbv
 generalize ah:D9 Af=l4
 generalize ab:l4.map cS=al
 obtain⟨nl4,hnl4⟩:∃m,m=l4.length:=⟨_,rfl⟩
 refine .ddA hP (Jg Ap (by omega) ah ab hnl4) rfl rfl rfl (ab▸Hk (fun _=>rfl) l4) ?_
 conv=>cbv
 obtain rfl:l1=Ae:=ac.symm
 obtain rfl:l2=Ag:=ad.symm
 obtain rfl:l3=Ah:=af.symm
 obtain rfl:l4=Af:=ah.symm
 obtain rfl:nl1=nn:=by rw[hnn,hnl1]
 obtain rfl:nl4=ns:=by rw[hns,hnl4]
 obtain rfl:ai=Bo:=by rw[←aa,Aj]
 obtain rfl:aj=Bl:=by rw[←ae,Am]
 obtain rfl:ak=Bj:=by rw[←ag,At]
 obtain rfl:al=Bn:=by rw[←ab,Ap]
 exact hQ _ _ (.of [6,7] (.inl rfl) rfl rfl rfl rfl)
theorem Xdj(Aj:Ae.map Bg=Bo)(Am:Ag.map Ac=Bl)(At:Ah.map Ac=Bj)(Ap:Af.map cS=Bn)(hn:Ae.length≤4000000000)(he:Ag.length≤4000000000)(ho:Ah.length≤4000000000)(hs:Af.length≤4000000000):Fn Tryz.prog 106 [.agg [.d (.row 3 Bo),.d (.row 2 Bl),.d (.row 2 Bj),.d (.row 1 Bn),I Ao,I An]] [] ⟨.agg [.d (.row 3 Bo),.d (.row 2 Bl),.d (.row 2 Bj),.d (.row 1 Bn),I Ao,I An],[],[]⟩:=by
 refine Fn.go XfA Tryz.func106 fun P hP Q hQ=>?_
 conv=>cbv
 generalize aa:D9 Ae=l1
 generalize ab:l1.map Bg=ai
 refine .dd hP (Ma Aj (by omega) aa ab) ?_
 conv=>cbv
 generalize ac:D9 Ag=l2
 generalize ad:l2.map Ac=aj
 refine .dd hP (C4 Am (by omega) ac ad) ?_
 conv=>cbv
 generalize ae:D9 Ah=l3
 generalize af:l3.map Ac=ak
 refine .dd hP (C4 At (by omega) ae af) ?_
 conv=>cbv
 generalize ag:D9 Af=l4
 generalize ah:l4.map cS=al
 refine .dd hP (Jx Ap (by omega) ag ah) ?_
 conv=>cbv
 obtain rfl:l1=Ae:=aa.symm
 obtain rfl:l2=Ag:=ac.symm
 obtain rfl:l3=Ah:=ae.symm
 obtain rfl:l4=Af:=ag.symm
 obtain rfl:ai=Bo:=by rw[←ab,Aj]
 obtain rfl:aj=Bl:=by rw[←ad,Am]
 obtain rfl:ak=Bj:=by rw[←af,At]
 obtain rfl:al=Bn:=by rw[←ah,Ap]
 exact hQ _ _ (.one (.inl rfl) rfl (.agg (.d rfl rfl (.d rfl rfl (.d rfl rfl (.d rfl rfl (.d rfl rfl (.d rfl rfl .nil)))))) .nil))
end
section
open Go Go.Proofs
set_option maxRecDepth 20000
set_option maxHeartbeats 4000000
def XbX:List (Nat×TyRow):=[ty3,ty9,XaP,Zr]
theorem Xcs:B9 Tryz.prog XbX:=B9.of (by kernel_rfl)
theorem Xjy:Setup Tryz.prog XbX:=⟨Xcs,mixed⟩
def L9(d:Aa)(s:ByteArray):Aa:=⟨Nn d.nodes_ d.old_ (d.steps_++[s]),(A3 d.entries_ s).1,d.old_,d.steps_++[s],d.room_,d.next_⟩
def C6(d:Aa)(name:ByteArray):Aa×Int:=if By d=false∨Bc d.entries_ name<0 then(d,3)else(L9 d (tx [45]++name),0)
theorem XcV{Ae:List Bk}{Bo:List (List D)}{Ag:List Ad}{Bl:List (List D)}{Ah:List Ad}{Bj:List (List D)}{Af:List ByteArray}{Bn:List (List D)}{Ao:Int}{An:Int}{name:ByteArray}{G1:List Bk}{Eh:List (List D)}{G2:List Ad}{Ek:List (List D)}{G3:List Ad}{Ee:List (List D)}{G8:List ByteArray}{El:List (List D)}{G5:Int}{G6:Int}{ob:Int}(Aj:Ae.map Bg=Bo)(Am:Ag.map Ac=Bl)(At:Ah.map Ac=Bj)(Ap:Af.map cS=Bn)(hn:Ae.length≤1000000000)(he:Ag.length≤1000000000)(ho:Ah.length≤1000000000)(hs:Af.length<1000000000)(hss:okS Af)(ak:J8 (⟨Ae,Ag,Ah,Af,Ao,An⟩:Aa))(hm:name.size<1000000000)(hr:C6 (⟨Ae,Ag,Ah,Af,Ao,An⟩:Aa) name=(⟨G1,G2,G3,G8,G5,G6⟩,ob))(B4:G1.map Bg=Eh)(B1:G2.map Ac=Ek)(B2:G3.map Ac=Ee)(B3:G8.map cS=El):Fn Tryz.prog 274 [.agg [.d (.row 3 Bo),.d (.row 2 Bl),.d (.row 2 Bj),.d (.row 1 Bn),I Ao,I An],S name] [] ⟨.tup [.agg [.d (.row 3 Eh),.d (.row 2 Ek),.d (.row 2 Ee),.d (.row 1 El),I G5,I G6],I ob],[],[]⟩:=by
 refine Fn.go Xjy Tryz.func274 fun P hP Q hQ=>?_
 conv=>cbv
 obtain⟨n2,al⟩:∃m,m=Ae.length:=⟨_,rfl⟩
 obtain⟨n3,am⟩:∃m,m=Af.length:=⟨_,rfl⟩
 refine .ddN hP (Iw Aj Am At Ap (by omega) (by omega) (by omega) (by omega) al am) rfl ?_
 conv=>cbv
 generalize ag:By (⟨Ae,Ag,Ah,Af,Ao,An⟩:Aa)=r4
 refine .dd hP (Pn Aj Am At Ap ak ag) ?_
 cases r4
 conv=>cbv
 have e:((⟨Ae,Ag,Ah,Af,Ao,An⟩:Aa),3)=C6 (⟨Ae,Ag,Ah,Af,Ao,An⟩:Aa) name:=(by unfold C6;rw[if_pos (.inl ag)])
 rw[hr]at e
 simp only[Prod.mk.injEq,Aa.mk.injEq]at e
 obtain⟨⟨rfl,rfl,rfl,rfl,rfl,rfl⟩,rfl⟩:=e
 refine hQ _ _ ?_
 exact .many (.inl rfl) rfl rfl (.agg (.ref rfl (Ai Aj) (Bv Aj B4) (.d rfl (Bm Am B1) (.d rfl (Bm At B2) (.ref rfl (Ai Ap) (Bv Ap B3) (.d rfl rfl (.d rfl rfl (.nil))))))) (.d rfl rfl (.nil)))
 conv=>cbv
 generalize ai:Bc Ag name=r5
 refine .dd hP (Kr Am (by omega) ai) ?_
 conv=>cbv
 refine .lss (fun h6=>?_) fun h6=>?_
 conv=>cbv
 have e:((⟨Ae,Ag,Ah,Af,Ao,An⟩:Aa),3)=C6 (⟨Ae,Ag,Ah,Af,Ao,An⟩:Aa) name:=(by unfold C6;rw[if_pos (.inr (by rw[ai];exact h6))])
 rw[hr]at e
 simp only[Prod.mk.injEq,Aa.mk.injEq]at e
 obtain⟨⟨rfl,rfl,rfl,rfl,rfl,rfl⟩,rfl⟩:=e
 refine hQ _ _ ?_
 exact .many (.inl rfl) rfl rfl (.agg (.ref rfl (Ai Aj) (Bv Aj B4) (.d rfl (Bm Am B1) (.d rfl (Bm At B2) (.ref rfl (Ai Ap) (Bv Ap B3) (.d rfl rfl (.d rfl rfl (.nil))))))) (.d rfl rfl (.nil)))
 conv=>cbv
 refine .litL 1 fun s7 an ar=>?_
 conv=>cbv
 generalize ab:(A3 Ag s7).1=ae
 generalize ac:ae.map Ac=ao
 generalize aj:Nn Ae Ah (Af++[s7])=o9
 obtain⟨au,af⟩:∃m,m=o9.length:=⟨_,rfl⟩
 generalize aa:(o9++List.replicate (Ae.length - o9.length) (⟨0,tx [],0⟩:Bk)).map Bg=ap
 generalize ad:(Af++[s7]).map cS=aw
 obtain⟨aq,ah⟩:∃m,m=(Af++[s7]).length:=⟨_,rfl⟩
 refine .bx [12,6,7] [6,7] hP (Qb Aj Am At Ap (by first|assumption|omega|(simp;omega)) (by first|assumption|omega|(simp;omega)) (by omega) (by omega) (by omega) (by omega) (by omega) hss ((congrArg (List.map Ac) ab).trans ac) aj af aa ad ah) rfl rfl rfl rfl ?_
 conv=>cbv
 have e:((⟨o9,ae,Ah,Af++[s7],Ao,An⟩:Aa),0)=C6 (⟨Ae,Ag,Ah,Af,Ao,An⟩:Aa) name:=(by unfold C6;rw[if_neg (by rintro(h|h);rw[ag]at h;cases h;dsimp only at h;omega)];unfold L9;dsimp only;rw[show tx [45]++name=s7 from an.symm,aj,ab])
 rw[hr]at e
 simp only[Prod.mk.injEq,Aa.mk.injEq]at e
 obtain⟨⟨rfl,rfl,rfl,rfl,rfl,rfl⟩,rfl⟩:=e
 refine hQ _ _ ?_
 exact .many (.inl rfl) rfl rfl (.agg (.sub rfl (by rw[←aa,List.length_map,List.length_append];omega) (by rw[←aa,←B4,af,List.drop_zero,List.map_append,List.take_left' (by rw[List.length_map])]) (.d rfl (Bm ac B1) (.d rfl (Bm At B2) (.ref rfl (Ai ad) (Bv ad B3) (.d rfl rfl (.d rfl rfl (.nil))))))) (.d rfl rfl (.nil)))
end
section
open Go Go.Proofs
set_option maxRecDepth 20000
set_option maxHeartbeats 4000000
def Xci:List (Nat×TyRow):=[ty3,ty9,XaP,Zr]
theorem XbA:B9 Tryz.prog Xci:=B9.of (by kernel_rfl)
theorem Xi8:Setup Tryz.prog Xci:=⟨XbA,mixed⟩
def B7(d:Aa)(from_ to_:ByteArray):Aa×Int:=if By d=false∨Bc d.entries_ from_<0 then(d,3)else if Bt to_=false∨from_=to_ then(d,1)else(L9 d (tx [62]++from_++tx [58]++to_),0)
theorem Xa5{Ae:List Bk}{Bo:List (List D)}{Ag:List Ad}{Bl:List (List D)}{Ah:List Ad}{Bj:List (List D)}{Af:List ByteArray}{Bn:List (List D)}{Ao:Int}{An:Int}{from_:ByteArray}{to_:ByteArray}{G1:List Bk}{Eh:List (List D)}{G2:List Ad}{Ek:List (List D)}{G3:List Ad}{Ee:List (List D)}{G8:List ByteArray}{El:List (List D)}{G5:Int}{G6:Int}{ob:Int}(Aj:Ae.map Bg=Bo)(Am:Ag.map Ac=Bl)(At:Ah.map Ac=Bj)(Ap:Af.map cS=Bn)(hn:Ae.length≤1000000000)(he:Ag.length≤1000000000)(ho:Ah.length≤1000000000)(hs:Af.length<1000000000)(hss:okS Af)(ap:J8 (⟨Ae,Ag,Ah,Af,Ao,An⟩:Aa))(hm:from_.size+to_.size<999999999)(hr:B7 (⟨Ae,Ag,Ah,Af,Ao,An⟩:Aa) from_ to_=(⟨G1,G2,G3,G8,G5,G6⟩,ob))(B4:G1.map Bg=Eh)(B1:G2.map Ac=Ek)(B2:G3.map Ac=Ee)(B3:G8.map cS=El):Fn Tryz.prog 275 [.agg [.d (.row 3 Bo),.d (.row 2 Bl),.d (.row 2 Bj),.d (.row 1 Bn),I Ao,I An],S from_,S to_] [] ⟨.tup [.agg [.d (.row 3 Eh),.d (.row 2 Ek),.d (.row 2 Ee),.d (.row 1 El),I G5,I G6],I ob],[],[]⟩:=by
 refine Fn.go Xi8 Tryz.func275 fun P hP Q hQ=>?_
 conv=>cbv
 obtain⟨n2,aq⟩:∃m,m=Ae.length:=⟨_,rfl⟩
 obtain⟨n3,ar⟩:∃m,m=Af.length:=⟨_,rfl⟩
 refine .ddN hP (Iw Aj Am At Ap (by omega) (by omega) (by omega) (by omega) aq ar) rfl ?_
 conv=>cbv
 generalize ac:By (⟨Ae,Ag,Ah,Af,Ao,An⟩:Aa)=r4
 refine .dd hP (Pn Aj Am At Ap ap ac) ?_
 cases r4
 conv=>cbv
 have e:((⟨Ae,Ag,Ah,Af,Ao,An⟩:Aa),3)=B7 (⟨Ae,Ag,Ah,Af,Ao,An⟩:Aa) from_ to_:=(by unfold B7;rw[if_pos (.inl ac)])
 rw[hr]at e
 simp only[Prod.mk.injEq,Aa.mk.injEq]at e
 obtain⟨⟨rfl,rfl,rfl,rfl,rfl,rfl⟩,rfl⟩:=e
 refine hQ _ _ ?_
 exact .many (.inl rfl) rfl rfl (.agg (.ref rfl (Ai Aj) (Bv Aj B4) (.d rfl (Bm Am B1) (.d rfl (Bm At B2) (.ref rfl (Ai Ap) (Bv Ap B3) (.d rfl rfl (.d rfl rfl (.nil))))))) (.d rfl rfl (.nil)))
 conv=>cbv
 generalize am:Bc Ag from_=r5
 refine .dd hP (Kr Am (by omega) am) ?_
 conv=>cbv
 refine .lss (fun h6=>?_) fun h6=>?_
 conv=>cbv
 have e:((⟨Ae,Ag,Ah,Af,Ao,An⟩:Aa),3)=B7 (⟨Ae,Ag,Ah,Af,Ao,An⟩:Aa) from_ to_:=(by unfold B7;rw[if_pos (.inr (by rw[am];exact h6))])
 rw[hr]at e
 simp only[Prod.mk.injEq,Aa.mk.injEq]at e
 obtain⟨⟨rfl,rfl,rfl,rfl,rfl,rfl⟩,rfl⟩:=e
 refine hQ _ _ ?_
 exact .many (.inl rfl) rfl rfl (.agg (.ref rfl (Ai Aj) (Bv Aj B4) (.d rfl (Bm Am B1) (.d rfl (Bm At B2) (.ref rfl (Ai Ap) (Bv Ap B3) (.d rfl rfl (.d rfl rfl (.nil))))))) (.d rfl rfl (.nil)))
 conv=>cbv
 generalize ak:Bt to_=r7
 refine .dd hP (Mo (by omega) ak) ?_
 cases r7
 conv=>cbv
 have e:((⟨Ae,Ag,Ah,Af,Ao,An⟩:Aa),1)=B7 (⟨Ae,Ag,Ah,Af,Ao,An⟩:Aa) from_ to_:=(by unfold B7;rw[if_neg (by rintro(h|h);rw[ac]at h;cases h;dsimp only at h;omega),if_pos (.inl ak)])
 rw[hr]at e
 simp only[Prod.mk.injEq,Aa.mk.injEq]at e
 obtain⟨⟨rfl,rfl,rfl,rfl,rfl,rfl⟩,rfl⟩:=e
 refine hQ _ _ ?_
 exact .many (.inl rfl) rfl rfl (.agg (.ref rfl (Ai Aj) (Bv Aj B4) (.d rfl (Bm Am B1) (.d rfl (Bm At B2) (.ref rfl (Ai Ap) (Bv Ap B3) (.d rfl rfl (.d rfl rfl (.nil))))))) (.d rfl rfl (.nil)))
 conv=>cbv
 refine .eql (fun h8=>?_) fun h8=>?_
 conv=>cbv
 have e:((⟨Ae,Ag,Ah,Af,Ao,An⟩:Aa),1)=B7 (⟨Ae,Ag,Ah,Af,Ao,An⟩:Aa) from_ to_:=(by unfold B7;rw[if_neg (by rintro(h|h);rw[ac]at h;cases h;dsimp only at h;omega),if_pos (.inr h8)])
 rw[hr]at e
 simp only[Prod.mk.injEq,Aa.mk.injEq]at e
 obtain⟨⟨rfl,rfl,rfl,rfl,rfl,rfl⟩,rfl⟩:=e
 refine hQ _ _ ?_
 exact .many (.inl rfl) rfl rfl (.agg (.ref rfl (Ai Aj) (Bv Aj B4) (.d rfl (Bm Am B1) (.d rfl (Bm At B2) (.ref rfl (Ai Ap) (Bv Ap B3) (.d rfl rfl (.d rfl rfl (.nil))))))) (.d rfl rfl (.nil)))
 conv=>cbv
 refine .litL 1 fun s9 au a6=>?_
 conv=>cbv
 refine .litR 1 fun a7 an aw=>?_
 conv=>cbv
 refine .go fun ab ao ax=>?_
 conv=>cbv
 generalize ad:(A3 Ag ab).1=ai
 generalize ae:ai.map Ac=ay
 generalize aj:Nn Ae Ah (Af++[ab])=ah
 obtain⟨az,af⟩:∃m,m=ah.length:=⟨_,rfl⟩
 generalize aa:(ah++List.replicate (Ae.length - ah.length) (⟨0,tx [],0⟩:Bk)).map Bg=a1
 generalize ag:(Af++[ab]).map cS=a8
 obtain⟨a2,al⟩:∃m,m=(Af++[ab]).length:=⟨_,rfl⟩
 refine .bx [12,6,7] [6,7] hP (Qb Aj Am At Ap (by first|assumption|omega|(simp;omega)) (by first|assumption|omega|(simp;omega)) (by omega) (by omega) (by omega) (by omega) (by omega) hss ((congrArg (List.map Ac) ad).trans ae) aj af aa ag al) rfl rfl rfl rfl ?_
 conv=>cbv
 have e:((⟨ah,ai,Ah,Af++[ab],Ao,An⟩:Aa),0)=B7 (⟨Ae,Ag,Ah,Af,Ao,An⟩:Aa) from_ to_:=(by unfold B7;rw[if_neg (by rintro(h|h);rw[ac]at h;cases h;dsimp only at h;omega),if_neg (by rintro(h|h);rw[ak]at h;cases h;exact h8 h)];unfold L9;dsimp only;rw[show tx [62]++from_++tx [58]++to_=ab from by rw[ao,an,au];rfl,aj,ad])
 rw[hr]at e
 simp only[Prod.mk.injEq,Aa.mk.injEq]at e
 obtain⟨⟨rfl,rfl,rfl,rfl,rfl,rfl⟩,rfl⟩:=e
 refine hQ _ _ ?_
 exact .many (.inl rfl) rfl rfl (.agg (.sub rfl (by rw[←aa,List.length_map,List.length_append];omega) (by rw[←aa,←B4,af,List.drop_zero,List.map_append,List.take_left' (by rw[List.length_map])]) (.d rfl (Bm ae B1) (.d rfl (Bm At B2) (.ref rfl (Ai ag) (Bv ag B3) (.d rfl rfl (.d rfl rfl (.nil))))))) (.d rfl rfl (.nil)))
end
section
open Go Go.Proofs
set_option maxRecDepth 20000
set_option maxHeartbeats 4000000
def XbY:List (Nat×TyRow):=[ty3,ty9,XhE,Zr,Zd]
theorem XbV:B9 Tryz.prog XbY:=B9.of (by kernel_rfl)
theorem XjX:Setup Tryz.prog XbY:=⟨XbV,mixed⟩
def Dp(d:Aa)(name:ByteArray):Aa×Int:=if By d=false∨Db d name<0 then(d,3)else
 (⟨d.nodes_.set (Db d name).toNat ⟨(d.nodes_.getD (Db d name).toNat ⟨0,tx [],0⟩).id_,(d.nodes_.getD (Db d name).toNat ⟨0,tx [],0⟩).text_,((d.nodes_.getD (Db d name).toNat ⟨0,tx [],0⟩).text_.size:Int)⟩,d.entries_,d.old_,d.steps_,d.room_,d.next_⟩,0)
theorem XfO{Ae:List Bk}{Bo:List (List D)}{Ag:List Ad}{Bl:List (List D)}{Ah:List Ad}{Bj:List (List D)}{Af:List ByteArray}{Bn:List (List D)}{Ao:Int}{An:Int}{name:ByteArray}{G1:List Bk}{Eh:List (List D)}{G2:List Ad}{Ek:List (List D)}{G3:List Ad}{Ee:List (List D)}{G8:List ByteArray}{El:List (List D)}{G5:Int}{G6:Int}{ob:Int}(Aj:Ae.map Bg=Bo)(Am:Ag.map Ac=Bl)(At:Ah.map Ac=Bj)(Ap:Af.map cS=Bn)(hn:Ae.length≤1000000000)(he:Ag.length≤1000000000)(ho:Ah.length≤1000000000)(hs:Af.length<1000000000)(hss:okS Af)(af:J8 (⟨Ae,Ag,Ah,Af,Ao,An⟩:Aa))(hr:Dp (⟨Ae,Ag,Ah,Af,Ao,An⟩:Aa) name=(⟨G1,G2,G3,G8,G5,G6⟩,ob))(B4:G1.map Bg=Eh)(B1:G2.map Ac=Ek)(B2:G3.map Ac=Ee)(B3:G8.map cS=El):Fn Tryz.prog 236 [.agg [.d (.row 3 Bo),.d (.row 2 Bl),.d (.row 2 Bj),.d (.row 1 Bn),I Ao,I An],S name] [] ⟨.tup [.agg [.d (.row 3 Eh),.d (.row 2 Ek),.d (.row 2 Ee),.d (.row 1 El),I G5,I G6],I ob],[],[]⟩:=by
 refine Fn.go XjX Tryz.func236 fun P hP Q hQ=>?_
 conv=>cbv
 obtain⟨n2,ah⟩:∃m,m=Ae.length:=⟨_,rfl⟩
 obtain⟨n3,ai⟩:∃m,m=Af.length:=⟨_,rfl⟩
 refine .ddN hP (Iw Aj Am At Ap (by omega) (by omega) (by omega) (by omega) ah ai) rfl ?_
 conv=>cbv
 generalize ab:Db (⟨Ae,Ag,Ah,Af,Ao,An⟩:Aa) name=r4
 refine .dd hP (Na Aj Am At Ap af.1 ab) ?_
 conv=>cbv
 have hb:=Hs ab
 simp only[]at hb
 generalize ad:By (⟨Ae,Ag,Ah,Af,Ao,An⟩:Aa)=r5
 refine .dd hP (Pn Aj Am At Ap af ad) ?_
 cases r5
 conv=>cbv
 have e:((⟨Ae,Ag,Ah,Af,Ao,An⟩:Aa),3)=Dp (⟨Ae,Ag,Ah,Af,Ao,An⟩:Aa) name:=(by unfold Dp;rw[if_pos (.inl ad)])
 rw[hr]at e
 simp only[Prod.mk.injEq,Aa.mk.injEq]at e
 obtain⟨⟨rfl,rfl,rfl,rfl,rfl,rfl⟩,rfl⟩:=e
 refine hQ _ _ ?_
 exact .many (.inl rfl) rfl rfl (.agg (.ref rfl (Ai Aj) (Bv Aj B4) (.d rfl (Bm Am B1) (.d rfl (Bm At B2) (.ref rfl (Ai Ap) (Bv Ap B3) (.d rfl rfl (.d rfl rfl (.nil))))))) (.d rfl rfl (.nil)))
 conv=>cbv
 refine .lss (fun h6=>?_) fun h6=>?_
 conv=>cbv
 have e:((⟨Ae,Ag,Ah,Af,Ao,An⟩:Aa),3)=Dp (⟨Ae,Ag,Ah,Af,Ao,An⟩:Aa) name:=(by unfold Dp;rw[if_pos (.inr (by rw[ab];exact h6))])
 rw[hr]at e
 simp only[Prod.mk.injEq,Aa.mk.injEq]at e
 obtain⟨⟨rfl,rfl,rfl,rfl,rfl,rfl⟩,rfl⟩:=e
 refine hQ _ _ ?_
 exact .many (.inl rfl) rfl rfl (.agg (.ref rfl (Ai Aj) (Bv Aj B4) (.d rfl (Bm Am B1) (.d rfl (Bm At B2) (.ref rfl (Ai Ap) (Bv Ap B3) (.d rfl rfl (.d rfl rfl (.nil))))))) (.d rfl rfl (.nil)))
 conv=>cbv
 refine .go r4.toNat fun p7 aq an=>?_
 conv=>cbv
 refine .go Aj fun ao ⟨ap,ae,aj⟩ ak=>?_
 conv=>cbv
 refine .go fun v9 al=>?_
 conv=>cbv
 refine .go r4.toNat fun aa ag am=>?_
 conv=>cbv
 refine .go (⟨(Ae.getD aa ⟨0,tx [],0⟩).id_,(Ae.getD aa ⟨0,tx [],0⟩).text_,v9⟩:Bk) Aj (by omega) (by rw[←gD (show aa<Ae.length by omega)];rfl) (Nat.le_refl 3) fun ar ac=>?_
 conv=>cbv
 have e:((⟨Ae.set aa (⟨(Ae.getD aa ⟨0,tx [],0⟩).id_,(Ae.getD aa ⟨0,tx [],0⟩).text_,v9⟩:Bk),Ag,Ah,Af,Ao,An⟩:Aa),0)=Dp (⟨Ae,Ag,Ah,Af,Ao,An⟩:Aa) name:=(by unfold Dp;rw[if_neg (by rintro(h|h);rw[ad]at h;cases h;rw[ab]at h;omega),ab];dsimp only;have e9:ae=(Ae.getD aa ⟨0,tx [],0⟩).text_:=(by have h9:p7=aa:=(by omega);subst h9;rw[←gD (show p7<Ae.length by omega),←ak]);rw[al,e9,←ag])
 rw[hr]at e
 simp only[Prod.mk.injEq,Aa.mk.injEq]at e
 obtain⟨⟨rfl,rfl,rfl,rfl,rfl,rfl⟩,rfl⟩:=e
 refine hQ _ _ ?_
 exact .many (.inl rfl) rfl rfl (.agg (.ref rfl (Ai ac) (Bv ac B4) (.d rfl (Bm Am B1) (.d rfl (Bm At B2) (.ref rfl (Ai Ap) (Bv Ap B3) (.d rfl rfl (.d rfl rfl (.nil))))))) (.d rfl rfl (.nil)))
end
section
open Go Go.Proofs
set_option maxRecDepth 20000
set_option maxHeartbeats 4000000
def Xb7:List (Nat×TyRow):=[ty3,ty9,Xcn,XhE,XaP,Zr,Zd]
theorem XcA:B9 Tryz.prog Xb7:=B9.of (by kernel_rfl)
theorem Zv:Setup Tryz.prog Xb7:=⟨XcA,mixed⟩
theorem XdG{α:Type}{f:α→Int}(h:∀x,0≤f x):∀{l:List α} {a:Int},a≤(l.map f).foldl (·+·) a
 |[],a=>by simp
 |x::l,a=>by
  rw[List.map_cons,List.foldl_cons]
  have:=XdG h (l:=l) (a:=a+f x)
  have:=h x
  omega
theorem Xgd(d:Aa):0≤F2 d:=XdG (f:=fun n:Bk=>(n.text_.size:Int)) (fun x=>by omega)
theorem Ip{d:Aa}(h:By d=true):0≤d.room_∧d.room_≤1000000000∧1≤d.next_∧d.next_≤1000000000∧0≤F2 d∧F2 d≤d.room_:=by
 have h1:=diskOk_iff.1 h
 exact⟨h1.1.1,h1.1.2,h1.2.1.1,h1.2.1.2,Xgd d,h1.2.2.2.1⟩
def gN(d:Aa)(i:Int):Bk:=d.nodes_.getD i.toNat ⟨0,tx [],0⟩
def XlH(d:Aa)(i:Int)(x:Bk):Aa:=⟨d.nodes_.set i.toNat x,d.entries_,d.old_,d.steps_,d.room_,d.next_⟩
def B8(d:Aa)(name text:ByteArray):Aa×Int:=if By d=false∨Db d name<0 then(d,3)else
 (XlH d (Db d name) ⟨(gN d (Db d name)).id_,(gN d (Db d name)).text_++text.extract 0 (min (text.size:Int) (d.room_ - F2 d)).toNat,(gN d (Db d name)).sure_⟩,if d.room_ - F2 d<text.size then 5 else 0)
def Be(d:Aa)(name:ByteArray):Aa×Int:=if By d=false then(d,3)else if Bt name=false then(d,1)else if 0≤Bc d.entries_ name then(d,2)else if 16≤d.entries_.length∨64≤d.nodes_.length∨1000000000≤d.next_ then(d,4)else
 (L9 ⟨d.nodes_++[⟨d.next_,tx [],0⟩],d.entries_,d.old_,d.steps_,d.room_,d.next_+1⟩ (tx [43]++name++tx [58]++Ck d.next_),0)
def D0(d:Aa):Aa:=if By d=false then d else⟨Nn d.nodes_ d.entries_ [],d.entries_,d.entries_,[],d.room_,d.next_⟩
variable {Ae G1:List Bk} {Bo Bl Bj Bn Eh Ek Ee El:List (List D)} {Ag Ah G2 G3:List Ad} {Af G8:List ByteArray} {Ao An G5 G6 ob:Int} {name:ByteArray}
theorem Xb1{text:ByteArray}(Aj:Ae.map Bg=Bo)(Am:Ag.map Ac=Bl)(At:Ah.map Ac=Bj)(Ap:Af.map cS=Bn)(hn:Ae.length≤1000000000)(he:Ag.length≤1000000000)(ho:Ah.length≤1000000000)(hs:Af.length<1000000000)(hss:okS Af)(ah:J8 (⟨Ae,Ag,Ah,Af,Ao,An⟩:Aa))(ht:text.size≤1000000000)(hr:B8 (⟨Ae,Ag,Ah,Af,Ao,An⟩:Aa) name text=(⟨G1,G2,G3,G8,G5,G6⟩,ob))(B4:G1.map Bg=Eh)(B1:G2.map Ac=Ek)(B2:G3.map Ac=Ee)(B3:G8.map cS=El):Fn Tryz.prog 233 [.agg [.d (.row 3 Bo),.d (.row 2 Bl),.d (.row 2 Bj),.d (.row 1 Bn),I Ao,I An],S name,S text] [] ⟨.tup [.agg [.d (.row 3 Eh),.d (.row 2 Ek),.d (.row 2 Ee),.d (.row 1 El),I G5,I G6],I ob],[],[]⟩:=by
 refine Fn.go Zv Tryz.func233 fun P hP Q hQ=>?_
 conv=>cbv
 obtain⟨n2,au⟩:∃m,m=Ae.length:=⟨_,rfl⟩
 obtain⟨n3,aw⟩:∃m,m=Af.length:=⟨_,rfl⟩
 refine .ddN hP (Iw Aj Am At Ap (by omega) (by omega) (by omega) (by omega) au aw) rfl ?_
 conv=>cbv
 generalize ac:Db (⟨Ae,Ag,Ah,Af,Ao,An⟩:Aa) name=r4
 refine .dd hP (Na Aj Am At Ap ah.1 ac) ?_
 conv=>cbv
 have hb:=Hs ac
 simp only[]at hb
 generalize ae:By (⟨Ae,Ag,Ah,Af,Ao,An⟩:Aa)=r5
 refine .dd hP (Pn Aj Am At Ap ah ae) ?_
 cases r5
 conv=>cbv
 have e:((⟨Ae,Ag,Ah,Af,Ao,An⟩:Aa),3)=B8 (⟨Ae,Ag,Ah,Af,Ao,An⟩:Aa) name text:=(by unfold B8;rw[if_pos (.inl ae)])
 rw[hr]at e
 simp only[Prod.mk.injEq,Aa.mk.injEq]at e
 obtain⟨⟨rfl,rfl,rfl,rfl,rfl,rfl⟩,rfl⟩:=e
 refine hQ _ _ ?_
 exact .many (.inl rfl) rfl rfl (.agg (.ref rfl (Ai Aj) (Bv Aj B4) (.d rfl (Bm Am B1) (.d rfl (Bm At B2) (.ref rfl (Ai Ap) (Bv Ap B3) (.d rfl rfl (.d rfl rfl (.nil))))))) (.d rfl rfl (.nil)))
 conv=>cbv
 refine .lss (fun h6=>?_) fun h6=>?_
 conv=>cbv
 have e:((⟨Ae,Ag,Ah,Af,Ao,An⟩:Aa),3)=B8 (⟨Ae,Ag,Ah,Af,Ao,An⟩:Aa) name text:=(by unfold B8;rw[if_pos (.inr (by rw[ac];exact h6))])
 rw[hr]at e
 simp only[Prod.mk.injEq,Aa.mk.injEq]at e
 obtain⟨⟨rfl,rfl,rfl,rfl,rfl,rfl⟩,rfl⟩:=e
 refine hQ _ _ ?_
 exact .many (.inl rfl) rfl rfl (.agg (.ref rfl (Ai Aj) (Bv Aj B4) (.d rfl (Bm Am B1) (.d rfl (Bm At B2) (.ref rfl (Ai Ap) (Bv Ap B3) (.d rfl rfl (.d rfl rfl (.nil))))))) (.d rfl rfl (.nil)))
 conv=>cbv
 refine .go fun v7 ap=>?_
 conv=>cbv
 generalize ai:F2 (⟨Ae,Ag,Ah,Af,Ao,An⟩:Aa)=r8
 refine .dd hP (XeM Aj Am At Ap ah.1 ai) ?_
 conv=>cbv
 have hri:=Ip ae
 simp only[ai]at hri
 refine .sub fun v9 aq=>?_
 conv=>cbv
 refine .go fun bb ak=>?_
 conv=>cbv
 refine .go r4.toNat fun aj a2 ax=>?_
 conv=>cbv
 refine .go Aj fun an ⟨ay,ab,ar⟩ af=>?_
 conv=>cbv
 refine .hi fun az ag=>?_
 conv=>cbv
 have a6:ab.size≤1000000000:=by have h9:=ah.1.2.1 _ (List.getElem_mem an);rw[←af]at h9;exact h9
 have a7:az.size≤text.size:=by rw[ag,ByteArray.size_extract];omega
 refine .go fun ao al a8=>?_
 conv=>cbv
 refine .go r4.toNat fun aa am a1=>?_
 conv=>cbv
 refine .go (⟨(Ae.getD aa ⟨0,tx [],0⟩).id_,ao,(Ae.getD aa ⟨0,tx [],0⟩).sure_⟩:Bk) Aj (by omega) (by rw[←gD (show aa<Ae.length by omega)];rfl) (show 1+1≤3 by decide) fun bc ad=>?_
 conv=>cbv
 refine .go fun bd ba=>?_
 conv=>cbv
 refine .lss (fun h18=>?_) fun h18=>?_
 conv=>cbv
 have e:((⟨Ae.set aa (⟨(Ae.getD aa ⟨0,tx [],0⟩).id_,ao,(Ae.getD aa ⟨0,tx [],0⟩).sure_⟩:Bk),Ag,Ah,Af,Ao,An⟩:Aa),5)=B8 (⟨Ae,Ag,Ah,Af,Ao,An⟩:Aa) name text:=(by unfold B8;rw[if_neg (by rintro(h|h);rw[ae]at h;cases h;rw[ac]at h;omega),ac,ai];dsimp only;rw[if_pos (by omega)];unfold XlH gN;dsimp only;have e9:ab=(Ae.getD aa ⟨0,tx [],0⟩).text_:=(by have h9:aj=aa:=(by omega);subst h9;rw[←gD (show aj<Ae.length by omega),←af]);rw[←am,al,e9,ag,ak,ap,aq])
 rw[hr]at e
 simp only[Prod.mk.injEq,Aa.mk.injEq]at e
 obtain⟨⟨rfl,rfl,rfl,rfl,rfl,rfl⟩,rfl⟩:=e
 refine hQ _ _ ?_
 exact .many (.inl rfl) rfl rfl (.agg (.ref rfl (Ai ad) (Bv ad B4) (.d rfl (Bm Am B1) (.d rfl (Bm At B2) (.ref rfl (Ai Ap) (Bv Ap B3) (.d rfl rfl (.d rfl rfl (.nil))))))) (.d rfl rfl (.nil)))
 conv=>cbv
 have e:((⟨Ae.set aa (⟨(Ae.getD aa ⟨0,tx [],0⟩).id_,ao,(Ae.getD aa ⟨0,tx [],0⟩).sure_⟩:Bk),Ag,Ah,Af,Ao,An⟩:Aa),0)=B8 (⟨Ae,Ag,Ah,Af,Ao,An⟩:Aa) name text:=(by unfold B8;rw[if_neg (by rintro(h|h);rw[ae]at h;cases h;rw[ac]at h;omega),ac,ai];dsimp only;rw[if_neg (by omega)];unfold XlH gN;dsimp only;have e9:ab=(Ae.getD aa ⟨0,tx [],0⟩).text_:=(by have h9:aj=aa:=(by omega);subst h9;rw[←gD (show aj<Ae.length by omega),←af]);rw[←am,al,e9,ag,ak,ap,aq])
 rw[hr]at e
 simp only[Prod.mk.injEq,Aa.mk.injEq]at e
 obtain⟨⟨rfl,rfl,rfl,rfl,rfl,rfl⟩,rfl⟩:=e
 refine hQ _ _ ?_
 exact .many (.inl rfl) rfl rfl (.agg (.ref rfl (Ai ad) (Bv ad B4) (.d rfl (Bm Am B1) (.d rfl (Bm At B2) (.ref rfl (Ai Ap) (Bv Ap B3) (.d rfl rfl (.d rfl rfl (.nil))))))) (.d rfl rfl (.nil)))
theorem Xbz(Aj:Ae.map Bg=Bo)(Am:Ag.map Ac=Bl)(At:Ah.map Ac=Bj)(Ap:Af.map cS=Bn)(hn:Ae.length≤1000000000)(he:Ag.length≤1000000000)(ho:Ah.length≤1000000000)(hs:Af.length<1000000000)(hss:okS Af)(aw:J8 (⟨Ae,Ag,Ah,Af,Ao,An⟩:Aa))(hm:name.size≤1000000000)(hr:Be (⟨Ae,Ag,Ah,Af,Ao,An⟩:Aa) name=(⟨G1,G2,G3,G8,G5,G6⟩,ob))(B4:G1.map Bg=Eh)(B1:G2.map Ac=Ek)(B2:G3.map Ac=Ee)(B3:G8.map cS=El):Fn Tryz.prog 237 [.agg [.d (.row 3 Bo),.d (.row 2 Bl),.d (.row 2 Bj),.d (.row 1 Bn),I Ao,I An],S name] [] ⟨.tup [.agg [.d (.row 3 Eh),.d (.row 2 Ek),.d (.row 2 Ee),.d (.row 1 El),I G5,I G6],I ob],[],[]⟩:=by
 refine Fn.go Zv Tryz.func237 fun P hP Q hQ=>?_
 conv=>cbv
 obtain⟨n2,ax⟩:∃m,m=Ae.length:=⟨_,rfl⟩
 obtain⟨n3,ay⟩:∃m,m=Af.length:=⟨_,rfl⟩
 refine .ddN hP (Iw Aj Am At Ap (by omega) (by omega) (by omega) (by omega) ax ay) rfl ?_
 conv=>cbv
 generalize aa:By (⟨Ae,Ag,Ah,Af,Ao,An⟩:Aa)=r4
 refine .dd hP (Pn Aj Am At Ap aw aa) ?_
 cases r4
 conv=>cbv
 have e:((⟨Ae,Ag,Ah,Af,Ao,An⟩:Aa),3)=Be (⟨Ae,Ag,Ah,Af,Ao,An⟩:Aa) name:=(by unfold Be;rw[if_pos aa])
 rw[hr]at e
 simp only[Prod.mk.injEq,Aa.mk.injEq]at e
 obtain⟨⟨rfl,rfl,rfl,rfl,rfl,rfl⟩,rfl⟩:=e
 refine hQ _ _ ?_
 exact .many (.inl rfl) rfl rfl (.agg (.ref rfl (Ai Aj) (Bv Aj B4) (.d rfl (Bm Am B1) (.d rfl (Bm At B2) (.ref rfl (Ai Ap) (Bv Ap B3) (.d rfl rfl (.d rfl rfl (.nil))))))) (.d rfl rfl (.nil)))
 conv=>cbv
 generalize ab:Bt name=r5
 refine .dd hP (Mo (by omega) ab) ?_
 cases r5
 conv=>cbv
 have e:((⟨Ae,Ag,Ah,Af,Ao,An⟩:Aa),1)=Be (⟨Ae,Ag,Ah,Af,Ao,An⟩:Aa) name:=(by unfold Be;rw[if_neg (by rw[aa];decide),if_pos ab])
 rw[hr]at e
 simp only[Prod.mk.injEq,Aa.mk.injEq]at e
 obtain⟨⟨rfl,rfl,rfl,rfl,rfl,rfl⟩,rfl⟩:=e
 refine hQ _ _ ?_
 exact .many (.inl rfl) rfl rfl (.agg (.ref rfl (Ai Aj) (Bv Aj B4) (.d rfl (Bm Am B1) (.d rfl (Bm At B2) (.ref rfl (Ai Ap) (Bv Ap B3) (.d rfl rfl (.d rfl rfl (.nil))))))) (.d rfl rfl (.nil)))
 conv=>cbv
 generalize ad:Bc Ag name=r6
 refine .dd hP (Kr Am (by omega) ad) ?_
 conv=>cbv
 refine .geq (fun h7=>?_) fun h7=>?_
 conv=>cbv
 have e:((⟨Ae,Ag,Ah,Af,Ao,An⟩:Aa),2)=Be (⟨Ae,Ag,Ah,Af,Ao,An⟩:Aa) name:=(by unfold Be;rw[if_neg (by rw[aa];decide),if_neg (by rw[ab];decide),if_pos (by rw[ad];omega)])
 rw[hr]at e
 simp only[Prod.mk.injEq,Aa.mk.injEq]at e
 obtain⟨⟨rfl,rfl,rfl,rfl,rfl,rfl⟩,rfl⟩:=e
 refine hQ _ _ ?_
 exact .many (.inl rfl) rfl rfl (.agg (.ref rfl (Ai Aj) (Bv Aj B4) (.d rfl (Bm Am B1) (.d rfl (Bm At B2) (.ref rfl (Ai Ap) (Bv Ap B3) (.d rfl rfl (.d rfl rfl (.nil))))))) (.d rfl rfl (.nil)))
 conv=>cbv
 refine .go Am fun v8 bf=>?_
 conv=>cbv
 refine .geq (fun h9=>?_) fun h9=>?_
 conv=>cbv
 have e:((⟨Ae,Ag,Ah,Af,Ao,An⟩:Aa),4)=Be (⟨Ae,Ag,Ah,Af,Ao,An⟩:Aa) name:=(by unfold Be;rw[if_neg (by rw[aa];decide),if_neg (by rw[ab];decide),if_neg (by rw[ad];omega),if_pos (by dsimp only;omega)])
 rw[hr]at e
 simp only[Prod.mk.injEq,Aa.mk.injEq]at e
 obtain⟨⟨rfl,rfl,rfl,rfl,rfl,rfl⟩,rfl⟩:=e
 refine hQ _ _ ?_
 exact .many (.inl rfl) rfl rfl (.agg (.ref rfl (Ai Aj) (Bv Aj B4) (.d rfl (Bm Am B1) (.d rfl (Bm At B2) (.ref rfl (Ai Ap) (Bv Ap B3) (.d rfl rfl (.d rfl rfl (.nil))))))) (.d rfl rfl (.nil)))
 conv=>cbv
 refine .go Aj fun bg a2=>?_
 conv=>cbv
 refine .geq (fun h11=>?_) fun h11=>?_
 conv=>cbv
 have e:((⟨Ae,Ag,Ah,Af,Ao,An⟩:Aa),4)=Be (⟨Ae,Ag,Ah,Af,Ao,An⟩:Aa) name:=(by unfold Be;rw[if_neg (by rw[aa];decide),if_neg (by rw[ab];decide),if_neg (by rw[ad];omega),if_pos (by dsimp only;omega)])
 rw[hr]at e
 simp only[Prod.mk.injEq,Aa.mk.injEq]at e
 obtain⟨⟨rfl,rfl,rfl,rfl,rfl,rfl⟩,rfl⟩:=e
 refine hQ _ _ ?_
 exact .many (.inl rfl) rfl rfl (.agg (.ref rfl (Ai Aj) (Bv Aj B4) (.d rfl (Bm Am B1) (.d rfl (Bm At B2) (.ref rfl (Ai Ap) (Bv Ap B3) (.d rfl rfl (.d rfl rfl (.nil))))))) (.d rfl rfl (.nil)))
 conv=>cbv
 refine .geq (fun h12=>?_) fun h12=>?_
 conv=>cbv
 have e:((⟨Ae,Ag,Ah,Af,Ao,An⟩:Aa),4)=Be (⟨Ae,Ag,Ah,Af,Ao,An⟩:Aa) name:=(by unfold Be;rw[if_neg (by rw[aa];decide),if_neg (by rw[ab];decide),if_neg (by rw[ad];omega),if_pos (by dsimp only;omega)])
 rw[hr]at e
 simp only[Prod.mk.injEq,Aa.mk.injEq]at e
 obtain⟨⟨rfl,rfl,rfl,rfl,rfl,rfl⟩,rfl⟩:=e
 refine hQ _ _ ?_
 exact .many (.inl rfl) rfl rfl (.agg (.ref rfl (Ai Aj) (Bv Aj B4) (.d rfl (Bm Am B1) (.d rfl (Bm At B2) (.ref rfl (Ai Ap) (Bv Ap B3) (.d rfl rfl (.d rfl rfl (.nil))))))) (.d rfl rfl (.nil)))
 conv=>cbv
 refine .one (⟨An,tx [],0⟩:Bk) Aj rfl fun a6 bh az ao=>?_
 conv=>cbv
 have hri:=Ip aa
 simp only[]at hri
 have hnz:=Wo ab
 refine .add fun a1 ap=>?_
 conv=>cbv
 refine .litL 1 fun bi aq a7=>?_
 conv=>cbv
 refine .litR 1 fun bj ar a8=>?_
 conv=>cbv
 generalize af:Ck An=bk
 refine .dd hP (XcR (by unfold Zz;omega) af) ?_
 conv=>cbv
 have zr17:=Sw af (by unfold Zz;omega)
 refine .go fun ae au ba=>?_
 conv=>cbv
 generalize ag:(A3 Ag ae).1=al
 generalize ah:al.map Ac=bb
 generalize am:Nn (Ae++[(⟨An,tx [],0⟩:Bk)]) Ah (Af++[ae])=ak
 obtain⟨bc,ai⟩:∃m,m=ak.length:=⟨_,rfl⟩
 generalize ac:(ak++List.replicate ((Ae++[(⟨An,tx [],0⟩:Bk)]).length - ak.length) (⟨0,tx [],0⟩:Bk)).map Bg=bd
 generalize aj:(Af++[ae]).map cS=bl
 obtain⟨be,an⟩:∃m,m=(Af++[ae]).length:=⟨_,rfl⟩
 refine .bx [12,14,7] [14,7] hP (Qb ao Am At Ap (by first|assumption|omega|(simp;omega)) (by first|assumption|omega|(simp;omega)) (by rw[List.length_append,List.length_singleton];omega) (by omega) (by omega) (by omega) (by omega) hss ((congrArg (List.map Ac) ag).trans ah) am ai ac aj an) rfl rfl rfl rfl ?_
 conv=>cbv
 have e:((⟨ak,al,Ah,Af++[ae],Ao,a1⟩:Aa),0)=Be (⟨Ae,Ag,Ah,Af,Ao,An⟩:Aa) name:=(by unfold Be;rw[if_neg (by rw[aa];decide),if_neg (by rw[ab];decide),if_neg (by rw[ad];omega),if_neg (by dsimp only;omega)];unfold L9;dsimp only;rw[show tx [43]++name++tx [58]++Ck An=ae from(by rw[au,ar,aq,af];rfl),am,ag,ap])
 rw[hr]at e
 simp only[Prod.mk.injEq,Aa.mk.injEq]at e
 obtain⟨⟨rfl,rfl,rfl,rfl,rfl,rfl⟩,rfl⟩:=e
 refine hQ _ _ ?_
 exact .many (.inl rfl) rfl rfl (.agg (.sub rfl (by rw[←ac,List.length_map,List.length_append];omega) (by rw[←ac,←B4,ai,List.drop_zero,List.map_append,List.take_left' (by rw[List.length_map])]) (.d rfl (Bm ah B1) (.d rfl (Bm At B2) (.ref rfl (Ai aj) (Bv aj B3) (.d rfl rfl (.d rfl rfl (.nil))))))) (.d rfl rfl (.nil)))
theorem Xdl{onod:List Bk}{T4:List (List D)}{oent:List Ad}{Tx:List (List D)}{oold:List Ad}{Tz:List (List D)}{oste:List ByteArray}{T2:List (List D)}{oroo:Int}{onex:Int}(Aj:Ae.map Bg=Bo)(Am:Ag.map Ac=Bl)(At:Ah.map Ac=Bj)(Ap:Af.map cS=Bn)(hn:Ae.length≤1000000000)(he:Ag.length≤1000000000)(ho:Ah.length≤1000000000)(hs:Af.length<1000000000)(hss:okS Af)(ag:J8 (⟨Ae,Ag,Ah,Af,Ao,An⟩:Aa))(hr:D0 (⟨Ae,Ag,Ah,Af,Ao,An⟩:Aa)=⟨onod,oent,oold,oste,oroo,onex⟩)(Vy:onod.map Bg=T4)(U1:oent.map Ac=Tx)(Uu:oold.map Ac=Tz)(Vj:oste.map cS=T2):Fn Tryz.prog 239 [.agg [.d (.row 3 Bo),.d (.row 2 Bl),.d (.row 2 Bj),.d (.row 1 Bn),I Ao,I An]] [] ⟨.agg [.d (.row 3 T4),.d (.row 2 Tx),.d (.row 2 Tz),.d (.row 1 T2),I oroo,I onex],[],[]⟩:=by
 refine Fn.go Zv Tryz.func239 fun P hP Q hQ=>?_
 conv=>cbv
 obtain⟨n2,ah⟩:∃m,m=Ae.length:=⟨_,rfl⟩
 obtain⟨n3,ai⟩:∃m,m=Af.length:=⟨_,rfl⟩
 refine .ddN hP (Iw Aj Am At Ap (by omega) (by omega) (by omega) (by omega) ah ai) rfl ?_
 conv=>cbv
 generalize ac:By (⟨Ae,Ag,Ah,Af,Ao,An⟩:Aa)=r4
 refine .dd hP (Pn Aj Am At Ap ag ac) ?_
 cases r4
 conv=>cbv
 have e:(⟨Ae,Ag,Ah,Af,Ao,An⟩:Aa)=D0 (⟨Ae,Ag,Ah,Af,Ao,An⟩:Aa):=(by unfold D0;rw[if_pos ac])
 rw[hr]at e
 simp only[Aa.mk.injEq]at e
 obtain⟨rfl,rfl,rfl,rfl,rfl,rfl⟩:=e
 exact hQ _ _ (.one (.inl rfl) rfl (.agg (.ref rfl (Ai Aj) (Bv Aj Vy) (.d rfl (Bm Am U1) (.d rfl (Bm At Uu) (.ref rfl (Ai Ap) (Bv Ap Vj) (.d rfl rfl (.d rfl rfl (.nil))))))) .nil))
 conv=>cbv
 generalize ae:D9 Ag=l5
 generalize ad:l5.map Ac=aj
 refine .dd hP (C4 Am (by omega) ae ad) ?_
 conv=>cbv
 have e5:l5=Ag:=ae.symm
 have ak:l5.length≤1000000000:=by rw[e5];exact he
 generalize af:Nn Ae l5 []=o7
 obtain⟨al,ab⟩:∃m,m=o7.length:=⟨_,rfl⟩
 generalize aa:(o7++List.replicate (Ae.length - o7.length) (⟨0,tx [],0⟩:Bk)).map Bg=am
 refine .bx [12,6,13] [6,13] hP (Tq Aj Am ad rfl (by first|assumption|omega) (by first|assumption|omega|rfl|(simp at*;omega)) (by omega) (by omega) (by simp) (fun _ h=>by cases h) af ab aa) rfl rfl rfl rfl ?_
 conv=>cbv
 have e:(⟨o7,Ag,l5,[],Ao,An⟩:Aa)=D0 (⟨Ae,Ag,Ah,Af,Ao,An⟩:Aa):=(by unfold D0;rw[if_neg (by rw[ac];decide)];dsimp only;rw[←af,e5])
 rw[hr]at e
 simp only[Aa.mk.injEq]at e
 obtain⟨rfl,rfl,rfl,rfl,rfl,rfl⟩:=e
 exact hQ _ _ (.one (.inl rfl) rfl (.agg (.sub rfl (by rw[←aa,List.length_map,List.length_append];omega) (by rw[←aa,←Vy,ab,List.drop_zero,List.map_append,List.take_left' (by rw[List.length_map])]) (.d rfl (Bm Am U1) (.d rfl (Bm ad Uu) (.ref rfl rfl (by rw[←Vj];rfl) (.d rfl rfl (.d rfl rfl (.nil))))))) .nil))
end
section
open Go Go.Proofs
set_option maxRecDepth 20000
set_option maxHeartbeats 4000000
def V1:List Ad→List ByteArray→Prop
 |_,[]=>True
 |now,s::ss=>srt now∧(A3 now s).2=true∧V1 (A3 now s).1 ss
theorem I6{now:List Ad}{s:ByteArray}{ss:List ByteArray}(h:(A3 now s).2=true):Mw now (s::ss)=Mw (A3 now s).1 ss:=if_neg (by rw[h];decide)
theorem XeR{d:Aa}:∀{l:List ByteArray} {now:List Ad},Fp d now l=true→V1 now l∧Mw now l=(d.entries_,true)∧Br d d.entries_=true
 |[],now,h=>by
  unfold Fp at h
  rw[Bool.and_eq_true]at h
  have e:now=d.entries_:=by
   have:=h.2
   unfold I9 at this
   exact of_decide_eq_true this
  refine⟨trivial,by rw[←e];rfl,by rw[←e];exact h.1⟩
 |s::ss,now,h=>by
  unfold Fp at h
  rw[Bool.and_eq_true,Bool.and_eq_true]at h
  obtain⟨a,b,c⟩:=XeR (now:=(A3 now s).1) h.2
  exact⟨⟨Xig h.1.1,h.1.2,a⟩,by rw[I6 h.1.2,b],c⟩
theorem S8:∀{l:List ByteArray} {now:List Ad} (k:Nat),V1 now l→V1 now (l.take k)
 |[],_,k,_=>by rw[List.take_nil];trivial
 |_::_,_,0,_=>trivial
 |_::_,_,k+1,h=>⟨h.1,h.2.1,S8 k h.2.2⟩
theorem Y0{s:ByteArray}{e:List Ad}:∀{l:List ByteArray} {now:List Ad},V1 now l→Mw now l=(e,true)→srt e→(A3 e s).2=true→V1 now (l++[s])
 |[],now,_,h,hs,h2=>by
  have e1:now=e:=congrArg Prod.fst h
  rw[e1]
  exact⟨hs,h2,trivial⟩
 |x::l,now,h,h1,hs,h2=>by
  rw[I6 h.2.1]at h1
  exact⟨h.1,h.2.1,Y0 h.2.2 h1 hs h2⟩
theorem XaH:∀{l:List ByteArray} {now:List Ad},V1 now l→C2 now l=Mw now l∧(Mw now l).2=true
 |[],now,_=>⟨rfl,rfl⟩
 |s::ss,now,h=>by
  obtain⟨a,b⟩:=XaH (now:=(A3 now s).1) h.2.2
  have e2:C2 now (s::ss)=C2 (Er now s).1 ss:=if_neg (by rw[V9 h.1,h.2.1];decide)
  rw[I6 h.2.1,e2,V9 h.1,a]
  exact⟨rfl,b⟩
def Xap(l:List Ad)(id:Int):Bool:=l.any fun e=>decide (e.id_=id)
def XdB(old:List Ad)(steps:List ByteArray)(id:Int):Bool:=(List.range (steps.length+1)).any fun k=>Xap (C2 old (steps.take k)).1 id
theorem Xu{id:Int}:∀{l:List ByteArray} {now:List Ad},V1 now l→(Rk now l id=true↔∃k,k≤l.length∧Xap (Mw now (l.take k)).1 id=true)
 |[],now,_=>by
  constructor
  ·intro h;exact⟨0,Nat.le_refl _,h⟩
  ·rintro⟨k,_,h⟩
   rw[List.take_nil]at h
   exact h
 |s::ss,now,h=>by
  have ih:=Xu (id:=id) (now:=(A3 now s).1) h.2.2
  show(Xap now id||Rk (A3 now s).1 ss id)=true↔_
  rw[Bool.or_eq_true,ih]
  constructor
  ·rintro(h1|⟨k,hk,h1⟩)
   ·exact⟨0,Nat.zero_le _,h1⟩
   ·refine⟨k+1,by rw[List.length_cons];omega,?_⟩
    rw[List.take_succ_cons,I6 h.2.1]
    exact h1
  ·rintro⟨k,hk,h1⟩
   cases k with
   |zero=>exact .inl h1
   |succ k=>
    rw[List.take_succ_cons,I6 h.2.1]at h1
    exact .inr ⟨k,by rw[List.length_cons]at hk;omega,h1⟩
theorem XhU{old:List Ad}{steps:List ByteArray}(h:V1 old steps)(id:Int):XdB old steps id=Rk old steps id:=by
 rw[Bool.eq_iff_iff,Xu h]
 unfold XdB
 rw[List.any_eq_true]
 constructor
 ·rintro⟨k,hk,h1⟩
  rw[(XaH (S8 k h)).1]at h1
  exact⟨k,by have:=List.mem_range.1 hk;omega,h1⟩
 ·rintro⟨k,hk,h1⟩
  refine⟨k,List.mem_range.2 (by omega),?_⟩
  rw[(XaH (S8 k h)).1]
  exact h1
def Fr(d:Aa):Aa:=⟨d.nodes_.filter (fun x=>XdB d.old_ d.steps_ x.id_),d.entries_,d.old_,d.steps_,d.room_,d.next_⟩
theorem Xn{d:Aa}(h:V1 d.old_ d.steps_):Fr d=⟨Nn d.nodes_ d.old_ d.steps_,d.entries_,d.old_,d.steps_,d.room_,d.next_⟩:=by
 unfold Fr Nn
 rw[List.filter_congr fun x _=>XhU h x.id_]
theorem Xjg{n:ByteArray}(h:Bt n=true):∀(j:Nat) x,n.data.toList[j]? =some x→x≠58:=by
 intro j x hx e
 unfold Bt at h
 rw[Bool.and_eq_true]at h
 have:=List.all_eq_true.1 h.1 x (List.mem_of_getElem? hx)
 rw[e]at this
 exact absurd this (by decide)
theorem XeL{a b:ByteArray}(h:Bt a=true):Kw (a++tx [58]++b)=(a,b,true):=by
 have hl:(a++tx [58]++b).data.toList=a.data.toList++58::b.data.toList:=by
  rw[ByteArray.data_append,ByteArray.data_append,Array.toList_append,Array.toList_append,Qm,List.append_assoc]
  rfl
 have ha:a.data.toList.length=a.size:=Array.length_toList
 have e:Jf (a++tx [58]++b)=(a.size:Int):=by
  unfold Jf
  rw[hl,Nz _ a.size]
  ·rw[List.getElem?_append_right (by omega),ha,Nat.sub_self]
   rfl
  ·intro j hj x hx
   rw[List.getElem?_append_left (by omega)]at hx
   exact Xjg h j x hx
 unfold Kw
 rw[e,if_pos (by omega),Int.toNat_natCast]
 have hz:(a++tx [58]++b).size=a.size+1+b.size:=by rw[ByteArray.size_append,ByteArray.size_append,Bz];rfl
 have hb:b.data.toList.length=b.size:=Array.length_toList
 have e1:(a++tx [58]++b).extract 0 a.size=a:=by
  apply M3
  rw[Dq,hl,List.drop_zero,List.take_left' ha]
 have e2:(a++tx [58]++b).extract (a.size+1) (a++tx [58]++b).size=b:=by
  apply M3
  rw[Dq,List.take_of_length_le (by rw[Array.length_toList];exact Nat.le_refl _),hl,List.drop_append,List.drop_of_length_le (by omega),ha,Nat.add_sub_cancel_left]
  rfl
 rw[e1,e2]
theorem Qd{c:UInt8}{s:ByteArray}:(tx [c]++s).extract 1 (tx [c]++s).size=s:=by
 apply M3
 rw[Dq,List.take_of_length_le (by rw[Array.length_toList];exact Nat.le_refl _),ByteArray.data_append,Array.toList_append,Qm]
 rfl
theorem Z1{c:UInt8}{s:ByteArray}:(tx [c]++s).data.toList.head?=some c:=by
 rw[ByteArray.data_append,Array.toList_append,Qm]
 rfl
theorem XhO{c:UInt8}{s:ByteArray}:tx [c]++s≠tx []:=by
 intro e
 have:=congrArg ByteArray.size e
 rw[ByteArray.size_append,Bz,Bz]at this
 simp at this
theorem Xg2{l:List Ad}{n:ByteArray}{i:Int}(hn:Bt n=true)(h0:0≤i)(h1:i≤1000000000):A3 l (tx [43]++(n++tx [58]++Ck i))=(Ul l n i,true):=by
 have hc:Kw ((tx [43]++(n++tx [58]++Ck i)).extract 1 (tx [43]++(n++tx [58]++Ck i)).size)=(n,Ck i,true):=by rw[Qd];exact XeL hn
 rw[Mb XhO Z1 hc,XjY h0 h1,if_neg (by rw[hn];simp)]
theorem XfS{l:List Ad}{n:ByteArray}(hn:Bt n=true)(h:0≤Bc l n):A3 l (tx [45]++n)=(Kt l (Bc l n) (Bc l n+1),true):=by
 rw[S5 XhO Z1,Qd]
 unfold Gx
 rw[if_neg (by rw[hn];rintro(k|k);omega;cases k)]
theorem XgR{l:List Ad}{a b:ByteArray}(hn:Bt a=true)(hb:Bt b=true)(hne:a≠b)(h:0≤Bc l a):A3 l (tx [62]++(a++tx [58]++b))=(Ul (Kt l (Bc l a) (Bc l a+1)) b (Cz l a),true):=by
 have hd:Gx l a=(Kt l (Bc l a) (Bc l a+1),true):=by
  unfold Gx
  rw[if_neg (by rw[hn];rintro(k|k);omega;cases k)]
 have hc:Kw ((tx [62]++(a++tx [58]++b)).extract 1 (tx [62]++(a++tx [58]++b)).size)=(a,b,true):=by rw[Qd];exact XeL hn
 rw[Kq XhO Z1 hc,hd,if_neg (by rw[hb];simp;exact hne)]
theorem app3(a b c d:ByteArray):a++b++c++d=a++(b++c++d):=by
 rw[ByteArray.append_assoc,ByteArray.append_assoc,ByteArray.append_assoc]
theorem R6{d:Aa}(h:By d=true):V1 d.old_ d.steps_∧Mw d.old_ d.steps_=(d.entries_,true)∧Br d d.entries_=true:=XeR (diskOk_iff.1 h).2.2.2.2
theorem N8{d:Aa}(h:By d=true):srt d.entries_:=Xig (R6 h).2.2
theorem Xeq{d:Aa}{n:ByteArray}(h:By d=true)(hp:0≤Bc d.entries_ n):Bt n=true∧0≤Db d n:=by
 obtain⟨hi,hq⟩:=Um (p:=fun e=>Co e n) (rfl:Bc d.entries_ n=_) hp
 have h1:=Xic (R6 h).2.2 hi
 unfold Co at hq
 rw[decide_eq_true_eq]at hq
 unfold Ft at h1
 rw[Xdt hi rfl,Bool.and_eq_true,Bool.and_eq_true,decide_eq_true_eq]at h1
 refine⟨by rw[←hq];exact h1.1.2,?_⟩
 unfold Db
 rw[if_neg (by omega)]
 unfold Cz
 rw[if_neg (by omega),←gD hi]
 exact h1.2
theorem Ym{d:Aa}{n:ByteArray}(h:Bc d.entries_ n<0):Db d n<0:=by
 unfold Db
 rw[if_pos h]
 decide
theorem Si{d:Aa}{s:ByteArray}{e:List Ad}{nodes:List Bk}{r x:Int}(h:By d=true)(hs:A3 d.entries_ s=(e,true)):Fr ⟨nodes,e,d.old_,d.steps_++[s],r,x⟩=L9 ⟨nodes,d.entries_,d.old_,d.steps_,r,x⟩ s:=by
 rw[Xn (Y0 (R6 h).1 (R6 h).2.1 (N8 h) (by rw[hs]))]
 unfold L9
 rw[hs]
theorem XdF{d:Aa}{name:ByteArray}{nodes:List Bk}{r x:Int}(h:By d=true)(hn:Bt name=true):Fr ⟨nodes,Ec d.entries_ ⟨name,d.next_⟩,d.old_,d.steps_++[tx [43]++name++tx [58]++Ck d.next_],r,x⟩=L9 ⟨nodes,d.entries_,d.old_,d.steps_,r,x⟩ (tx [43]++name++tx [58]++Ck d.next_):=by
 have hr:=Ip h
 rw[XbE (N8 h),app3]
 exact Si h (Xg2 hn (by omega) (by omega))
theorem Xd7{d:Aa}{name:ByteArray}(h:By d=true)(hp:0≤Bc d.entries_ name):Fr ⟨d.nodes_,Dz d.entries_ name,d.old_,d.steps_++[tx [45]++name],d.room_,d.next_⟩=L9 d (tx [45]++name):=by
 rw[Vz (N8 h) hp]
 exact Si h (XfS (Xeq h hp).1 hp)
theorem Xd3{d:Aa}{a b:ByteArray}(h:By d=true)(hp:0≤Bc d.entries_ a)(hb:Bt b=true)(hne:a≠b):Fr ⟨d.nodes_,Ec (Dz d.entries_ a) ⟨b,Cz d.entries_ a⟩,d.old_,d.steps_++[tx [62]++a++tx [58]++b],d.room_,d.next_⟩=L9 d (tx [62]++a++tx [58]++b):=by
 rw[XbE (Xfh (N8 h)),Vz (N8 h) hp,app3]
 exact Si h (XgR (Xeq h hp).1 hb hne hp)
theorem X3{d:Aa}{n:ByteArray}(h:0≤Bc d.entries_ n):Iu d (Cz d.entries_ n)=Db d n:=by
 unfold Db
 rw[if_neg (by omega)]
theorem Zj{l:List Ad}{n:ByteArray}(h:Ea l n=true):0≤Bc l n:=by
 unfold Ea at h
 exact of_decide_eq_true h
theorem Xbb{l:List Ad}{n:ByteArray}(h:Ea l n=false):Bc l n<0:=by
 unfold Ea at h
 have:=of_decide_eq_false h
 omega
theorem W5{p:Nat→Bool}{k:Nat}:(List.range (k+1)).any p=((List.range k).any p||p k):=by
 rw[List.range_succ,List.any_append]
 simp
theorem Xl{old:List Ad}{steps:List ByteArray}{id:Int}{k:Nat}(hk:k≤steps.length+1)(h:true=(List.range k).any fun k=>Xap (C2 old (steps.take k)).1 id):XdB old steps id=true:=by
 obtain⟨j,hj,h1⟩:=List.any_eq_true.1 h.symm
 exact List.any_eq_true.2 ⟨j,List.mem_range.2 (by have:=List.mem_range.1 hj;omega),h1⟩
theorem S4{l:List Ad}{k:Nat}{id:Int}(hk:k<l.length):Xap (l.take (k+1)) id=(Xap (l.take k) id||decide (l[k].id_=id)):=XeB hk
theorem XfP(l:List Ad)(s:ByteArray):(Er l s).1.length≤l.length+1:=by
 unfold Er
 split
 ·simp
 ·split
  ·exact Ga rfl
  ·have h1:=Ix (rfl:Dz l (B6 s).1=_)
   split
   ·have h2:=Ga (rfl:Ec (Dz l (B6 s).1) ⟨(B6 s).2.1,Cz l (B6 s).1⟩=_)
    show(Ec _ _).length≤_
    omega
   ·show(Dz _ _).length≤_
    omega
theorem XgZ:∀(l:List ByteArray) (now:List Ad),(C2 now l).1.length≤now.length+l.length
 |[],_=>Nat.le_refl _
 |s::l,now=>by
  have h1:=XfP now s
  have h2:=XgZ l (Er now s).1
  unfold C2
  split
  ·exact Nat.zero_le _
  ·rw[List.length_cons]
   omega
theorem XaC{t:ByteArray}{n:Nat}(h:t.size≤n):t.extract 0 n=t:=by
 apply M3
 rw[Dq,List.drop_zero,List.take_of_length_le (by rw[Array.length_toList];exact h)]
end
section
open Go Go.Proofs
set_option maxRecDepth 20000
set_option maxHeartbeats 4000000
def Xbv:List (Nat×TyRow):=[ty3,ty9,Xcn,XhE,XaP,Zr,Zd,Xai]
theorem Xcc:B9 Tryz.prog Xbv:=B9.of (by kernel_rfl)
theorem Hl:Setup Tryz.prog Xbv:=⟨Xcc,mixed⟩
variable {Ae onod G1:List Bk} {Bo Bl Bj Bn T4 Tx Tz T2 Eh Ek Ee El:List (List D)} {Ag Ah oent oold G2 G3:List Ad} {Af oste G8:List ByteArray} {Ao An oroo onex G5 G6 ob:Int} {name:ByteArray}
theorem Ku{nn ne no ns:Nat}(Aj:Ae.map Bg=Bo)(Am:Ag.map Ac=Bl)(At:Ah.map Ac=Bj)(Ap:Af.map cS=Bn)(hn:Ae.length≤4000000000)(he:Ag.length≤4000000000)(ho:Ah.length≤4000000000)(hs:Af.length≤4000000000)(hnn:nn=Ae.length)(hne:ne=Ag.length)(hno:no=Ah.length)(hns:ns=Af.length):Fn Tryz.prog 97 [.agg [.d (.row 3 Bo),.d (.row 2 Bl),.d (.row 2 Bj),.d (.row 1 Bn),I Ao,I An]] [] ⟨.agg [.ref 0 0 nn,.ref 1 0 ne,.ref 2 0 no,.ref 3 0 ns,I Ao,I An],[.row 3 false Bo,.row 2 false Bl,.row 2 false Bj,.row 1 false Bn],[]⟩:=by
 refine Fn.goR Hl Tryz.func97 fun P hP Q hQ=>?_
 conv=>cbv
 refine .row0 Aj fun aa z1 ai ab=>?_
 conv=>cbv
 refine .row0 Am fun ac z2 aj ad=>?_
 conv=>cbv
 refine .row0 At fun ae z3 ak af=>?_
 conv=>cbv
 refine .row0 Ap fun ag z4 al ah=>?_
 conv=>cbv
 obtain rfl:z1=Bo:=by rw[←ab,Aj]
 obtain rfl:z2=Bl:=by rw[←ad,Am]
 obtain rfl:z3=Bj:=by rw[←af,At]
 obtain rfl:z4=Bn:=by rw[←ah,Ap]
 obtain rfl:aa=nn:=by omega
 obtain rfl:ac=ne:=by omega
 obtain rfl:ae=no:=by omega
 obtain rfl:ag=ns:=by omega
 exact hQ _ _ (.of [7,9,11,13] (.inl rfl) rfl rfl rfl rfl)
theorem Xgw(Aj:Ae.map Bg=Bo)(Am:Ag.map Ac=Bl)(At:Ah.map Ac=Bj)(Ap:Af.map cS=Bn)(hn:Ae.length≤4000000000)(he:Ag.length≤4000000000)(ho:Ah.length≤4000000000)(hs:Af.length≤4000000000):Fn Tryz.prog 97 [.agg [.d (.row 3 Bo),.d (.row 2 Bl),.d (.row 2 Bj),.d (.row 1 Bn),I Ao,I An]] [] ⟨.agg [.d (.row 3 Bo),.d (.row 2 Bl),.d (.row 2 Bj),.d (.row 1 Bn),I Ao,I An],[],[]⟩:=by
 refine Fn.go Hl Tryz.func97 fun P hP Q hQ=>?_
 conv=>cbv
 refine .row0 Aj fun ai z1 ae aa=>?_
 conv=>cbv
 refine .row0 Am fun aj z2 af ab=>?_
 conv=>cbv
 refine .row0 At fun ak z3 ag ac=>?_
 conv=>cbv
 refine .row0 Ap fun al z4 ah ad=>?_
 conv=>cbv
 obtain rfl:z1=Bo:=by rw[←aa,Aj]
 obtain rfl:z2=Bl:=by rw[←ab,Am]
 obtain rfl:z3=Bj:=by rw[←ac,At]
 obtain rfl:z4=Bn:=by rw[←ad,Ap]
 exact hQ _ _ (.one (.inl rfl) rfl (.agg (.ref rfl (Ai Aj) rfl (.ref rfl (Ai Am) rfl (.ref rfl (Ai At) rfl (.ref rfl (Ai Ap) rfl (.d rfl rfl (.d rfl rfl .nil)))))) .nil))
theorem O8(Aj:Ae.map Bg=Bo)(Am:Ag.map Ac=Bl)(At:Ah.map Ac=Bj)(Ap:Af.map cS=Bn)(hn:Ae.length≤2000000000)(hol:Ah.length≤1000000000)(hsl:Af.length≤1000000000)(hss:okS Af)(hr:Fr (⟨Ae,Ag,Ah,Af,Ao,An⟩:Aa)=⟨onod,oent,oold,oste,oroo,onex⟩)(Vy:onod.map Bg=T4)(U1:oent.map Ac=Tx)(Uu:oold.map Ac=Tz)(Vj:oste.map cS=T2):Fn Tryz.prog 165 [.agg [.d (.row 3 Bo),.d (.row 2 Bl),.d (.row 2 Bj),.d (.row 1 Bn),I Ao,I An]] [] ⟨.agg [.d (.row 3 T4),.d (.row 2 Tx),.d (.row 2 Tz),.d (.row 1 T2),I oroo,I onex],[],[]⟩:=by
 refine Fn.go Hl Tryz.func165 fun P hP Q hQ=>?_
 conv=>cbv
 refine LoopW.lp (κ:=Int×(List (List D))×Nat) Hl hP [6] [1,2] (fun(i4,ad,ae)=>[(3,.ref 7 0 ae),(4,I i4)]) (fun(i4,ad,ae)=>[(7,.row 3 false ad)])
  (fun(i4,ad,ae)=>∃(w7:List Bk),w7.map Bg=ad∧ae=w7.length∧0≤i4∧i4≤Ae.length∧w7=(Ae.take i4.toNat).filter (fun x=>XdB Ah Af x.id_)∧w7.length≤i4)
  (fun(i4,ad,ae)=>(Ae.length - i4).toNat) (0,[],0) ⟨[],rfl,rfl,by omega,by omega,by simp,by simp⟩ ⟨rfl,rfl,trivial⟩ rfl ?_
 rintro⟨i4,ad,ae⟩ J ⟨w7,ah,bb,h0,h1,hx,hxl⟩ hJ
 conv=>cbv
 refine .go Aj fun v1 be=>?_
 conv=>cbv
 refine .lss (fun h2=>?_) fun h2=>?_
 conv=>cbv
 refine LoopW.lp (κ:=Bool×Int) Hl hP [] [1,2,3,4] (fun(b5,i6)=>[(5,B b5),(6,I i6)]) (fun(b5,i6)=>[])
  (fun(b5,i6)=>0≤i6∧i6≤Af.length+1∧b5=(List.range i6.toNat).any (fun k=>Xap (C2 Ah (Af.take k)).1 (Ae.getD i4.toNat ⟨0,tx [],0⟩).id_))
  (fun(b5,i6)=>(Af.length+1 - i6).toNat) (false,0) ⟨by omega,by omega,rfl⟩ ⟨rfl,rfl,trivial⟩ rfl ?_
 rintro⟨b5,i6⟩ J1 ⟨k0,k1,hu⟩ ay
 conv=>cbv
 refine .go Ap fun v3 bf=>?_
 conv=>cbv
 refine .leq (fun h4=>?_) fun h4=>?_
 conv=>cbv
 cases b5
 conv=>cbv
 rcases ap:E3 Ah Af i6 with⟨aa,az⟩
 generalize ai:aa.map Ac=bc
 have hS:C2 Ah (Af.take i6.toNat)=(aa,az):=by rw[←XcZ (by omega) (by omega)];exact ap
 have bg:aa.length≤2000000000:=by
  have:=XgZ (Af.take i6.toNat) Ah
  rw[hS,List.length_take]at this
  simp only[]at this
  omega
 refine .dd hP (U3 At Ap hol hsl hss ap ai) ?_
 conv=>cbv
 refine LoopW.lp (κ:=Bool×Int) Hl hP [] [1,2,3,4,6,7,24,25] (fun(b5,i9)=>[(5,B b5),(9,I i9)]) (fun(b5,i9)=>[])
  (fun(b5,i9)=>0≤i9∧i9≤aa.length∧b5=Xap (aa.take i9.toNat) (Ae.getD i4.toNat ⟨0,tx [],0⟩).id_)
  (fun(b5,i9)=>(aa.length - i9).toNat) (false,0) ⟨by omega,by omega,rfl⟩ ⟨rfl,rfl,trivial⟩ rfl ?_
 rintro⟨b5,i9⟩ J2 ⟨m0,m1,hb⟩ am
 conv=>cbv
 refine .go ai fun v6 bh=>?_
 conv=>cbv
 refine .lss (fun h7=>?_) fun h7=>?_
 conv=>cbv
 cases b5
 conv=>cbv
 refine .go i9.toNat ai fun al ⟨a1,bd⟩ aq=>?_
 conv=>cbv
 refine .go i4.toNat Aj fun ar ⟨au,a2,a6⟩ a7=>?_
 conv=>cbv
 have hide:(Ae.getD i4.toNat ⟨0,tx [],0⟩).id_=au:=by rw[←gD ar,←a7]
 refine .eql (fun h10=>?_) fun h10=>?_
 conv=>cbv
 refine .add fun aj aw=>?_
 conv=>cbv
 exact .go [] (true,aj) (am _ ⟨by omega,by omega,by rw[show aj.toNat=i9.toNat+1 by omega,S4 al,←aq,hide];simp only[];rw[decide_eq_true h10,Bool.or_true]⟩ mlt)
 conv=>cbv
 refine .add fun aj aw=>?_
 conv=>cbv
 exact .go [] (false,aj) (am _ ⟨by omega,by omega,by rw[show aj.toNat=i9.toNat+1 by omega,S4 al,←aq,←hb,hide];simp only[];rw[decide_eq_false h10];rfl⟩ mlt)
 conv=>cbv
 refine .add fun v8 a8=>?_
 conv=>cbv
 exact .go [] (true,v8) (am _ ⟨by omega,by omega,by rw[show v8.toNat=i9.toNat+1 by omega,S4 (show i9.toNat<aa.length by omega),←hb];rfl⟩ mlt)
 conv=>cbv
 refine .add fun v8 a8=>?_
 conv=>cbv
 exact .go [] (b5,v8) (ay _ ⟨by omega,by omega,by rw[show v8.toNat=i6.toNat+1 by omega,W5,←hu,Bool.false_or,hS];show _=Xap aa _;rw[hb,List.take_of_length_le (by omega)]⟩ mlt)
 conv=>cbv
 refine .go i4.toNat Aj fun ab ⟨ac,af,ag⟩ ak=>?_
 conv=>cbv
 refine .one (⟨ac,af,ag⟩:Bk) ah rfl fun an z6 ax ao=>?_
 conv=>cbv
 refine .add fun v7 ba=>?_
 conv=>cbv
 have hid:(Ae.getD i4.toNat ⟨0,tx [],0⟩).id_=ac:=by rw[←gD ab,←ak]
 have hus:=Xl (show i6.toNat≤Af.length+1 by omega) hu
 rw[hid]at hus
 exact .go [9] (v7,z6,an) (hJ _ ⟨_,ao,Hg,by omega,by omega,by rw[show v7.toNat=i4.toNat+1 by omega,D6 ab,←hx,←ak];simp only[];rw[hus];rfl,by rw[List.length_append,List.length_singleton];omega⟩ mlt)
 conv=>cbv
 cases b5
 conv=>cbv
 refine .add fun v5 bi=>?_
 conv=>cbv
 have hj:i4.toNat<Ae.length:=by omega
 have hus:XdB Ah Af Ae[i4.toNat].id_=false:=by rw[gD hj (d:=⟨0,tx [],0⟩)];unfold XdB;rw[show Af.length+1=i6.toNat by omega];exact hu.symm
 exact .go [7] (v5,ad,ae) (hJ _ ⟨_,ah,Hg,by omega,by omega,by rw[show v5.toNat=i4.toNat+1 by omega,D6 hj,←hx,hus];simp,by omega⟩ mlt)
 conv=>cbv
 refine .go i4.toNat Aj fun ab ⟨ac,af,ag⟩ ak=>?_
 conv=>cbv
 refine .one (⟨ac,af,ag⟩:Bk) ah rfl fun an z6 ax ao=>?_
 conv=>cbv
 refine .add fun v7 ba=>?_
 conv=>cbv
 have hid:(Ae.getD i4.toNat ⟨0,tx [],0⟩).id_=ac:=by rw[←gD ab,←ak]
 have hus:=Xl (show i6.toNat≤Af.length+1 by omega) hu
 rw[hid]at hus
 exact .go [9] (v7,z6,an) (hJ _ ⟨_,ao,Hg,by omega,by omega,by rw[show v7.toNat=i4.toNat+1 by omega,D6 ab,←hx,←ak];simp only[];rw[hus];rfl,by rw[List.length_append,List.length_singleton];omega⟩ mlt)
 conv=>cbv
 have e:(⟨w7,Ag,Ah,Af,Ao,An⟩:Aa)=Fr (⟨Ae,Ag,Ah,Af,Ao,An⟩:Aa):=(by unfold Fr;dsimp only;rw[hx,List.take_of_length_le (by omega)])
 rw[hr]at e
 simp only[Aa.mk.injEq]at e
 obtain⟨rfl,rfl,rfl,rfl,rfl,rfl⟩:=e
 exact hQ _ _ (.one (.inl rfl) rfl (.agg (.ref rfl (Ai ah) (Bv ah Vy) (.d rfl (Bm Am U1) (.d rfl (Bm At Uu) (.d rfl (Bm Ap Vj) (.d rfl rfl (.d rfl rfl (.nil))))))) .nil))
theorem Xcr(Aj:Ae.map Bg=Bo)(Am:Ag.map Ac=Bl)(At:Ah.map Ac=Bj)(Ap:Af.map cS=Bn)(hn:Ae.length≤1000000000)(he:Ag.length≤1000000000)(ho:Ah.length≤1000000000)(hs:Af.length<1000000000)(hss:okS Af)(bb:J8 (⟨Ae,Ag,Ah,Af,Ao,An⟩:Aa))(hm:name.size≤1000000000)(hr:Be (⟨Ae,Ag,Ah,Af,Ao,An⟩:Aa) name=(⟨G1,G2,G3,G8,G5,G6⟩,ob))(B4:G1.map Bg=Eh)(B1:G2.map Ac=Ek)(B2:G3.map Ac=Ee)(B3:G8.map cS=El):Fn Tryz.prog 226 [.agg [.d (.row 3 Bo),.d (.row 2 Bl),.d (.row 2 Bj),.d (.row 1 Bn),I Ao,I An],S name] [] ⟨.tup [.agg [.d (.row 3 Eh),.d (.row 2 Ek),.d (.row 2 Ee),.d (.row 1 El),I G5,I G6],I ob],[],[]⟩:=by
 refine Fn.go Hl Tryz.func226 fun P hP Q hQ=>?_
 conv=>cbv
 obtain⟨n2,bc⟩:∃m,m=Ae.length:=⟨_,rfl⟩
 obtain⟨n3,bd⟩:∃m,m=Ag.length:=⟨_,rfl⟩
 obtain⟨n4,be⟩:∃m,m=Ah.length:=⟨_,rfl⟩
 obtain⟨n5,bf⟩:∃m,m=Af.length:=⟨_,rfl⟩
 refine .ddN hP (Ku Aj Am At Ap (by omega) (by omega) (by omega) (by omega) bc bd be bf) rfl ?_
 conv=>cbv
 generalize aa:By (⟨Ae,Ag,Ah,Af,Ao,An⟩:Aa)=r6
 refine .lnt hP (Oz Aj Am At Ap bb aa) (.agg (.ref rfl (Ai Aj) (.ref rfl (Ai Am) (.ref rfl (Ai At) (.ref rfl (Ai Ap) (.d rfl (.d rfl .nil)))))) .nil) ?_
 cases r6
 conv=>cbv
 have e:((⟨Ae,Ag,Ah,Af,Ao,An⟩:Aa),3)=Be (⟨Ae,Ag,Ah,Af,Ao,An⟩:Aa) name:=(by unfold Be;rw[if_pos aa])
 rw[hr]at e
 simp only[Prod.mk.injEq,Aa.mk.injEq]at e
 obtain⟨⟨rfl,rfl,rfl,rfl,rfl,rfl⟩,rfl⟩:=e
 refine hQ _ _ ?_
 exact .many (.inl rfl) rfl rfl (.agg (.ref rfl (Ai Aj) (Bv Aj B4) (.ref rfl (Ai Am) (Bv Am B1) (.ref rfl (Ai At) (Bv At B2) (.ref rfl (Ai Ap) (Bv Ap B3) (.d rfl rfl (.d rfl rfl (.nil))))))) (.d rfl rfl (.nil)))
 conv=>cbv
 generalize ab:Bt name=r7
 refine .dd hP (M1 (by omega) ab) ?_
 cases r7
 conv=>cbv
 have e:((⟨Ae,Ag,Ah,Af,Ao,An⟩:Aa),1)=Be (⟨Ae,Ag,Ah,Af,Ao,An⟩:Aa) name:=(by unfold Be;rw[if_neg (by rw[aa];decide),if_pos ab])
 rw[hr]at e
 simp only[Prod.mk.injEq,Aa.mk.injEq]at e
 obtain⟨⟨rfl,rfl,rfl,rfl,rfl,rfl⟩,rfl⟩:=e
 refine hQ _ _ ?_
 exact .many (.inl rfl) rfl rfl (.agg (.ref rfl (Ai Aj) (Bv Aj B4) (.ref rfl (Ai Am) (Bv Am B1) (.ref rfl (Ai At) (Bv At B2) (.ref rfl (Ai Ap) (Bv Ap B3) (.d rfl rfl (.d rfl rfl (.nil))))))) (.d rfl rfl (.nil)))
 conv=>cbv
 generalize ak:Ea Ag name=r8
 refine .lnt hP (Mn Am (by omega) ak) (.ref rfl (Ai Am) (.d rfl .nil)) ?_
 cases r8
 conv=>cbv
 refine .go fun v9 bq=>?_
 conv=>cbv
 refine .geq (fun h10=>?_) fun h10=>?_
 conv=>cbv
 have e:((⟨Ae,Ag,Ah,Af,Ao,An⟩:Aa),4)=Be (⟨Ae,Ag,Ah,Af,Ao,An⟩:Aa) name:=(by unfold Be;rw[if_neg (by rw[aa];decide),if_neg (by rw[ab];decide),if_neg (by have:=Xbb ak;dsimp only;omega),if_pos (by dsimp only;omega)])
 rw[hr]at e
 simp only[Prod.mk.injEq,Aa.mk.injEq]at e
 obtain⟨⟨rfl,rfl,rfl,rfl,rfl,rfl⟩,rfl⟩:=e
 refine hQ _ _ ?_
 exact .many (.inl rfl) rfl rfl (.agg (.ref rfl (Ai Aj) (Bv Aj B4) (.ref rfl (Ai Am) (Bv Am B1) (.ref rfl (Ai At) (Bv At B2) (.ref rfl (Ai Ap) (Bv Ap B3) (.d rfl rfl (.d rfl rfl (.nil))))))) (.d rfl rfl (.nil)))
 conv=>cbv
 refine .go fun bt bj=>?_
 conv=>cbv
 refine .geq (fun h12=>?_) fun h12=>?_
 conv=>cbv
 have e:((⟨Ae,Ag,Ah,Af,Ao,An⟩:Aa),4)=Be (⟨Ae,Ag,Ah,Af,Ao,An⟩:Aa) name:=(by unfold Be;rw[if_neg (by rw[aa];decide),if_neg (by rw[ab];decide),if_neg (by have:=Xbb ak;dsimp only;omega),if_pos (by dsimp only;omega)])
 rw[hr]at e
 simp only[Prod.mk.injEq,Aa.mk.injEq]at e
 obtain⟨⟨rfl,rfl,rfl,rfl,rfl,rfl⟩,rfl⟩:=e
 refine hQ _ _ ?_
 exact .many (.inl rfl) rfl rfl (.agg (.ref rfl (Ai Aj) (Bv Aj B4) (.ref rfl (Ai Am) (Bv Am B1) (.ref rfl (Ai At) (Bv At B2) (.ref rfl (Ai Ap) (Bv Ap B3) (.d rfl rfl (.d rfl rfl (.nil))))))) (.d rfl rfl (.nil)))
 conv=>cbv
 refine .geq (fun h13=>?_) fun h13=>?_
 conv=>cbv
 have e:((⟨Ae,Ag,Ah,Af,Ao,An⟩:Aa),4)=Be (⟨Ae,Ag,Ah,Af,Ao,An⟩:Aa) name:=(by unfold Be;rw[if_neg (by rw[aa];decide),if_neg (by rw[ab];decide),if_neg (by have:=Xbb ak;dsimp only;omega),if_pos (by dsimp only;omega)])
 rw[hr]at e
 simp only[Prod.mk.injEq,Aa.mk.injEq]at e
 obtain⟨⟨rfl,rfl,rfl,rfl,rfl,rfl⟩,rfl⟩:=e
 refine hQ _ _ ?_
 exact .many (.inl rfl) rfl rfl (.agg (.ref rfl (Ai Aj) (Bv Aj B4) (.ref rfl (Ai Am) (Bv Am B1) (.ref rfl (Ai At) (Bv At B2) (.ref rfl (Ai Ap) (Bv Ap B3) (.d rfl rfl (.d rfl rfl (.nil))))))) (.d rfl rfl (.nil)))
 conv=>cbv
 have hri:=Ip aa
 simp only[]at hri
 refine .one (⟨An,tx [],0⟩:Bk) Aj rfl fun bk bu bg ao=>?_
 conv=>cbv
 generalize ap:Ec Ag (⟨name,An⟩:Ad)=ax
 generalize aq:ax.map Ac=bl
 refine .lntD hP (I1 Am (by omega) ap aq) (.ref rfl (Ai Am) (.agg (.d rfl (.d rfl .nil)) .nil)) ?_
 conv=>cbv
 have hnz:=Wo ab
 refine .litL 1 fun bv ay bm=>?_
 conv=>cbv
 refine .litR 1 fun bw az bn=>?_
 conv=>cbv
 generalize al:Ck An=bz
 refine .dd hP (XcI (by unfold Zz;omega) al) ?_
 conv=>cbv
 have zr18:=Sw al (by unfold Zz;omega)
 refine .go fun aw a1 bo=>?_
 conv=>cbv
 refine .one aw Ap rfl fun bp b0 bh ar=>?_
 conv=>cbv
 refine .add fun bi a2=>?_
 conv=>cbv
 rcases au:Fr (⟨Ae++[(⟨An,tx [],0⟩:Bk)],ax,Ah,Af++[aw],Ao,bi⟩:Aa)with⟨ag,ah,ai,aj,am,an⟩
 generalize ac:ag.map Bg=a6
 generalize ad:ah.map Ac=a7
 generalize ae:ai.map Ac=a8
 generalize af:aj.map cS=ba
 refine .lntD hP (O8 ao aq At ar (by rw[List.length_append,List.length_singleton];omega) (by omega) (by rw[List.length_append,List.length_singleton];omega) (Q3 hss (by omega)) au ac ad ae af) (.agg (.ref rfl (Ai ao) (.d rfl (.ref rfl (Ai At) (.ref rfl (Ai ar) (.d rfl (.d rfl .nil)))))) .nil) ?_
 conv=>cbv
 have e:((⟨ag,ah,ai,aj,am,an⟩:Aa),0)=Be (⟨Ae,Ag,Ah,Af,Ao,An⟩:Aa) name:=(by unfold Be;rw[if_neg (by rw[aa];decide),if_neg (by rw[ab];decide),if_neg (by have:=Xbb ak;dsimp only;omega),if_neg (by dsimp only;omega)];exact congrArg (fun x:Aa=>(x,(0:Int))) (au.symm.trans (by rw[←ap,a2,show aw=tx [43]++name++tx [58]++Ck An from(by rw[a1,az,ay,al];rfl)];exact XdF aa ab)))
 rw[hr]at e
 simp only[Prod.mk.injEq,Aa.mk.injEq]at e
 obtain⟨⟨rfl,rfl,rfl,rfl,rfl,rfl⟩,rfl⟩:=e
 refine hQ _ _ ?_
 exact .many (.inl rfl) rfl rfl (.agg (.d rfl (Bm ac B4) (.d rfl (Bm ad B1) (.d rfl (Bm ae B2) (.d rfl (Bm af B3) (.d rfl rfl (.d rfl rfl (.nil))))))) (.d rfl rfl (.nil)))
 conv=>cbv
 have e:((⟨Ae,Ag,Ah,Af,Ao,An⟩:Aa),2)=Be (⟨Ae,Ag,Ah,Af,Ao,An⟩:Aa) name:=(by unfold Be;rw[if_neg (by rw[aa];decide),if_neg (by rw[ab];decide),if_pos (Zj ak)])
 rw[hr]at e
 simp only[Prod.mk.injEq,Aa.mk.injEq]at e
 obtain⟨⟨rfl,rfl,rfl,rfl,rfl,rfl⟩,rfl⟩:=e
 refine hQ _ _ ?_
 exact .many (.inl rfl) rfl rfl (.agg (.ref rfl (Ai Aj) (Bv Aj B4) (.ref rfl (Ai Am) (Bv Am B1) (.ref rfl (Ai At) (Bv At B2) (.ref rfl (Ai Ap) (Bv Ap B3) (.d rfl rfl (.d rfl rfl (.nil))))))) (.d rfl rfl (.nil)))
theorem Xbx{text:ByteArray}(Aj:Ae.map Bg=Bo)(Am:Ag.map Ac=Bl)(At:Ah.map Ac=Bj)(Ap:Af.map cS=Bn)(hn:Ae.length≤1000000000)(he:Ag.length≤1000000000)(ho:Ah.length≤1000000000)(hs:Af.length<1000000000)(hss:okS Af)(aj:J8 (⟨Ae,Ag,Ah,Af,Ao,An⟩:Aa))(ht:text.size≤1000000000)(hr:B8 (⟨Ae,Ag,Ah,Af,Ao,An⟩:Aa) name text=(⟨G1,G2,G3,G8,G5,G6⟩,ob))(B4:G1.map Bg=Eh)(B1:G2.map Ac=Ek)(B2:G3.map Ac=Ee)(B3:G8.map cS=El):Fn Tryz.prog 156 [.agg [.d (.row 3 Bo),.d (.row 2 Bl),.d (.row 2 Bj),.d (.row 1 Bn),I Ao,I An],S name,S text] [] ⟨.tup [.agg [.d (.row 3 Eh),.d (.row 2 Ek),.d (.row 2 Ee),.d (.row 1 El),I G5,I G6],I ob],[],[]⟩:=by
 refine Fn.go Hl Tryz.func156 fun P hP Q hQ=>?_
 conv=>cbv
 obtain⟨n2,a8⟩:∃m,m=Ae.length:=⟨_,rfl⟩
 obtain⟨n3,ba⟩:∃m,m=Ag.length:=⟨_,rfl⟩
 obtain⟨n4,bb⟩:∃m,m=Ah.length:=⟨_,rfl⟩
 obtain⟨n5,bc⟩:∃m,m=Af.length:=⟨_,rfl⟩
 refine .ddN hP (Ku Aj Am At Ap (by omega) (by omega) (by omega) (by omega) a8 ba bb bc) rfl ?_
 conv=>cbv
 generalize ah:By (⟨Ae,Ag,Ah,Af,Ao,An⟩:Aa)=r6
 refine .lnt hP (Oz Aj Am At Ap aj ah) (.agg (.ref rfl (Ai Aj) (.ref rfl (Ai Am) (.ref rfl (Ai At) (.ref rfl (Ai Ap) (.d rfl (.d rfl .nil)))))) .nil) ?_
 cases r6
 conv=>cbv
 have e:((⟨Ae,Ag,Ah,Af,Ao,An⟩:Aa),3)=B8 (⟨Ae,Ag,Ah,Af,Ao,An⟩:Aa) name text:=(by unfold B8;rw[if_pos (.inl ah)])
 rw[hr]at e
 simp only[Prod.mk.injEq,Aa.mk.injEq]at e
 obtain⟨⟨rfl,rfl,rfl,rfl,rfl,rfl⟩,rfl⟩:=e
 refine hQ _ _ ?_
 exact .many (.inl rfl) rfl rfl (.agg (.ref rfl (Ai Aj) (Bv Aj B4) (.ref rfl (Ai Am) (Bv Am B1) (.ref rfl (Ai At) (Bv At B2) (.ref rfl (Ai Ap) (Bv Ap B3) (.d rfl rfl (.d rfl rfl (.nil))))))) (.d rfl rfl (.nil)))
 conv=>cbv
 generalize ao:Ea Ag name=r7
 refine .lnt hP (Mn Am (by omega) ao) (.ref rfl (Ai Am) (.d rfl .nil)) ?_
 cases r7
 conv=>cbv
 have e:((⟨Ae,Ag,Ah,Af,Ao,An⟩:Aa),3)=B8 (⟨Ae,Ag,Ah,Af,Ao,An⟩:Aa) name text:=(by unfold B8;rw[if_pos (.inr (Ym (Xbb ao)))])
 rw[hr]at e
 simp only[Prod.mk.injEq,Aa.mk.injEq]at e
 obtain⟨⟨rfl,rfl,rfl,rfl,rfl,rfl⟩,rfl⟩:=e
 refine hQ _ _ ?_
 exact .many (.inl rfl) rfl rfl (.agg (.ref rfl (Ai Aj) (Bv Aj B4) (.ref rfl (Ai Am) (Bv Am B1) (.ref rfl (Ai At) (Bv At B2) (.ref rfl (Ai Ap) (Bv Ap B3) (.d rfl rfl (.d rfl rfl (.nil))))))) (.d rfl rfl (.nil)))
 conv=>cbv
 generalize ar:Cz Ag name=r8
 refine .lnt hP (Mc Am (by omega) ar) (.ref rfl (Ai Am) (.d rfl .nil)) ?_
 conv=>cbv
 generalize au:Hj (⟨Ae,Ag,Ah,Af,Ao,An⟩:Aa) r8=r9
 refine .lnt hP (Q2 Aj Am At Ap (by omega) au) (.agg (.ref rfl (Ai Aj) (.ref rfl (Ai Am) (.ref rfl (Ai At) (.ref rfl (Ai Ap) (.d rfl (.d rfl .nil)))))) (.d rfl .nil)) ?_
 conv=>cbv
 have hpl:=Zj ao
 have hk:Db (⟨Ae,Ag,Ah,Af,Ao,An⟩:Aa) name=r9:=by rw[←X3 (d:=(⟨Ae,Ag,Ah,Af,Ao,An⟩:Aa)) hpl];show Hj _ (Cz Ag name)=r9;rw[ar,au]
 have hb:=Hs hk
 have bd:=(Xeq ah hpl).2
 rw[hk]at bd
 simp only[]at hb
 generalize af:F2 (⟨Ae,Ag,Ah,Af,Ao,An⟩:Aa)=aw
 refine .lnt hP (XfF Aj Am At Ap aj.1 af) (.agg (.ref rfl (Ai Aj) (.ref rfl (Ai Am) (.ref rfl (Ai At) (.ref rfl (Ai Ap) (.d rfl (.d rfl .nil)))))) .nil) ?_
 conv=>cbv
 have hri:=Ip ah
 simp only[af]at hri
 refine .sub fun bk ax=>?_
 conv=>cbv
 refine .go fun bl bg=>?_
 conv=>cbv
 refine .gtr (fun h13=>?_) fun h13=>?_
 conv=>cbv
 refine .go r9.toNat fun ai ay ap=>?_
 conv=>cbv
 refine .go Aj fun ae ⟨aq,aa,ak⟩ ab=>?_
 conv=>cbv
 have az:aa.size≤1000000000:=by have h9:=aj.1.2.1 _ (List.getElem_mem ae);rw[←ab]at h9;exact h9
 refine .hi fun al ag=>?_
 conv=>cbv
 have bh:al.size≤text.size:=by rw[ag,ByteArray.size_extract];omega
 refine .go fun a1 a2 bi=>?_
 conv=>cbv
 refine .go r9.toNat fun ac a6 be=>?_
 conv=>cbv
 refine .go (⟨(Ae.getD ac ⟨0,tx [],0⟩).id_,a1,(Ae.getD ac ⟨0,tx [],0⟩).sure_⟩:Bk) Aj (by omega) (by rw[←gD (show ac<Ae.length by omega)];rfl) (show 1+1≤3 by decide) fun bm am=>?_
 conv=>cbv
 have e:((⟨Ae.set ac (⟨(Ae.getD ac ⟨0,tx [],0⟩).id_,a1,(Ae.getD ac ⟨0,tx [],0⟩).sure_⟩:Bk),Ag,Ah,Af,Ao,An⟩:Aa),5)=B8 (⟨Ae,Ag,Ah,Af,Ao,An⟩:Aa) name text:=(by unfold B8;rw[if_neg (by rintro(h|h);rw[ah]at h;cases h;rw[hk]at h;omega),hk,af];dsimp only;rw[if_pos (by omega)];unfold XlH gN;dsimp only;have e9:aa=(Ae.getD ac ⟨0,tx [],0⟩).text_:=(by have h9:ai=ac:=(by omega);subst h9;rw[←gD (show ai<Ae.length by omega),←ab]);rw[←a6,a2,e9,ag,ax,show min (text.size:Int) (Ao - aw)=Ao - aw by omega])
 rw[hr]at e
 simp only[Prod.mk.injEq,Aa.mk.injEq]at e
 obtain⟨⟨rfl,rfl,rfl,rfl,rfl,rfl⟩,rfl⟩:=e
 refine hQ _ _ ?_
 exact .many (.inl rfl) rfl rfl (.agg (.ref rfl (Ai am) (Bv am B4) (.ref rfl (Ai Am) (Bv Am B1) (.ref rfl (Ai At) (Bv At B2) (.ref rfl (Ai Ap) (Bv Ap B3) (.d rfl rfl (.d rfl rfl (.nil))))))) (.d rfl rfl (.nil)))
 conv=>cbv
 refine .go r9.toNat fun ai ay ap=>?_
 conv=>cbv
 refine .go Aj fun ae ⟨aq,aa,ak⟩ ab=>?_
 conv=>cbv
 have az:aa.size≤1000000000:=by have h9:=aj.1.2.1 _ (List.getElem_mem ae);rw[←ab]at h9;exact h9
 refine .go fun al ag bj=>?_
 conv=>cbv
 refine .go r9.toNat fun ad a7 bf=>?_
 conv=>cbv
 refine .go (⟨(Ae.getD ad ⟨0,tx [],0⟩).id_,al,(Ae.getD ad ⟨0,tx [],0⟩).sure_⟩:Bk) Aj (by omega) (by rw[←gD (show ad<Ae.length by omega)];rfl) (show 1+1≤3 by decide) fun bn an=>?_
 conv=>cbv
 have e:((⟨Ae.set ad (⟨(Ae.getD ad ⟨0,tx [],0⟩).id_,al,(Ae.getD ad ⟨0,tx [],0⟩).sure_⟩:Bk),Ag,Ah,Af,Ao,An⟩:Aa),0)=B8 (⟨Ae,Ag,Ah,Af,Ao,An⟩:Aa) name text:=(by unfold B8;rw[if_neg (by rintro(h|h);rw[ah]at h;cases h;rw[hk]at h;omega),hk,af];dsimp only;rw[if_neg (by omega)];unfold XlH gN;dsimp only;have e9:aa=(Ae.getD ad ⟨0,tx [],0⟩).text_:=(by have h9:ai=ad:=(by omega);subst h9;rw[←gD (show ai<Ae.length by omega),←ab]);rw[←a7,ag,e9,XaC (t:=text) (by omega)])
 rw[hr]at e
 simp only[Prod.mk.injEq,Aa.mk.injEq]at e
 obtain⟨⟨rfl,rfl,rfl,rfl,rfl,rfl⟩,rfl⟩:=e
 refine hQ _ _ ?_
 exact .many (.inl rfl) rfl rfl (.agg (.ref rfl (Ai an) (Bv an B4) (.ref rfl (Ai Am) (Bv Am B1) (.ref rfl (Ai At) (Bv At B2) (.ref rfl (Ai Ap) (Bv Ap B3) (.d rfl rfl (.d rfl rfl (.nil))))))) (.d rfl rfl (.nil)))
theorem Xgy(Aj:Ae.map Bg=Bo)(Am:Ag.map Ac=Bl)(At:Ah.map Ac=Bj)(Ap:Af.map cS=Bn)(hn:Ae.length≤1000000000)(he:Ag.length≤1000000000)(ho:Ah.length≤1000000000)(hs:Af.length<1000000000)(hss:okS Af)(an:J8 (⟨Ae,Ag,Ah,Af,Ao,An⟩:Aa))(hr:Dp (⟨Ae,Ag,Ah,Af,Ao,An⟩:Aa) name=(⟨G1,G2,G3,G8,G5,G6⟩,ob))(B4:G1.map Bg=Eh)(B1:G2.map Ac=Ek)(B2:G3.map Ac=Ee)(B3:G8.map cS=El):Fn Tryz.prog 225 [.agg [.d (.row 3 Bo),.d (.row 2 Bl),.d (.row 2 Bj),.d (.row 1 Bn),I Ao,I An],S name] [] ⟨.tup [.agg [.d (.row 3 Eh),.d (.row 2 Ek),.d (.row 2 Ee),.d (.row 1 El),I G5,I G6],I ob],[],[]⟩:=by
 refine Fn.go Hl Tryz.func225 fun P hP Q hQ=>?_
 conv=>cbv
 obtain⟨n2,ao⟩:∃m,m=Ae.length:=⟨_,rfl⟩
 obtain⟨n3,ap⟩:∃m,m=Ag.length:=⟨_,rfl⟩
 obtain⟨n4,aq⟩:∃m,m=Ah.length:=⟨_,rfl⟩
 obtain⟨n5,ar⟩:∃m,m=Af.length:=⟨_,rfl⟩
 refine .ddN hP (Ku Aj Am At Ap (by omega) (by omega) (by omega) (by omega) ao ap aq ar) rfl ?_
 conv=>cbv
 generalize ab:By (⟨Ae,Ag,Ah,Af,Ao,An⟩:Aa)=r6
 refine .lnt hP (Oz Aj Am At Ap an ab) (.agg (.ref rfl (Ai Aj) (.ref rfl (Ai Am) (.ref rfl (Ai At) (.ref rfl (Ai Ap) (.d rfl (.d rfl .nil)))))) .nil) ?_
 cases r6
 conv=>cbv
 have e:((⟨Ae,Ag,Ah,Af,Ao,An⟩:Aa),3)=Dp (⟨Ae,Ag,Ah,Af,Ao,An⟩:Aa) name:=(by unfold Dp;rw[if_pos (.inl ab)])
 rw[hr]at e
 simp only[Prod.mk.injEq,Aa.mk.injEq]at e
 obtain⟨⟨rfl,rfl,rfl,rfl,rfl,rfl⟩,rfl⟩:=e
 refine hQ _ _ ?_
 exact .many (.inl rfl) rfl rfl (.agg (.ref rfl (Ai Aj) (Bv Aj B4) (.ref rfl (Ai Am) (Bv Am B1) (.ref rfl (Ai At) (Bv At B2) (.ref rfl (Ai Ap) (Bv Ap B3) (.d rfl rfl (.d rfl rfl (.nil))))))) (.d rfl rfl (.nil)))
 conv=>cbv
 generalize ae:Ea Ag name=r7
 refine .lnt hP (Mn Am (by omega) ae) (.ref rfl (Ai Am) (.d rfl .nil)) ?_
 cases r7
 conv=>cbv
 have e:((⟨Ae,Ag,Ah,Af,Ao,An⟩:Aa),3)=Dp (⟨Ae,Ag,Ah,Af,Ao,An⟩:Aa) name:=(by unfold Dp;rw[if_pos (.inr (Ym (Xbb ae)))])
 rw[hr]at e
 simp only[Prod.mk.injEq,Aa.mk.injEq]at e
 obtain⟨⟨rfl,rfl,rfl,rfl,rfl,rfl⟩,rfl⟩:=e
 refine hQ _ _ ?_
 exact .many (.inl rfl) rfl rfl (.agg (.ref rfl (Ai Aj) (Bv Aj B4) (.ref rfl (Ai Am) (Bv Am B1) (.ref rfl (Ai At) (Bv At B2) (.ref rfl (Ai Ap) (Bv Ap B3) (.d rfl rfl (.d rfl rfl (.nil))))))) (.d rfl rfl (.nil)))
 conv=>cbv
 generalize af:Cz Ag name=r8
 refine .lnt hP (Mc Am (by omega) af) (.ref rfl (Ai Am) (.d rfl .nil)) ?_
 conv=>cbv
 generalize ag:Hj (⟨Ae,Ag,Ah,Af,Ao,An⟩:Aa) r8=r9
 refine .lnt hP (Q2 Aj Am At Ap (by omega) ag) (.agg (.ref rfl (Ai Aj) (.ref rfl (Ai Am) (.ref rfl (Ai At) (.ref rfl (Ai Ap) (.d rfl (.d rfl .nil)))))) (.d rfl .nil)) ?_
 conv=>cbv
 have hpl:=Zj ae
 have hk:Db (⟨Ae,Ag,Ah,Af,Ao,An⟩:Aa) name=r9:=by rw[←X3 (d:=(⟨Ae,Ag,Ah,Af,Ao,An⟩:Aa)) hpl];show Hj _ (Cz Ag name)=r9;rw[af,ag]
 have hb:=Hs hk
 have au:=(Xeq ab hpl).2
 rw[hk]at au
 simp only[]at hb
 refine .go r9.toNat fun ah a1 aw=>?_
 conv=>cbv
 refine .go Aj fun ax ⟨ay,ac,am⟩ ai=>?_
 conv=>cbv
 refine .go fun aj ak=>?_
 conv=>cbv
 refine .go r9.toNat fun aa al az=>?_
 conv=>cbv
 refine .go (⟨(Ae.getD aa ⟨0,tx [],0⟩).id_,(Ae.getD aa ⟨0,tx [],0⟩).text_,aj⟩:Bk) Aj (by omega) (by rw[←gD (show aa<Ae.length by omega)];rfl) (show 2+1≤3 by decide) fun a2 ad=>?_
 conv=>cbv
 have e:((⟨Ae.set aa (⟨(Ae.getD aa ⟨0,tx [],0⟩).id_,(Ae.getD aa ⟨0,tx [],0⟩).text_,aj⟩:Bk),Ag,Ah,Af,Ao,An⟩:Aa),0)=Dp (⟨Ae,Ag,Ah,Af,Ao,An⟩:Aa) name:=(by unfold Dp;rw[if_neg (by rintro(h|h);rw[ab]at h;cases h;rw[hk]at h;omega),hk];dsimp only;have e9:ac=(Ae.getD aa ⟨0,tx [],0⟩).text_:=(by have h9:ah=aa:=(by omega);subst h9;rw[←gD (show ah<Ae.length by omega),←ai]);rw[ak,e9,←al])
 rw[hr]at e
 simp only[Prod.mk.injEq,Aa.mk.injEq]at e
 obtain⟨⟨rfl,rfl,rfl,rfl,rfl,rfl⟩,rfl⟩:=e
 refine hQ _ _ ?_
 exact .many (.inl rfl) rfl rfl (.agg (.ref rfl (Ai ad) (Bv ad B4) (.ref rfl (Ai Am) (Bv Am B1) (.ref rfl (Ai At) (Bv At B2) (.ref rfl (Ai Ap) (Bv Ap B3) (.d rfl rfl (.d rfl rfl (.nil))))))) (.d rfl rfl (.nil)))
theorem Xb4{from_:ByteArray}{to_:ByteArray}(Aj:Ae.map Bg=Bo)(Am:Ag.map Ac=Bl)(At:Ah.map Ac=Bj)(Ap:Af.map cS=Bn)(hn:Ae.length≤1000000000)(he:Ag.length≤1000000000)(ho:Ah.length≤1000000000)(hs:Af.length<1000000000)(hss:okS Af)(bc:J8 (⟨Ae,Ag,Ah,Af,Ao,An⟩:Aa))(hm:from_.size+to_.size<999999999)(hr:B7 (⟨Ae,Ag,Ah,Af,Ao,An⟩:Aa) from_ to_=(⟨G1,G2,G3,G8,G5,G6⟩,ob))(B4:G1.map Bg=Eh)(B1:G2.map Ac=Ek)(B2:G3.map Ac=Ee)(B3:G8.map cS=El):Fn Tryz.prog 260 [.agg [.d (.row 3 Bo),.d (.row 2 Bl),.d (.row 2 Bj),.d (.row 1 Bn),I Ao,I An],S from_,S to_] [] ⟨.tup [.agg [.d (.row 3 Eh),.d (.row 2 Ek),.d (.row 2 Ee),.d (.row 1 El),I G5,I G6],I ob],[],[]⟩:=by
 refine Fn.go Hl Tryz.func260 fun P hP Q hQ=>?_
 conv=>cbv
 obtain⟨n2,bd⟩:∃m,m=Ae.length:=⟨_,rfl⟩
 obtain⟨n3,be⟩:∃m,m=Ag.length:=⟨_,rfl⟩
 obtain⟨n4,bf⟩:∃m,m=Ah.length:=⟨_,rfl⟩
 obtain⟨n5,bg⟩:∃m,m=Af.length:=⟨_,rfl⟩
 refine .ddN hP (Ku Aj Am At Ap (by omega) (by omega) (by omega) (by omega) bd be bf bg) rfl ?_
 conv=>cbv
 generalize ai:By (⟨Ae,Ag,Ah,Af,Ao,An⟩:Aa)=r6
 refine .lnt hP (Oz Aj Am At Ap bc ai) (.agg (.ref rfl (Ai Aj) (.ref rfl (Ai Am) (.ref rfl (Ai At) (.ref rfl (Ai Ap) (.d rfl (.d rfl .nil)))))) .nil) ?_
 cases r6
 conv=>cbv
 have e:((⟨Ae,Ag,Ah,Af,Ao,An⟩:Aa),3)=B7 (⟨Ae,Ag,Ah,Af,Ao,An⟩:Aa) from_ to_:=(by unfold B7;rw[if_pos (.inl ai)])
 rw[hr]at e
 simp only[Prod.mk.injEq,Aa.mk.injEq]at e
 obtain⟨⟨rfl,rfl,rfl,rfl,rfl,rfl⟩,rfl⟩:=e
 refine hQ _ _ ?_
 exact .many (.inl rfl) rfl rfl (.agg (.ref rfl (Ai Aj) (Bv Aj B4) (.ref rfl (Ai Am) (Bv Am B1) (.ref rfl (Ai At) (Bv At B2) (.ref rfl (Ai Ap) (Bv Ap B3) (.d rfl rfl (.d rfl rfl (.nil))))))) (.d rfl rfl (.nil)))
 conv=>cbv
 generalize aj:Ea Ag from_=r7
 refine .lnt hP (Mn Am (by omega) aj) (.ref rfl (Ai Am) (.d rfl .nil)) ?_
 cases r7
 conv=>cbv
 have e:((⟨Ae,Ag,Ah,Af,Ao,An⟩:Aa),3)=B7 (⟨Ae,Ag,Ah,Af,Ao,An⟩:Aa) from_ to_:=(by unfold B7;rw[if_pos (.inr (Xbb aj))])
 rw[hr]at e
 simp only[Prod.mk.injEq,Aa.mk.injEq]at e
 obtain⟨⟨rfl,rfl,rfl,rfl,rfl,rfl⟩,rfl⟩:=e
 refine hQ _ _ ?_
 exact .many (.inl rfl) rfl rfl (.agg (.ref rfl (Ai Aj) (Bv Aj B4) (.ref rfl (Ai Am) (Bv Am B1) (.ref rfl (Ai At) (Bv At B2) (.ref rfl (Ai Ap) (Bv Ap B3) (.d rfl rfl (.d rfl rfl (.nil))))))) (.d rfl rfl (.nil)))
 conv=>cbv
 generalize al:Bt to_=r8
 refine .dd hP (M1 (by omega) al) ?_
 cases r8
 conv=>cbv
 have e:((⟨Ae,Ag,Ah,Af,Ao,An⟩:Aa),1)=B7 (⟨Ae,Ag,Ah,Af,Ao,An⟩:Aa) from_ to_:=(by unfold B7;rw[if_neg (by rintro(h|h);rw[ai]at h;cases h;have:=Zj aj;dsimp only at h;omega),if_pos (.inl al)])
 rw[hr]at e
 simp only[Prod.mk.injEq,Aa.mk.injEq]at e
 obtain⟨⟨rfl,rfl,rfl,rfl,rfl,rfl⟩,rfl⟩:=e
 refine hQ _ _ ?_
 exact .many (.inl rfl) rfl rfl (.agg (.ref rfl (Ai Aj) (Bv Aj B4) (.ref rfl (Ai Am) (Bv Am B1) (.ref rfl (Ai At) (Bv At B2) (.ref rfl (Ai Ap) (Bv Ap B3) (.d rfl rfl (.d rfl rfl (.nil))))))) (.d rfl rfl (.nil)))
 conv=>cbv
 refine .eql (fun h9=>?_) fun h9=>?_
 conv=>cbv
 have e:((⟨Ae,Ag,Ah,Af,Ao,An⟩:Aa),1)=B7 (⟨Ae,Ag,Ah,Af,Ao,An⟩:Aa) from_ to_:=(by unfold B7;rw[if_neg (by rintro(h|h);rw[ai]at h;cases h;have:=Zj aj;dsimp only at h;omega),if_pos (.inr h9)])
 rw[hr]at e
 simp only[Prod.mk.injEq,Aa.mk.injEq]at e
 obtain⟨⟨rfl,rfl,rfl,rfl,rfl,rfl⟩,rfl⟩:=e
 refine hQ _ _ ?_
 exact .many (.inl rfl) rfl rfl (.agg (.ref rfl (Ai Aj) (Bv Aj B4) (.ref rfl (Ai Am) (Bv Am B1) (.ref rfl (Ai At) (Bv At B2) (.ref rfl (Ai Ap) (Bv Ap B3) (.d rfl rfl (.d rfl rfl (.nil))))))) (.d rfl rfl (.nil)))
 conv=>cbv
 generalize ao:Cz Ag from_=bh
 refine .lnt hP (Mc Am (by omega) ao) (.ref rfl (Ai Am) (.d rfl .nil)) ?_
 conv=>cbv
 generalize ak:Dz Ag from_=ay
 have bi:=Ix ak
 generalize ap:ay.map Ac=bk
 refine .lntD hP (Mg Am (by omega) ak ap) (.ref rfl (Ai Am) (.d rfl .nil)) ?_
 conv=>cbv
 generalize aq:Ec ay (⟨to_,bh⟩:Ad)=az
 generalize ar:az.map Ac=bl
 refine .dd hP (I1 ap (by omega) aq ar) ?_
 conv=>cbv
 refine .litL 1 fun bq a1 bm=>?_
 conv=>cbv
 refine .litR 1 fun bt a2 bn=>?_
 conv=>cbv
 refine .go fun ax a6 bo=>?_
 conv=>cbv
 refine .one ax Ap rfl fun bp bu bj au=>?_
 conv=>cbv
 rcases aw:Fr (⟨Ae,az,Ah,Af++[ax],Ao,An⟩:Aa)with⟨ae,af,ag,ah,am,an⟩
 generalize aa:ae.map Bg=a7
 generalize ab:af.map Ac=a8
 generalize ac:ag.map Ac=ba
 generalize ad:ah.map cS=bb
 refine .lntD hP (O8 Aj ar At au (by omega) (by omega) (by rw[List.length_append,List.length_singleton];omega) (Q3 hss (by omega)) aw aa ab ac ad) (.agg (.ref rfl (Ai Aj) (.d rfl (.ref rfl (Ai At) (.ref rfl (Ai au) (.d rfl (.d rfl .nil)))))) .nil) ?_
 conv=>cbv
 have e:((⟨ae,af,ag,ah,am,an⟩:Aa),0)=B7 (⟨Ae,Ag,Ah,Af,Ao,An⟩:Aa) from_ to_:=(by unfold B7;rw[if_neg (by rintro(h|h);rw[ai]at h;cases h;have:=Zj aj;dsimp only at h;omega),if_neg (by rintro(h|h);rw[al]at h;cases h;exact h9 h)];exact congrArg (fun x:Aa=>(x,(0:Int))) (aw.symm.trans (by rw[←aq,←ak,←ao,show ax=tx [62]++from_++tx [58]++to_ from(by rw[a6,a2,a1];rfl)];exact Xd3 ai (Zj aj) al h9)))
 rw[hr]at e
 simp only[Prod.mk.injEq,Aa.mk.injEq]at e
 obtain⟨⟨rfl,rfl,rfl,rfl,rfl,rfl⟩,rfl⟩:=e
 refine hQ _ _ ?_
 exact .many (.inl rfl) rfl rfl (.agg (.d rfl (Bm aa B4) (.d rfl (Bm ab B1) (.d rfl (Bm ac B2) (.d rfl (Bm ad B3) (.d rfl rfl (.d rfl rfl (.nil))))))) (.d rfl rfl (.nil)))
theorem Xcg(Aj:Ae.map Bg=Bo)(Am:Ag.map Ac=Bl)(At:Ah.map Ac=Bj)(Ap:Af.map cS=Bn)(hn:Ae.length≤1000000000)(he:Ag.length≤1000000000)(ho:Ah.length≤1000000000)(hs:Af.length<1000000000)(hss:okS Af)(ax:J8 (⟨Ae,Ag,Ah,Af,Ao,An⟩:Aa))(hm:name.size<1000000000)(hr:C6 (⟨Ae,Ag,Ah,Af,Ao,An⟩:Aa) name=(⟨G1,G2,G3,G8,G5,G6⟩,ob))(B4:G1.map Bg=Eh)(B1:G2.map Ac=Ek)(B2:G3.map Ac=Ee)(B3:G8.map cS=El):Fn Tryz.prog 259 [.agg [.d (.row 3 Bo),.d (.row 2 Bl),.d (.row 2 Bj),.d (.row 1 Bn),I Ao,I An],S name] [] ⟨.tup [.agg [.d (.row 3 Eh),.d (.row 2 Ek),.d (.row 2 Ee),.d (.row 1 El),I G5,I G6],I ob],[],[]⟩:=by
 refine Fn.go Hl Tryz.func259 fun P hP Q hQ=>?_
 conv=>cbv
 obtain⟨n2,ay⟩:∃m,m=Ae.length:=⟨_,rfl⟩
 obtain⟨n3,az⟩:∃m,m=Ag.length:=⟨_,rfl⟩
 obtain⟨n4,a1⟩:∃m,m=Ah.length:=⟨_,rfl⟩
 obtain⟨n5,a2⟩:∃m,m=Af.length:=⟨_,rfl⟩
 refine .ddN hP (Ku Aj Am At Ap (by omega) (by omega) (by omega) (by omega) ay az a1 a2) rfl ?_
 conv=>cbv
 generalize ai:By (⟨Ae,Ag,Ah,Af,Ao,An⟩:Aa)=r6
 refine .lnt hP (Oz Aj Am At Ap ax ai) (.agg (.ref rfl (Ai Aj) (.ref rfl (Ai Am) (.ref rfl (Ai At) (.ref rfl (Ai Ap) (.d rfl (.d rfl .nil)))))) .nil) ?_
 cases r6
 conv=>cbv
 have e:((⟨Ae,Ag,Ah,Af,Ao,An⟩:Aa),3)=C6 (⟨Ae,Ag,Ah,Af,Ao,An⟩:Aa) name:=(by unfold C6;rw[if_pos (.inl ai)])
 rw[hr]at e
 simp only[Prod.mk.injEq,Aa.mk.injEq]at e
 obtain⟨⟨rfl,rfl,rfl,rfl,rfl,rfl⟩,rfl⟩:=e
 refine hQ _ _ ?_
 exact .many (.inl rfl) rfl rfl (.agg (.ref rfl (Ai Aj) (Bv Aj B4) (.ref rfl (Ai Am) (Bv Am B1) (.ref rfl (Ai At) (Bv At B2) (.ref rfl (Ai Ap) (Bv Ap B3) (.d rfl rfl (.d rfl rfl (.nil))))))) (.d rfl rfl (.nil)))
 conv=>cbv
 generalize aj:Ea Ag name=r7
 refine .lnt hP (Mn Am (by omega) aj) (.ref rfl (Ai Am) (.d rfl .nil)) ?_
 cases r7
 conv=>cbv
 have e:((⟨Ae,Ag,Ah,Af,Ao,An⟩:Aa),3)=C6 (⟨Ae,Ag,Ah,Af,Ao,An⟩:Aa) name:=(by unfold C6;rw[if_pos (.inr (Xbb aj))])
 rw[hr]at e
 simp only[Prod.mk.injEq,Aa.mk.injEq]at e
 obtain⟨⟨rfl,rfl,rfl,rfl,rfl,rfl⟩,rfl⟩:=e
 refine hQ _ _ ?_
 exact .many (.inl rfl) rfl rfl (.agg (.ref rfl (Ai Aj) (Bv Aj B4) (.ref rfl (Ai Am) (Bv Am B1) (.ref rfl (Ai At) (Bv At B2) (.ref rfl (Ai Ap) (Bv Ap B3) (.d rfl rfl (.d rfl rfl (.nil))))))) (.d rfl rfl (.nil)))
 conv=>cbv
 generalize ao:Dz Ag name=l8
 generalize ap:l8.map Ac=ba
 refine .lntD hP (Mg Am (by omega) ao ap) (.ref rfl (Ai Am) (.d rfl .nil)) ?_
 conv=>cbv
 refine .litL 1 fun s9 a6 bb=>?_
 conv=>cbv
 refine .one s9 Ap rfl fun a8 bc a7 am=>?_
 conv=>cbv
 rcases an:Fr (⟨Ae,l8,Ah,Af++[s9],Ao,An⟩:Aa)with⟨ae,af,ag,ah,ak,al⟩
 generalize aa:ae.map Bg=aq
 generalize ab:af.map Ac=ar
 generalize ac:ag.map Ac=au
 generalize ad:ah.map cS=aw
 refine .lntD hP (O8 Aj ap At am (by omega) (by omega) (by rw[List.length_append,List.length_singleton];omega) (Q3 hss (by omega)) an aa ab ac ad) (.agg (.ref rfl (Ai Aj) (.d rfl (.ref rfl (Ai At) (.ref rfl (Ai am) (.d rfl (.d rfl .nil)))))) .nil) ?_
 conv=>cbv
 have e:((⟨ae,af,ag,ah,ak,al⟩:Aa),0)=C6 (⟨Ae,Ag,Ah,Af,Ao,An⟩:Aa) name:=(by unfold C6;rw[if_neg (by rintro(h|h);rw[ai]at h;cases h;have:=Zj aj;dsimp only at h;omega)];exact congrArg (fun x:Aa=>(x,(0:Int))) (an.symm.trans (by rw[←ao,a6];exact Xd7 ai (Zj aj))))
 rw[hr]at e
 simp only[Prod.mk.injEq,Aa.mk.injEq]at e
 obtain⟨⟨rfl,rfl,rfl,rfl,rfl,rfl⟩,rfl⟩:=e
 refine hQ _ _ ?_
 exact .many (.inl rfl) rfl rfl (.agg (.d rfl (Bm aa B4) (.d rfl (Bm ab B1) (.d rfl (Bm ac B2) (.d rfl (Bm ad B3) (.d rfl rfl (.d rfl rfl (.nil))))))) (.d rfl rfl (.nil)))
theorem Xdd(Aj:Ae.map Bg=Bo)(Am:Ag.map Ac=Bl)(At:Ah.map Ac=Bj)(Ap:Af.map cS=Bn)(hn:Ae.length≤1000000000)(he:Ag.length≤1000000000)(ho:Ah.length≤1000000000)(hs:Af.length<1000000000)(hss:okS Af)(ar:J8 (⟨Ae,Ag,Ah,Af,Ao,An⟩:Aa))(hr:D0 (⟨Ae,Ag,Ah,Af,Ao,An⟩:Aa)=⟨onod,oent,oold,oste,oroo,onex⟩)(Vy:onod.map Bg=T4)(U1:oent.map Ac=Tx)(Uu:oold.map Ac=Tz)(Vj:oste.map cS=T2):Fn Tryz.prog 227 [.agg [.d (.row 3 Bo),.d (.row 2 Bl),.d (.row 2 Bj),.d (.row 1 Bn),I Ao,I An]] [] ⟨.agg [.d (.row 3 T4),.d (.row 2 Tx),.d (.row 2 Tz),.d (.row 1 T2),I oroo,I onex],[],[]⟩:=by
 refine Fn.go Hl Tryz.func227 fun P hP Q hQ=>?_
 conv=>cbv
 obtain⟨n2,au⟩:∃m,m=Ae.length:=⟨_,rfl⟩
 obtain⟨n3,aw⟩:∃m,m=Ag.length:=⟨_,rfl⟩
 obtain⟨n4,ax⟩:∃m,m=Ah.length:=⟨_,rfl⟩
 obtain⟨n5,ay⟩:∃m,m=Af.length:=⟨_,rfl⟩
 refine .ddN hP (Ku Aj Am At Ap (by omega) (by omega) (by omega) (by omega) au aw ax ay) rfl ?_
 conv=>cbv
 generalize ai:By (⟨Ae,Ag,Ah,Af,Ao,An⟩:Aa)=r6
 refine .lnt hP (Oz Aj Am At Ap ar ai) (.agg (.ref rfl (Ai Aj) (.ref rfl (Ai Am) (.ref rfl (Ai At) (.ref rfl (Ai Ap) (.d rfl (.d rfl .nil)))))) .nil) ?_
 cases r6
 conv=>cbv
 have e:(⟨Ae,Ag,Ah,Af,Ao,An⟩:Aa)=D0 (⟨Ae,Ag,Ah,Af,Ao,An⟩:Aa):=(by unfold D0;rw[if_pos ai])
 rw[hr]at e
 simp only[Aa.mk.injEq]at e
 obtain⟨rfl,rfl,rfl,rfl,rfl,rfl⟩:=e
 exact hQ _ _ (.one (.inl rfl) rfl (.agg (.ref rfl (Ai Aj) (Bv Aj Vy) (.ref rfl (Ai Am) (Bv Am U1) (.ref rfl (Ai At) (Bv At Uu) (.ref rfl (Ai Ap) (Bv Ap Vj) (.d rfl rfl (.d rfl rfl (.nil))))))) .nil))
 conv=>cbv
 refine .sub0 Am fun a1 z7 az al=>?_
 conv=>cbv
 rcases am:Fr (⟨Ae,Ag,Ag,[],Ao,An⟩:Aa)with⟨ae,af,ag,ah,aj,ak⟩
 generalize aa:ae.map Bg=an
 generalize ab:af.map Ac=ao
 generalize ac:ag.map Ac=ap
 generalize ad:ah.map cS=aq
 refine .lntD hP (O8 Aj Am al rfl (by omega) (by omega) (by simp) (fun _ h=>by cases h) am aa ab ac ad) (.agg (.ref rfl (Ai Aj) (.ref rfl (Ai Am) (.ref rfl (Ai al) (.ref rfl rfl (.d rfl (.d rfl .nil)))))) .nil) ?_
 conv=>cbv
 have e:(⟨ae,af,ag,ah,aj,ak⟩:Aa)=D0 (⟨Ae,Ag,Ah,Af,Ao,An⟩:Aa):=(by unfold D0;rw[if_neg (by rw[ai];decide)];dsimp only;rw[←am];exact Xn (d:=⟨Ae,Ag,Ag,[],Ao,An⟩) trivial)
 rw[hr]at e
 simp only[Aa.mk.injEq]at e
 obtain⟨rfl,rfl,rfl,rfl,rfl,rfl⟩:=e
 exact hQ _ _ (.one (.inl rfl) rfl (.agg (.d rfl (Bm aa Vy) (.d rfl (Bm ab U1) (.d rfl (Bm ac Uu) (.d rfl (Bm ad Vj) (.d rfl rfl (.d rfl rfl (.nil))))))) .nil))
end
end Go.Proofs.YtgdmjbcllgmepaaGreatDoor.Ab
