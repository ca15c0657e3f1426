/- What functions of the program come to, for all arguments in the given bounds. -/
import Derived.Test.YtgdmjbcllgmepaaGreatDoorFrch06c
import Derived.Test.YtgdmjbcllgmepaaGreatDoorFrZ9
set_option linter.unusedVariables false
set_option linter.unusedSimpArgs false
namespace Go.Proofs.YtgdmjbcllgmepaaGreatDoor.Ab
section
open Go Go.Proofs
set_option maxRecDepth 20000
set_option maxHeartbeats 4000000
def Xax:List (Nat×TyRow):=[ty3,XeB,Zu,Xjh]
theorem XaJ:B1 Tryz.prog Xax:=B1.of (by kernel_rfl)
theorem Px:Setup Tryz.prog Xax:=⟨XaJ,mixed⟩
def El(x:Bs)(used:List Int):Bool:=!decide (x.id_∈used)
variable {used:List Int} {l:List Bs} {xl:List (List D)} {nl:Nat}
theorem N4{xid:Int}{xtex:ByteArray}{xsur:Int}{o:Bool}(hr:El (⟨xid,xtex,xsur⟩:Bs) used=o):Fn Tryz.prog 329 [.agg [I xid,S xtex,I xsur],.ptr 0 0 0] [.box 256 [.ptr 1 0 0],.map used] ⟨B o,[],[]⟩:=by
 refine Fn.goR Px Tryz.func329 fun P hP Q hQ=>?_
 conv=>cbv
 refine .go hP Tryz.underlying256 (by kernel_rfl) (by kernel_rfl) (by kernel_rfl) fun b1 aa=>?_
 conv=>cbv
 cases b1
 conv=>cbv
 have e:true=El (⟨xid,xtex,xsur⟩:Bs) used:=(by unfold El;simp[←aa])
 rw[hr]at e
 subst e
 exact hQ _ _ (.of [] (.inl rfl) rfl rfl rfl rfl)
 conv=>cbv
 have e:false=El (⟨xid,xtex,xsur⟩:Bs) used:=(by unfold El;simp[←aa])
 rw[hr]at e
 subst e
 exact hQ _ _ (.of [] (.inl rfl) rfl rfl rfl rfl)
def Fk(l:List Bs)(used:List Int):Int:=U7 (fun x=>El x used) l
theorem Oe{o:Int}(hl:l.map A5=xl)(hnl:nl=l.length)(hn:l.length<2^40)(hr:Fk l used=o):Fn Tryz.prog 302 [.ref 0 0 nl,.clo 329 [.ptr 1 0 0]] [.row 3 false xl,.box 256 [.ptr 2 0 0],.map used] ⟨I o,[],[]⟩:=by
 refine Fn.goR Px Tryz.func302 fun P hP Q hQ=>?_
 conv=>cbv
 refine .go fun v1 ai=>?_
 conv=>cbv
 refine LoopW.lp (κ:=Int) Px hP [] [0,1,7] (fun i8=>[(8,I i8)]) (fun i8=>[])
  (fun i8=>0≤i8∧i8≤l.length∧∀(j:Nat) (hj:j<l.length),j<i8.toNat→El l[j] used=false)
  (fun i8=>(l.length - i8).toNat) (0) ⟨by omega,by omega,fun j _ h=>by simp at h⟩ ⟨rfl,trivial⟩ rfl ?_
 rintro i8 J ⟨h0,h1,hb⟩ hJ
 conv=>cbv
 refine .lss (fun h2=>?_) fun h2=>?_
 conv=>cbv
 refine .go i8.toNat fun p3 af ag=>?_
 conv=>cbv
 refine .go hl fun ah ⟨ad,aa,ab⟩ ae=>?_
 conv=>cbv
 subst af
 generalize ac:El (⟨ad,aa,ab⟩:Bs) used=r5
 refine .bx [1,2] [2] hP (N4 ac) rfl rfl rfl rfl ?_
 cases r5
 conv=>cbv
 refine .add fun v6 aj=>?_
 conv=>cbv
 exact .go [] (v6) (hJ _ ⟨by omega,by omega,fun j hj h=>if e:j=i8.toNat then by subst e;rw[←ae];exact ac else hb j hj (by omega)⟩ mlt)
 conv=>cbv
 have e:i8=Fk l used:=(by exact Ob (p:=fun x=>El x used) h0 (by omega) (by rw[←ae];exact ac) hb)
 rw[hr]at e
 subst e
 exact hQ _ _ (.of [] (.inl rfl) rfl rfl rfl rfl)
 conv=>cbv
 have e:(-1)=Fk l used:=(by exact Jk (p:=fun x=>El x used) fun j hj=>hb j hj (by omega))
 rw[hr]at e
 subst e
 exact hQ _ _ (.of [] (.inl rfl) rfl rfl rfl rfl)
def Fd(l:List Bs)(used:List Int):List Bs:=l.filter (fun x=>!El x used)
theorem Nq{o:List Bs}{xf:List (List D)}{no:Nat}(hl:l.map A5=xl)(hnl:nl=l.length)(hn:l.length<2^40)(hr:Fd l used=o)(hf:(o++List.replicate (l.length - o.length) (⟨0,tx [],0⟩:Bs)).map A5=xf)(hno:no=o.length):Fn Tryz.prog 328 [.ref 0 0 nl,.clo 329 [.ptr 1 0 0]] [.row 3 false xl,.box 256 [.ptr 2 0 0],.map used] ⟨.ref 0 0 no,[],[(0,.row 3 false xf)]⟩:=by
 refine Fn.goR Px Tryz.func328 fun P hP Q hQ=>?_
 conv=>cbv
 generalize af:Fk l used=r1
 refine .bx [0,1,2] [2] hP (Oe hl (by first|rfl|omega|(simp;omega)) hn af) rfl rfl rfl rfl ?_
 conv=>cbv
 refine .eql (fun h2=>?_) fun h2=>?_
 conv=>cbv
 have e:l=o:=by rw[←hr];unfold Fd;symm;rw[List.filter_eq_self];intro x hx;rw[XiZ (p:=fun x=>El x used) af (by omega) x hx];rfl
 subst e
 obtain rfl:xl=xf:=by rw[←hl,←hf];simp
 obtain rfl:nl=no:=by omega
 exact hQ _ _ (.of [] (.inl rfl) rfl rfl rfl rfl)
 conv=>cbv
 have hd:=Xik (p:=fun x=>El x used) af h2
 refine .add fun v3 am=>?_
 conv=>cbv
 refine LoopW.lp (κ:=Int×Int×(List (List D))) Px hP [] [0,1] (fun(i5,i6,aa)=>[(5,I i5),(6,I i6)]) (fun(i5,i6,aa)=>[(0,.row 3 false aa)])
  (fun(i5,i6,aa)=>∃(w0:List Bs),w0.map A5=aa∧(0≤i5∧i5<i6∧i6≤l.length)∧w0.length=l.length∧w0.take i5.toNat=(l.take i6.toNat).filter (fun x=>!El x used)∧w0.drop i6.toNat=l.drop i6.toNat)
  (fun(i5,i6,aa)=>(l.length - i6).toNat) (r1,v3,xl) ⟨l,hl,by omega,rfl,by rw[hd.2.2,am],rfl⟩ ⟨rfl,rfl,trivial⟩ rfl ?_
 rintro⟨i5,i6,aa⟩ J ⟨w0,ae,hb,hwl,hwt,hwd⟩ hJ
 conv=>cbv
 refine .go fun v4 az=>?_
 conv=>cbv
 refine .lss (fun h5=>?_) fun h5=>?_
 conv=>cbv
 refine .go i6.toNat fun p6 an au=>?_
 conv=>cbv
 refine .go ae fun aj ⟨ad,ab,ac⟩ ao=>?_
 conv=>cbv
 subst an
 have ag:(⟨ad,ab,ac⟩:Bs)=l[i6.toNat]:=ao.trans (df_at aj (by omega) hwd)
 generalize ah:El (⟨ad,ab,ac⟩:Bs) used=r8
 refine .bx [1,2] [2] hP (N4 ah) rfl rfl rfl rfl ?_
 cases r8
 conv=>cbv
 refine .go i5.toNat fun p9 ap aw=>?_
 conv=>cbv
 refine .all ((⟨ad,ab,ac⟩:Bs)) ae rfl fun aq ak=>?_
 conv=>cbv
 refine .add fun al ax=>?_
 conv=>cbv
 refine .add fun ai ay=>?_
 conv=>cbv
 have hk:=Xix (i:=i5.toNat) (p:=fun x=>El x used) (show i6.toNat<l.length by omega) (by omega) hwl hwt hwd (by rw[←ag];exact ah)
 rw[←ag]at hk
 subst ap
 exact .go [] (al,ai,aq) (hJ _ ⟨_,ak,by omega,by rw[List.length_set];exact hwl,by rw[show al.toNat=i5.toNat+1 by omega,show ai.toNat=i6.toNat+1 by omega];exact hk.1,by rw[show ai.toNat=i6.toNat+1 by omega];exact hk.2⟩ mlt)
 conv=>cbv
 refine .add fun v9 a0=>?_
 conv=>cbv
 have hk:=XiQ (p:=fun x=>El x used) (show i6.toNat<l.length by omega) hwt hwd (by rw[←ag];exact ah)
 exact .go [] (i5,v9,aa) (hJ _ ⟨_,ae,by omega,hwl,by rw[show v9.toNat=i6.toNat+1 by omega];exact hk.1,by rw[show v9.toNat=i6.toNat+1 by omega];exact hk.2⟩ mlt)
 conv=>cbv
 refine .lo fun on6 n6 hon6 a1=>?_
 conv=>cbv
 refine .goN (zz:=[(.int .i64 0,0),(.string ⟨#[]⟩,0),(.int .i64 0,0)]) (⟨0,tx [],0⟩:Bs) hP ae Tryz.underlying37 (by kernel_rfl) rfl rfl (by decide) fun z7 ar=>?_
 conv=>cbv
 refine .hi fun on8 n8 hon8 a2=>?_
 conv=>cbv
 have e:w0.take on6=o:=by rw[hon6,Nat.zero_add,hwt,List.take_of_length_le (by omega),←hr];rfl
 obtain⟨e1,e2⟩:=Xjt (by omega) (by omega) e ar
 rw[hwl,hf]at e2
 subst e2
 obtain rfl:n8=no:=by omega
 subst hon8
 exact hQ _ _ (.of [] (.inl rfl) rfl rfl rfl rfl)
end
section
open Go Go.Proofs
set_option maxRecDepth 20000
set_option maxHeartbeats 4000000
def Z0:List (Nat×TyRow):=[ty3,ty9,Xdq,XeB,XdK,Xbd,Xbh,Xjh]
theorem Xa9:B1 Tryz.prog Z0:=B1.of (by kernel_rfl)
theorem Yh:Setup Tryz.prog Z0:=⟨Xa9,mixed⟩
def Pv:List Al→List ByteArray→Int→Bool
 |now,[],id=>now.any fun e=>decide (e.id_=id)
 |now,s::ss,id=>(now.any fun e=>decide (e.id_=id))||Pv (Ay now s).1 ss id
def N1(nodes:List Bs)(old:List Al)(steps:List ByteArray):List Bs:=nodes.filter fun x=>Pv old steps x.id_
theorem Xdm{l:List Al}{k:Nat}{id:Int}(hk:k<l.length):(l.take (k+1)).any (fun e=>decide (e.id_=id))=((l.take k).any (fun e=>decide (e.id_=id))||decide (l[k].id_=id)):=by
 rw[List.take_succ_eq_append_getElem hk,List.any_append]
 simp
theorem XdW{ks:List Int}{n id:Int}:id∈N5 ks n↔id∈ks∨n=id:=by
 unfold N5
 split
 ·constructor
  ·exact .inl
  ·rintro(h|rfl)
   ·exact h
   ·assumption
 ·rw[List.mem_append,List.mem_singleton]
  constructor
  ·rintro(h|rfl)
   ·exact .inl h
   ·exact .inr rfl
  ·rintro(h|rfl)
   ·exact .inl h
   ·exact .inr rfl
theorem Rh{Ah:List Bs}{Bk:List (List D)}{Ak:List Al}{Bh:List (List D)}{Aj:List Al}{Bf:List (List D)}{Ai:List ByteArray}{Bl:List (List D)}{An:Int}{Am:Int}{ndnod:Nat}{ndste:Nat}{o:List Bs}{no:Nat}{xf:List (List D)}(Ap:Ah.map A5=Bk)(As:Ak.map Ae=Bh)(Au:Aj.map Ae=Bf)(At:Ai.map cS=Bl)(hndnod:ndnod=Ah.length)(hndste:ndste=Ai.length)(hn:Ah.length<2^40)(hol:Aj.length≤1000000000)(hsl:Ai.length≤1000000000)(hss:okS Ai)(hr:N1 Ah Aj Ai=o)(hno:no=o.length)(hf:(o++List.replicate (Ah.length - o.length) (⟨0,tx [],0⟩:Bs)).map A5=xf):Fn Tryz.prog 297 [.ptr 0 0 0] [.box 40 [.ref 1 0 ndnod,.d (.row 2 Bh),.d (.row 2 Bf),.ref 2 0 ndste,I An,I Am],.row 3 false Bk,.row 1 false Bl] ⟨.tup [],[],[(0,.box 40 [.ref 1 0 no,.d (.row 2 Bh),.d (.row 2 Bf),.ref 2 0 ndste,I An,I Am]),(1,.row 3 false xf)]⟩:=by
 refine Fn.goR Yh Tryz.func297 fun P hP Q hQ=>?_
 conv=>cbv
 refine LoopW.lp (κ:=(List (List D))×Int×(List Int)) Yh hP [] [0,2] (fun(ab,i4,ks3)=>[(3,.d (.row 2 ab)),(4,I i4)]) (fun(ab,i4,ks3)=>[(3,.map ks3)])
  (fun(ab,i4,ks3)=>∃(u3:List Al),u3.map Ae=ab∧0≤i4∧i4≤Ai.length∧u3.length≤Aj.length+i4∧∀id,(id∈ks3∨Pv u3 (Ai.drop i4.toNat) id=true)↔Pv Aj Ai id=true)
  (fun(ab,i4,ks3)=>(Ai.length - i4).toNat) (Bf,0,[]) ⟨Aj,Au,by omega,by omega,by omega,fun id=>by simp⟩ ⟨rfl,rfl,trivial⟩ rfl ?_
 rintro⟨ab,i4,ks3⟩ J ⟨u3,ae,h0,h1,hun,hio⟩ hJ
 conv=>cbv
 refine .go ae fun v1 aw=>?_
 conv=>cbv
 refine LoopW.lp (κ:=Int×(List Int)) Yh hP [] [0,2,3,4,14,15] (fun(aa,ks3p)=>[(16,I aa)]) (fun(aa,ks3p)=>[(3,.map ks3p)])
  (fun(aa,ks3p)=>0≤aa∧aa≤u3.length∧∀id,id∈ks3p↔id∈ks3∨((u3.take aa.toNat).any fun e=>decide (e.id_=id))=true)
  (fun(aa,ks3p)=>(u3.length - aa).toNat) (0,ks3) ⟨by omega,by omega,fun id=>by simp⟩ ⟨rfl,trivial⟩ rfl ?_
 rintro⟨aa,ks3p⟩ J1 ⟨k0,k1,hi⟩ al
 conv=>cbv
 refine .lss (fun h2=>?_) fun h2=>?_
 conv=>cbv
 refine .go aa.toNat ae fun ag ⟨am,ar⟩ an=>?_
 conv=>cbv
 refine .go hP Tryz.underlying256 (by kernel_rfl) fun ks4 hks4=>?_
 conv=>cbv
 refine .add fun v5 ax=>?_
 conv=>cbv
 exact .go [] (v5,ks4) (al _ ⟨by omega,by omega,fun id=>by rw[hks4,XdW,hi id,show v5.toNat=aa.toNat+1 by omega,Xdm ag,←an,Bool.or_eq_true,or_assoc,decide_eq_true_eq]⟩ mlt)
 conv=>cbv
 refine .go fun v3 ay=>?_
 conv=>cbv
 refine .eql (fun h4=>?_) fun h4=>?_
 conv=>cbv
 have hks:∀id,id∈ks3p↔Pv Aj Ai id=true:=fun id=>by rw[hi,←hio id,List.take_of_length_le (show u3.length≤aa.toNat by omega),List.drop_of_length_le (show Ai.length≤i4.toNat by omega)];show _↔_∨(u3.any fun e=>decide (e.id_=id))=true;exact Iff.rfl
 generalize ah:Fd Ah ks3p=l5
 generalize ai:(l5++List.replicate (Ah.length - l5.length) (⟨0,tx [],0⟩:Bs)).map A5=ao
 obtain⟨nl5,hnl5⟩:∃m,m=l5.length:=⟨_,rfl⟩
 refine .bx [1,4,3] [3] hP (Nq Ap (by first|rfl|omega|(simp;omega)) hn ah ai hnl5) rfl rfl rfl rfl ?_
 conv=>cbv
 have e:l5=o:=by rw[←ah,←hr];unfold Fd El N1;congr 1;funext x;simp only[Bool.not_not,hks x.id_,Bool.decide_eq_true]
 subst e
 obtain rfl:ao=xf:=by rw[←ai,←hf]
 obtain rfl:nl5=no:=by omega
 exact hQ _ _ (.of [] (.inr rfl) rfl rfl rfl rfl)
 conv=>cbv
 refine .go i4.toNat fun p5 ap au=>?_
 conv=>cbv
 refine .go At fun ac e6 aj=>?_
 conv=>cbv
 have az:e6.size≤1000000000:=aj▸hss _ (List.getElem_mem ac)
 subst ap
 have hdc:Ai.drop i4.toNat=e6::Ai.drop (i4.toNat+1):=by rw[List.drop_eq_getElem_cons ac,←aj]
 rcases af:Ay u3 e6 with⟨aq,a0⟩
 have hsl7:=P2 af
 generalize ad:aq.map Ae=ak
 refine .dd hP (Q2 ae (by omega) (by omega) af ad) ?_
 conv=>cbv
 refine .add fun v8 a1=>?_
 conv=>cbv
 exact .go [] (ak,v8,ks3p) (hJ _ ⟨_,ad,by omega,by omega,by omega,fun id=>by rw[←hio id,hi id,show v8.toNat=i4.toNat+1 by omega,hdc,List.take_of_length_le (show u3.length≤aa.toNat by omega)];show _↔_∨((u3.any fun e=>decide (e.id_=id))||Pv (Ay u3 e6).1 (Ai.drop (i4.toNat+1)) id)=true;rw[af,Bool.or_eq_true,or_assoc]⟩ mlt)
end
section
open Go Go.Proofs
set_option maxRecDepth 20000
set_option maxHeartbeats 4000000
def Zs:List (Nat×TyRow):=[ty9,Xdq,XdK,Xbd,ty255]
theorem Yu:B1 Tryz.prog Zs:=B1.of (by kernel_rfl)
theorem Xgq:Setup Tryz.prog Zs:=⟨Yu,mixed⟩
theorem Xu{l:List ByteArray}{s:ByteArray}(h:okS l)(hs:s.size≤1000000000):okS (l++[s]):=fun t ht=>by
 rcases List.mem_append.1 ht with ht|ht
 ·exact h t ht
 ·rw[List.mem_singleton.1 ht];exact hs
theorem XbM{Ah:List Bs}{Bk:List (List D)}{Ak:List Al}{Bh:List (List D)}{Aj:List Al}{Bf:List (List D)}{Ai:List ByteArray}{Bl:List (List D)}{An:Int}{Am:Int}{ndnod:Nat}{ndste:Nat}{step:ByteArray}{xe:List (List D)}{o:List Bs}{no:Nat}{xf xs:List (List D)}{ns:Nat}(Ap:Ah.map A5=Bk)(As:Ak.map Ae=Bh)(Au:Aj.map Ae=Bf)(At:Ai.map cS=Bl)(hndnod:ndnod=Ah.length)(hndste:ndste=Ai.length)(hn:Ah.length<2^40)(hel:Ak.length≤4000000000)(hss0:step.size≤1000000000)(hol:Aj.length≤1000000000)(hsl:Ai.length<1000000000)(hss:okS Ai)(he:(Ay Ak step).1.map Ae=xe)(hr:N1 Ah Aj (Ai++[step])=o)(hno:no=o.length)(hf:(o++List.replicate (Ah.length - o.length) (⟨0,tx [],0⟩:Bs)).map A5=xf)(hs:(Ai++[step]).map cS=xs)(hns:ns=(Ai++[step]).length):Fn Tryz.prog 295 [.ptr 0 0 0,S step] [.box 40 [.ref 1 0 ndnod,.d (.row 2 Bh),.d (.row 2 Bf),.ref 2 0 ndste,I An,I Am],.row 3 false Bk,.row 1 false Bl] ⟨.tup [],[.row 1 false xs],[(0,.box 40 [.ref 1 0 no,.d (.row 2 xe),.d (.row 2 Bf),.ref 3 0 ns,I An,I Am]),(1,.row 3 false xf),(2,.dead)]⟩:=by
 refine Fn.goR Xgq Tryz.func295 fun P hP Q hQ=>?_
 conv=>cbv
 refine .one step At rfl fun ai z1 ad ae=>?_
 conv=>cbv
 rcases af:Ay Ak step with⟨aj,am⟩
 generalize aa:aj.map Ae=ag
 refine .dd hP (Q2 As hel hss0 af aa) ?_
 conv=>cbv
 generalize ah:N1 Ah Aj (Ai++[step])=o4
 obtain⟨ak,ab⟩:∃m,m=o4.length:=⟨_,rfl⟩
 generalize ac:(o4++List.replicate (Ah.length - o4.length) (⟨0,tx [],0⟩:Bs)).map A5=al
 refine .bx [0,1,4] [1,4] hP (Rh Ap aa Au ae (by first|assumption|omega) (by first|assumption|omega|rfl|(simp at*;omega)) hn hol (by rw[List.length_append];simp;omega) (Xu hss hss0) ah ab ac) rfl rfl rfl rfl ?_
 conv=>cbv
 obtain rfl:ag=xe:=by rw[←aa,←he,af]
 obtain rfl:z1=xs:=by rw[←ae,←hs]
 obtain rfl:ai=ns:=by rw[hns,ad,List.length_append];rfl
 obtain rfl:o4=o:=by rw[←ah,←hr]
 obtain rfl:ak=no:=by rw[hno,ab]
 obtain rfl:al=xf:=by rw[←ac,←hf]
 exact hQ _ _ (.of [4] (.inr rfl) rfl rfl rfl rfl)
end
section
open Go Go.Proofs
set_option maxRecDepth 20000
set_option maxHeartbeats 4000000
def XaB:List (Nat×TyRow):=[Xdq,XeB,XdK,Xbd]
theorem Za:B1 Tryz.prog XaB:=B1.of (by kernel_rfl)
theorem Xcj:Setup Tryz.prog XaB:=⟨Za,mixed⟩
variable {Ah:List Bs} {Bk Bh Bf Bl:List (List D)} {Ak Aj:List Al} {Ai:List ByteArray} {An Am:Int}
theorem M8{nn ns:Nat}(Ap:Ah.map A5=Bk)(As:Ak.map Ae=Bh)(Au:Aj.map Ae=Bf)(At:Ai.map cS=Bl)(hn:Ah.length≤4000000000)(he:Ak.length≤4000000000)(ho:Aj.length≤4000000000)(hs:Ai.length≤4000000000)(hnn:nn=Ah.length)(hns:ns=Ai.length):Fn Tryz.prog 106 [.agg [.d (.row 3 Bk),.d (.row 2 Bh),.d (.row 2 Bf),.d (.row 1 Bl),I An,I Am]] [] ⟨.agg [.ref 0 0 nn,.d (.row 2 Bh),.d (.row 2 Bf),.ref 1 0 ns,I An,I Am],[.row 3 false Bk,.row 1 false Bl],[]⟩:=by
 refine Fn.goR Xcj Tryz.func106 fun P hP Q hQ=>?_
 conv=>cbv
 generalize ac:C2 Ah=l1
 generalize aa:l1.map A5=ai
 obtain⟨nl1,hnl1⟩:∃m,m=l1.length:=⟨_,rfl⟩
 refine .ddA hP (Ki Ap (by omega) ac aa hnl1) rfl rfl rfl (aa▸Ld (fun _=>rfl) l1) ?_
 conv=>cbv
 generalize ad:C2 Ak=l2
 generalize ae:l2.map Ae=aj
 refine .dd hP (Ch As (by omega) ad ae) ?_
 conv=>cbv
 generalize af:C2 Aj=l3
 generalize ag:l3.map Ae=ak
 refine .dd hP (Ch Au (by omega) af ag) ?_
 conv=>cbv
 generalize ah:C2 Ai=l4
 generalize ab:l4.map cS=al
 obtain⟨nl4,hnl4⟩:∃m,m=l4.length:=⟨_,rfl⟩
 refine .ddA hP (Ie At (by omega) ah ab hnl4) rfl rfl rfl (ab▸Ld (fun _=>rfl) l4) ?_
 conv=>cbv
 obtain rfl:l1=Ah:=ac.symm
 obtain rfl:l2=Ak:=ad.symm
 obtain rfl:l3=Aj:=af.symm
 obtain rfl:l4=Ai:=ah.symm
 obtain rfl:nl1=nn:=by rw[hnn,hnl1]
 obtain rfl:nl4=ns:=by rw[hns,hnl4]
 obtain rfl:ai=Bk:=by rw[←aa,Ap]
 obtain rfl:aj=Bh:=by rw[←ae,As]
 obtain rfl:ak=Bf:=by rw[←ag,Au]
 obtain rfl:al=Bl:=by rw[←ab,At]
 exact hQ _ _ (.of [6,7] (.inl rfl) rfl rfl rfl rfl)
theorem Lu(Ap:Ah.map A5=Bk)(As:Ak.map Ae=Bh)(Au:Aj.map Ae=Bf)(At:Ai.map cS=Bl)(hn:Ah.length≤4000000000)(he:Ak.length≤4000000000)(ho:Aj.length≤4000000000)(hs:Ai.length≤4000000000):Fn Tryz.prog 106 [.agg [.d (.row 3 Bk),.d (.row 2 Bh),.d (.row 2 Bf),.d (.row 1 Bl),I An,I Am]] [] ⟨.agg [.d (.row 3 Bk),.d (.row 2 Bh),.d (.row 2 Bf),.d (.row 1 Bl),I An,I Am],[],[]⟩:=by
 refine Fn.go Xcj Tryz.func106 fun P hP Q hQ=>?_
 conv=>cbv
 generalize aa:C2 Ah=l1
 generalize ab:l1.map A5=ai
 refine .dd hP (Kk Ap (by omega) aa ab) ?_
 conv=>cbv
 generalize ac:C2 Ak=l2
 generalize ad:l2.map Ae=aj
 refine .dd hP (Ch As (by omega) ac ad) ?_
 conv=>cbv
 generalize ae:C2 Aj=l3
 generalize af:l3.map Ae=ak
 refine .dd hP (Ch Au (by omega) ae af) ?_
 conv=>cbv
 generalize ag:C2 Ai=l4
 generalize ah:l4.map cS=al
 refine .dd hP (Iw At (by omega) ag ah) ?_
 conv=>cbv
 obtain rfl:l1=Ah:=aa.symm
 obtain rfl:l2=Ak:=ac.symm
 obtain rfl:l3=Aj:=ae.symm
 obtain rfl:l4=Ai:=ag.symm
 obtain rfl:ai=Bk:=by rw[←ab,Ap]
 obtain rfl:aj=Bh:=by rw[←ad,As]
 obtain rfl:ak=Bf:=by rw[←af,Au]
 obtain rfl:al=Bl:=by rw[←ah,At]
 exact hQ _ _ (.one (.inl rfl) rfl (.agg (.d rfl rfl (.d rfl rfl (.d rfl rfl (.d rfl rfl (.d rfl rfl (.d rfl rfl .nil)))))) .nil))
end
section
open Go Go.Proofs
set_option maxRecDepth 20000
set_option maxHeartbeats 4000000
def Ug(d:Ac)(s:ByteArray):Ac:=⟨N1 d.nodes_ d.old_ (d.steps_++[s]),(Ay d.entries_ s).1,d.old_,d.steps_++[s],d.room_,d.next_⟩
end
section
open Go Go.Proofs
set_option maxRecDepth 20000
set_option maxHeartbeats 4000000
end
section
open Go Go.Proofs
set_option maxRecDepth 20000
set_option maxHeartbeats 4000000
def Zl:List (Nat×TyRow):=[ty3,ty9,XeB,Xbd,Zu]
theorem Xbb:B1 Tryz.prog Zl:=B1.of (by kernel_rfl)
theorem XgI:Setup Tryz.prog Zl:=⟨Xbb,mixed⟩
def Cv(d:Ac)(name:ByteArray):Ac×Int:=if B3 d=false∨Cm d name<0 then(d,3)else
 (⟨d.nodes_.set (Cm d name).toNat ⟨(d.nodes_.getD (Cm d name).toNat ⟨0,tx [],0⟩).id_,(d.nodes_.getD (Cm d name).toNat ⟨0,tx [],0⟩).text_,((d.nodes_.getD (Cm d name).toNat ⟨0,tx [],0⟩).text_.size:Int)⟩,d.entries_,d.old_,d.steps_,d.room_,d.next_⟩,0)
theorem Qo{Ah:List Bs}{Bk:List (List D)}{Ak:List Al}{Bh:List (List D)}{Aj:List Al}{Bf:List (List D)}{Ai:List ByteArray}{Bl:List (List D)}{An:Int}{Am:Int}{name:ByteArray}{F4:List Bs}{D5:List (List D)}{F6:List Al}{D3:List (List D)}{F9:List Al}{D0:List (List D)}{Ga:List ByteArray}{Dz:List (List D)}{F7:Int}{F5:Int}{ob:Int}(Ap:Ah.map A5=Bk)(As:Ak.map Ae=Bh)(Au:Aj.map Ae=Bf)(At:Ai.map cS=Bl)(hn:Ah.length≤1000000000)(he:Ak.length≤1000000000)(ho:Aj.length≤1000000000)(hs:Ai.length<1000000000)(hss:okS Ai)(af:H2 (⟨Ah,Ak,Aj,Ai,An,Am⟩:Ac))(hr:Cv (⟨Ah,Ak,Aj,Ai,An,Am⟩:Ac) name=(⟨F4,F6,F9,Ga,F7,F5⟩,ob))(A0:F4.map A5=D5)(A3:F6.map Ae=D3)(A1:F9.map Ae=D0)(A2:Ga.map cS=Dz):Fn Tryz.prog 236 [.agg [.d (.row 3 Bk),.d (.row 2 Bh),.d (.row 2 Bf),.d (.row 1 Bl),I An,I Am],S name] [] ⟨.tup [.agg [.d (.row 3 D5),.d (.row 2 D3),.d (.row 2 D0),.d (.row 1 Dz),I F7,I F5],I ob],[],[]⟩:=by
 refine Fn.go XgI Tryz.func236 fun P hP Q hQ=>?_
 conv=>cbv
 obtain⟨n2,ah⟩:∃m,m=Ah.length:=⟨_,rfl⟩
 obtain⟨n3,ai⟩:∃m,m=Ai.length:=⟨_,rfl⟩
 refine .ddN hP (M8 Ap As Au At (by omega) (by omega) (by omega) (by omega) ah ai) rfl ?_
 conv=>cbv
 generalize ab:Cm (⟨Ah,Ak,Aj,Ai,An,Am⟩:Ac) name=r4
 refine .dd hP (Lp Ap As Au At af.1 ab) ?_
 conv=>cbv
 have hb:=G1 ab
 simp only[]at hb
 generalize ad:B3 (⟨Ah,Ak,Aj,Ai,An,Am⟩:Ac)=r5
 refine .dd hP (Sh Ap As Au At af ad) ?_
 cases r5
 conv=>cbv
 have e:((⟨Ah,Ak,Aj,Ai,An,Am⟩:Ac),3)=Cv (⟨Ah,Ak,Aj,Ai,An,Am⟩:Ac) name:=(by unfold Cv;rw[if_pos (.inl ad)])
 rw[hr]at e
 simp only[Prod.mk.injEq,Ac.mk.injEq]at e
 obtain⟨⟨rfl,rfl,rfl,rfl,rfl,rfl⟩,rfl⟩:=e
 refine hQ _ _ ?_
 exact .many (.inl rfl) rfl rfl (.agg (.ref rfl (Aq Ap) (Br Ap A0) (.d rfl (Ag As A3) (.d rfl (Ag Au A1) (.ref rfl (Aq At) (Br At A2) (.d rfl rfl (.d rfl rfl (.nil))))))) (.d rfl rfl (.nil)))
 conv=>cbv
 refine .lss (fun h6=>?_) fun h6=>?_
 conv=>cbv
 have e:((⟨Ah,Ak,Aj,Ai,An,Am⟩:Ac),3)=Cv (⟨Ah,Ak,Aj,Ai,An,Am⟩:Ac) name:=(by unfold Cv;rw[if_pos (.inr (by rw[ab];exact h6))])
 rw[hr]at e
 simp only[Prod.mk.injEq,Ac.mk.injEq]at e
 obtain⟨⟨rfl,rfl,rfl,rfl,rfl,rfl⟩,rfl⟩:=e
 refine hQ _ _ ?_
 exact .many (.inl rfl) rfl rfl (.agg (.ref rfl (Aq Ap) (Br Ap A0) (.d rfl (Ag As A3) (.d rfl (Ag Au A1) (.ref rfl (Aq At) (Br At A2) (.d rfl rfl (.d rfl rfl (.nil))))))) (.d rfl rfl (.nil)))
 conv=>cbv
 refine .go r4.toNat fun p7 aq an=>?_
 conv=>cbv
 refine .go Ap fun ao ⟨ap,ae,aj⟩ ak=>?_
 conv=>cbv
 refine .go fun v9 al=>?_
 conv=>cbv
 refine .go r4.toNat fun aa ag am=>?_
 conv=>cbv
 refine .go (⟨(Ah.getD aa ⟨0,tx [],0⟩).id_,(Ah.getD aa ⟨0,tx [],0⟩).text_,v9⟩:Bs) Ap (by omega) (by rw[←gD (show aa<Ah.length by omega)];rfl) (Nat.le_refl 3) fun ar ac=>?_
 conv=>cbv
 have e:((⟨Ah.set aa (⟨(Ah.getD aa ⟨0,tx [],0⟩).id_,(Ah.getD aa ⟨0,tx [],0⟩).text_,v9⟩:Bs),Ak,Aj,Ai,An,Am⟩:Ac),0)=Cv (⟨Ah,Ak,Aj,Ai,An,Am⟩:Ac) name:=(by unfold Cv;rw[if_neg (by rintro(h|h);rw[ad]at h;cases h;rw[ab]at h;omega),ab];dsimp only;have e9:ae=(Ah.getD aa ⟨0,tx [],0⟩).text_:=(by have h9:p7=aa:=(by omega);subst h9;rw[←gD (show p7<Ah.length by omega),←ak]);rw[al,e9,←ag])
 rw[hr]at e
 simp only[Prod.mk.injEq,Ac.mk.injEq]at e
 obtain⟨⟨rfl,rfl,rfl,rfl,rfl,rfl⟩,rfl⟩:=e
 refine hQ _ _ ?_
 exact .many (.inl rfl) rfl rfl (.agg (.ref rfl (Aq ac) (Br ac A0) (.d rfl (Ag As A3) (.d rfl (Ag Au A1) (.ref rfl (Aq At) (Br At A2) (.d rfl rfl (.d rfl rfl (.nil))))))) (.d rfl rfl (.nil)))
end
section
open Go Go.Proofs
set_option maxRecDepth 20000
set_option maxHeartbeats 4000000
def Ze:List (Nat×TyRow):=[ty3,ty9,Xdq,XeB,XdK,Xbd,Zu]
theorem Yx:B1 Tryz.prog Ze:=B1.of (by kernel_rfl)
theorem Xd:Setup Tryz.prog Ze:=⟨Yx,mixed⟩
theorem Xca{α:Type}{f:α→Int}(h:∀x,0≤f x):∀{l:List α} {a:Int},a≤(l.map f).foldl (·+·) a
 |[],a=>by simp
 |x::l,a=>by
  rw[List.map_cons,List.foldl_cons]
  have:=Xca h (l:=l) (a:=a+f x)
  have:=h x
  omega
theorem XdD(d:Ac):0≤Fe d:=Xca (f:=fun n:Bs=>(n.text_.size:Int)) (fun x=>by omega)
theorem Hi{d:Ac}(h:B3 d=true):0≤d.room_∧d.room_≤1000000000∧1≤d.next_∧d.next_≤1000000000∧0≤Fe d∧Fe d≤d.room_:=by
 have h1:=diskOk_iff.1 h
 exact⟨h1.1.1,h1.1.2,h1.2.1.1,h1.2.1.2,XdD d,h1.2.2.2.1⟩
def gN(d:Ac)(i:Int):Bs:=d.nodes_.getD i.toNat ⟨0,tx [],0⟩
def Xi9(d:Ac)(i:Int)(x:Bs):Ac:=⟨d.nodes_.set i.toNat x,d.entries_,d.old_,d.steps_,d.room_,d.next_⟩
def Ao(d:Ac)(name text:ByteArray):Ac×Int:=if B3 d=false∨Cm d name<0 then(d,3)else
 (Xi9 d (Cm d name) ⟨(gN d (Cm d name)).id_,(gN d (Cm d name)).text_++text.extract 0 (min (text.size:Int) (d.room_ - Fe d)).toNat,(gN d (Cm d name)).sure_⟩,if d.room_ - Fe d<text.size then 5 else 0)
def Ax(d:Ac)(name:ByteArray):Ac×Int:=if B3 d=false then(d,3)else if Bj name=false then(d,1)else if 0≤A7 d.entries_ name then(d,2)else if 16≤d.entries_.length∨64≤d.nodes_.length∨1000000000≤d.next_ then(d,4)else
 (Ug ⟨d.nodes_++[⟨d.next_,tx [],0⟩],d.entries_,d.old_,d.steps_,d.room_,d.next_+1⟩ (tx [43]++name++tx [58]++By d.next_),0)
def Db(d:Ac):Ac:=if B3 d=false then d else⟨N1 d.nodes_ d.entries_ [],d.entries_,d.entries_,[],d.room_,d.next_⟩
variable {Ah F4:List Bs} {Bk Bh Bf Bl D5 D3 D0 Dz:List (List D)} {Ak Aj F6 F9:List Al} {Ai Ga:List ByteArray} {An Am F7 F5 ob:Int} {name:ByteArray}
theorem H6{text:ByteArray}(Ap:Ah.map A5=Bk)(As:Ak.map Ae=Bh)(Au:Aj.map Ae=Bf)(At:Ai.map cS=Bl)(hn:Ah.length≤1000000000)(he:Ak.length≤1000000000)(ho:Aj.length≤1000000000)(hs:Ai.length<1000000000)(hss:okS Ai)(ah:H2 (⟨Ah,Ak,Aj,Ai,An,Am⟩:Ac))(ht:text.size≤1000000000)(hr:Ao (⟨Ah,Ak,Aj,Ai,An,Am⟩:Ac) name text=(⟨F4,F6,F9,Ga,F7,F5⟩,ob))(A0:F4.map A5=D5)(A3:F6.map Ae=D3)(A1:F9.map Ae=D0)(A2:Ga.map cS=Dz):Fn Tryz.prog 233 [.agg [.d (.row 3 Bk),.d (.row 2 Bh),.d (.row 2 Bf),.d (.row 1 Bl),I An,I Am],S name,S text] [] ⟨.tup [.agg [.d (.row 3 D5),.d (.row 2 D3),.d (.row 2 D0),.d (.row 1 Dz),I F7,I F5],I ob],[],[]⟩:=by
 refine Fn.go Xd Tryz.func233 fun P hP Q hQ=>?_
 conv=>cbv
 obtain⟨n2,au⟩:∃m,m=Ah.length:=⟨_,rfl⟩
 obtain⟨n3,aw⟩:∃m,m=Ai.length:=⟨_,rfl⟩
 refine .ddN hP (M8 Ap As Au At (by omega) (by omega) (by omega) (by omega) au aw) rfl ?_
 conv=>cbv
 generalize ac:Cm (⟨Ah,Ak,Aj,Ai,An,Am⟩:Ac) name=r4
 refine .dd hP (Lp Ap As Au At ah.1 ac) ?_
 conv=>cbv
 have hb:=G1 ac
 simp only[]at hb
 generalize ae:B3 (⟨Ah,Ak,Aj,Ai,An,Am⟩:Ac)=r5
 refine .dd hP (Sh Ap As Au At ah ae) ?_
 cases r5
 conv=>cbv
 have e:((⟨Ah,Ak,Aj,Ai,An,Am⟩:Ac),3)=Ao (⟨Ah,Ak,Aj,Ai,An,Am⟩:Ac) name text:=(by unfold Ao;rw[if_pos (.inl ae)])
 rw[hr]at e
 simp only[Prod.mk.injEq,Ac.mk.injEq]at e
 obtain⟨⟨rfl,rfl,rfl,rfl,rfl,rfl⟩,rfl⟩:=e
 refine hQ _ _ ?_
 exact .many (.inl rfl) rfl rfl (.agg (.ref rfl (Aq Ap) (Br Ap A0) (.d rfl (Ag As A3) (.d rfl (Ag Au A1) (.ref rfl (Aq At) (Br At A2) (.d rfl rfl (.d rfl rfl (.nil))))))) (.d rfl rfl (.nil)))
 conv=>cbv
 refine .lss (fun h6=>?_) fun h6=>?_
 conv=>cbv
 have e:((⟨Ah,Ak,Aj,Ai,An,Am⟩:Ac),3)=Ao (⟨Ah,Ak,Aj,Ai,An,Am⟩:Ac) name text:=(by unfold Ao;rw[if_pos (.inr (by rw[ac];exact h6))])
 rw[hr]at e
 simp only[Prod.mk.injEq,Ac.mk.injEq]at e
 obtain⟨⟨rfl,rfl,rfl,rfl,rfl,rfl⟩,rfl⟩:=e
 refine hQ _ _ ?_
 exact .many (.inl rfl) rfl rfl (.agg (.ref rfl (Aq Ap) (Br Ap A0) (.d rfl (Ag As A3) (.d rfl (Ag Au A1) (.ref rfl (Aq At) (Br At A2) (.d rfl rfl (.d rfl rfl (.nil))))))) (.d rfl rfl (.nil)))
 conv=>cbv
 refine .go fun v7 ap=>?_
 conv=>cbv
 generalize ai:Fe (⟨Ah,Ak,Aj,Ai,An,Am⟩:Ac)=r8
 refine .dd hP (XcS Ap As Au At ah.1 ai) ?_
 conv=>cbv
 have hri:=Hi ae
 simp only[ai]at hri
 refine .sub fun v9 aq=>?_
 conv=>cbv
 refine .go fun a6 ak=>?_
 conv=>cbv
 refine .go r4.toNat fun aj a1 ax=>?_
 conv=>cbv
 refine .go Ap fun an ⟨ay,ab,ar⟩ af=>?_
 conv=>cbv
 refine .hi fun az ag=>?_
 conv=>cbv
 have a2:ab.size≤1000000000:=by have h9:=ah.1.2.1 _ (List.getElem_mem an);rw[←af]at h9;exact h9
 have a3:az.size≤text.size:=by rw[ag,ByteArray.size_extract];omega
 refine .go fun ao al a4=>?_
 conv=>cbv
 refine .go r4.toNat fun aa am a0=>?_
 conv=>cbv
 refine .go (⟨(Ah.getD aa ⟨0,tx [],0⟩).id_,ao,(Ah.getD aa ⟨0,tx [],0⟩).sure_⟩:Bs) Ap (by omega) (by rw[←gD (show aa<Ah.length by omega)];rfl) (show 1+1≤3 by decide) fun a7 ad=>?_
 conv=>cbv
 refine .go fun a8 a5=>?_
 conv=>cbv
 refine .lss (fun h18=>?_) fun h18=>?_
 conv=>cbv
 have e:((⟨Ah.set aa (⟨(Ah.getD aa ⟨0,tx [],0⟩).id_,ao,(Ah.getD aa ⟨0,tx [],0⟩).sure_⟩:Bs),Ak,Aj,Ai,An,Am⟩:Ac),5)=Ao (⟨Ah,Ak,Aj,Ai,An,Am⟩:Ac) name text:=(by unfold Ao;rw[if_neg (by rintro(h|h);rw[ae]at h;cases h;rw[ac]at h;omega),ac,ai];dsimp only;rw[if_pos (by omega)];unfold Xi9 gN;dsimp only;have e9:ab=(Ah.getD aa ⟨0,tx [],0⟩).text_:=(by have h9:aj=aa:=(by omega);subst h9;rw[←gD (show aj<Ah.length by omega),←af]);rw[←am,al,e9,ag,ak,ap,aq])
 rw[hr]at e
 simp only[Prod.mk.injEq,Ac.mk.injEq]at e
 obtain⟨⟨rfl,rfl,rfl,rfl,rfl,rfl⟩,rfl⟩:=e
 refine hQ _ _ ?_
 exact .many (.inl rfl) rfl rfl (.agg (.ref rfl (Aq ad) (Br ad A0) (.d rfl (Ag As A3) (.d rfl (Ag Au A1) (.ref rfl (Aq At) (Br At A2) (.d rfl rfl (.d rfl rfl (.nil))))))) (.d rfl rfl (.nil)))
 conv=>cbv
 have e:((⟨Ah.set aa (⟨(Ah.getD aa ⟨0,tx [],0⟩).id_,ao,(Ah.getD aa ⟨0,tx [],0⟩).sure_⟩:Bs),Ak,Aj,Ai,An,Am⟩:Ac),0)=Ao (⟨Ah,Ak,Aj,Ai,An,Am⟩:Ac) name text:=(by unfold Ao;rw[if_neg (by rintro(h|h);rw[ae]at h;cases h;rw[ac]at h;omega),ac,ai];dsimp only;rw[if_neg (by omega)];unfold Xi9 gN;dsimp only;have e9:ab=(Ah.getD aa ⟨0,tx [],0⟩).text_:=(by have h9:aj=aa:=(by omega);subst h9;rw[←gD (show aj<Ah.length by omega),←af]);rw[←am,al,e9,ag,ak,ap,aq])
 rw[hr]at e
 simp only[Prod.mk.injEq,Ac.mk.injEq]at e
 obtain⟨⟨rfl,rfl,rfl,rfl,rfl,rfl⟩,rfl⟩:=e
 refine hQ _ _ ?_
 exact .many (.inl rfl) rfl rfl (.agg (.ref rfl (Aq ad) (Br ad A0) (.d rfl (Ag As A3) (.d rfl (Ag Au A1) (.ref rfl (Aq At) (Br At A2) (.d rfl rfl (.d rfl rfl (.nil))))))) (.d rfl rfl (.nil)))
theorem Rg(Ap:Ah.map A5=Bk)(As:Ak.map Ae=Bh)(Au:Aj.map Ae=Bf)(At:Ai.map cS=Bl)(hn:Ah.length≤1000000000)(he:Ak.length≤1000000000)(ho:Aj.length≤1000000000)(hs:Ai.length<1000000000)(hss:okS Ai)(aw:H2 (⟨Ah,Ak,Aj,Ai,An,Am⟩:Ac))(hm:name.size≤1000000000)(hr:Ax (⟨Ah,Ak,Aj,Ai,An,Am⟩:Ac) name=(⟨F4,F6,F9,Ga,F7,F5⟩,ob))(A0:F4.map A5=D5)(A3:F6.map Ae=D3)(A1:F9.map Ae=D0)(A2:Ga.map cS=Dz):Fn Tryz.prog 237 [.agg [.d (.row 3 Bk),.d (.row 2 Bh),.d (.row 2 Bf),.d (.row 1 Bl),I An,I Am],S name] [] ⟨.tup [.agg [.d (.row 3 D5),.d (.row 2 D3),.d (.row 2 D0),.d (.row 1 Dz),I F7,I F5],I ob],[],[]⟩:=by
 refine Fn.go Xd Tryz.func237 fun P hP Q hQ=>?_
 conv=>cbv
 obtain⟨n2,ax⟩:∃m,m=Ah.length:=⟨_,rfl⟩
 obtain⟨n3,ay⟩:∃m,m=Ai.length:=⟨_,rfl⟩
 refine .ddN hP (M8 Ap As Au At (by omega) (by omega) (by omega) (by omega) ax ay) rfl ?_
 conv=>cbv
 generalize aa:B3 (⟨Ah,Ak,Aj,Ai,An,Am⟩:Ac)=r4
 refine .dd hP (Sh Ap As Au At aw aa) ?_
 cases r4
 conv=>cbv
 have e:((⟨Ah,Ak,Aj,Ai,An,Am⟩:Ac),3)=Ax (⟨Ah,Ak,Aj,Ai,An,Am⟩:Ac) name:=(by unfold Ax;rw[if_pos aa])
 rw[hr]at e
 simp only[Prod.mk.injEq,Ac.mk.injEq]at e
 obtain⟨⟨rfl,rfl,rfl,rfl,rfl,rfl⟩,rfl⟩:=e
 refine hQ _ _ ?_
 exact .many (.inl rfl) rfl rfl (.agg (.ref rfl (Aq Ap) (Br Ap A0) (.d rfl (Ag As A3) (.d rfl (Ag Au A1) (.ref rfl (Aq At) (Br At A2) (.d rfl rfl (.d rfl rfl (.nil))))))) (.d rfl rfl (.nil)))
 conv=>cbv
 generalize ab:Bj name=r5
 refine .dd hP (Nj (by omega) ab) ?_
 cases r5
 conv=>cbv
 have e:((⟨Ah,Ak,Aj,Ai,An,Am⟩:Ac),1)=Ax (⟨Ah,Ak,Aj,Ai,An,Am⟩:Ac) name:=(by unfold Ax;rw[if_neg (by rw[aa];decide),if_pos ab])
 rw[hr]at e
 simp only[Prod.mk.injEq,Ac.mk.injEq]at e
 obtain⟨⟨rfl,rfl,rfl,rfl,rfl,rfl⟩,rfl⟩:=e
 refine hQ _ _ ?_
 exact .many (.inl rfl) rfl rfl (.agg (.ref rfl (Aq Ap) (Br Ap A0) (.d rfl (Ag As A3) (.d rfl (Ag Au A1) (.ref rfl (Aq At) (Br At A2) (.d rfl rfl (.d rfl rfl (.nil))))))) (.d rfl rfl (.nil)))
 conv=>cbv
 generalize ad:A7 Ak name=r6
 refine .dd hP (My As (by omega) ad) ?_
 conv=>cbv
 refine .geq (fun h7=>?_) fun h7=>?_
 conv=>cbv
 have e:((⟨Ah,Ak,Aj,Ai,An,Am⟩:Ac),2)=Ax (⟨Ah,Ak,Aj,Ai,An,Am⟩:Ac) name:=(by unfold Ax;rw[if_neg (by rw[aa];decide),if_neg (by rw[ab];decide),if_pos (by rw[ad];omega)])
 rw[hr]at e
 simp only[Prod.mk.injEq,Ac.mk.injEq]at e
 obtain⟨⟨rfl,rfl,rfl,rfl,rfl,rfl⟩,rfl⟩:=e
 refine hQ _ _ ?_
 exact .many (.inl rfl) rfl rfl (.agg (.ref rfl (Aq Ap) (Br Ap A0) (.d rfl (Ag As A3) (.d rfl (Ag Au A1) (.ref rfl (Aq At) (Br At A2) (.d rfl rfl (.d rfl rfl (.nil))))))) (.d rfl rfl (.nil)))
 conv=>cbv
 refine .go As fun v8 ba=>?_
 conv=>cbv
 refine .geq (fun h9=>?_) fun h9=>?_
 conv=>cbv
 have e:((⟨Ah,Ak,Aj,Ai,An,Am⟩:Ac),4)=Ax (⟨Ah,Ak,Aj,Ai,An,Am⟩:Ac) name:=(by unfold Ax;rw[if_neg (by rw[aa];decide),if_neg (by rw[ab];decide),if_neg (by rw[ad];omega),if_pos (by dsimp only;omega)])
 rw[hr]at e
 simp only[Prod.mk.injEq,Ac.mk.injEq]at e
 obtain⟨⟨rfl,rfl,rfl,rfl,rfl,rfl⟩,rfl⟩:=e
 refine hQ _ _ ?_
 exact .many (.inl rfl) rfl rfl (.agg (.ref rfl (Aq Ap) (Br Ap A0) (.d rfl (Ag As A3) (.d rfl (Ag Au A1) (.ref rfl (Aq At) (Br At A2) (.d rfl rfl (.d rfl rfl (.nil))))))) (.d rfl rfl (.nil)))
 conv=>cbv
 refine .go Ap fun bb a1=>?_
 conv=>cbv
 refine .geq (fun h11=>?_) fun h11=>?_
 conv=>cbv
 have e:((⟨Ah,Ak,Aj,Ai,An,Am⟩:Ac),4)=Ax (⟨Ah,Ak,Aj,Ai,An,Am⟩:Ac) name:=(by unfold Ax;rw[if_neg (by rw[aa];decide),if_neg (by rw[ab];decide),if_neg (by rw[ad];omega),if_pos (by dsimp only;omega)])
 rw[hr]at e
 simp only[Prod.mk.injEq,Ac.mk.injEq]at e
 obtain⟨⟨rfl,rfl,rfl,rfl,rfl,rfl⟩,rfl⟩:=e
 refine hQ _ _ ?_
 exact .many (.inl rfl) rfl rfl (.agg (.ref rfl (Aq Ap) (Br Ap A0) (.d rfl (Ag As A3) (.d rfl (Ag Au A1) (.ref rfl (Aq At) (Br At A2) (.d rfl rfl (.d rfl rfl (.nil))))))) (.d rfl rfl (.nil)))
 conv=>cbv
 refine .geq (fun h12=>?_) fun h12=>?_
 conv=>cbv
 have e:((⟨Ah,Ak,Aj,Ai,An,Am⟩:Ac),4)=Ax (⟨Ah,Ak,Aj,Ai,An,Am⟩:Ac) name:=(by unfold Ax;rw[if_neg (by rw[aa];decide),if_neg (by rw[ab];decide),if_neg (by rw[ad];omega),if_pos (by dsimp only;omega)])
 rw[hr]at e
 simp only[Prod.mk.injEq,Ac.mk.injEq]at e
 obtain⟨⟨rfl,rfl,rfl,rfl,rfl,rfl⟩,rfl⟩:=e
 refine hQ _ _ ?_
 exact .many (.inl rfl) rfl rfl (.agg (.ref rfl (Aq Ap) (Br Ap A0) (.d rfl (Ag As A3) (.d rfl (Ag Au A1) (.ref rfl (Aq At) (Br At A2) (.d rfl rfl (.d rfl rfl (.nil))))))) (.d rfl rfl (.nil)))
 conv=>cbv
 refine .one (⟨Am,tx [],0⟩:Bs) Ap rfl fun a2 bc az ao=>?_
 conv=>cbv
 have hri:=Hi aa
 simp only[]at hri
 have hnz:=Ti ab
 refine .add fun a0 ap=>?_
 conv=>cbv
 refine .litL 1 fun bd aq a3=>?_
 conv=>cbv
 refine .litR 1 fun be ar a4=>?_
 conv=>cbv
 generalize af:By Am=bf
 refine .dd hP (Xao (by unfold Xm;omega) af) ?_
 conv=>cbv
 have zr17:=Qz af (by unfold Xm;omega)
 refine .go fun ae au a5=>?_
 conv=>cbv
 generalize ag:(Ay Ak ae).1=al
 generalize ah:al.map Ae=a6
 generalize am:N1 (Ah++[(⟨Am,tx [],0⟩:Bs)]) Aj (Ai++[ae])=ak
 obtain⟨a7,ai⟩:∃m,m=ak.length:=⟨_,rfl⟩
 generalize ac:(ak++List.replicate ((Ah++[(⟨Am,tx [],0⟩:Bs)]).length - ak.length) (⟨0,tx [],0⟩:Bs)).map A5=a8
 generalize aj:(Ai++[ae]).map cS=bg
 obtain⟨a9,an⟩:∃m,m=(Ai++[ae]).length:=⟨_,rfl⟩
 refine .bx [12,14,7] [14,7] hP (XbM ao As Au At (by first|assumption|omega|(simp;omega)) (by first|assumption|omega|(simp;omega)) (by rw[List.length_append,List.length_singleton];omega) (by omega) (by omega) (by omega) (by omega) hss ((congrArg (List.map Ae) ag).trans ah) am ai ac aj an) rfl rfl rfl rfl ?_
 conv=>cbv
 have e:((⟨ak,al,Aj,Ai++[ae],An,a0⟩:Ac),0)=Ax (⟨Ah,Ak,Aj,Ai,An,Am⟩:Ac) name:=(by unfold Ax;rw[if_neg (by rw[aa];decide),if_neg (by rw[ab];decide),if_neg (by rw[ad];omega),if_neg (by dsimp only;omega)];unfold Ug;dsimp only;rw[show tx [43]++name++tx [58]++By Am=ae from(by rw[au,ar,aq,af];rfl),am,ag,ap])
 rw[hr]at e
 simp only[Prod.mk.injEq,Ac.mk.injEq]at e
 obtain⟨⟨rfl,rfl,rfl,rfl,rfl,rfl⟩,rfl⟩:=e
 refine hQ _ _ ?_
 exact .many (.inl rfl) rfl rfl (.agg (.sub rfl (by rw[←ac,List.length_map,List.length_append];omega) (by rw[←ac,←A0,ai,List.drop_zero,List.map_append,List.take_left' (by rw[List.length_map])]) (.d rfl (Ag ah A3) (.d rfl (Ag Au A1) (.ref rfl (Aq aj) (Br aj A2) (.d rfl rfl (.d rfl rfl (.nil))))))) (.d rfl rfl (.nil)))
theorem Sz{onod:List Bs}{Gh:List (List D)}{oent:List Al}{Gk:List (List D)}{oold:List Al}{Gl:List (List D)}{oste:List ByteArray}{Gj:List (List D)}{oroo:Int}{onex:Int}(Ap:Ah.map A5=Bk)(As:Ak.map Ae=Bh)(Au:Aj.map Ae=Bf)(At:Ai.map cS=Bl)(hn:Ah.length≤1000000000)(he:Ak.length≤1000000000)(ho:Aj.length≤1000000000)(hs:Ai.length<1000000000)(hss:okS Ai)(ag:H2 (⟨Ah,Ak,Aj,Ai,An,Am⟩:Ac))(hr:Db (⟨Ah,Ak,Aj,Ai,An,Am⟩:Ac)=⟨onod,oent,oold,oste,oroo,onex⟩)(H8:onod.map A5=Gh)(H4:oent.map Ae=Gk)(Ib:oold.map Ae=Gl)(H3:oste.map cS=Gj):Fn Tryz.prog 239 [.agg [.d (.row 3 Bk),.d (.row 2 Bh),.d (.row 2 Bf),.d (.row 1 Bl),I An,I Am]] [] ⟨.agg [.d (.row 3 Gh),.d (.row 2 Gk),.d (.row 2 Gl),.d (.row 1 Gj),I oroo,I onex],[],[]⟩:=by
 refine Fn.go Xd Tryz.func239 fun P hP Q hQ=>?_
 conv=>cbv
 obtain⟨n2,ah⟩:∃m,m=Ah.length:=⟨_,rfl⟩
 obtain⟨n3,ai⟩:∃m,m=Ai.length:=⟨_,rfl⟩
 refine .ddN hP (M8 Ap As Au At (by omega) (by omega) (by omega) (by omega) ah ai) rfl ?_
 conv=>cbv
 generalize ac:B3 (⟨Ah,Ak,Aj,Ai,An,Am⟩:Ac)=r4
 refine .dd hP (Sh Ap As Au At ag ac) ?_
 cases r4
 conv=>cbv
 have e:(⟨Ah,Ak,Aj,Ai,An,Am⟩:Ac)=Db (⟨Ah,Ak,Aj,Ai,An,Am⟩:Ac):=(by unfold Db;rw[if_pos ac])
 rw[hr]at e
 simp only[Ac.mk.injEq]at e
 obtain⟨rfl,rfl,rfl,rfl,rfl,rfl⟩:=e
 exact hQ _ _ (.one (.inl rfl) rfl (.agg (.ref rfl (Aq Ap) (Br Ap H8) (.d rfl (Ag As H4) (.d rfl (Ag Au Ib) (.ref rfl (Aq At) (Br At H3) (.d rfl rfl (.d rfl rfl (.nil))))))) .nil))
 conv=>cbv
 generalize ae:C2 Ak=l5
 generalize ad:l5.map Ae=aj
 refine .dd hP (Ch As (by omega) ae ad) ?_
 conv=>cbv
 have e5:l5=Ak:=ae.symm
 have ak:l5.length≤1000000000:=by rw[e5];exact he
 generalize af:N1 Ah l5 []=o7
 obtain⟨al,ab⟩:∃m,m=o7.length:=⟨_,rfl⟩
 generalize aa:(o7++List.replicate (Ah.length - o7.length) (⟨0,tx [],0⟩:Bs)).map A5=am
 refine .bx [12,6,13] [6,13] hP (Rh Ap As ad rfl (by first|assumption|omega) (by first|assumption|omega|rfl|(simp at*;omega)) (by omega) (by omega) (by simp) (fun _ h=>by cases h) af ab aa) rfl rfl rfl rfl ?_
 conv=>cbv
 have e:(⟨o7,Ak,l5,[],An,Am⟩:Ac)=Db (⟨Ah,Ak,Aj,Ai,An,Am⟩:Ac):=(by unfold Db;rw[if_neg (by rw[ac];decide)];dsimp only;rw[←af,e5])
 rw[hr]at e
 simp only[Ac.mk.injEq]at e
 obtain⟨rfl,rfl,rfl,rfl,rfl,rfl⟩:=e
 exact hQ _ _ (.one (.inl rfl) rfl (.agg (.sub rfl (by rw[←aa,List.length_map,List.length_append];omega) (by rw[←aa,←H8,ab,List.drop_zero,List.map_append,List.take_left' (by rw[List.length_map])]) (.d rfl (Ag As H4) (.d rfl (Ag ad Ib) (.ref rfl rfl (by rw[←H3];rfl) (.d rfl rfl (.d rfl rfl (.nil))))))) .nil))
end
section
open Go Go.Proofs
set_option maxRecDepth 20000
set_option maxHeartbeats 4000000
def Td:List Al→List ByteArray→Prop
 |_,[]=>True
 |now,s::ss=>srt now∧(Ay now s).2=true∧Td (Ay now s).1 ss
theorem H5{now:List Al}{s:ByteArray}{ss:List ByteArray}(h:(Ay now s).2=true):Ls now (s::ss)=Ls (Ay now s).1 ss:=if_neg (by rw[h];decide)
theorem Xc7{d:Ac}:∀{l:List ByteArray} {now:List Al},E4 d now l=true→Td now l∧Ls now l=(d.entries_,true)∧A9 d d.entries_=true
 |[],now,h=>by
  unfold E4 at h
  rw[Bool.and_eq_true]at h
  have e:now=d.entries_:=by
   have:=h.2
   unfold Ia at this
   exact of_decide_eq_true this
  refine⟨trivial,by rw[←e];rfl,by rw[←e];exact h.1⟩
 |s::ss,now,h=>by
  unfold E4 at h
  rw[Bool.and_eq_true,Bool.and_eq_true]at h
  obtain⟨a,b,c⟩:=Xc7 (now:=(Ay now s).1) h.2
  exact⟨⟨XfK h.1.1,h.1.2,a⟩,by rw[H5 h.1.2,b],c⟩
theorem Qq:∀{l:List ByteArray} {now:List Al} (k:Nat),Td now l→Td now (l.take k)
 |[],_,k,_=>by rw[List.take_nil];trivial
 |_::_,_,0,_=>trivial
 |_::_,_,k+1,h=>⟨h.1,h.2.1,Qq k h.2.2⟩
theorem Wy{s:ByteArray}{e:List Al}:∀{l:List ByteArray} {now:List Al},Td now l→Ls now l=(e,true)→srt e→(Ay e s).2=true→Td now (l++[s])
 |[],now,_,h,hs,h2=>by
  have e1:now=e:=congrArg Prod.fst h
  rw[e1]
  exact⟨hs,h2,trivial⟩
 |x::l,now,h,h1,hs,h2=>by
  rw[H5 h.2.1]at h1
  exact⟨h.1,h.2.1,Wy h.2.2 h1 hs h2⟩
theorem Yl:∀{l:List ByteArray} {now:List Al},Td now l→Ce now l=Ls now l∧(Ls now l).2=true
 |[],now,_=>⟨rfl,rfl⟩
 |s::ss,now,h=>by
  obtain⟨a,b⟩:=Yl (now:=(Ay now s).1) h.2.2
  have e2:Ce now (s::ss)=Ce (D9 now s).1 ss:=if_neg (by rw[Uv h.1,h.2.1];decide)
  rw[H5 h.2.1,e2,Uv h.1,a]
  exact⟨rfl,b⟩
def X1(l:List Al)(id:Int):Bool:=l.any fun e=>decide (e.id_=id)
def XbW(old:List Al)(steps:List ByteArray)(id:Int):Bool:=(List.range (steps.length+1)).any fun k=>X1 (Ce old (steps.take k)).1 id
theorem Wd{id:Int}:∀{l:List ByteArray} {now:List Al},Td now l→(Pv now l id=true↔∃k,k≤l.length∧X1 (Ls now (l.take k)).1 id=true)
 |[],now,_=>by
  constructor
  ·intro h;exact⟨0,Nat.le_refl _,h⟩
  ·rintro⟨k,_,h⟩
   rw[List.take_nil]at h
   exact h
 |s::ss,now,h=>by
  have ih:=Wd (id:=id) (now:=(Ay now s).1) h.2.2
  show(X1 now id||Pv (Ay now s).1 ss id)=true↔_
  rw[Bool.or_eq_true,ih]
  constructor
  ·rintro(h1|⟨k,hk,h1⟩)
   ·exact⟨0,Nat.zero_le _,h1⟩
   ·refine⟨k+1,by rw[List.length_cons];omega,?_⟩
    rw[List.take_succ_cons,H5 h.2.1]
    exact h1
  ·rintro⟨k,hk,h1⟩
   cases k with
   |zero=>exact .inl h1
   |succ k=>
    rw[List.take_succ_cons,H5 h.2.1]at h1
    exact .inr ⟨k,by rw[List.length_cons]at hk;omega,h1⟩
theorem XeK{old:List Al}{steps:List ByteArray}(h:Td old steps)(id:Int):XbW old steps id=Pv old steps id:=by
 rw[Bool.eq_iff_iff,Wd h]
 unfold XbW
 rw[List.any_eq_true]
 constructor
 ·rintro⟨k,hk,h1⟩
  rw[(Yl (Qq k h)).1]at h1
  exact⟨k,by have:=List.mem_range.1 hk;omega,h1⟩
 ·rintro⟨k,hk,h1⟩
  refine⟨k,List.mem_range.2 (by omega),?_⟩
  rw[(Yl (Qq k h)).1]
  exact h1
def G7(d:Ac):Ac:=⟨d.nodes_.filter (fun x=>XbW d.old_ d.steps_ x.id_),d.entries_,d.old_,d.steps_,d.room_,d.next_⟩
theorem V6{d:Ac}(h:Td d.old_ d.steps_):G7 d=⟨N1 d.nodes_ d.old_ d.steps_,d.entries_,d.old_,d.steps_,d.room_,d.next_⟩:=by
 unfold G7 N1
 rw[List.filter_congr fun x _=>XeK h x.id_]
theorem Xhf{n:ByteArray}(h:Bj n=true):∀(j:Nat) x,n.data.toList[j]? =some x→x≠58:=by
 intro j x hx e
 unfold Bj at h
 rw[Bool.and_eq_true]at h
 have:=List.all_eq_true.1 h.1 x (List.mem_of_getElem? hx)
 rw[e]at this
 exact absurd this (by decide)
theorem Xhi{a b:ByteArray}(h:Bj a=true):Jz (a++tx [58]++b)=(a,b,true):=by
 have hl:(a++tx [58]++b).data.toList=a.data.toList++58::b.data.toList:=by
  rw[ByteArray.data_append,ByteArray.data_append,Array.toList_append,Array.toList_append,Oh,List.append_assoc]
  rfl
 have ha:a.data.toList.length=a.size:=Array.length_toList
 have e:If (a++tx [58]++b)=(a.size:Int):=by
  unfold If
  rw[hl,Mv _ a.size]
  ·rw[List.getElem?_append_right (by omega),ha,Nat.sub_self]
   rfl
  ·intro j hj x hx
   rw[List.getElem?_append_left (by omega)]at hx
   exact Xhf h j x hx
 unfold Jz
 rw[e,if_pos (by omega),Int.toNat_natCast]
 have hz:(a++tx [58]++b).size=a.size+1+b.size:=by rw[ByteArray.size_append,ByteArray.size_append,Bw];rfl
 have hb:b.data.toList.length=b.size:=Array.length_toList
 have e1:(a++tx [58]++b).extract 0 a.size=a:=by
  apply K9
  rw[Dc,hl,List.drop_zero,List.take_left' ha]
 have e2:(a++tx [58]++b).extract (a.size+1) (a++tx [58]++b).size=b:=by
  apply K9
  rw[Dc,List.take_of_length_le (by rw[Array.length_toList];exact Nat.le_refl _),hl,List.drop_append,List.drop_of_length_le (by omega),ha,Nat.add_sub_cancel_left]
  rfl
 rw[e1,e2]
theorem Xcd{c:UInt8}{s:ByteArray}:(tx [c]++s).extract 1 (tx [c]++s).size=s:=by
 apply K9
 rw[Dc,List.take_of_length_le (by rw[Array.length_toList];exact Nat.le_refl _),ByteArray.data_append,Array.toList_append,Oh]
 rfl
theorem XgJ{c:UInt8}{s:ByteArray}:(tx [c]++s).data.toList.head?=some c:=by
 rw[ByteArray.data_append,Array.toList_append,Oh]
 rfl
theorem Xje{c:UInt8}{s:ByteArray}:tx [c]++s≠tx []:=by
 intro e
 have:=congrArg ByteArray.size e
 rw[ByteArray.size_append,Bw,Bw]at this
 simp at this
theorem Xf3{l:List Al}{n:ByteArray}{i:Int}(hn:Bj n=true)(h0:0≤i)(h1:i≤1000000000):Ay l (tx [43]++(n++tx [58]++By i))=(Tl l n i,true):=by
 have hc:Jz ((tx [43]++(n++tx [58]++By i)).extract 1 (tx [43]++(n++tx [58]++By i)).size)=(n,By i,true):=by rw[Xcd];exact Xhi hn
 rw[Kr Xje XgJ hc,Xg9 h0 h1,if_neg (by rw[hn];simp)]
theorem app3(a b c d:ByteArray):a++b++c++d=a++(b++c++d):=by
 rw[ByteArray.append_assoc,ByteArray.append_assoc,ByteArray.append_assoc]
theorem Sb{d:Ac}(h:B3 d=true):Td d.old_ d.steps_∧Ls d.old_ d.steps_=(d.entries_,true)∧A9 d d.entries_=true:=Xc7 (diskOk_iff.1 h).2.2.2.2
theorem XaP{d:Ac}(h:B3 d=true):srt d.entries_:=XfK (Sb h).2.2
theorem XhL{d:Ac}{n:ByteArray}(h:B3 d=true)(hp:0≤A7 d.entries_ n):Bj n=true∧0≤Cm d n:=by
 obtain⟨hi,hq⟩:=Xc (p:=fun e=>B2 e n) (rfl:A7 d.entries_ n=_) hp
 have h1:=Xf6 (Sb h).2.2 hi
 unfold B2 at hq
 rw[decide_eq_true_eq]at hq
 unfold Ez at h1
 rw[XbS hi rfl,Bool.and_eq_true,Bool.and_eq_true,decide_eq_true_eq]at h1
 refine⟨by rw[←hq];exact h1.1.2,?_⟩
 unfold Cm
 rw[if_neg (by omega)]
 unfold Cp
 rw[if_neg (by omega),←gD hi]
 exact h1.2
theorem Vd{d:Ac}{n:ByteArray}(h:A7 d.entries_ n<0):Cm d n<0:=by
 unfold Cm
 rw[if_pos h]
 decide
theorem Xd0{d:Ac}{s:ByteArray}{e:List Al}{nodes:List Bs}{r x:Int}(h:B3 d=true)(hs:Ay d.entries_ s=(e,true)):G7 ⟨nodes,e,d.old_,d.steps_++[s],r,x⟩=Ug ⟨nodes,d.entries_,d.old_,d.steps_,r,x⟩ s:=by
 rw[V6 (Wy (Sb h).1 (Sb h).2.1 (XaP h) (by rw[hs]))]
 unfold Ug
 rw[hs]
theorem Xbu{d:Ac}{name:ByteArray}{nodes:List Bs}{r x:Int}(h:B3 d=true)(hn:Bj name=true):G7 ⟨nodes,Ec d.entries_ ⟨name,d.next_⟩,d.old_,d.steps_++[tx [43]++name++tx [58]++By d.next_],r,x⟩=Ug ⟨nodes,d.entries_,d.old_,d.steps_,r,x⟩ (tx [43]++name++tx [58]++By d.next_):=by
 have hr:=Hi h
 rw[Xda (XaP h),app3]
 exact Xd0 h (Xf3 hn (by omega) (by omega))
theorem Wx{d:Ac}{n:ByteArray}(h:0≤A7 d.entries_ n):Hh d (Cp d.entries_ n)=Cm d n:=by
 unfold Cm
 rw[if_neg (by omega)]
theorem XiB{l:List Al}{n:ByteArray}(h:D6 l n=true):0≤A7 l n:=by
 unfold D6 at h
 exact of_decide_eq_true h
theorem Xec{l:List Al}{n:ByteArray}(h:D6 l n=false):A7 l n<0:=by
 unfold D6 at h
 have:=of_decide_eq_false h
 omega
theorem U8{p:Nat→Bool}{k:Nat}:(List.range (k+1)).any p=((List.range k).any p||p k):=by
 rw[List.range_succ,List.any_append]
 simp
theorem Vj{old:List Al}{steps:List ByteArray}{id:Int}{k:Nat}(hk:k≤steps.length+1)(h:true=(List.range k).any fun k=>X1 (Ce old (steps.take k)).1 id):XbW old steps id=true:=by
 obtain⟨j,hj,h1⟩:=List.any_eq_true.1 h.symm
 exact List.any_eq_true.2 ⟨j,List.mem_range.2 (by have:=List.mem_range.1 hj;omega),h1⟩
theorem Qj{l:List Al}{k:Nat}{id:Int}(hk:k<l.length):X1 (l.take (k+1)) id=(X1 (l.take k) id||decide (l[k].id_=id)):=Xdm hk
theorem Xen(l:List Al)(s:ByteArray):(D9 l s).1.length≤l.length+1:=by
 unfold D9
 split
 ·simp
 ·split
  ·exact Fg rfl
  ·have h1:=Jm (rfl:D8 l (Bp s).1=_)
   split
   ·have h2:=Fg (rfl:Ec (D8 l (Bp s).1) ⟨(Bp s).2.1,Cp l (Bp s).1⟩=_)
    show(Ec _ _).length≤_
    omega
   ·show(D8 _ _).length≤_
    omega
theorem Xf7:∀(l:List ByteArray) (now:List Al),(Ce now l).1.length≤now.length+l.length
 |[],_=>Nat.le_refl _
 |s::l,now=>by
  have h1:=Xen now s
  have h2:=Xf7 l (D9 now s).1
  unfold Ce
  split
  ·exact Nat.zero_le _
  ·rw[List.length_cons]
   omega
theorem Yi{t:ByteArray}{n:Nat}(h:t.size≤n):t.extract 0 n=t:=by
 apply K9
 rw[Dc,List.drop_zero,List.take_of_length_le (by rw[Array.length_toList];exact h)]
end
section
open Go Go.Proofs
set_option maxRecDepth 20000
set_option maxHeartbeats 4000000
def XaN:List (Nat×TyRow):=[ty3,ty9,Xdq,XeB,XdK,Xbd,Zu,Xbh]
theorem Zf:B1 Tryz.prog XaN:=B1.of (by kernel_rfl)
theorem Hx:Setup Tryz.prog XaN:=⟨Zf,mixed⟩
variable {Ah onod F4:List Bs} {Bk Bh Bf Bl Gh Gk Gl Gj D5 D3 D0 Dz:List (List D)} {Ak Aj oent oold F6 F9:List Al} {Ai oste Ga:List ByteArray} {An Am oroo onex F7 F5 ob:Int} {name:ByteArray}
theorem O7{nn ne no ns:Nat}(Ap:Ah.map A5=Bk)(As:Ak.map Ae=Bh)(Au:Aj.map Ae=Bf)(At:Ai.map cS=Bl)(hn:Ah.length≤4000000000)(he:Ak.length≤4000000000)(ho:Aj.length≤4000000000)(hs:Ai.length≤4000000000)(hnn:nn=Ah.length)(hne:ne=Ak.length)(hno:no=Aj.length)(hns:ns=Ai.length):Fn Tryz.prog 97 [.agg [.d (.row 3 Bk),.d (.row 2 Bh),.d (.row 2 Bf),.d (.row 1 Bl),I An,I Am]] [] ⟨.agg [.ref 0 0 nn,.ref 1 0 ne,.ref 2 0 no,.ref 3 0 ns,I An,I Am],[.row 3 false Bk,.row 2 false Bh,.row 2 false Bf,.row 1 false Bl],[]⟩:=by
 refine Fn.goR Hx Tryz.func97 fun P hP Q hQ=>?_
 conv=>cbv
 refine .row0 Ap fun aa z1 ai ab=>?_
 conv=>cbv
 refine .row0 As fun ac z2 aj ad=>?_
 conv=>cbv
 refine .row0 Au fun ae z3 ak af=>?_
 conv=>cbv
 refine .row0 At fun ag z4 al ah=>?_
 conv=>cbv
 obtain rfl:z1=Bk:=by rw[←ab,Ap]
 obtain rfl:z2=Bh:=by rw[←ad,As]
 obtain rfl:z3=Bf:=by rw[←af,Au]
 obtain rfl:z4=Bl:=by rw[←ah,At]
 obtain rfl:aa=nn:=by omega
 obtain rfl:ac=ne:=by omega
 obtain rfl:ae=no:=by omega
 obtain rfl:ag=ns:=by omega
 exact hQ _ _ (.of [7,9,11,13] (.inl rfl) rfl rfl rfl rfl)
theorem Vu(Ap:Ah.map A5=Bk)(As:Ak.map Ae=Bh)(Au:Aj.map Ae=Bf)(At:Ai.map cS=Bl)(hn:Ah.length≤4000000000)(he:Ak.length≤4000000000)(ho:Aj.length≤4000000000)(hs:Ai.length≤4000000000):Fn Tryz.prog 97 [.agg [.d (.row 3 Bk),.d (.row 2 Bh),.d (.row 2 Bf),.d (.row 1 Bl),I An,I Am]] [] ⟨.agg [.d (.row 3 Bk),.d (.row 2 Bh),.d (.row 2 Bf),.d (.row 1 Bl),I An,I Am],[],[]⟩:=by
 refine Fn.go Hx Tryz.func97 fun P hP Q hQ=>?_
 conv=>cbv
 refine .row0 Ap fun ai z1 ae aa=>?_
 conv=>cbv
 refine .row0 As fun aj z2 af ab=>?_
 conv=>cbv
 refine .row0 Au fun ak z3 ag ac=>?_
 conv=>cbv
 refine .row0 At fun al z4 ah ad=>?_
 conv=>cbv
 obtain rfl:z1=Bk:=by rw[←aa,Ap]
 obtain rfl:z2=Bh:=by rw[←ab,As]
 obtain rfl:z3=Bf:=by rw[←ac,Au]
 obtain rfl:z4=Bl:=by rw[←ad,At]
 exact hQ _ _ (.one (.inl rfl) rfl (.agg (.ref rfl (Aq Ap) rfl (.ref rfl (Aq As) rfl (.ref rfl (Aq Au) rfl (.ref rfl (Aq At) rfl (.d rfl rfl (.d rfl rfl .nil)))))) .nil))
theorem Ve(Ap:Ah.map A5=Bk)(As:Ak.map Ae=Bh)(Au:Aj.map Ae=Bf)(At:Ai.map cS=Bl)(hn:Ah.length≤2000000000)(hol:Aj.length≤1000000000)(hsl:Ai.length≤1000000000)(hss:okS Ai)(hr:G7 (⟨Ah,Ak,Aj,Ai,An,Am⟩:Ac)=⟨onod,oent,oold,oste,oroo,onex⟩)(H8:onod.map A5=Gh)(H4:oent.map Ae=Gk)(Ib:oold.map Ae=Gl)(H3:oste.map cS=Gj):Fn Tryz.prog 165 [.agg [.d (.row 3 Bk),.d (.row 2 Bh),.d (.row 2 Bf),.d (.row 1 Bl),I An,I Am]] [] ⟨.agg [.d (.row 3 Gh),.d (.row 2 Gk),.d (.row 2 Gl),.d (.row 1 Gj),I oroo,I onex],[],[]⟩:=by
 refine Fn.go Hx Tryz.func165 fun P hP Q hQ=>?_
 conv=>cbv
 refine LoopW.lp (κ:=Int×(List (List D))×Nat) Hx hP [6] [1,2] (fun(i4,ad,ae)=>[(3,.ref 7 0 ae),(4,I i4)]) (fun(i4,ad,ae)=>[(7,.row 3 false ad)])
  (fun(i4,ad,ae)=>∃(w7:List Bs),w7.map A5=ad∧ae=w7.length∧0≤i4∧i4≤Ah.length∧w7=(Ah.take i4.toNat).filter (fun x=>XbW Aj Ai x.id_)∧w7.length≤i4)
  (fun(i4,ad,ae)=>(Ah.length - i4).toNat) (0,[],0) ⟨[],rfl,rfl,by omega,by omega,by simp,by simp⟩ ⟨rfl,rfl,trivial⟩ rfl ?_
 rintro⟨i4,ad,ae⟩ J ⟨w7,ah,a6,h0,h1,hx,hxl⟩ hJ
 conv=>cbv
 refine .go Ap fun v1 a9=>?_
 conv=>cbv
 refine .lss (fun h2=>?_) fun h2=>?_
 conv=>cbv
 refine LoopW.lp (κ:=Bool×Int) Hx hP [] [1,2,3,4] (fun(b5,i6)=>[(5,B b5),(6,I i6)]) (fun(b5,i6)=>[])
  (fun(b5,i6)=>0≤i6∧i6≤Ai.length+1∧b5=(List.range i6.toNat).any (fun k=>X1 (Ce Aj (Ai.take k)).1 (Ah.getD i4.toNat ⟨0,tx [],0⟩).id_))
  (fun(b5,i6)=>(Ai.length+1 - i6).toNat) (false,0) ⟨by omega,by omega,rfl⟩ ⟨rfl,rfl,trivial⟩ rfl ?_
 rintro⟨b5,i6⟩ J1 ⟨k0,k1,hu⟩ ay
 conv=>cbv
 refine .go At fun v3 ba=>?_
 conv=>cbv
 refine .leq (fun h4=>?_) fun h4=>?_
 conv=>cbv
 cases b5
 conv=>cbv
 rcases ap:Ee Aj Ai i6 with⟨aa,az⟩
 generalize ai:aa.map Ae=a7
 have hS:Ce Aj (Ai.take i6.toNat)=(aa,az):=by rw[←Xam (by omega) (by omega)];exact ap
 have bb:aa.length≤2000000000:=by
  have:=Xf7 (Ai.take i6.toNat) Aj
  rw[hS,List.length_take]at this
  simp only[]at this
  omega
 refine .dd hP (Ua Au At hol hsl hss ap ai) ?_
 conv=>cbv
 refine LoopW.lp (κ:=Bool×Int) Hx hP [] [1,2,3,4,6,7,24,25] (fun(b5,i9)=>[(5,B b5),(9,I i9)]) (fun(b5,i9)=>[])
  (fun(b5,i9)=>0≤i9∧i9≤aa.length∧b5=X1 (aa.take i9.toNat) (Ah.getD i4.toNat ⟨0,tx [],0⟩).id_)
  (fun(b5,i9)=>(aa.length - i9).toNat) (false,0) ⟨by omega,by omega,rfl⟩ ⟨rfl,rfl,trivial⟩ rfl ?_
 rintro⟨b5,i9⟩ J2 ⟨m0,m1,hb⟩ am
 conv=>cbv
 refine .go ai fun v6 bc=>?_
 conv=>cbv
 refine .lss (fun h7=>?_) fun h7=>?_
 conv=>cbv
 cases b5
 conv=>cbv
 refine .go i9.toNat ai fun al ⟨a0,a8⟩ aq=>?_
 conv=>cbv
 refine .go i4.toNat Ap fun ar ⟨au,a1,a2⟩ a3=>?_
 conv=>cbv
 have hide:(Ah.getD i4.toNat ⟨0,tx [],0⟩).id_=au:=by rw[←gD ar,←a3]
 refine .eql (fun h10=>?_) fun h10=>?_
 conv=>cbv
 refine .add fun aj aw=>?_
 conv=>cbv
 exact .go [] (true,aj) (am _ ⟨by omega,by omega,by rw[show aj.toNat=i9.toNat+1 by omega,Qj al,←aq,hide];simp only[];rw[decide_eq_true h10,Bool.or_true]⟩ mlt)
 conv=>cbv
 refine .add fun aj aw=>?_
 conv=>cbv
 exact .go [] (false,aj) (am _ ⟨by omega,by omega,by rw[show aj.toNat=i9.toNat+1 by omega,Qj al,←aq,←hb,hide];simp only[];rw[decide_eq_false h10];rfl⟩ mlt)
 conv=>cbv
 refine .add fun v8 a4=>?_
 conv=>cbv
 exact .go [] (true,v8) (am _ ⟨by omega,by omega,by rw[show v8.toNat=i9.toNat+1 by omega,Qj (show i9.toNat<aa.length by omega),←hb];rfl⟩ mlt)
 conv=>cbv
 refine .add fun v8 a4=>?_
 conv=>cbv
 exact .go [] (b5,v8) (ay _ ⟨by omega,by omega,by rw[show v8.toNat=i6.toNat+1 by omega,U8,←hu,Bool.false_or,hS];show _=X1 aa _;rw[hb,List.take_of_length_le (by omega)]⟩ mlt)
 conv=>cbv
 refine .go i4.toNat Ap fun ab ⟨ac,af,ag⟩ ak=>?_
 conv=>cbv
 refine .one (⟨ac,af,ag⟩:Bs) ah rfl fun an z6 ax ao=>?_
 conv=>cbv
 refine .add fun v7 a5=>?_
 conv=>cbv
 have hid:(Ah.getD i4.toNat ⟨0,tx [],0⟩).id_=ac:=by rw[←gD ab,←ak]
 have hus:=Vj (show i6.toNat≤Ai.length+1 by omega) hu
 rw[hid]at hus
 exact .go [9] (v7,z6,an) (hJ _ ⟨_,ao,Ot,by omega,by omega,by rw[show v7.toNat=i4.toNat+1 by omega,Ja ab,←hx,←ak];simp only[];rw[hus];rfl,by rw[List.length_append,List.length_singleton];omega⟩ mlt)
 conv=>cbv
 cases b5
 conv=>cbv
 refine .add fun v5 bd=>?_
 conv=>cbv
 have hj:i4.toNat<Ah.length:=by omega
 have hus:XbW Aj Ai Ah[i4.toNat].id_=false:=by rw[gD hj (d:=⟨0,tx [],0⟩)];unfold XbW;rw[show Ai.length+1=i6.toNat by omega];exact hu.symm
 exact .go [7] (v5,ad,ae) (hJ _ ⟨_,ah,Ot,by omega,by omega,by rw[show v5.toNat=i4.toNat+1 by omega,Ja hj,←hx,hus];simp,by omega⟩ mlt)
 conv=>cbv
 refine .go i4.toNat Ap fun ab ⟨ac,af,ag⟩ ak=>?_
 conv=>cbv
 refine .one (⟨ac,af,ag⟩:Bs) ah rfl fun an z6 ax ao=>?_
 conv=>cbv
 refine .add fun v7 a5=>?_
 conv=>cbv
 have hid:(Ah.getD i4.toNat ⟨0,tx [],0⟩).id_=ac:=by rw[←gD ab,←ak]
 have hus:=Vj (show i6.toNat≤Ai.length+1 by omega) hu
 rw[hid]at hus
 exact .go [9] (v7,z6,an) (hJ _ ⟨_,ao,Ot,by omega,by omega,by rw[show v7.toNat=i4.toNat+1 by omega,Ja ab,←hx,←ak];simp only[];rw[hus];rfl,by rw[List.length_append,List.length_singleton];omega⟩ mlt)
 conv=>cbv
 have e:(⟨w7,Ak,Aj,Ai,An,Am⟩:Ac)=G7 (⟨Ah,Ak,Aj,Ai,An,Am⟩:Ac):=(by unfold G7;dsimp only;rw[hx,List.take_of_length_le (by omega)])
 rw[hr]at e
 simp only[Ac.mk.injEq]at e
 obtain⟨rfl,rfl,rfl,rfl,rfl,rfl⟩:=e
 exact hQ _ _ (.one (.inl rfl) rfl (.agg (.ref rfl (Aq ah) (Br ah H8) (.d rfl (Ag As H4) (.d rfl (Ag Au Ib) (.d rfl (Ag At H3) (.d rfl rfl (.d rfl rfl (.nil))))))) .nil))
theorem Q5(Ap:Ah.map A5=Bk)(As:Ak.map Ae=Bh)(Au:Aj.map Ae=Bf)(At:Ai.map cS=Bl)(hn:Ah.length≤1000000000)(he:Ak.length≤1000000000)(ho:Aj.length≤1000000000)(hs:Ai.length<1000000000)(hss:okS Ai)(a6:H2 (⟨Ah,Ak,Aj,Ai,An,Am⟩:Ac))(hm:name.size≤1000000000)(hr:Ax (⟨Ah,Ak,Aj,Ai,An,Am⟩:Ac) name=(⟨F4,F6,F9,Ga,F7,F5⟩,ob))(A0:F4.map A5=D5)(A3:F6.map Ae=D3)(A1:F9.map Ae=D0)(A2:Ga.map cS=Dz):Fn Tryz.prog 226 [.agg [.d (.row 3 Bk),.d (.row 2 Bh),.d (.row 2 Bf),.d (.row 1 Bl),I An,I Am],S name] [] ⟨.tup [.agg [.d (.row 3 D5),.d (.row 2 D3),.d (.row 2 D0),.d (.row 1 Dz),I F7,I F5],I ob],[],[]⟩:=by
 refine Fn.go Hx Tryz.func226 fun P hP Q hQ=>?_
 conv=>cbv
 obtain⟨n2,a7⟩:∃m,m=Ah.length:=⟨_,rfl⟩
 obtain⟨n3,a8⟩:∃m,m=Ak.length:=⟨_,rfl⟩
 obtain⟨n4,a9⟩:∃m,m=Aj.length:=⟨_,rfl⟩
 obtain⟨n5,ba⟩:∃m,m=Ai.length:=⟨_,rfl⟩
 refine .ddN hP (O7 Ap As Au At (by omega) (by omega) (by omega) (by omega) a7 a8 a9 ba) rfl ?_
 conv=>cbv
 generalize aa:B3 (⟨Ah,Ak,Aj,Ai,An,Am⟩:Ac)=r6
 refine .lnt hP (Ry Ap As Au At a6 aa) (.agg (.ref rfl (Aq Ap) (.ref rfl (Aq As) (.ref rfl (Aq Au) (.ref rfl (Aq At) (.d rfl (.d rfl .nil)))))) .nil) ?_
 cases r6
 conv=>cbv
 have e:((⟨Ah,Ak,Aj,Ai,An,Am⟩:Ac),3)=Ax (⟨Ah,Ak,Aj,Ai,An,Am⟩:Ac) name:=(by unfold Ax;rw[if_pos aa])
 rw[hr]at e
 simp only[Prod.mk.injEq,Ac.mk.injEq]at e
 obtain⟨⟨rfl,rfl,rfl,rfl,rfl,rfl⟩,rfl⟩:=e
 refine hQ _ _ ?_
 exact .many (.inl rfl) rfl rfl (.agg (.ref rfl (Aq Ap) (Br Ap A0) (.ref rfl (Aq As) (Br As A3) (.ref rfl (Aq Au) (Br Au A1) (.ref rfl (Aq At) (Br At A2) (.d rfl rfl (.d rfl rfl (.nil))))))) (.d rfl rfl (.nil)))
 conv=>cbv
 generalize ab:Bj name=r7
 refine .dd hP (Nn (by omega) ab) ?_
 cases r7
 conv=>cbv
 have e:((⟨Ah,Ak,Aj,Ai,An,Am⟩:Ac),1)=Ax (⟨Ah,Ak,Aj,Ai,An,Am⟩:Ac) name:=(by unfold Ax;rw[if_neg (by rw[aa];decide),if_pos ab])
 rw[hr]at e
 simp only[Prod.mk.injEq,Ac.mk.injEq]at e
 obtain⟨⟨rfl,rfl,rfl,rfl,rfl,rfl⟩,rfl⟩:=e
 refine hQ _ _ ?_
 exact .many (.inl rfl) rfl rfl (.agg (.ref rfl (Aq Ap) (Br Ap A0) (.ref rfl (Aq As) (Br As A3) (.ref rfl (Aq Au) (Br Au A1) (.ref rfl (Aq At) (Br At A2) (.d rfl rfl (.d rfl rfl (.nil))))))) (.d rfl rfl (.nil)))
 conv=>cbv
 generalize ak:D6 Ak name=r8
 refine .lnt hP (Ox As (by omega) ak) (.ref rfl (Aq As) (.d rfl .nil)) ?_
 cases r8
 conv=>cbv
 refine .go fun v9 bl=>?_
 conv=>cbv
 refine .geq (fun h10=>?_) fun h10=>?_
 conv=>cbv
 have e:((⟨Ah,Ak,Aj,Ai,An,Am⟩:Ac),4)=Ax (⟨Ah,Ak,Aj,Ai,An,Am⟩:Ac) name:=(by unfold Ax;rw[if_neg (by rw[aa];decide),if_neg (by rw[ab];decide),if_neg (by have:=Xec ak;dsimp only;omega),if_pos (by dsimp only;omega)])
 rw[hr]at e
 simp only[Prod.mk.injEq,Ac.mk.injEq]at e
 obtain⟨⟨rfl,rfl,rfl,rfl,rfl,rfl⟩,rfl⟩:=e
 refine hQ _ _ ?_
 exact .many (.inl rfl) rfl rfl (.agg (.ref rfl (Aq Ap) (Br Ap A0) (.ref rfl (Aq As) (Br As A3) (.ref rfl (Aq Au) (Br Au A1) (.ref rfl (Aq At) (Br At A2) (.d rfl rfl (.d rfl rfl (.nil))))))) (.d rfl rfl (.nil)))
 conv=>cbv
 refine .go fun bm be=>?_
 conv=>cbv
 refine .geq (fun h12=>?_) fun h12=>?_
 conv=>cbv
 have e:((⟨Ah,Ak,Aj,Ai,An,Am⟩:Ac),4)=Ax (⟨Ah,Ak,Aj,Ai,An,Am⟩:Ac) name:=(by unfold Ax;rw[if_neg (by rw[aa];decide),if_neg (by rw[ab];decide),if_neg (by have:=Xec ak;dsimp only;omega),if_pos (by dsimp only;omega)])
 rw[hr]at e
 simp only[Prod.mk.injEq,Ac.mk.injEq]at e
 obtain⟨⟨rfl,rfl,rfl,rfl,rfl,rfl⟩,rfl⟩:=e
 refine hQ _ _ ?_
 exact .many (.inl rfl) rfl rfl (.agg (.ref rfl (Aq Ap) (Br Ap A0) (.ref rfl (Aq As) (Br As A3) (.ref rfl (Aq Au) (Br Au A1) (.ref rfl (Aq At) (Br At A2) (.d rfl rfl (.d rfl rfl (.nil))))))) (.d rfl rfl (.nil)))
 conv=>cbv
 refine .geq (fun h13=>?_) fun h13=>?_
 conv=>cbv
 have e:((⟨Ah,Ak,Aj,Ai,An,Am⟩:Ac),4)=Ax (⟨Ah,Ak,Aj,Ai,An,Am⟩:Ac) name:=(by unfold Ax;rw[if_neg (by rw[aa];decide),if_neg (by rw[ab];decide),if_neg (by have:=Xec ak;dsimp only;omega),if_pos (by dsimp only;omega)])
 rw[hr]at e
 simp only[Prod.mk.injEq,Ac.mk.injEq]at e
 obtain⟨⟨rfl,rfl,rfl,rfl,rfl,rfl⟩,rfl⟩:=e
 refine hQ _ _ ?_
 exact .many (.inl rfl) rfl rfl (.agg (.ref rfl (Aq Ap) (Br Ap A0) (.ref rfl (Aq As) (Br As A3) (.ref rfl (Aq Au) (Br Au A1) (.ref rfl (Aq At) (Br At A2) (.d rfl rfl (.d rfl rfl (.nil))))))) (.d rfl rfl (.nil)))
 conv=>cbv
 have hri:=Hi aa
 simp only[]at hri
 refine .one (⟨Am,tx [],0⟩:Bs) Ap rfl fun bf bn bb ao=>?_
 conv=>cbv
 generalize ap:Ec Ak (⟨name,Am⟩:Al)=ax
 generalize aq:ax.map Ae=bg
 refine .lntD hP (Iz As (by omega) ap aq) (.ref rfl (Aq As) (.agg (.d rfl (.d rfl .nil)) .nil)) ?_
 conv=>cbv
 have hnz:=Ti ab
 refine .litL 1 fun bo ay bh=>?_
 conv=>cbv
 refine .litR 1 fun bp az bi=>?_
 conv=>cbv
 generalize al:By Am=bq
 refine .dd hP (Xa7 (by unfold Xm;omega) al) ?_
 conv=>cbv
 have zr18:=Qz al (by unfold Xm;omega)
 refine .go fun aw a0 bj=>?_
 conv=>cbv
 refine .one aw At rfl fun bk bt bc ar=>?_
 conv=>cbv
 refine .add fun bd a1=>?_
 conv=>cbv
 rcases au:G7 (⟨Ah++[(⟨Am,tx [],0⟩:Bs)],ax,Aj,Ai++[aw],An,bd⟩:Ac)with⟨ag,ah,ai,aj,am,an⟩
 generalize ac:ag.map A5=a2
 generalize ad:ah.map Ae=a3
 generalize ae:ai.map Ae=a4
 generalize af:aj.map cS=a5
 refine .lntD hP (Ve ao aq Au ar (by rw[List.length_append,List.length_singleton];omega) (by omega) (by rw[List.length_append,List.length_singleton];omega) (Xu hss (by omega)) au ac ad ae af) (.agg (.ref rfl (Aq ao) (.d rfl (.ref rfl (Aq Au) (.ref rfl (Aq ar) (.d rfl (.d rfl .nil)))))) .nil) ?_
 conv=>cbv
 have e:((⟨ag,ah,ai,aj,am,an⟩:Ac),0)=Ax (⟨Ah,Ak,Aj,Ai,An,Am⟩:Ac) name:=(by unfold Ax;rw[if_neg (by rw[aa];decide),if_neg (by rw[ab];decide),if_neg (by have:=Xec ak;dsimp only;omega),if_neg (by dsimp only;omega)];exact congrArg (fun x:Ac=>(x,(0:Int))) (au.symm.trans (by rw[←ap,a1,show aw=tx [43]++name++tx [58]++By Am from(by rw[a0,az,ay,al];rfl)];exact Xbu aa ab)))
 rw[hr]at e
 simp only[Prod.mk.injEq,Ac.mk.injEq]at e
 obtain⟨⟨rfl,rfl,rfl,rfl,rfl,rfl⟩,rfl⟩:=e
 refine hQ _ _ ?_
 exact .many (.inl rfl) rfl rfl (.agg (.d rfl (Ag ac A0) (.d rfl (Ag ad A3) (.d rfl (Ag ae A1) (.d rfl (Ag af A2) (.d rfl rfl (.d rfl rfl (.nil))))))) (.d rfl rfl (.nil)))
 conv=>cbv
 have e:((⟨Ah,Ak,Aj,Ai,An,Am⟩:Ac),2)=Ax (⟨Ah,Ak,Aj,Ai,An,Am⟩:Ac) name:=(by unfold Ax;rw[if_neg (by rw[aa];decide),if_neg (by rw[ab];decide),if_pos (XiB ak)])
 rw[hr]at e
 simp only[Prod.mk.injEq,Ac.mk.injEq]at e
 obtain⟨⟨rfl,rfl,rfl,rfl,rfl,rfl⟩,rfl⟩:=e
 refine hQ _ _ ?_
 exact .many (.inl rfl) rfl rfl (.agg (.ref rfl (Aq Ap) (Br Ap A0) (.ref rfl (Aq As) (Br As A3) (.ref rfl (Aq Au) (Br Au A1) (.ref rfl (Aq At) (Br At A2) (.d rfl rfl (.d rfl rfl (.nil))))))) (.d rfl rfl (.nil)))
theorem Dn{text:ByteArray}(Ap:Ah.map A5=Bk)(As:Ak.map Ae=Bh)(Au:Aj.map Ae=Bf)(At:Ai.map cS=Bl)(hn:Ah.length≤1000000000)(he:Ak.length≤1000000000)(ho:Aj.length≤1000000000)(hs:Ai.length<1000000000)(hss:okS Ai)(aj:H2 (⟨Ah,Ak,Aj,Ai,An,Am⟩:Ac))(ht:text.size≤1000000000)(hr:Ao (⟨Ah,Ak,Aj,Ai,An,Am⟩:Ac) name text=(⟨F4,F6,F9,Ga,F7,F5⟩,ob))(A0:F4.map A5=D5)(A3:F6.map Ae=D3)(A1:F9.map Ae=D0)(A2:Ga.map cS=Dz):Fn Tryz.prog 156 [.agg [.d (.row 3 Bk),.d (.row 2 Bh),.d (.row 2 Bf),.d (.row 1 Bl),I An,I Am],S name,S text] [] ⟨.tup [.agg [.d (.row 3 D5),.d (.row 2 D3),.d (.row 2 D0),.d (.row 1 Dz),I F7,I F5],I ob],[],[]⟩:=by
 refine Fn.go Hx Tryz.func156 fun P hP Q hQ=>?_
 conv=>cbv
 obtain⟨n2,a4⟩:∃m,m=Ah.length:=⟨_,rfl⟩
 obtain⟨n3,a5⟩:∃m,m=Ak.length:=⟨_,rfl⟩
 obtain⟨n4,a6⟩:∃m,m=Aj.length:=⟨_,rfl⟩
 obtain⟨n5,a7⟩:∃m,m=Ai.length:=⟨_,rfl⟩
 refine .ddN hP (O7 Ap As Au At (by omega) (by omega) (by omega) (by omega) a4 a5 a6 a7) rfl ?_
 conv=>cbv
 generalize ah:B3 (⟨Ah,Ak,Aj,Ai,An,Am⟩:Ac)=r6
 refine .lnt hP (Ry Ap As Au At aj ah) (.agg (.ref rfl (Aq Ap) (.ref rfl (Aq As) (.ref rfl (Aq Au) (.ref rfl (Aq At) (.d rfl (.d rfl .nil)))))) .nil) ?_
 cases r6
 conv=>cbv
 have e:((⟨Ah,Ak,Aj,Ai,An,Am⟩:Ac),3)=Ao (⟨Ah,Ak,Aj,Ai,An,Am⟩:Ac) name text:=(by unfold Ao;rw[if_pos (.inl ah)])
 rw[hr]at e
 simp only[Prod.mk.injEq,Ac.mk.injEq]at e
 obtain⟨⟨rfl,rfl,rfl,rfl,rfl,rfl⟩,rfl⟩:=e
 refine hQ _ _ ?_
 exact .many (.inl rfl) rfl rfl (.agg (.ref rfl (Aq Ap) (Br Ap A0) (.ref rfl (Aq As) (Br As A3) (.ref rfl (Aq Au) (Br Au A1) (.ref rfl (Aq At) (Br At A2) (.d rfl rfl (.d rfl rfl (.nil))))))) (.d rfl rfl (.nil)))
 conv=>cbv
 generalize ao:D6 Ak name=r7
 refine .lnt hP (Ox As (by omega) ao) (.ref rfl (Aq As) (.d rfl .nil)) ?_
 cases r7
 conv=>cbv
 have e:((⟨Ah,Ak,Aj,Ai,An,Am⟩:Ac),3)=Ao (⟨Ah,Ak,Aj,Ai,An,Am⟩:Ac) name text:=(by unfold Ao;rw[if_pos (.inr (Vd (Xec ao)))])
 rw[hr]at e
 simp only[Prod.mk.injEq,Ac.mk.injEq]at e
 obtain⟨⟨rfl,rfl,rfl,rfl,rfl,rfl⟩,rfl⟩:=e
 refine hQ _ _ ?_
 exact .many (.inl rfl) rfl rfl (.agg (.ref rfl (Aq Ap) (Br Ap A0) (.ref rfl (Aq As) (Br As A3) (.ref rfl (Aq Au) (Br Au A1) (.ref rfl (Aq At) (Br At A2) (.d rfl rfl (.d rfl rfl (.nil))))))) (.d rfl rfl (.nil)))
 conv=>cbv
 generalize ar:Cp Ak name=r8
 refine .lnt hP (Mu As (by omega) ar) (.ref rfl (Aq As) (.d rfl .nil)) ?_
 conv=>cbv
 generalize au:Gp (⟨Ah,Ak,Aj,Ai,An,Am⟩:Ac) r8=r9
 refine .lnt hP (Pw Ap As Au At (by omega) au) (.agg (.ref rfl (Aq Ap) (.ref rfl (Aq As) (.ref rfl (Aq Au) (.ref rfl (Aq At) (.d rfl (.d rfl .nil)))))) (.d rfl .nil)) ?_
 conv=>cbv
 have hpl:=XiB ao
 have hk:Cm (⟨Ah,Ak,Aj,Ai,An,Am⟩:Ac) name=r9:=by rw[←Wx (d:=(⟨Ah,Ak,Aj,Ai,An,Am⟩:Ac)) hpl];show Gp _ (Cp Ak name)=r9;rw[ar,au]
 have hb:=G1 hk
 have a8:=(XhL ah hpl).2
 rw[hk]at a8
 simp only[]at hb
 generalize af:Fe (⟨Ah,Ak,Aj,Ai,An,Am⟩:Ac)=aw
 refine .lnt hP (XcR Ap As Au At aj.1 af) (.agg (.ref rfl (Aq Ap) (.ref rfl (Aq As) (.ref rfl (Aq Au) (.ref rfl (Aq At) (.d rfl (.d rfl .nil)))))) .nil) ?_
 conv=>cbv
 have hri:=Hi ah
 simp only[af]at hri
 refine .sub fun bf ax=>?_
 conv=>cbv
 refine .go fun bg bb=>?_
 conv=>cbv
 refine .gtr (fun h13=>?_) fun h13=>?_
 conv=>cbv
 refine .go r9.toNat fun ai ay ap=>?_
 conv=>cbv
 refine .go Ap fun ae ⟨aq,aa,ak⟩ ab=>?_
 conv=>cbv
 have az:aa.size≤1000000000:=by have h9:=aj.1.2.1 _ (List.getElem_mem ae);rw[←ab]at h9;exact h9
 refine .hi fun al ag=>?_
 conv=>cbv
 have bc:al.size≤text.size:=by rw[ag,ByteArray.size_extract];omega
 refine .go fun a0 a1 bd=>?_
 conv=>cbv
 refine .go r9.toNat fun ac a2 a9=>?_
 conv=>cbv
 refine .go (⟨(Ah.getD ac ⟨0,tx [],0⟩).id_,a0,(Ah.getD ac ⟨0,tx [],0⟩).sure_⟩:Bs) Ap (by omega) (by rw[←gD (show ac<Ah.length by omega)];rfl) (show 1+1≤3 by decide) fun bh am=>?_
 conv=>cbv
 have e:((⟨Ah.set ac (⟨(Ah.getD ac ⟨0,tx [],0⟩).id_,a0,(Ah.getD ac ⟨0,tx [],0⟩).sure_⟩:Bs),Ak,Aj,Ai,An,Am⟩:Ac),5)=Ao (⟨Ah,Ak,Aj,Ai,An,Am⟩:Ac) name text:=(by unfold Ao;rw[if_neg (by rintro(h|h);rw[ah]at h;cases h;rw[hk]at h;omega),hk,af];dsimp only;rw[if_pos (by omega)];unfold Xi9 gN;dsimp only;have e9:aa=(Ah.getD ac ⟨0,tx [],0⟩).text_:=(by have h9:ai=ac:=(by omega);subst h9;rw[←gD (show ai<Ah.length by omega),←ab]);rw[←a2,a1,e9,ag,ax,show min (text.size:Int) (An - aw)=An - aw by omega])
 rw[hr]at e
 simp only[Prod.mk.injEq,Ac.mk.injEq]at e
 obtain⟨⟨rfl,rfl,rfl,rfl,rfl,rfl⟩,rfl⟩:=e
 refine hQ _ _ ?_
 exact .many (.inl rfl) rfl rfl (.agg (.ref rfl (Aq am) (Br am A0) (.ref rfl (Aq As) (Br As A3) (.ref rfl (Aq Au) (Br Au A1) (.ref rfl (Aq At) (Br At A2) (.d rfl rfl (.d rfl rfl (.nil))))))) (.d rfl rfl (.nil)))
 conv=>cbv
 refine .go r9.toNat fun ai ay ap=>?_
 conv=>cbv
 refine .go Ap fun ae ⟨aq,aa,ak⟩ ab=>?_
 conv=>cbv
 have az:aa.size≤1000000000:=by have h9:=aj.1.2.1 _ (List.getElem_mem ae);rw[←ab]at h9;exact h9
 refine .go fun al ag be=>?_
 conv=>cbv
 refine .go r9.toNat fun ad a3 ba=>?_
 conv=>cbv
 refine .go (⟨(Ah.getD ad ⟨0,tx [],0⟩).id_,al,(Ah.getD ad ⟨0,tx [],0⟩).sure_⟩:Bs) Ap (by omega) (by rw[←gD (show ad<Ah.length by omega)];rfl) (show 1+1≤3 by decide) fun bi an=>?_
 conv=>cbv
 have e:((⟨Ah.set ad (⟨(Ah.getD ad ⟨0,tx [],0⟩).id_,al,(Ah.getD ad ⟨0,tx [],0⟩).sure_⟩:Bs),Ak,Aj,Ai,An,Am⟩:Ac),0)=Ao (⟨Ah,Ak,Aj,Ai,An,Am⟩:Ac) name text:=(by unfold Ao;rw[if_neg (by rintro(h|h);rw[ah]at h;cases h;rw[hk]at h;omega),hk,af];dsimp only;rw[if_neg (by omega)];unfold Xi9 gN;dsimp only;have e9:aa=(Ah.getD ad ⟨0,tx [],0⟩).text_:=(by have h9:ai=ad:=(by omega);subst h9;rw[←gD (show ai<Ah.length by omega),←ab]);rw[←a3,ag,e9,Yi (t:=text) (by omega)])
 rw[hr]at e
 simp only[Prod.mk.injEq,Ac.mk.injEq]at e
 obtain⟨⟨rfl,rfl,rfl,rfl,rfl,rfl⟩,rfl⟩:=e
 refine hQ _ _ ?_
 exact .many (.inl rfl) rfl rfl (.agg (.ref rfl (Aq an) (Br an A0) (.ref rfl (Aq As) (Br As A3) (.ref rfl (Aq Au) (Br Au A1) (.ref rfl (Aq At) (Br At A2) (.d rfl rfl (.d rfl rfl (.nil))))))) (.d rfl rfl (.nil)))
theorem Qf(Ap:Ah.map A5=Bk)(As:Ak.map Ae=Bh)(Au:Aj.map Ae=Bf)(At:Ai.map cS=Bl)(hn:Ah.length≤1000000000)(he:Ak.length≤1000000000)(ho:Aj.length≤1000000000)(hs:Ai.length<1000000000)(hss:okS Ai)(an:H2 (⟨Ah,Ak,Aj,Ai,An,Am⟩:Ac))(hr:Cv (⟨Ah,Ak,Aj,Ai,An,Am⟩:Ac) name=(⟨F4,F6,F9,Ga,F7,F5⟩,ob))(A0:F4.map A5=D5)(A3:F6.map Ae=D3)(A1:F9.map Ae=D0)(A2:Ga.map cS=Dz):Fn Tryz.prog 225 [.agg [.d (.row 3 Bk),.d (.row 2 Bh),.d (.row 2 Bf),.d (.row 1 Bl),I An,I Am],S name] [] ⟨.tup [.agg [.d (.row 3 D5),.d (.row 2 D3),.d (.row 2 D0),.d (.row 1 Dz),I F7,I F5],I ob],[],[]⟩:=by
 refine Fn.go Hx Tryz.func225 fun P hP Q hQ=>?_
 conv=>cbv
 obtain⟨n2,ao⟩:∃m,m=Ah.length:=⟨_,rfl⟩
 obtain⟨n3,ap⟩:∃m,m=Ak.length:=⟨_,rfl⟩
 obtain⟨n4,aq⟩:∃m,m=Aj.length:=⟨_,rfl⟩
 obtain⟨n5,ar⟩:∃m,m=Ai.length:=⟨_,rfl⟩
 refine .ddN hP (O7 Ap As Au At (by omega) (by omega) (by omega) (by omega) ao ap aq ar) rfl ?_
 conv=>cbv
 generalize ab:B3 (⟨Ah,Ak,Aj,Ai,An,Am⟩:Ac)=r6
 refine .lnt hP (Ry Ap As Au At an ab) (.agg (.ref rfl (Aq Ap) (.ref rfl (Aq As) (.ref rfl (Aq Au) (.ref rfl (Aq At) (.d rfl (.d rfl .nil)))))) .nil) ?_
 cases r6
 conv=>cbv
 have e:((⟨Ah,Ak,Aj,Ai,An,Am⟩:Ac),3)=Cv (⟨Ah,Ak,Aj,Ai,An,Am⟩:Ac) name:=(by unfold Cv;rw[if_pos (.inl ab)])
 rw[hr]at e
 simp only[Prod.mk.injEq,Ac.mk.injEq]at e
 obtain⟨⟨rfl,rfl,rfl,rfl,rfl,rfl⟩,rfl⟩:=e
 refine hQ _ _ ?_
 exact .many (.inl rfl) rfl rfl (.agg (.ref rfl (Aq Ap) (Br Ap A0) (.ref rfl (Aq As) (Br As A3) (.ref rfl (Aq Au) (Br Au A1) (.ref rfl (Aq At) (Br At A2) (.d rfl rfl (.d rfl rfl (.nil))))))) (.d rfl rfl (.nil)))
 conv=>cbv
 generalize ae:D6 Ak name=r7
 refine .lnt hP (Ox As (by omega) ae) (.ref rfl (Aq As) (.d rfl .nil)) ?_
 cases r7
 conv=>cbv
 have e:((⟨Ah,Ak,Aj,Ai,An,Am⟩:Ac),3)=Cv (⟨Ah,Ak,Aj,Ai,An,Am⟩:Ac) name:=(by unfold Cv;rw[if_pos (.inr (Vd (Xec ae)))])
 rw[hr]at e
 simp only[Prod.mk.injEq,Ac.mk.injEq]at e
 obtain⟨⟨rfl,rfl,rfl,rfl,rfl,rfl⟩,rfl⟩:=e
 refine hQ _ _ ?_
 exact .many (.inl rfl) rfl rfl (.agg (.ref rfl (Aq Ap) (Br Ap A0) (.ref rfl (Aq As) (Br As A3) (.ref rfl (Aq Au) (Br Au A1) (.ref rfl (Aq At) (Br At A2) (.d rfl rfl (.d rfl rfl (.nil))))))) (.d rfl rfl (.nil)))
 conv=>cbv
 generalize af:Cp Ak name=r8
 refine .lnt hP (Mu As (by omega) af) (.ref rfl (Aq As) (.d rfl .nil)) ?_
 conv=>cbv
 generalize ag:Gp (⟨Ah,Ak,Aj,Ai,An,Am⟩:Ac) r8=r9
 refine .lnt hP (Pw Ap As Au At (by omega) ag) (.agg (.ref rfl (Aq Ap) (.ref rfl (Aq As) (.ref rfl (Aq Au) (.ref rfl (Aq At) (.d rfl (.d rfl .nil)))))) (.d rfl .nil)) ?_
 conv=>cbv
 have hpl:=XiB ae
 have hk:Cm (⟨Ah,Ak,Aj,Ai,An,Am⟩:Ac) name=r9:=by rw[←Wx (d:=(⟨Ah,Ak,Aj,Ai,An,Am⟩:Ac)) hpl];show Gp _ (Cp Ak name)=r9;rw[af,ag]
 have hb:=G1 hk
 have au:=(XhL ab hpl).2
 rw[hk]at au
 simp only[]at hb
 refine .go r9.toNat fun ah a0 aw=>?_
 conv=>cbv
 refine .go Ap fun ax ⟨ay,ac,am⟩ ai=>?_
 conv=>cbv
 refine .go fun aj ak=>?_
 conv=>cbv
 refine .go r9.toNat fun aa al az=>?_
 conv=>cbv
 refine .go (⟨(Ah.getD aa ⟨0,tx [],0⟩).id_,(Ah.getD aa ⟨0,tx [],0⟩).text_,aj⟩:Bs) Ap (by omega) (by rw[←gD (show aa<Ah.length by omega)];rfl) (show 2+1≤3 by decide) fun a1 ad=>?_
 conv=>cbv
 have e:((⟨Ah.set aa (⟨(Ah.getD aa ⟨0,tx [],0⟩).id_,(Ah.getD aa ⟨0,tx [],0⟩).text_,aj⟩:Bs),Ak,Aj,Ai,An,Am⟩:Ac),0)=Cv (⟨Ah,Ak,Aj,Ai,An,Am⟩:Ac) name:=(by unfold Cv;rw[if_neg (by rintro(h|h);rw[ab]at h;cases h;rw[hk]at h;omega),hk];dsimp only;have e9:ac=(Ah.getD aa ⟨0,tx [],0⟩).text_:=(by have h9:ah=aa:=(by omega);subst h9;rw[←gD (show ah<Ah.length by omega),←ai]);rw[ak,e9,←al])
 rw[hr]at e
 simp only[Prod.mk.injEq,Ac.mk.injEq]at e
 obtain⟨⟨rfl,rfl,rfl,rfl,rfl,rfl⟩,rfl⟩:=e
 refine hQ _ _ ?_
 exact .many (.inl rfl) rfl rfl (.agg (.ref rfl (Aq ad) (Br ad A0) (.ref rfl (Aq As) (Br As A3) (.ref rfl (Aq Au) (Br Au A1) (.ref rfl (Aq At) (Br At A2) (.d rfl rfl (.d rfl rfl (.nil))))))) (.d rfl rfl (.nil)))
theorem Ux(Ap:Ah.map A5=Bk)(As:Ak.map Ae=Bh)(Au:Aj.map Ae=Bf)(At:Ai.map cS=Bl)(hn:Ah.length≤1000000000)(he:Ak.length≤1000000000)(ho:Aj.length≤1000000000)(hs:Ai.length<1000000000)(hss:okS Ai)(ar:H2 (⟨Ah,Ak,Aj,Ai,An,Am⟩:Ac))(hr:Db (⟨Ah,Ak,Aj,Ai,An,Am⟩:Ac)=⟨onod,oent,oold,oste,oroo,onex⟩)(H8:onod.map A5=Gh)(H4:oent.map Ae=Gk)(Ib:oold.map Ae=Gl)(H3:oste.map cS=Gj):Fn Tryz.prog 227 [.agg [.d (.row 3 Bk),.d (.row 2 Bh),.d (.row 2 Bf),.d (.row 1 Bl),I An,I Am]] [] ⟨.agg [.d (.row 3 Gh),.d (.row 2 Gk),.d (.row 2 Gl),.d (.row 1 Gj),I oroo,I onex],[],[]⟩:=by
 refine Fn.go Hx Tryz.func227 fun P hP Q hQ=>?_
 conv=>cbv
 obtain⟨n2,au⟩:∃m,m=Ah.length:=⟨_,rfl⟩
 obtain⟨n3,aw⟩:∃m,m=Ak.length:=⟨_,rfl⟩
 obtain⟨n4,ax⟩:∃m,m=Aj.length:=⟨_,rfl⟩
 obtain⟨n5,ay⟩:∃m,m=Ai.length:=⟨_,rfl⟩
 refine .ddN hP (O7 Ap As Au At (by omega) (by omega) (by omega) (by omega) au aw ax ay) rfl ?_
 conv=>cbv
 generalize ai:B3 (⟨Ah,Ak,Aj,Ai,An,Am⟩:Ac)=r6
 refine .lnt hP (Ry Ap As Au At ar ai) (.agg (.ref rfl (Aq Ap) (.ref rfl (Aq As) (.ref rfl (Aq Au) (.ref rfl (Aq At) (.d rfl (.d rfl .nil)))))) .nil) ?_
 cases r6
 conv=>cbv
 have e:(⟨Ah,Ak,Aj,Ai,An,Am⟩:Ac)=Db (⟨Ah,Ak,Aj,Ai,An,Am⟩:Ac):=(by unfold Db;rw[if_pos ai])
 rw[hr]at e
 simp only[Ac.mk.injEq]at e
 obtain⟨rfl,rfl,rfl,rfl,rfl,rfl⟩:=e
 exact hQ _ _ (.one (.inl rfl) rfl (.agg (.ref rfl (Aq Ap) (Br Ap H8) (.ref rfl (Aq As) (Br As H4) (.ref rfl (Aq Au) (Br Au Ib) (.ref rfl (Aq At) (Br At H3) (.d rfl rfl (.d rfl rfl (.nil))))))) .nil))
 conv=>cbv
 refine .sub0 As fun a0 z7 az al=>?_
 conv=>cbv
 rcases am:G7 (⟨Ah,Ak,Ak,[],An,Am⟩:Ac)with⟨ae,af,ag,ah,aj,ak⟩
 generalize aa:ae.map A5=an
 generalize ab:af.map Ae=ao
 generalize ac:ag.map Ae=ap
 generalize ad:ah.map cS=aq
 refine .lntD hP (Ve Ap As al rfl (by omega) (by omega) (by simp) (fun _ h=>by cases h) am aa ab ac ad) (.agg (.ref rfl (Aq Ap) (.ref rfl (Aq As) (.ref rfl (Aq al) (.ref rfl rfl (.d rfl (.d rfl .nil)))))) .nil) ?_
 conv=>cbv
 have e:(⟨ae,af,ag,ah,aj,ak⟩:Ac)=Db (⟨Ah,Ak,Aj,Ai,An,Am⟩:Ac):=(by unfold Db;rw[if_neg (by rw[ai];decide)];dsimp only;rw[←am];exact V6 (d:=⟨Ah,Ak,Ak,[],An,Am⟩) trivial)
 rw[hr]at e
 simp only[Ac.mk.injEq]at e
 obtain⟨rfl,rfl,rfl,rfl,rfl,rfl⟩:=e
 exact hQ _ _ (.one (.inl rfl) rfl (.agg (.d rfl (Ag aa H8) (.d rfl (Ag ab H4) (.d rfl (Ag ac Ib) (.d rfl (Ag ad H3) (.d rfl rfl (.d rfl rfl (.nil))))))) .nil))
end
section
open Go Go.Proofs
set_option maxRecDepth 20000
set_option maxHeartbeats 4000000
theorem XcT{α:Type}{f:α→Int}(h0:∀x,0≤f x):∀{l:List α} {x:α},x∈l→∀a,a+f x≤(l.map f).foldl (·+·) a
 |[],_,h,_=>by cases h
 |y::l,x,h,a=>by
  rw[List.map_cons,List.foldl_cons]
  rcases List.mem_cons.1 h with rfl|h
  ·exact Xca h0
  ·have h1:=XcT h0 h (a+f y)
   have:=h0 y
   omega
theorem XgE{d:Ac}{n:Bs}(h:n∈d.nodes_):(n.text_.size:Int)≤Fe d:=by
 have:=XcT (f:=fun n:Bs=>(n.text_.size:Int)) (fun x=>by omega) h 0
 unfold Fe Xiu
 omega
theorem XeX{d:Ac}{i:Int}{x:Bs}(h:H2 d)(hx:x.text_.size≤1000000000):H2 (Xi9 d i x):=by
 obtain⟨⟨h1,h2,h3⟩,h4⟩:=h
 refine⟨⟨by show(d.nodes_.set _ _).length≤_;rw[List.length_set];exact h1,?_,h3⟩,h4⟩
 intro n hn
 rcases List.mem_or_eq_of_mem_set hn with hn|rfl
 ·exact h2 n hn
 ·exact hx
theorem XhU{d:Ac}{i:Int}(h0:0≤i)(h1:i<d.nodes_.length):gN d i∈d.nodes_:=by
 unfold gN
 have hk:i.toNat<d.nodes_.length:=by omega
 rw[←gD hk]
 exact List.getElem_mem hk
theorem XgQ{d:Ac}{s:ByteArray}(h:H2 d)(he:d.entries_.length≤1000000)(hs:s.size≤1000000000)(hl:d.steps_.length<1000000000):H2 (Ug d s):=by
 obtain⟨⟨h1,h2,h3,h4,h5,h6⟩,h7,h8⟩:=h
 obtain⟨e,b,hy⟩:∃e b,Ay d.entries_ s=(e,b):=⟨_,_,rfl⟩
 have hlen:=P2 hy
 have hok:=Xe (l:=d.entries_) h4 hs hy
 unfold Ug
 rw[hy]
 refine⟨⟨?_,?_,by show e.length≤_;omega,hok,h5,by rw[List.length_append,List.length_singleton];omega⟩,h7,Xu h8 hs⟩
 ·exact Nat.le_trans (List.length_filter_le _ _) h1
 ·intro n hn
  exact h2 n (List.mem_filter.1 hn).1
def okG(d d':Ac):Prop:=H2 d'∧d'.steps_.length≤d.steps_.length+1
theorem Lg{d:Ac}(h:H2 d):okG d d:=⟨h,Nat.le_succ _⟩
section
variable {d:Ac} {name text a b:ByteArray}
theorem Mq(h:H2 d)(hl:d.steps_.length<1000000000)(hm:name.size≤500000000):okG d (Ax d name).1:=by
 unfold Ax
 split
 ·exact Lg h
 ·rename_i hr
  have hr:=by simpa using hr
  split
  ·exact Lg h
  ·split
   ·exact Lg h
   ·split
    ·exact Lg h
    ·rename_i hc
     have hri:=Hi hr
     have hz:=Qz (rfl:By d.next_=_) (by unfold Xm;omega)
     refine⟨XgQ ?_ (by show d.entries_.length≤_;omega) ?_ hl,by show(d.steps_++[_]).length≤_;rw[List.length_append];exact Nat.le_refl _⟩
     ·obtain⟨⟨h1,h2,h3⟩,h4⟩:=h
      refine⟨⟨by show(d.nodes_++[_]).length≤_;rw[List.length_append,List.length_singleton];omega,?_,h3⟩,h4⟩
      intro n hn
      rcases List.mem_append.1 hn with hn|hn
      ·exact h2 n hn
      ·rw[List.mem_singleton.1 hn]
       exact Nat.zero_le _
     ·simp only[ByteArray.size_append,Bw,List.length_singleton]
      omega
theorem G4(h:H2 d):okG d (Ao d name text).1:=by
 unfold Ao
 split
 ·exact Lg h
 ·rename_i hr
  have hk:0≤Cm d name:=Int.not_lt.1 fun k=>hr (.inr k)
  have hr:B3 d=true:=by
   cases hc:B3 d
   ·exact absurd (.inl hc) hr
   ·rfl
  have hri:=Hi hr
  have hu:=XgE (XhU hk (G1 rfl).2)
  refine⟨XeX h ?_,Nat.le_succ _⟩
  show((gN d (Cm d name)).text_++text.extract 0 _).size≤_
  rw[ByteArray.size_append,ByteArray.size_extract]
  omega
theorem Qy(h:H2 d):okG d (Cv d name).1:=by
 unfold Cv
 split
 ·exact Lg h
 ·rename_i hr
  have hk:0≤Cm d name:=Int.not_lt.1 fun k=>hr (.inr k)
  refine⟨XeX (i:=Cm d name) h ?_,Nat.le_succ _⟩
  show(gN d (Cm d name)).text_.size≤_
  exact h.1.2.1 _ (XhU hk (G1 rfl).2)
theorem Xg7(h:H2 d):okG d (Db d):=by
 unfold Db
 split
 ·exact Lg h
 ·obtain⟨⟨h1,h2,h3,h4,h5,h6⟩,h7,h8⟩:=h
  refine⟨⟨⟨Nat.le_trans (List.length_filter_le _ _) h1,fun n hn=>h2 n (List.mem_filter.1 hn).1,h3,h4,h3,Nat.zero_le _⟩,h4,fun _ hs=>by cases hs⟩,Nat.zero_le _⟩
end
end
section
open Go Go.Proofs
set_option maxRecDepth 20000
set_option maxHeartbeats 4000000
end
section
open Go Go.Proofs
set_option maxRecDepth 20000
set_option maxHeartbeats 4000000
end
section
open Go Go.Proofs
set_option maxRecDepth 20000
set_option maxHeartbeats 4000000
end
section
open Go Go.Proofs
set_option maxRecDepth 20000
set_option maxHeartbeats 4000000
end
end Go.Proofs.YtgdmjbcllgmepaaGreatDoor.Ab
