/- What functions of the program come to, for all arguments in the given bounds. -/
import Derived.Test.YtgdmjbcllgmepaaGreatDoorEcch06q
import Derived.Test.YtgdmjbcllgmepaaGreatDoorEcZ9
set_option linter.unusedVariables false
set_option linter.unusedSimpArgs false
namespace Go.Proofs.YtgdmjbcllgmepaaGreatDoor.Ab
section
open Go Go.Proofs
set_option maxRecDepth 20000
set_option maxHeartbeats 4000000
def Vw:List (Nat×TyRow):=[ty3,ty4,ty9,X1,Xf0,XaK,W8,ty78,Xjp,XgN,Xc,ty140]
theorem Xdj:Cb Tryz.prog Vw:=Cb.of (by kernel_rfl)
theorem F5:Setup Tryz.prog Vw:=⟨Xdj,mixed⟩
def I6(b:ByteArray):Bool:=(As b).ok_&&decide ((As b).end_=(b.size:Int))
def C0(d:Aa)(chain:List Int)(name:ByteArray):Int:=
 if(A5 name).1=2 then 1 else if(A5 name).1=0 then 0 else if¬(A5 name).2∈chain then 2
 else if Ij (Cn d (A5 name).2)=true then 0 else if I6 (Cn d (A5 name).2)=true then 3 else 4
def Nj(d:Aa)(n:ByteArray):List Hz:=if C0 d (Dm d) n=0 then[]else[⟨n,C0 d (Dm d) n⟩]
def Nk(d:Aa):List Hz:=(d.entries_.map fun e=>e.name_).flatMap (Nj d)
def Hh(d:Aa):Bool:=decide ((Nk d).length=0)
def Rf(d:Aa):Int:=((Em d).filter fun v=>decide (v=1)).length
def El(d:Aa)(v:Int):Aa×Int:=H4 d (Fo d v) (Fo d v).length
def By(d:Aa)(v:Int):Bool:=decide ((El d v).2=0)&&Hh (El d v).1&&Fg (El d v).1 d&&decide (Hf (El d v).1 v=0)&&(decide (v≠2)||decide (Rf (El d v).1=0))
theorem XfF{d:Aa}{b:Int}(h:b∈Dm d):(As (Cn d b)).ok_=true:=by
 unfold Dm at h
 obtain⟨x,hx,rfl⟩:=List.mem_map.1 h
 obtain⟨_,_,s,hs⟩:=Mk rfl hx
 obtain⟨hh,h1,_⟩:=Ox hs
 exact(Wk h1).2
theorem Yv{d:Aa}{v:Int}(h:La d)(he:d.entries_.length≤100000000)(hs:d.steps_.length≤100000000):La (El d v).1:=Xhz (v:=v) (n:=(Fo d v).length) h he hs
variable {o:Bool} {Ae:List Be} {A3 A2 A1 A4 xo:List (List D)} {Ag Ah:List Ad} {Af:List ByteArray} {Aj Ai version:Int}
theorem Xj9{b:ByteArray}(hs:b.size≤1000000000)(hr:I6 b=o):Fn Tryz.prog 222 [S b] [] ⟨B o,[],[]⟩:=by
 refine Fn.go F5 Tryz.func222 fun P hP Q hQ=>?_
 conv=>cbv
 rcases aa:As b with⟨aj,⟨af,ag,ah,ai⟩,ad,ae,am,an⟩
 generalize ab:ad.map cS=ak
 generalize ac:ae.map cI=al
 refine .dd hP (Pk (by omega) aa ab ac) ?_
 conv=>cbv
 cases aj
 conv=>cbv
 have e:false=I6 b:=(by unfold I6;rw[aa];rfl)
 rw[hr]at e
 subst e
 exact hQ _ _ (.b rfl rfl)
 conv=>cbv
 refine .go fun v2 ao=>?_
 conv=>cbv
 refine .eql (fun h3=>?_) fun h3=>?_
 conv=>cbv
 have e:true=I6 b:=(by unfold I6;rw[aa];symm;simp;omega)
 rw[hr]at e
 subst e
 exact hQ _ _ (.b rfl rfl)
 conv=>cbv
 have e:false=I6 b:=(by unfold I6;rw[aa];symm;simp;omega)
 rw[hr]at e
 subst e
 exact hQ _ _ (.b rfl rfl)
theorem Xgg{chain:List Int}{xchain:List (List D)}{name:ByteArray}{o:Int}(Ak:Ae.map A8=A3)(Al:Ag.map Ac=A2)(Ao:Ah.map Ac=A1)(An:Af.map cS=A4)(hchain:chain.map cI=xchain)(hd:okD (⟨Ae,Ag,Ah,Af,Aj,Ai⟩:Aa))(hs:name.size≤1000000000)(hc:chain.length≤1000000)(hr:C0 (⟨Ae,Ag,Ah,Af,Aj,Ai⟩:Aa) chain name=o):Fn Tryz.prog 151 [.agg [.d (.row 3 A3),.d (.row 2 A2),.d (.row 2 A1),.d (.row 1 A4),I Aj,I Ai],.d (.row 1 xchain),S name] [] ⟨I o,[],[]⟩:=by
 refine Fn.go F5 Tryz.func151 fun P hP Q hQ=>?_
 conv=>cbv
 rcases aa:A5 name with⟨ag,ae⟩
 refine .dd hP (Tf (by omega) aa) ?_
 conv=>cbv
 generalize ab:Cn (⟨Ae,Ag,Ah,Af,Aj,Ai⟩:Aa) ae=r2
 refine .dd hP (Xfs Ak Al Ao An hd ab) ?_
 conv=>cbv
 have ht2:=Gk hd ab
 refine .eql (fun h3=>?_) fun h3=>?_
 conv=>cbv
 have e:1=C0 (⟨Ae,Ag,Ah,Af,Aj,Ai⟩:Aa) chain name:=(by unfold C0;rw[aa];dsimp only;rw[if_pos h3])
 rw[hr]at e
 subst e
 exact hQ _ _ (.i rfl rfl)
 conv=>cbv
 refine .eql (fun h4=>?_) fun h4=>?_
 conv=>cbv
 have e:0=C0 (⟨Ae,Ag,Ah,Af,Aj,Ai⟩:Aa) chain name:=(by unfold C0;rw[aa];dsimp only;rw[if_neg h3,if_pos h4])
 rw[hr]at e
 subst e
 exact hQ _ _ (.i rfl rfl)
 conv=>cbv
 generalize ac:Ks chain ae=r5
 refine .dd hP (Hq hchain (by omega) ac) ?_
 cases r5
 conv=>cbv
 have e:2=C0 (⟨Ae,Ag,Ah,Af,Aj,Ai⟩:Aa) chain name:=(by unfold C0;rw[aa];dsimp only;rw[if_neg h3,if_neg h4,if_pos (show¬ae∈chain from of_decide_eq_false ac)])
 rw[hr]at e
 subst e
 exact hQ _ _ (.i rfl rfl)
 conv=>cbv
 generalize ad:Ij r2=r6
 refine .dd hP (Xg1 (by omega) ad) ?_
 cases r6
 conv=>cbv
 generalize af:I6 r2=r7
 refine .dd hP (Xj9 (by omega) af) ?_
 cases r7
 conv=>cbv
 have e:4=C0 (⟨Ae,Ag,Ah,Af,Aj,Ai⟩:Aa) chain name:=(by unfold C0;rw[aa];dsimp only;rw[if_neg h3,if_neg h4,if_neg (fun h=>h (of_decide_eq_true ac)),ab,if_neg (by rw[ad];decide),if_neg (by rw[af];decide)])
 rw[hr]at e
 subst e
 exact hQ _ _ (.i rfl rfl)
 conv=>cbv
 have e:3=C0 (⟨Ae,Ag,Ah,Af,Aj,Ai⟩:Aa) chain name:=(by unfold C0;rw[aa];dsimp only;rw[if_neg h3,if_neg h4,if_neg (fun h=>h (of_decide_eq_true ac)),ab,if_neg (by rw[ad];decide),if_pos af])
 rw[hr]at e
 subst e
 exact hQ _ _ (.i rfl rfl)
 conv=>cbv
 have e:0=C0 (⟨Ae,Ag,Ah,Af,Aj,Ai⟩:Aa) chain name:=(by unfold C0;rw[aa];dsimp only;rw[if_neg h3,if_neg h4,if_neg (fun h=>h (of_decide_eq_true ac)),ab,if_pos ad])
 rw[hr]at e
 subst e
 exact hQ _ _ (.i rfl rfl)
theorem XkG{o:List Hz}(Ak:Ae.map A8=A3)(Al:Ag.map Ac=A2)(Ao:Ah.map Ac=A1)(An:Af.map cS=A4)(hd:okD (⟨Ae,Ag,Ah,Af,Aj,Ai⟩:Aa))(hr:Nk (⟨Ae,Ag,Ah,Af,Aj,Ai⟩:Aa)=o)(ho:o.map Pb=xo):Fn Tryz.prog 69 [.agg [.d (.row 3 A3),.d (.row 2 A2),.d (.row 2 A1),.d (.row 1 A4),I Aj,I Ai]] [] ⟨.d (.row 2 xo),[],[]⟩:=by
 refine Fn.go F5 Tryz.func69 fun P hP Q hQ=>?_
 conv=>cbv
 have am:Ag.length≤1000000000:=hd.2.2.1
 have an:∀e∈Ag,e.name_.size≤1000000000:=hd.2.2.2.1
 generalize ae:Dm (⟨Ae,Ag,Ah,Af,Aj,Ai⟩:Aa)=l1
 generalize ak:l1.map cI=ay
 refine .dd hP (XhJ Ak Al Ao An hd ae ak) ?_
 conv=>cbv
 generalize al:H5 (⟨Ae,Ag,Ah,Af,Aj,Ai⟩:Aa)=l2
 generalize ah:l2.map cS=az
 refine .dd hP (XdH Ak Al Ao An am al ah) ?_
 conv=>cbv
 refine .go ah fun v3 a1=>?_
 conv=>cbv
 have ar:=Gh ae
 have ad:l2=Ag.map (fun e=>e.name_):=al.symm
 have au:l2.length=Ag.length:=by rw[ad,List.length_map]
 have hel:∀x∈l2,x.size≤1000000000:=by rw[ad];intro x hx;obtain⟨y,hy,rfl⟩:=List.mem_map.1 hx;exact an y hy
 refine LoopW.lp (κ:=Int×(List (List D))×Nat) F5 hP [2] [1,3,12,13] (fun(aa,ab,ac)=>[(4,.ref 3 0 ac),(14,I aa)]) (fun(aa,ab,ac)=>[(3,.row 2 false ab)])
  (fun(aa,ab,ac)=>∃(w3:List Hz),w3.map Pb=ab∧ac=w3.length∧0≤aa∧aa≤l2.length∧w3=(l2.take aa.toNat).flatMap (Nj (⟨Ae,Ag,Ah,Af,Aj,Ai⟩:Aa))∧w3.length≤aa)
  (fun(aa,ab,ac)=>(l2.length - aa).toNat) (0,[],0) ⟨[],rfl,rfl,by omega,by omega,rfl,by simp⟩ ⟨rfl,rfl,trivial⟩ rfl ?_
 rintro⟨aa,ab,ac⟩ J ⟨w3,af,aw,h0,h1,hx,hxl⟩ hJ
 conv=>cbv
 refine .lss (fun h4=>?_) fun h4=>?_
 conv=>cbv
 refine .go aa.toNat ah fun ag e5 ai=>?_
 conv=>cbv
 have ao:e5.size≤1000000000:=hel _ (by rw[ai];exact List.getElem_mem _)
 generalize aj:C0 (⟨Ae,Ag,Ah,Af,Aj,Ai⟩:Aa) l1 e5=r6
 refine .dd hP (Xgg Ak Al Ao An ak hd ao (by omega) aj) ?_
 conv=>cbv
 refine .neq (fun h7=>?_) fun h7=>?_
 conv=>cbv
 refine .one (⟨e5,r6⟩:Hz) af rfl fun ap z8 ax aq=>?_
 conv=>cbv
 refine .add fun v9 a2=>?_
 conv=>cbv
 have hlk:Nj (⟨Ae,Ag,Ah,Af,Aj,Ai⟩:Aa) e5=[⟨e5,r6⟩]:=by unfold Nj;rw[ae,aj,if_neg h7]
 exact .go [5] (v9,z8,ap) (hJ _ ⟨_,aq,Gw,by omega,by omega,by rw[show v9.toNat=aa.toNat+1 by omega,Gl ag,←ai,hlk,hx],by rw[List.length_append,List.length_singleton];omega⟩ mlt)
 conv=>cbv
 refine .add fun v8 a6=>?_
 conv=>cbv
 have hlk:Nj (⟨Ae,Ag,Ah,Af,Aj,Ai⟩:Aa) e5=[]:=by unfold Nj;rw[ae,aj,if_pos (by omega)]
 exact .go [3] (v8,ab,ac) (hJ _ ⟨_,af,Gw,by omega,by omega,by rw[show v8.toNat=aa.toNat+1 by omega,Gl ag,←ai,hlk,hx,List.append_nil],by omega⟩ mlt)
 conv=>cbv
 have e:w3=Nk (⟨Ae,Ag,Ah,Af,Aj,Ai⟩:Aa):=(by unfold Nk;rw[hx,List.take_of_length_le (by omega),ad])
 rw[hr]at e
 subst e
 exact hQ _ _ (.r rfl rfl (Am af) (by rw[←af,←ho]))
theorem Xj8{o:List Hz}(Ak:Ae.map A8=A3)(Al:Ag.map Ac=A2)(Ao:Ah.map Ac=A1)(An:Af.map cS=A4)(hd:okD (⟨Ae,Ag,Ah,Af,Aj,Ai⟩:Aa))(hr:Nk (⟨Ae,Ag,Ah,Af,Aj,Ai⟩:Aa)=o)(ho:o.map Pb=xo):Fn Tryz.prog 60 [.agg [.d (.row 3 A3),.d (.row 2 A2),.d (.row 2 A1),.d (.row 1 A4),I Aj,I Ai]] [] ⟨.d (.row 2 xo),[],[]⟩:=by
 refine Fn.go F5 Tryz.func60 fun P hP Q hQ=>?_
 conv=>cbv
 have ay:Ag.length≤1000000000:=hd.2.2.1
 have au:∀e∈Ag,e.name_.size≤1000000000:=hd.2.2.2.1
 have hdd:=hd
 generalize ab:Dm (⟨Ae,Ag,Ah,Af,Aj,Ai⟩:Aa)=l1
 generalize az:l1.map cI=bk
 refine .dd hP (V8 Ak Al Ao An hd ab az) ?_
 conv=>cbv
 have bg:=Gh ab
 refine LoopW.lp (κ:=Int×(List (List D))×Nat) F5 hP [2] [1,4] (fun(i5,ac,ad)=>[(3,.ref 3 0 ad),(5,I i5)]) (fun(i5,ac,ad)=>[(3,.row 2 false ac)])
  (fun(i5,ac,ad)=>∃(w3:List Hz),w3.map Pb=ac∧ad=w3.length∧0≤i5∧i5≤Ag.length∧w3=((Ag.take i5.toNat).map fun e=>e.name_).flatMap (Nj (⟨Ae,Ag,Ah,Af,Aj,Ai⟩:Aa))∧w3.length≤i5)
  (fun(i5,ac,ad)=>(Ag.length - i5).toNat) (0,[],0) ⟨[],rfl,rfl,by omega,by omega,rfl,by simp⟩ ⟨rfl,rfl,trivial⟩ rfl ?_
 rintro⟨i5,ac,ad⟩ J ⟨w3,ae,bh,h0,h1,hx,hxl⟩ hJ
 conv=>cbv
 refine .go Al fun v2 bl=>?_
 conv=>cbv
 refine .lss (fun h3=>?_) fun h3=>?_
 conv=>cbv
 refine .go i5.toNat Al fun a1 ⟨aa,bi⟩ af=>?_
 conv=>cbv
 have bm:aa.size≤1000000000:=by have h9:=au _ (List.getElem_mem a1);rw[←af]at h9;exact h9
 rcases ag:A5 aa with⟨bn,al⟩
 refine .dd hP (Pd (by omega) ag) ?_
 conv=>cbv
 generalize ah:Cn (⟨Ae,Ag,Ah,Af,Aj,Ai⟩:Aa) al=r6
 refine .dd hP (Q7 Ak Al Ao An hd ah) ?_
 conv=>cbv
 have ht2:=Gk hd ah
 refine .eql (fun h7=>?_) fun h7=>?_
 conv=>cbv
 refine .neq (fun h8=>?_) fun h8=>?_
 conv=>cbv
 refine .one (⟨aa,1⟩:Hz) ae rfl fun bb z9 bj bc=>?_
 conv=>cbv
 refine .add fun am a2=>?_
 conv=>cbv
 have hla:C0 (⟨Ae,Ag,Ah,Af,Aj,Ai⟩:Aa) (Dm (⟨Ae,Ag,Ah,Af,Aj,Ai⟩:Aa)) aa=1:=by unfold C0;rw[ag,ab];dsimp only;rw[if_pos h7]
 have hlk:Nj (⟨Ae,Ag,Ah,Af,Aj,Ai⟩:Aa) aa=[⟨aa,1⟩]:=by unfold Nj;rw[hla];rfl
 exact .go [5] (am,z9,bb) (hJ _ ⟨_,bc,Gw,by omega,by omega,by rw[show am.toNat=i5.toNat+1 by omega,List.map_take,Gl (show i5.toNat<(Ag.map fun e=>e.name_).length by rw[List.length_map];omega),List.getElem_map,←af];simp only[];rw[hlk,←List.map_take,hx],by rw[List.length_append,List.length_singleton];omega⟩ mlt)
 omega
 conv=>cbv
 refine .eql (fun h8=>?_) fun h8=>?_
 conv=>cbv
 refine .neq (fun h9=>?_) fun h9=>?_
 omega
 conv=>cbv
 refine .add fun am a2=>?_
 conv=>cbv
 have hla:C0 (⟨Ae,Ag,Ah,Af,Aj,Ai⟩:Aa) (Dm (⟨Ae,Ag,Ah,Af,Aj,Ai⟩:Aa)) aa=0:=by unfold C0;rw[ag,ab];dsimp only;rw[if_neg h7,if_pos h8]
 have hlk:Nj (⟨Ae,Ag,Ah,Af,Aj,Ai⟩:Aa) aa=[]:=by unfold Nj;rw[hla];rfl
 exact .go [3] (am,ac,ad) (hJ _ ⟨_,ae,Gw,by omega,by omega,by rw[show am.toNat=i5.toNat+1 by omega,List.map_take,Gl (show i5.toNat<(Ag.map fun e=>e.name_).length by rw[List.length_map];omega),List.getElem_map,←af];simp only[];rw[hlk,List.append_nil,←List.map_take,hx],by omega⟩ mlt)
 conv=>cbv
 generalize ai:K9 l1 al=r9
 refine .dd hP (Xfd az (by omega) ai) ?_
 cases r9
 conv=>cbv
 refine .neq (fun h10=>?_) fun h10=>?_
 conv=>cbv
 refine .one (⟨aa,2⟩:Hz) ae rfl fun a6 bd be a7=>?_
 conv=>cbv
 refine .add fun ak ar=>?_
 conv=>cbv
 have hla:C0 (⟨Ae,Ag,Ah,Af,Aj,Ai⟩:Aa) (Dm (⟨Ae,Ag,Ah,Af,Aj,Ai⟩:Aa)) aa=2:=by unfold C0;rw[ag,ab];dsimp only;rw[if_neg h7,if_neg h8,if_pos (show¬al∈l1 from of_decide_eq_false ai)]
 have hlk:Nj (⟨Ae,Ag,Ah,Af,Aj,Ai⟩:Aa) aa=[⟨aa,2⟩]:=by unfold Nj;rw[hla];rfl
 exact .go [5] (ak,bd,a6) (hJ _ ⟨_,a7,Gw,by omega,by omega,by rw[show ak.toNat=i5.toNat+1 by omega,List.map_take,Gl (show i5.toNat<(Ag.map fun e=>e.name_).length by rw[List.length_map];omega),List.getElem_map,←af];simp only[];rw[hlk,←List.map_take,hx],by rw[List.length_append,List.length_singleton];omega⟩ mlt)
 omega
 conv=>cbv
 have ay:Ag.length≤1000000000:=hd.2.2.1
 have au:∀e∈Ag,e.name_.size≤1000000000:=hd.2.2.2.1
 have hdd:=hd
 generalize aj:Ij r6=bf
 refine .dd hP (Xgp (by omega) aj) ?_
 cases bf
 conv=>cbv
 have ay:Ag.length≤1000000000:=hd.2.2.1
 have au:∀e∈Ag,e.name_.size≤1000000000:=hd.2.2.2.1
 have hdd:=hd
 generalize an:H7 r6=a8
 refine .dd hP (Zi (by omega) an) ?_
 conv=>cbv
 refine .go fun ak ar=>?_
 conv=>cbv
 refine .eql (fun h13=>?_) fun h13=>?_
 conv=>cbv
 refine .neq (fun h14=>?_) fun h14=>?_
 conv=>cbv
 refine .one (⟨aa,3⟩:Hz) ae rfl fun ao aw ax ap=>?_
 conv=>cbv
 refine .add fun aq ba=>?_
 conv=>cbv
 have hok:=XfF (d:=(⟨Ae,Ag,Ah,Af,Aj,Ai⟩:Aa)) (b:=al) (by rw[ab];exact of_decide_eq_true ai)
 rw[ah]at hok
 have hop:I6 r6=decide (a8=(r6.size:Int)):=by unfold I6;rw[hok,Bool.true_and];show decide (H7 r6=_)=_;rw[an]
 have hla:C0 (⟨Ae,Ag,Ah,Af,Aj,Ai⟩:Aa) (Dm (⟨Ae,Ag,Ah,Af,Aj,Ai⟩:Aa)) aa=3:=by unfold C0;rw[ag,ab];dsimp only;rw[if_neg h7,if_neg h8,if_neg (fun h=>h (of_decide_eq_true ai)),ah,if_neg (by rw[aj];decide),if_pos (by rw[hop];exact decide_eq_true (by omega))]
 have hlk:Nj (⟨Ae,Ag,Ah,Af,Aj,Ai⟩:Aa) aa=[⟨aa,3⟩]:=by unfold Nj;rw[hla];rfl
 exact .go [5] (aq,aw,ao) (hJ _ ⟨_,ap,Gw,by omega,by omega,by rw[show aq.toNat=i5.toNat+1 by omega,List.map_take,Gl (show i5.toNat<(Ag.map fun e=>e.name_).length by rw[List.length_map];omega),List.getElem_map,←af];simp only[];rw[hlk,←List.map_take,hx],by rw[List.length_append,List.length_singleton];omega⟩ mlt)
 omega
 conv=>cbv
 refine .neq (fun h14=>?_) fun h14=>?_
 conv=>cbv
 refine .one (⟨aa,4⟩:Hz) ae rfl fun ao aw ax ap=>?_
 conv=>cbv
 refine .add fun aq ba=>?_
 conv=>cbv
 have hok:=XfF (d:=(⟨Ae,Ag,Ah,Af,Aj,Ai⟩:Aa)) (b:=al) (by rw[ab];exact of_decide_eq_true ai)
 rw[ah]at hok
 have hop:I6 r6=decide (a8=(r6.size:Int)):=by unfold I6;rw[hok,Bool.true_and];show decide (H7 r6=_)=_;rw[an]
 have hla:C0 (⟨Ae,Ag,Ah,Af,Aj,Ai⟩:Aa) (Dm (⟨Ae,Ag,Ah,Af,Aj,Ai⟩:Aa)) aa=4:=by unfold C0;rw[ag,ab];dsimp only;rw[if_neg h7,if_neg h8,if_neg (fun h=>h (of_decide_eq_true ai)),ah,if_neg (by rw[aj];decide),if_neg (by rw[hop,decide_eq_true_eq];omega)]
 have hlk:Nj (⟨Ae,Ag,Ah,Af,Aj,Ai⟩:Aa) aa=[⟨aa,4⟩]:=by unfold Nj;rw[hla];rfl
 exact .go [5] (aq,aw,ao) (hJ _ ⟨_,ap,Gw,by omega,by omega,by rw[show aq.toNat=i5.toNat+1 by omega,List.map_take,Gl (show i5.toNat<(Ag.map fun e=>e.name_).length by rw[List.length_map];omega),List.getElem_map,←af];simp only[];rw[hlk,←List.map_take,hx],by rw[List.length_append,List.length_singleton];omega⟩ mlt)
 omega
 conv=>cbv
 refine .neq (fun h11=>?_) fun h11=>?_
 omega
 conv=>cbv
 refine .add fun ak ar=>?_
 conv=>cbv
 have hla:C0 (⟨Ae,Ag,Ah,Af,Aj,Ai⟩:Aa) (Dm (⟨Ae,Ag,Ah,Af,Aj,Ai⟩:Aa)) aa=0:=by unfold C0;rw[ag,ab];dsimp only;rw[if_neg h7,if_neg h8,if_neg (fun h=>h (of_decide_eq_true ai)),ah,if_pos aj]
 have hlk:Nj (⟨Ae,Ag,Ah,Af,Aj,Ai⟩:Aa) aa=[]:=by unfold Nj;rw[hla];rfl
 exact .go [3] (ak,ac,ad) (hJ _ ⟨_,ae,Gw,by omega,by omega,by rw[show ak.toNat=i5.toNat+1 by omega,List.map_take,Gl (show i5.toNat<(Ag.map fun e=>e.name_).length by rw[List.length_map];omega),List.getElem_map,←af];simp only[];rw[hlk,List.append_nil,←List.map_take,hx],by omega⟩ mlt)
 conv=>cbv
 have e:w3=Nk (⟨Ae,Ag,Ah,Af,Aj,Ai⟩:Aa):=(by unfold Nk;rw[hx,List.take_of_length_le (by omega)])
 rw[hr]at e
 subst e
 exact hQ _ _ (.r rfl rfl (Am ae) (by rw[←ae,←ho]))
theorem XcH{Gz:List Be}{Eb:List (List D)}{Gv:List Ad}{Ed:List (List D)}{Gx:List Ad}{Ec:List (List D)}{Gy:List ByteArray}{Ee:List (List D)}{Gt:Int}{Gu:Int}{ob:Int}(Ak:Ae.map A8=A3)(Al:Ag.map Ac=A2)(Ao:Ah.map Ac=A1)(An:Af.map cS=A4)(am:La (⟨Ae,Ag,Ah,Af,Aj,Ai⟩:Aa))(hes:Ag.length≤100000000)(hst:Af.length≤100000000)(hr:El (⟨Ae,Ag,Ah,Af,Aj,Ai⟩:Aa) version=(⟨Gz,Gv,Gx,Gy,Gt,Gu⟩,ob))(B4:Gz.map A8=Eb)(B8:Gv.map Ac=Ed)(B5:Gx.map Ac=Ec)(B6:Gy.map cS=Ee):Fn Tryz.prog 130 [.agg [.d (.row 3 A3),.d (.row 2 A2),.d (.row 2 A1),.d (.row 1 A4),I Aj,I Ai],I version] [] ⟨.tup [.agg [.d (.row 3 Eb),.d (.row 2 Ed),.d (.row 2 Ec),.d (.row 1 Ee),I Gt,I Gu],I ob],[],[]⟩:=by
 refine Fn.go F5 Tryz.func130 fun P hP Q hQ=>?_
 conv=>cbv
 generalize ai:Fo (⟨Ae,Ag,Ah,Af,Aj,Ai⟩:Aa) version=l1
 generalize al:l1.map eOp=ax
 refine .dd hP (XfZ Ak Al Ao An am.1 ai al) ?_
 conv=>cbv
 refine .go al fun v2 au=>?_
 conv=>cbv
 have hpl:=Vq (d:=(⟨Ae,Ag,Ah,Af,Aj,Ai⟩:Aa)) (v:=version)
 rw[ai]at hpl
 simp only[]at hpl
 rcases an:H4 (⟨Ae,Ag,Ah,Af,Aj,Ai⟩:Aa) l1 v2 with⟨⟨ae,af,ag,ah,aj,ak⟩,aw⟩
 generalize aa:ae.map A8=ao
 generalize ab:af.map Ac=ap
 generalize ac:ag.map Ac=aq
 generalize ad:ah.map cS=ar
 refine .dd hP (Xjy Ak Al Ao An al am (by omega) (by rw[←ai];exact Xh5) an aa ab ac ad) ?_
 conv=>cbv
 have e:((⟨ae,af,ag,ah,aj,ak⟩:Aa),aw)=El (⟨Ae,Ag,Ah,Af,Aj,Ai⟩:Aa) version:=(by unfold El;rw[ai,←au,an])
 rw[hr]at e
 simp only[Prod.mk.injEq,Aa.mk.injEq]at e
 obtain⟨⟨rfl,rfl,rfl,rfl,rfl,rfl⟩,rfl⟩:=e
 refine hQ _ _ ?_
 exact .many (.inl rfl) rfl rfl (.agg (.d rfl (Bf aa B4) (.d rfl (Bf ab B8) (.d rfl (Bf ac B5) (.d rfl (Bf ad B6) (.d rfl rfl (.d rfl rfl (.nil))))))) (.d rfl rfl (.nil)))
theorem XiH(Ak:Ae.map A8=A3)(Al:Ag.map Ac=A2)(Ao:Ah.map Ac=A1)(An:Af.map cS=A4)(hd:okD (⟨Ae,Ag,Ah,Af,Aj,Ai⟩:Aa))(hr:Hh (⟨Ae,Ag,Ah,Af,Aj,Ai⟩:Aa)=o):Fn Tryz.prog 131 [.agg [.d (.row 3 A3),.d (.row 2 A2),.d (.row 2 A1),.d (.row 1 A4),I Aj,I Ai]] [] ⟨B o,[],[]⟩:=by
 refine Fn.go F5 Tryz.func131 fun P hP Q hQ=>?_
 conv=>cbv
 generalize aa:Nk (⟨Ae,Ag,Ah,Af,Aj,Ai⟩:Aa)=l1
 generalize ab:l1.map Pb=ac
 refine .dd hP (XkG Ak Al Ao An hd aa ab) ?_
 conv=>cbv
 refine .go ab fun v2 ad=>?_
 conv=>cbv
 refine .eql (fun h3=>?_) fun h3=>?_
 conv=>cbv
 have e:true=Hh (⟨Ae,Ag,Ah,Af,Aj,Ai⟩:Aa):=(by unfold Hh;rw[aa];exact(decide_eq_true (by omega)).symm)
 rw[hr]at e
 subst e
 exact hQ _ _ (.b rfl rfl)
 conv=>cbv
 have e:false=Hh (⟨Ae,Ag,Ah,Af,Aj,Ai⟩:Aa):=(by unfold Hh;rw[aa];exact(decide_eq_false (by omega)).symm)
 rw[hr]at e
 subst e
 exact hQ _ _ (.b rfl rfl)
theorem Xlq{o:Int}(Ak:Ae.map A8=A3)(Al:Ag.map Ac=A2)(Ao:Ah.map Ac=A1)(An:Af.map cS=A4)(hd:okD (⟨Ae,Ag,Ah,Af,Aj,Ai⟩:Aa))(hr:Rf (⟨Ae,Ag,Ah,Af,Aj,Ai⟩:Aa)=o):Fn Tryz.prog 133 [.agg [.d (.row 3 A3),.d (.row 2 A2),.d (.row 2 A1),.d (.row 1 A4),I Aj,I Ai]] [] ⟨I o,[],[]⟩:=by
 refine Fn.go F5 Tryz.func133 fun P hP Q hQ=>?_
 conv=>cbv
 generalize ab:Em (⟨Ae,Ag,Ah,Af,Aj,Ai⟩:Aa)=l1
 generalize ac:l1.map cI=af
 refine .dd hP (XcY Ak Al Ao An hd ab ac) ?_
 conv=>cbv
 refine .go ac fun v2 ag=>?_
 conv=>cbv
 refine LoopW.lp (κ:=Int×Int) F5 hP [] [7,8] (fun(i3,i9)=>[(3,I i3),(9,I i9)]) (fun(i3,i9)=>[])
  (fun(i3,i9)=>0≤i9∧i9≤l1.length∧i3=(((l1.take i9.toNat).filter fun v=>decide (v=1)).length:Int)∧i3≤i9)
  (fun(i3,i9)=>(l1.length - i9).toNat) (0,0) ⟨by omega,by omega,rfl,by omega⟩ ⟨rfl,rfl,trivial⟩ rfl ?_
 rintro⟨i3,i9⟩ J ⟨h0,h1,hx,hxl⟩ hJ
 have hvl:l1.length≤16:=by rw[←ab];unfold Em;rw[List.length_map];exact Jb rfl
 conv=>cbv
 refine .lss (fun h3=>?_) fun h3=>?_
 conv=>cbv
 refine .go i9.toNat ac fun aa e4 ad=>?_
 conv=>cbv
 refine .eql (fun h5=>?_) fun h5=>?_
 conv=>cbv
 refine .add fun v6 ae=>?_
 conv=>cbv
 refine .add fun v7 ah=>?_
 conv=>cbv
 exact .go [] (v6,v7) (hJ _ ⟨by omega,by omega,by rw[show v7.toNat=i9.toNat+1 by omega,Do aa,←ad,if_pos (decide_eq_true h5),List.length_append,List.length_singleton];omega,by omega⟩ mlt)
 conv=>cbv
 refine .add fun v6 ae=>?_
 conv=>cbv
 exact .go [] (i3,v6) (hJ _ ⟨by omega,by omega,by rw[show v6.toNat=i9.toNat+1 by omega,Do aa,←ad,if_neg (by rw[decide_eq_true_eq];exact h5),List.append_nil];exact hx,by omega⟩ mlt)
 conv=>cbv
 have e:i3=Rf (⟨Ae,Ag,Ah,Af,Aj,Ai⟩:Aa):=(by unfold Rf;rw[ab,hx,List.take_of_length_le (by omega)])
 rw[hr]at e
 subst e
 exact hQ _ _ (.i rfl rfl)
theorem Xiz(Ak:Ae.map A8=A3)(Al:Ag.map Ac=A2)(Ao:Ah.map Ac=A1)(An:Af.map cS=A4)(hd:okD (⟨Ae,Ag,Ah,Af,Aj,Ai⟩:Aa))(hr:Hh (⟨Ae,Ag,Ah,Af,Aj,Ai⟩:Aa)=o):Fn Tryz.prog 128 [.agg [.d (.row 3 A3),.d (.row 2 A2),.d (.row 2 A1),.d (.row 1 A4),I Aj,I Ai]] [] ⟨B o,[],[]⟩:=by
 refine Fn.go F5 Tryz.func128 fun P hP Q hQ=>?_
 conv=>cbv
 generalize aa:Nk (⟨Ae,Ag,Ah,Af,Aj,Ai⟩:Aa)=l1
 generalize ab:l1.map Pb=ac
 refine .dd hP (Xj8 Ak Al Ao An hd aa ab) ?_
 conv=>cbv
 refine .go ab fun v2 ad=>?_
 conv=>cbv
 refine .eql (fun h3=>?_) fun h3=>?_
 conv=>cbv
 have e:true=Hh (⟨Ae,Ag,Ah,Af,Aj,Ai⟩:Aa):=(by unfold Hh;rw[aa];exact(decide_eq_true (by omega)).symm)
 rw[hr]at e
 subst e
 exact hQ _ _ (.b rfl rfl)
 conv=>cbv
 have e:false=Hh (⟨Ae,Ag,Ah,Af,Aj,Ai⟩:Aa):=(by unfold Hh;rw[aa];exact(decide_eq_false (by omega)).symm)
 rw[hr]at e
 subst e
 exact hQ _ _ (.b rfl rfl)
theorem Xlg{o:Int}(Ak:Ae.map A8=A3)(Al:Ag.map Ac=A2)(Ao:Ah.map Ac=A1)(An:Af.map cS=A4)(hd:okD (⟨Ae,Ag,Ah,Af,Aj,Ai⟩:Aa))(hr:Rf (⟨Ae,Ag,Ah,Af,Aj,Ai⟩:Aa)=o):Fn Tryz.prog 129 [.agg [.d (.row 3 A3),.d (.row 2 A2),.d (.row 2 A1),.d (.row 1 A4),I Aj,I Ai]] [] ⟨I o,[],[]⟩:=by
 refine Fn.go F5 Tryz.func129 fun P hP Q hQ=>?_
 conv=>cbv
 generalize ab:Em (⟨Ae,Ag,Ah,Af,Aj,Ai⟩:Aa)=l1
 generalize ac:l1.map cI=af
 refine .dd hP (XcV Ak Al Ao An hd ab ac) ?_
 conv=>cbv
 refine LoopW.lp (κ:=Int×Int) F5 hP [] [4] (fun(i3,i5)=>[(3,I i3),(5,I i5)]) (fun(i3,i5)=>[])
  (fun(i3,i5)=>0≤i5∧i5≤l1.length∧i3=(((l1.take i5.toNat).filter fun v=>decide (v=1)).length:Int)∧i3≤i5)
  (fun(i3,i5)=>(l1.length - i5).toNat) (0,0) ⟨by omega,by omega,rfl,by omega⟩ ⟨rfl,rfl,trivial⟩ rfl ?_
 rintro⟨i3,i5⟩ J ⟨h0,h1,hx,hxl⟩ hJ
 have hvl:l1.length≤16:=by rw[←ab];unfold Em;rw[List.length_map];exact Jb rfl
 conv=>cbv
 refine .go ac fun v2 ag=>?_
 conv=>cbv
 refine .lss (fun h3=>?_) fun h3=>?_
 conv=>cbv
 refine .go i5.toNat ac fun aa e4 ad=>?_
 conv=>cbv
 refine .eql (fun h5=>?_) fun h5=>?_
 conv=>cbv
 refine .add fun v6 ae=>?_
 conv=>cbv
 refine .add fun v7 ah=>?_
 conv=>cbv
 exact .go [] (v6,v7) (hJ _ ⟨by omega,by omega,by rw[show v7.toNat=i5.toNat+1 by omega,Do aa,←ad,if_pos (decide_eq_true h5),List.length_append,List.length_singleton];omega,by omega⟩ mlt)
 conv=>cbv
 refine .add fun v6 ae=>?_
 conv=>cbv
 exact .go [] (i3,v6) (hJ _ ⟨by omega,by omega,by rw[show v6.toNat=i5.toNat+1 by omega,Do aa,←ad,if_neg (by rw[decide_eq_true_eq];exact h5),List.append_nil];exact hx,by omega⟩ mlt)
 conv=>cbv
 have e:i3=Rf (⟨Ae,Ag,Ah,Af,Aj,Ai⟩:Aa):=(by unfold Rf;rw[ab,hx,List.take_of_length_le (by omega)])
 rw[hr]at e
 subst e
 exact hQ _ _ (.i rfl rfl)
theorem Xec(Ak:Ae.map A8=A3)(Al:Ag.map Ac=A2)(Ao:Ah.map Ac=A1)(An:Af.map cS=A4)(ap:La (⟨Ae,Ag,Ah,Af,Aj,Ai⟩:Aa))(hes:Ag.length≤100000000)(hst:Af.length≤100000000)(hr:By (⟨Ae,Ag,Ah,Af,Aj,Ai⟩:Aa) version=o):Fn Tryz.prog 51 [.agg [.d (.row 3 A3),.d (.row 2 A2),.d (.row 2 A1),.d (.row 1 A4),I Aj,I Ai],I version] [] ⟨B o,[],[]⟩:=by
 refine Fn.go F5 Tryz.func51 fun P hP Q hQ=>?_
 conv=>cbv
 rcases ak:El (⟨Ae,Ag,Ah,Af,Aj,Ai⟩:Aa) version with⟨⟨ae,af,ag,ah,ai,aj⟩,al⟩
 generalize aa:ae.map A8=ar
 generalize ab:af.map Ac=au
 generalize ac:ag.map Ac=aw
 generalize ad:ah.map cS=ax
 refine .dd hP (XcH Ak Al Ao An ap hes hst ak aa ab ac ad) ?_
 conv=>cbv
 have hm:=Yv (d:=(⟨Ae,Ag,Ah,Af,Aj,Ai⟩:Aa)) (v:=version) ap hes hst
 rw[ak]at hm
 refine .eql (fun h2=>?_) fun h2=>?_
 conv=>cbv
 generalize am:Hh (⟨ae,af,ag,ah,ai,aj⟩:Aa)=r3
 refine .dd hP (XiH aa ab ac ad hm.1 am) ?_
 cases r3
 conv=>cbv
 have e:false=By (⟨Ae,Ag,Ah,Af,Aj,Ai⟩:Aa) version:=(by unfold By;rw[ak];dsimp only;rw[decide_eq_true (show al=0 by omega),am];rfl)
 rw[hr]at e
 subst e
 exact hQ _ _ (.b rfl rfl)
 conv=>cbv
 generalize an:Fg (⟨ae,af,ag,ah,ai,aj⟩:Aa) (⟨Ae,Ag,Ah,Af,Aj,Ai⟩:Aa)=r4
 refine .dd hP (Xi7 aa ab ac ad Ak Al Ao An hm.1 ap.1 an) ?_
 cases r4
 conv=>cbv
 have e:false=By (⟨Ae,Ag,Ah,Af,Aj,Ai⟩:Aa) version:=(by unfold By;rw[ak];dsimp only;rw[decide_eq_true (show al=0 by omega),am,an];rfl)
 rw[hr]at e
 subst e
 exact hQ _ _ (.b rfl rfl)
 conv=>cbv
 generalize ao:Hf (⟨ae,af,ag,ah,ai,aj⟩:Aa) version=r5
 refine .dd hP (Xi9 aa ab ac ad hm ao) ?_
 conv=>cbv
 refine .eql (fun h6=>?_) fun h6=>?_
 conv=>cbv
 refine .neq (fun h7=>?_) fun h7=>?_
 conv=>cbv
 have e:true=By (⟨Ae,Ag,Ah,Af,Aj,Ai⟩:Aa) version:=(by unfold By;rw[ak];dsimp only;rw[decide_eq_true (show al=0 by omega),am,an,ao,decide_eq_true (show r5=0 by omega),decide_eq_true (show version≠2 by omega)];rfl)
 rw[hr]at e
 subst e
 exact hQ _ _ (.b rfl rfl)
 conv=>cbv
 generalize aq:Rf (⟨ae,af,ag,ah,ai,aj⟩:Aa)=r8
 refine .dd hP (Xlq aa ab ac ad hm.1 aq) ?_
 conv=>cbv
 refine .eql (fun h9=>?_) fun h9=>?_
 conv=>cbv
 have e:true=By (⟨Ae,Ag,Ah,Af,Aj,Ai⟩:Aa) version:=(by unfold By;rw[ak];dsimp only;rw[decide_eq_true (show al=0 by omega),am,an,ao,decide_eq_true (show r5=0 by omega),decide_eq_false (show¬version≠2 by omega),aq,decide_eq_true (show r8=0 by omega)];rfl)
 rw[hr]at e
 subst e
 exact hQ _ _ (.b rfl rfl)
 conv=>cbv
 have e:false=By (⟨Ae,Ag,Ah,Af,Aj,Ai⟩:Aa) version:=(by unfold By;rw[ak];dsimp only;rw[decide_eq_true (show al=0 by omega),am,an,ao,decide_eq_true (show r5=0 by omega),decide_eq_false (show¬version≠2 by omega),aq,decide_eq_false (show¬r8=0 by omega)];rfl)
 rw[hr]at e
 subst e
 exact hQ _ _ (.b rfl rfl)
 conv=>cbv
 have e:false=By (⟨Ae,Ag,Ah,Af,Aj,Ai⟩:Aa) version:=(by unfold By;rw[ak];dsimp only;rw[decide_eq_true (show al=0 by omega),am,an,ao,decide_eq_false (show¬r5=0 by omega)];rfl)
 rw[hr]at e
 subst e
 exact hQ _ _ (.b rfl rfl)
 conv=>cbv
 have e:false=By (⟨Ae,Ag,Ah,Af,Aj,Ai⟩:Aa) version:=(by unfold By;rw[ak];dsimp only;rw[decide_eq_false (show¬al=0 by omega)];rfl)
 rw[hr]at e
 subst e
 exact hQ _ _ (.b rfl rfl)
theorem Ws:Setup Tryz.prog ((3000003,Ex Tryz.prog 3000003)::Vw):=(Setup.mark 3000003 F5)
theorem Xd3(Ak:Ae.map A8=A3)(Al:Ag.map Ac=A2)(Ao:Ah.map Ac=A1)(An:Af.map cS=A4)(ap:La (⟨Ae,Ag,Ah,Af,Aj,Ai⟩:Aa))(hes:Ag.length≤100000000)(hst:Af.length≤100000000)(hr:By (⟨Ae,Ag,Ah,Af,Aj,Ai⟩:Aa) version=o):Fn Tryz.prog 50 [.agg [.d (.row 3 A3),.d (.row 2 A2),.d (.row 2 A1),.d (.row 1 A4),I Aj,I Ai],I version] [] ⟨B o,[],[]⟩:=by
 refine Fn.go Ws Tryz.func50 fun P hP Q hQ=>?_
 conv=>cbv
 generalize ax:Fo (⟨Ae,Ag,Ah,Af,Aj,Ai⟩:Aa) version=l1
 generalize ay:l1.map eOp=be
 refine .dd hP (Xe6 Ak Al Ao An (by first|exact ap.1|exact hm.1) ax ay) ?_
 conv=>cbv
 refine .go ay fun v2 bd=>?_
 conv=>cbv
 have hpl:=Vq (d:=(⟨Ae,Ag,Ah,Af,Aj,Ai⟩:Aa)) (v:=version)
 rw[ax]at hpl
 simp only[]at hpl
 rcases az:H4 (⟨Ae,Ag,Ah,Af,Aj,Ai⟩:Aa) l1 v2 with⟨⟨ae,af,ag,ah,ai,aj⟩,ak⟩
 generalize aa:ae.map A8=a1
 generalize ab:af.map Ac=a2
 generalize ac:ag.map Ac=a6
 generalize ad:ah.map cS=a7
 refine .dd hP (Xj2 Ak Al Ao An ay ap (by omega) (by rw[←ax];exact Xh5) az aa ab ac ad) ?_
 conv=>cbv
 have hco:El (⟨Ae,Ag,Ah,Af,Aj,Ai⟩:Aa) version=(⟨ae,af,ag,ah,ai,aj⟩,ak):=by unfold El;rw[ax,←bd,az]
 have hm:=Yv (d:=(⟨Ae,Ag,Ah,Af,Aj,Ai⟩:Aa)) (v:=version) ap hes hst
 rw[hco]at hm
 refine .eql (fun h4=>?_) fun h4=>?_
 conv=>cbv
 generalize am:Hh (⟨ae,af,ag,ah,ai,aj⟩:Aa)=r5
 refine .dd hP (Xiz aa ab ac ad hm.1 am) ?_
 cases r5
 conv=>cbv
 refine .go2 (by kernel_rfl) ?_
 conv=>cbv
 have e:false=By (⟨Ae,Ag,Ah,Af,Aj,Ai⟩:Aa) version:=(by unfold By;rw[hco];dsimp only;rw[decide_eq_true (show ak=0 by omega),am];rfl)
 rw[hr]at e
 subst e
 exact hQ _ _ (.b rfl rfl)
 conv=>cbv
 generalize an:Ll (⟨ae,af,ag,ah,ai,aj⟩:Aa)=l6
 generalize a8:l6.map cS=bf
 refine .dd hP (XiR aa ab ac ad (by first|exact hm.1|exact ap.1) an a8) ?_
 conv=>cbv
 generalize aq:Ll (⟨Ae,Ag,Ah,Af,Aj,Ai⟩:Aa)=l7
 generalize ba:l7.map cS=bg
 refine .dd hP (XiR Ak Al Ao An ap.1 aq ba) ?_
 conv=>cbv
 have bh:=Xfl hm.1 an
 generalize ar:Lu l6 l7=r8
 refine .dd hP (Xiy a8 ba (by omega) ar) ?_
 cases r8
 conv=>cbv
 refine .go2 (by kernel_rfl) ?_
 conv=>cbv
 have e:false=By (⟨Ae,Ag,Ah,Af,Aj,Ai⟩:Aa) version:=(by unfold By;rw[hco];dsimp only;rw[decide_eq_true (show ak=0 by omega),am,show Fg _ _=decide (l6=l7)from by unfold Fg;rw[an,aq],show decide (l6=l7)=false from ar];rfl)
 rw[hr]at e
 subst e
 exact hQ _ _ (.b rfl rfl)
 conv=>cbv
 generalize au:Fo (⟨ae,af,ag,ah,ai,aj⟩:Aa) version=l9
 generalize bb:l9.map eOp=bi
 refine .dd hP (Xe6 aa ab ac ad (by first|exact ap.1|exact hm.1) au bb) ?_
 conv=>cbv
 refine .go bb fun al ao=>?_
 conv=>cbv
 refine .eql (fun h11=>?_) fun h11=>?_
 conv=>cbv
 refine .neq (fun h12=>?_) fun h12=>?_
 conv=>cbv
 refine .go2 (by kernel_rfl) ?_
 conv=>cbv
 have e:true=By (⟨Ae,Ag,Ah,Af,Aj,Ai⟩:Aa) version:=(by unfold By;rw[hco];dsimp only;rw[decide_eq_true (show ak=0 by omega),am,show Fg _ _=decide (l6=l7)from by unfold Fg;rw[an,aq],show decide (l6=l7)=true from ar,show Hf _ version=al from by unfold Hf;rw[au,ao],decide_eq_true (show al=0 by omega),decide_eq_true (show version≠2 by omega)];rfl)
 rw[hr]at e
 subst e
 exact hQ _ _ (.b rfl rfl)
 conv=>cbv
 generalize aw:Rf (⟨ae,af,ag,ah,ai,aj⟩:Aa)=bc
 refine .dd hP (Xlg aa ab ac ad hm.1 aw) ?_
 conv=>cbv
 refine .eql (fun h14=>?_) fun h14=>?_
 conv=>cbv
 refine .go2 (by kernel_rfl) ?_
 conv=>cbv
 have e:true=By (⟨Ae,Ag,Ah,Af,Aj,Ai⟩:Aa) version:=(by unfold By;rw[hco];dsimp only;rw[decide_eq_true (show ak=0 by omega),am,show Fg _ _=decide (l6=l7)from by unfold Fg;rw[an,aq],show decide (l6=l7)=true from ar,show Hf _ version=al from by unfold Hf;rw[au,ao],decide_eq_true (show al=0 by omega),decide_eq_false (show¬version≠2 by omega),aw,decide_eq_true (show bc=0 by omega)];rfl)
 rw[hr]at e
 subst e
 exact hQ _ _ (.b rfl rfl)
 conv=>cbv
 refine .go2 (by kernel_rfl) ?_
 conv=>cbv
 have e:false=By (⟨Ae,Ag,Ah,Af,Aj,Ai⟩:Aa) version:=(by unfold By;rw[hco];dsimp only;rw[decide_eq_true (show ak=0 by omega),am,show Fg _ _=decide (l6=l7)from by unfold Fg;rw[an,aq],show decide (l6=l7)=true from ar,show Hf _ version=al from by unfold Hf;rw[au,ao],decide_eq_true (show al=0 by omega),decide_eq_false (show¬version≠2 by omega),aw,decide_eq_false (show¬bc=0 by omega)];rfl)
 rw[hr]at e
 subst e
 exact hQ _ _ (.b rfl rfl)
 conv=>cbv
 refine .go2 (by kernel_rfl) ?_
 conv=>cbv
 have e:false=By (⟨Ae,Ag,Ah,Af,Aj,Ai⟩:Aa) version:=(by unfold By;rw[hco];dsimp only;rw[decide_eq_true (show ak=0 by omega),am,show Fg _ _=decide (l6=l7)from by unfold Fg;rw[an,aq],show decide (l6=l7)=true from ar,show Hf _ version=al from by unfold Hf;rw[au,ao],decide_eq_false (show¬al=0 by omega)];rfl)
 rw[hr]at e
 subst e
 exact hQ _ _ (.b rfl rfl)
 conv=>cbv
 refine .go2 (by kernel_rfl) ?_
 conv=>cbv
 have e:false=By (⟨Ae,Ag,Ah,Af,Aj,Ai⟩:Aa) version:=(by unfold By;rw[hco];dsimp only;rw[decide_eq_false (show¬ak=0 by omega)];rfl)
 rw[hr]at e
 subst e
 exact hQ _ _ (.b rfl rfl)
end
section
open Go Go.Proofs
set_option maxRecDepth 20000
set_option maxHeartbeats 4000000
def Xkq(w:Qt):Bp:=⟨w.version_,w.stride_,w.base_,w.link_⟩
def begC(d:Aa)(w:Qt):Int:=if(Ay d (Ap w.base_)).2≠0 then 4 else if(Ce (Ay d (Ap w.base_)).1 (Ap w.base_) (Br (Xkq w))).2≠0 then 2 else 0
def begD(d:Aa)(w:Qt):Aa:=if(Ay d (Ap w.base_)).2≠0 then(Ay d (Ap w.base_)).1 else if(Ce (Ay d (Ap w.base_)).1 (Ap w.base_) (Br (Xkq w))).2≠0 then(Ce (Ay d (Ap w.base_)).1 (Ap w.base_) (Br (Xkq w))).1
 else D2 (Ds (Ce (Ay d (Ap w.base_)).1 (Ap w.base_) (Br (Xkq w))).1 (Ap w.base_)).1
def begW(d:Aa)(w:Qt):Qt:=if begC d w=0 then⟨w.version_,w.stride_,w.roll_,w.base_,w.link_,[],24,true,w.code_⟩else⟨w.version_,w.stride_,w.roll_,w.base_,w.link_,w.offsets_,w.end_,w.open_,begC d w⟩
def appB(s:Aa×Qt):Aa×Qt:=if s.2.code_=0∧s.2.open_=false then(begD s.1 s.2,begW s.1 s.2)else s
end
section
open Go Go.Proofs
set_option maxRecDepth 20000
set_option maxHeartbeats 4000000
end
end Go.Proofs.YtgdmjbcllgmepaaGreatDoor.Ab
