/- What functions of the program come to, for all arguments in the given bounds. -/
import Derived.Test.YtgdmjbcllgmepaaGreatDoorWlch04
import Derived.Test.YtgdmjbcllgmepaaGreatDoorWlZ9
import Derived.Shelf.Spec.SlicesInsertGrow
set_option linter.unusedVariables false
set_option linter.unusedSimpArgs false
namespace Go.Proofs.YtgdmjbcllgmepaaGreatDoor.Ab
section
open Go Go.Proofs
set_option maxRecDepth 20000
set_option maxHeartbeats 4000000
def V2:List (Nat×TyRow):=[ty3,ty4,ty9,Xcf,Xcd,XgB,Xfx,ty78,ty106,Xe7,XbA,XhH]
theorem Xx:Ck Tryz.prog V2:=Ck.of (by kernel_rfl)
theorem Ll:Setup Tryz.prog V2:=⟨Xx,mixed⟩
def G3(b:ByteArray):Bool:=(A0 b).ok_&&decide ((A0 b).end_=(b.size:Int))
def Bu(d:As)(chain:List Int)(name:ByteArray):Int:=
 if(Bq name).1=2 then 1 else if(Bq name).1=0 then 0 else if¬(Bq name).2∈chain then 2
 else if Gg (B2 d (Bq name).2)=true then 0 else if G3 (B2 d (Bq name).2)=true then 3 else 4
def Ho(d:As)(n:ByteArray):List E8:=if Bu d (Dr d) n=0 then[]else[⟨n,Bu d (Dr d) n⟩]
def Hl(d:As):List E8:=(d.entries_.map fun e=>e.name_).flatMap (Ho d)
theorem Xay{d:As}{b:Int}(h:b∈Dr d):(A0 (B2 d b)).ok_=true:=by
 unfold Dr at h
 obtain⟨x,hx,rfl⟩:=List.mem_map.1 h
 obtain⟨_,_,s,hs⟩:=N8 rfl hx
 obtain⟨hh,h1,_⟩:=Ni hs
 exact(Xf h1).2
theorem XcB(d:As)(n:ByteArray):(Ho d n).length≤1:=by
 unfold Ho
 split
 ·exact Nat.zero_le _
 ·exact Nat.le_refl _
theorem Va{d:As}{l:List E8}(hd:okD d)(e:Hl d=l):l.length≤1000000000∧∀x∈l,x.name_.size≤1000000000:=by
 rw[←e]
 unfold Hl
 constructor
 ·have:=Xfw (fun n=>XcB d n) (d.entries_.map fun e=>e.name_)
  rw[List.length_map]at this
  have:=hd.2.2.1
  omega
 ·intro x hx
  obtain⟨n,hn,h⟩:=List.mem_flatMap.1 hx
  obtain⟨y,hy,rfl⟩:=List.mem_map.1 hn
  have h4:=hd.2.2.2.1 y hy
  unfold Ho at h
  split at h
  ·cases h
  ·rw[List.mem_singleton]at h
   rw[h]
   exact h4
variable {o:List E8} {B4:List Cm} {Dz D0 Dy D1 xo:List (List D)} {Bo Cg:List A3} {Ci:List ByteArray} {Ch Cf:Int}
theorem XeP{b:ByteArray}{o:Bool}(hs:b.size≤1000000000)(hr:G3 b=o):Fn Tryz.prog 222 [S b] [] ⟨B o,[],[]⟩:=by
 refine Fn.go Ll Tryz.func222 fun P hP Q hQ=>?_
 conv=>cbv
 rcases aa:A0 b with⟨aj,⟨af,ag,ah,ai⟩,ad,ae,am,an⟩
 generalize ab:ad.map cS=ak
 generalize ac:ae.map cI=al
 refine .dd hP (Ow (by omega) aa ab ac) ?_
 conv=>cbv
 cases aj
 conv=>cbv
 have e:false=G3 b:=(by unfold G3;rw[aa];rfl)
 rw[hr]at e
 subst e
 exact hQ _ _ (.b rfl rfl)
 conv=>cbv
 refine .go fun v2 ao=>?_
 conv=>cbv
 refine .eql (fun h3=>?_) fun h3=>?_
 conv=>cbv
 have e:true=G3 b:=(by unfold G3;rw[aa];symm;simp;omega)
 rw[hr]at e
 subst e
 exact hQ _ _ (.b rfl rfl)
 conv=>cbv
 have e:false=G3 b:=(by unfold G3;rw[aa];symm;simp;omega)
 rw[hr]at e
 subst e
 exact hQ _ _ (.b rfl rfl)
theorem XbW{chain:List Int}{xchain:List (List D)}{name:ByteArray}{o:Int}(Du:B4.map Cs=Dz)(Dc:Bo.map A2=D0)(Ef:Cg.map A2=Dy)(Eh:Ci.map cS=D1)(hchain:chain.map cI=xchain)(hd:okD (⟨B4,Bo,Cg,Ci,Ch,Cf⟩:As))(hs:name.size≤1000000000)(hc:chain.length≤1000000)(hr:Bu (⟨B4,Bo,Cg,Ci,Ch,Cf⟩:As) chain name=o):Fn Tryz.prog 151 [.agg [.d (.row 3 Dz),.d (.row 2 D0),.d (.row 2 Dy),.d (.row 1 D1),I Ch,I Cf],.d (.row 1 xchain),S name] [] ⟨I o,[],[]⟩:=by
 refine Fn.go Ll Tryz.func151 fun P hP Q hQ=>?_
 conv=>cbv
 rcases aa:Bq name with⟨ag,ae⟩
 refine .dd hP (Xb8 (by omega) aa) ?_
 conv=>cbv
 generalize ab:B2 (⟨B4,Bo,Cg,Ci,Ch,Cf⟩:As) ae=r2
 refine .dd hP (Xat Du Dc Ef Eh hd ab) ?_
 conv=>cbv
 have ht2:=F8 hd ab
 refine .eql (fun h3=>?_) fun h3=>?_
 conv=>cbv
 have e:1=Bu (⟨B4,Bo,Cg,Ci,Ch,Cf⟩:As) chain name:=(by unfold Bu;rw[aa];dsimp only;rw[if_pos h3])
 rw[hr]at e
 subst e
 exact hQ _ _ (.i rfl rfl)
 conv=>cbv
 refine .eql (fun h4=>?_) fun h4=>?_
 conv=>cbv
 have e:0=Bu (⟨B4,Bo,Cg,Ci,Ch,Cf⟩:As) chain name:=(by unfold Bu;rw[aa];dsimp only;rw[if_neg h3,if_pos h4])
 rw[hr]at e
 subst e
 exact hQ _ _ (.i rfl rfl)
 conv=>cbv
 generalize ac:Jt chain ae=r5
 refine .dd hP (I5 hchain (by omega) ac) ?_
 cases r5
 conv=>cbv
 have e:2=Bu (⟨B4,Bo,Cg,Ci,Ch,Cf⟩:As) chain name:=(by unfold Bu;rw[aa];dsimp only;rw[if_neg h3,if_neg h4,if_pos (show¬ae∈chain from of_decide_eq_false ac)])
 rw[hr]at e
 subst e
 exact hQ _ _ (.i rfl rfl)
 conv=>cbv
 generalize ad:Gg r2=r6
 refine .dd hP (Xbl (by omega) ad) ?_
 cases r6
 conv=>cbv
 generalize af:G3 r2=r7
 refine .dd hP (XeP (by omega) af) ?_
 cases r7
 conv=>cbv
 have e:4=Bu (⟨B4,Bo,Cg,Ci,Ch,Cf⟩:As) chain name:=(by unfold Bu;rw[aa];dsimp only;rw[if_neg h3,if_neg h4,if_neg (fun h=>h (of_decide_eq_true ac)),ab,if_neg (by rw[ad];decide),if_neg (by rw[af];decide)])
 rw[hr]at e
 subst e
 exact hQ _ _ (.i rfl rfl)
 conv=>cbv
 have e:3=Bu (⟨B4,Bo,Cg,Ci,Ch,Cf⟩:As) chain name:=(by unfold Bu;rw[aa];dsimp only;rw[if_neg h3,if_neg h4,if_neg (fun h=>h (of_decide_eq_true ac)),ab,if_neg (by rw[ad];decide),if_pos af])
 rw[hr]at e
 subst e
 exact hQ _ _ (.i rfl rfl)
 conv=>cbv
 have e:0=Bu (⟨B4,Bo,Cg,Ci,Ch,Cf⟩:As) chain name:=(by unfold Bu;rw[aa];dsimp only;rw[if_neg h3,if_neg h4,if_neg (fun h=>h (of_decide_eq_true ac)),ab,if_pos ad])
 rw[hr]at e
 subst e
 exact hQ _ _ (.i rfl rfl)
theorem Xed(Du:B4.map Cs=Dz)(Dc:Bo.map A2=D0)(Ef:Cg.map A2=Dy)(Eh:Ci.map cS=D1)(hd:okD (⟨B4,Bo,Cg,Ci,Ch,Cf⟩:As))(hr:Hl (⟨B4,Bo,Cg,Ci,Ch,Cf⟩:As)=o)(ho:o.map Ix=xo):Fn Tryz.prog 69 [.agg [.d (.row 3 Dz),.d (.row 2 D0),.d (.row 2 Dy),.d (.row 1 D1),I Ch,I Cf]] [] ⟨.d (.row 2 xo),[],[]⟩:=by
 refine Fn.go Ll Tryz.func69 fun P hP Q hQ=>?_
 conv=>cbv
 have am:Bo.length≤1000000000:=hd.2.2.1
 have an:∀e∈Bo,e.name_.size≤1000000000:=hd.2.2.2.1
 generalize ae:Dr (⟨B4,Bo,Cg,Ci,Ch,Cf⟩:As)=l1
 generalize ak:l1.map cI=ay
 refine .dd hP (Xgv Du Dc Ef Eh hd ae ak) ?_
 conv=>cbv
 generalize al:Jh (⟨B4,Bo,Cg,Ci,Ch,Cf⟩:As)=l2
 generalize ah:l2.map cS=az
 refine .dd hP (Re Du Dc Ef Eh am al ah) ?_
 conv=>cbv
 refine .go ah fun v3 a1=>?_
 conv=>cbv
 have ar:=Js ae
 have ad:l2=Bo.map (fun e=>e.name_):=al.symm
 have au:l2.length=Bo.length:=by rw[ad,List.length_map]
 have hel:∀x∈l2,x.size≤1000000000:=by rw[ad];intro x hx;obtain⟨y,hy,rfl⟩:=List.mem_map.1 hx;exact an y hy
 refine LoopW.lp (κ:=Int×(List (List D))×Nat) Ll hP [2] [1,3,12,13] (fun(aa,ab,ac)=>[(4,.ref 3 0 ac),(14,I aa)]) (fun(aa,ab,ac)=>[(3,.row 2 false ab)])
  (fun(aa,ab,ac)=>∃(w3:List E8),w3.map Ix=ab∧ac=w3.length∧0≤aa∧aa≤l2.length∧w3=(l2.take aa.toNat).flatMap (Ho (⟨B4,Bo,Cg,Ci,Ch,Cf⟩:As))∧w3.length≤aa)
  (fun(aa,ab,ac)=>(l2.length - aa).toNat) (0,[],0) ⟨[],rfl,rfl,by omega,by omega,rfl,by simp⟩ ⟨rfl,rfl,trivial⟩ rfl ?_
 rintro⟨aa,ab,ac⟩ J ⟨w3,af,aw,h0,h1,hx,hxl⟩ hJ
 conv=>cbv
 refine .lss (fun h4=>?_) fun h4=>?_
 conv=>cbv
 refine .go aa.toNat ah fun ag e5 ai=>?_
 conv=>cbv
 have ao:e5.size≤1000000000:=hel _ (by rw[ai];exact List.getElem_mem _)
 generalize aj:Bu (⟨B4,Bo,Cg,Ci,Ch,Cf⟩:As) l1 e5=r6
 refine .dd hP (XbW Du Dc Ef Eh ak hd ao (by omega) aj) ?_
 conv=>cbv
 refine .neq (fun h7=>?_) fun h7=>?_
 conv=>cbv
 refine .one (⟨e5,r6⟩:E8) af rfl fun ap z8 ax aq=>?_
 conv=>cbv
 refine .add fun v9 a2=>?_
 conv=>cbv
 have hlk:Ho (⟨B4,Bo,Cg,Ci,Ch,Cf⟩:As) e5=[⟨e5,r6⟩]:=by unfold Ho;rw[ae,aj,if_neg h7]
 exact .go [5] (v9,z8,ap) (hJ _ ⟨_,aq,Jy,by omega,by omega,by rw[show v9.toNat=aa.toNat+1 by omega,I7 ag,←ai,hlk,hx],by rw[List.length_append,List.length_singleton];omega⟩ mlt)
 conv=>cbv
 refine .add fun v8 a6=>?_
 conv=>cbv
 have hlk:Ho (⟨B4,Bo,Cg,Ci,Ch,Cf⟩:As) e5=[]:=by unfold Ho;rw[ae,aj,if_pos (by omega)]
 exact .go [3] (v8,ab,ac) (hJ _ ⟨_,af,Jy,by omega,by omega,by rw[show v8.toNat=aa.toNat+1 by omega,I7 ag,←ai,hlk,hx,List.append_nil],by omega⟩ mlt)
 conv=>cbv
 have e:w3=Hl (⟨B4,Bo,Cg,Ci,Ch,Cf⟩:As):=(by unfold Hl;rw[hx,List.take_of_length_le (by omega),ad])
 rw[hr]at e
 subst e
 exact hQ _ _ (.r rfl rfl (Nj af) (by rw[←af,←ho]))
theorem XeV(Du:B4.map Cs=Dz)(Dc:Bo.map A2=D0)(Ef:Cg.map A2=Dy)(Eh:Ci.map cS=D1)(hd:okD (⟨B4,Bo,Cg,Ci,Ch,Cf⟩:As))(hr:Hl (⟨B4,Bo,Cg,Ci,Ch,Cf⟩:As)=o)(ho:o.map Ix=xo):Fn Tryz.prog 60 [.agg [.d (.row 3 Dz),.d (.row 2 D0),.d (.row 2 Dy),.d (.row 1 D1),I Ch,I Cf]] [] ⟨.d (.row 2 xo),[],[]⟩:=by
 refine Fn.go Ll Tryz.func60 fun P hP Q hQ=>?_
 conv=>cbv
 have ay:Bo.length≤1000000000:=hd.2.2.1
 have au:∀e∈Bo,e.name_.size≤1000000000:=hd.2.2.2.1
 have hdd:=hd
 generalize ab:Dr (⟨B4,Bo,Cg,Ci,Ch,Cf⟩:As)=l1
 generalize az:l1.map cI=bk
 refine .dd hP (XdN Du Dc Ef Eh hd ab az) ?_
 conv=>cbv
 have bg:=Js ab
 refine LoopW.lp (κ:=Int×(List (List D))×Nat) Ll hP [2] [1,4] (fun(i5,ac,ad)=>[(3,.ref 3 0 ad),(5,I i5)]) (fun(i5,ac,ad)=>[(3,.row 2 false ac)])
  (fun(i5,ac,ad)=>∃(w3:List E8),w3.map Ix=ac∧ad=w3.length∧0≤i5∧i5≤Bo.length∧w3=((Bo.take i5.toNat).map fun e=>e.name_).flatMap (Ho (⟨B4,Bo,Cg,Ci,Ch,Cf⟩:As))∧w3.length≤i5)
  (fun(i5,ac,ad)=>(Bo.length - i5).toNat) (0,[],0) ⟨[],rfl,rfl,by omega,by omega,rfl,by simp⟩ ⟨rfl,rfl,trivial⟩ rfl ?_
 rintro⟨i5,ac,ad⟩ J ⟨w3,ae,bh,h0,h1,hx,hxl⟩ hJ
 conv=>cbv
 refine .go Dc fun v2 bl=>?_
 conv=>cbv
 refine .lss (fun h3=>?_) fun h3=>?_
 conv=>cbv
 refine .go i5.toNat Dc fun a1 ⟨aa,bi⟩ af=>?_
 conv=>cbv
 have bm:aa.size≤1000000000:=by have h9:=au _ (List.getElem_mem a1);rw[←af]at h9;exact h9
 rcases ag:Bq aa with⟨bn,al⟩
 refine .dd hP (Xbn (by omega) ag) ?_
 conv=>cbv
 generalize ah:B2 (⟨B4,Bo,Cg,Ci,Ch,Cf⟩:As) al=r6
 refine .dd hP (Ul Du Dc Ef Eh hd ah) ?_
 conv=>cbv
 have ht2:=F8 hd ah
 refine .eql (fun h7=>?_) fun h7=>?_
 conv=>cbv
 refine .neq (fun h8=>?_) fun h8=>?_
 conv=>cbv
 refine .one (⟨aa,1⟩:E8) ae rfl fun bb z9 bj bc=>?_
 conv=>cbv
 refine .add fun am a2=>?_
 conv=>cbv
 have hla:Bu (⟨B4,Bo,Cg,Ci,Ch,Cf⟩:As) (Dr (⟨B4,Bo,Cg,Ci,Ch,Cf⟩:As)) aa=1:=by unfold Bu;rw[ag,ab];dsimp only;rw[if_pos h7]
 have hlk:Ho (⟨B4,Bo,Cg,Ci,Ch,Cf⟩:As) aa=[⟨aa,1⟩]:=by unfold Ho;rw[hla];rfl
 exact .go [5] (am,z9,bb) (hJ _ ⟨_,bc,Jy,by omega,by omega,by rw[show am.toNat=i5.toNat+1 by omega,List.map_take,I7 (show i5.toNat<(Bo.map fun e=>e.name_).length by rw[List.length_map];omega),List.getElem_map,←af];simp only[];rw[hlk,←List.map_take,hx],by rw[List.length_append,List.length_singleton];omega⟩ mlt)
 omega
 conv=>cbv
 refine .eql (fun h8=>?_) fun h8=>?_
 conv=>cbv
 refine .neq (fun h9=>?_) fun h9=>?_
 omega
 conv=>cbv
 refine .add fun am a2=>?_
 conv=>cbv
 have hla:Bu (⟨B4,Bo,Cg,Ci,Ch,Cf⟩:As) (Dr (⟨B4,Bo,Cg,Ci,Ch,Cf⟩:As)) aa=0:=by unfold Bu;rw[ag,ab];dsimp only;rw[if_neg h7,if_pos h8]
 have hlk:Ho (⟨B4,Bo,Cg,Ci,Ch,Cf⟩:As) aa=[]:=by unfold Ho;rw[hla];rfl
 exact .go [3] (am,ac,ad) (hJ _ ⟨_,ae,Jy,by omega,by omega,by rw[show am.toNat=i5.toNat+1 by omega,List.map_take,I7 (show i5.toNat<(Bo.map fun e=>e.name_).length by rw[List.length_map];omega),List.getElem_map,←af];simp only[];rw[hlk,List.append_nil,←List.map_take,hx],by omega⟩ mlt)
 conv=>cbv
 generalize ai:Oq l1 al=r9
 refine .dd hP (XeT az (by omega) ai) ?_
 cases r9
 conv=>cbv
 refine .neq (fun h10=>?_) fun h10=>?_
 conv=>cbv
 refine .one (⟨aa,2⟩:E8) ae rfl fun a6 bd be a7=>?_
 conv=>cbv
 refine .add fun ak ar=>?_
 conv=>cbv
 have hla:Bu (⟨B4,Bo,Cg,Ci,Ch,Cf⟩:As) (Dr (⟨B4,Bo,Cg,Ci,Ch,Cf⟩:As)) aa=2:=by unfold Bu;rw[ag,ab];dsimp only;rw[if_neg h7,if_neg h8,if_pos (show¬al∈l1 from of_decide_eq_false ai)]
 have hlk:Ho (⟨B4,Bo,Cg,Ci,Ch,Cf⟩:As) aa=[⟨aa,2⟩]:=by unfold Ho;rw[hla];rfl
 exact .go [5] (ak,bd,a6) (hJ _ ⟨_,a7,Jy,by omega,by omega,by rw[show ak.toNat=i5.toNat+1 by omega,List.map_take,I7 (show i5.toNat<(Bo.map fun e=>e.name_).length by rw[List.length_map];omega),List.getElem_map,←af];simp only[];rw[hlk,←List.map_take,hx],by rw[List.length_append,List.length_singleton];omega⟩ mlt)
 omega
 conv=>cbv
 have ay:Bo.length≤1000000000:=hd.2.2.1
 have au:∀e∈Bo,e.name_.size≤1000000000:=hd.2.2.2.1
 have hdd:=hd
 generalize aj:Gg r6=bf
 refine .dd hP (XbR (by omega) aj) ?_
 cases bf
 conv=>cbv
 have ay:Bo.length≤1000000000:=hd.2.2.1
 have au:∀e∈Bo,e.name_.size≤1000000000:=hd.2.2.2.1
 have hdd:=hd
 generalize an:Gb r6=a8
 refine .dd hP (Ug (by omega) an) ?_
 conv=>cbv
 refine .go fun ak ar=>?_
 conv=>cbv
 refine .eql (fun h13=>?_) fun h13=>?_
 conv=>cbv
 refine .neq (fun h14=>?_) fun h14=>?_
 conv=>cbv
 refine .one (⟨aa,3⟩:E8) ae rfl fun ao aw ax ap=>?_
 conv=>cbv
 refine .add fun aq ba=>?_
 conv=>cbv
 have hok:=Xay (d:=(⟨B4,Bo,Cg,Ci,Ch,Cf⟩:As)) (b:=al) (by rw[ab];exact of_decide_eq_true ai)
 rw[ah]at hok
 have hop:G3 r6=decide (a8=(r6.size:Int)):=by unfold G3;rw[hok,Bool.true_and];show decide (Gb r6=_)=_;rw[an]
 have hla:Bu (⟨B4,Bo,Cg,Ci,Ch,Cf⟩:As) (Dr (⟨B4,Bo,Cg,Ci,Ch,Cf⟩:As)) aa=3:=by unfold Bu;rw[ag,ab];dsimp only;rw[if_neg h7,if_neg h8,if_neg (fun h=>h (of_decide_eq_true ai)),ah,if_neg (by rw[aj];decide),if_pos (by rw[hop];exact decide_eq_true (by omega))]
 have hlk:Ho (⟨B4,Bo,Cg,Ci,Ch,Cf⟩:As) aa=[⟨aa,3⟩]:=by unfold Ho;rw[hla];rfl
 exact .go [5] (aq,aw,ao) (hJ _ ⟨_,ap,Jy,by omega,by omega,by rw[show aq.toNat=i5.toNat+1 by omega,List.map_take,I7 (show i5.toNat<(Bo.map fun e=>e.name_).length by rw[List.length_map];omega),List.getElem_map,←af];simp only[];rw[hlk,←List.map_take,hx],by rw[List.length_append,List.length_singleton];omega⟩ mlt)
 omega
 conv=>cbv
 refine .neq (fun h14=>?_) fun h14=>?_
 conv=>cbv
 refine .one (⟨aa,4⟩:E8) ae rfl fun ao aw ax ap=>?_
 conv=>cbv
 refine .add fun aq ba=>?_
 conv=>cbv
 have hok:=Xay (d:=(⟨B4,Bo,Cg,Ci,Ch,Cf⟩:As)) (b:=al) (by rw[ab];exact of_decide_eq_true ai)
 rw[ah]at hok
 have hop:G3 r6=decide (a8=(r6.size:Int)):=by unfold G3;rw[hok,Bool.true_and];show decide (Gb r6=_)=_;rw[an]
 have hla:Bu (⟨B4,Bo,Cg,Ci,Ch,Cf⟩:As) (Dr (⟨B4,Bo,Cg,Ci,Ch,Cf⟩:As)) aa=4:=by unfold Bu;rw[ag,ab];dsimp only;rw[if_neg h7,if_neg h8,if_neg (fun h=>h (of_decide_eq_true ai)),ah,if_neg (by rw[aj];decide),if_neg (by rw[hop,decide_eq_true_eq];omega)]
 have hlk:Ho (⟨B4,Bo,Cg,Ci,Ch,Cf⟩:As) aa=[⟨aa,4⟩]:=by unfold Ho;rw[hla];rfl
 exact .go [5] (aq,aw,ao) (hJ _ ⟨_,ap,Jy,by omega,by omega,by rw[show aq.toNat=i5.toNat+1 by omega,List.map_take,I7 (show i5.toNat<(Bo.map fun e=>e.name_).length by rw[List.length_map];omega),List.getElem_map,←af];simp only[];rw[hlk,←List.map_take,hx],by rw[List.length_append,List.length_singleton];omega⟩ mlt)
 omega
 conv=>cbv
 refine .neq (fun h11=>?_) fun h11=>?_
 omega
 conv=>cbv
 refine .add fun ak ar=>?_
 conv=>cbv
 have hla:Bu (⟨B4,Bo,Cg,Ci,Ch,Cf⟩:As) (Dr (⟨B4,Bo,Cg,Ci,Ch,Cf⟩:As)) aa=0:=by unfold Bu;rw[ag,ab];dsimp only;rw[if_neg h7,if_neg h8,if_neg (fun h=>h (of_decide_eq_true ai)),ah,if_pos aj]
 have hlk:Ho (⟨B4,Bo,Cg,Ci,Ch,Cf⟩:As) aa=[]:=by unfold Ho;rw[hla];rfl
 exact .go [3] (ak,ac,ad) (hJ _ ⟨_,ae,Jy,by omega,by omega,by rw[show ak.toNat=i5.toNat+1 by omega,List.map_take,I7 (show i5.toNat<(Bo.map fun e=>e.name_).length by rw[List.length_map];omega),List.getElem_map,←af];simp only[];rw[hlk,List.append_nil,←List.map_take,hx],by omega⟩ mlt)
 conv=>cbv
 have e:w3=Hl (⟨B4,Bo,Cg,Ci,Ch,Cf⟩:As):=(by unfold Hl;rw[hx,List.take_of_length_le (by omega)])
 rw[hr]at e
 subst e
 exact hQ _ _ (.r rfl rfl (Nj ae) (by rw[←ae,←ho]))
end
section
open Go Go.Proofs
set_option maxRecDepth 20000
set_option maxHeartbeats 4000000
def XeB(w:C0):Bb:=⟨w.version_,w.stride_,w.base_,w.link_⟩
def begC(d:As)(w:C0):Int:=if(F2 d (Ax w.base_)).2≠0 then 4 else if(J8 (F2 d (Ax w.base_)).1 (Ax w.base_) (A9 (XeB w))).2≠0 then 2 else 0
def begD(d:As)(w:C0):As:=if(F2 d (Ax w.base_)).2≠0 then(F2 d (Ax w.base_)).1 else if(J8 (F2 d (Ax w.base_)).1 (Ax w.base_) (A9 (XeB w))).2≠0 then(J8 (F2 d (Ax w.base_)).1 (Ax w.base_) (A9 (XeB w))).1
 else Xbq (XcH (J8 (F2 d (Ax w.base_)).1 (Ax w.base_) (A9 (XeB w))).1 (Ax w.base_)).1
def begW(d:As)(w:C0):C0:=if begC d w=0 then⟨w.version_,w.stride_,w.roll_,w.base_,w.link_,[],24,true,w.code_⟩else⟨w.version_,w.stride_,w.roll_,w.base_,w.link_,w.offsets_,w.end_,w.open_,begC d w⟩
def appB(s:As×C0):As×C0:=if s.2.code_=0∧s.2.open_=false then(begD s.1 s.2,begW s.1 s.2)else s
end
section
open Go Go.Proofs
set_option maxRecDepth 20000
set_option maxHeartbeats 4000000
end
section
open Go Go.Proofs
set_option maxRecDepth 20000
set_option maxHeartbeats 4000000
def XgK(v s r:Int):Prop:=(1≤v∧v≤2)∧(1≤s∧s≤20)∧(1≤r∧r≤50)
instance {v s r:Int}:Decidable (XgK v s r):=by unfold XgK;infer_instance
end
section
open Go Go.Proofs
set_option maxRecDepth 20000
set_option maxHeartbeats 4000000
end
section
open Go Go.Proofs
set_option maxRecDepth 20000
set_option maxHeartbeats 4000000
def Wb:List (Nat×TyRow):=[ty3,ty9,Xcf,Xcd,XgB,Xfx,XfC,XbA]
theorem Vp:Ck Tryz.prog Wb:=Ck.of (by kernel_rfl)
theorem Lz:Setup Tryz.prog Wb:=⟨Vp,mixed⟩
def Gl(d:As)(name:ByteArray):ByteArray:=name++Gj [((Cu d name).1.text_.size:Int),(Cu d name).1.sure_]
def D3(d:As):List ByteArray:=d.entries_.map fun e=>Gl d e.name_
def Xe9(d:As):Prop:=∀n∈d.nodes_,Ma n.sure_
theorem T4{d:As}{name:ByteArray}{n:Cm}{b:Bool}(hd:okD d)(hw:Xe9 d)(e:Cu d name=(n,b)):n.text_.size≤1000000000∧Ma n.sure_:=by
 have e1:(Cu d name).1=n:=congrArg Prod.fst e
 rw[←e1]
 unfold Cu
 split
 ·exact⟨by simp[A7],by show Ma 0;unfold Ma;omega⟩
 ·rename_i h
  have h2:=On (rfl:Df d name=_)
  have h3:(Df d name).toNat<d.nodes_.length:=by omega
  rw[←gD h3]
  exact⟨hd.2.1 _ (List.getElem_mem h3),hw _ (List.getElem_mem h3)⟩
theorem XbB{d:As}(hd:okD d)(hw:Xe9 d)(name:ByteArray):(Gl d name).size≤name.size+42:=by
 have hb:=T4 hd hw (rfl:Cu d name=((Cu d name).1,(Cu d name).2))
 have h1:(Cu d name).1.text_.size≤1000000000:=hb.1
 have h2:Ma (Cu d name).1.sure_:=hb.2
 clear hb
 unfold Gl
 have:=Lq (l:=[((Cu d name).1.text_.size:Int),(Cu d name).1.sure_]) rfl (by
  intro n hn
  simp only[List.mem_cons,List.not_mem_nil,or_false]at hn
  rcases hn with rfl|rfl
  ·unfold Ma;omega
  ·exact h2)
 rw[ByteArray.size_append]
 simp only[List.length_cons,List.length_nil]at this
 omega
variable {o row:List ByteArray} {xo xrow:List (List D)}
theorem Zs{B4:List Cm}{Dz:List (List D)}{Bo:List A3}{D0:List (List D)}{Cg:List A3}{Dy:List (List D)}{Ci:List ByteArray}{D1:List (List D)}{Ch:Int}{Cf:Int}(Du:B4.map Cs=Dz)(Dc:Bo.map A2=D0)(Ef:Cg.map A2=Dy)(Eh:Ci.map cS=D1)(hd:okD ⟨B4,Bo,Cg,Ci,Ch,Cf⟩)(hw_:Xe9 ⟨B4,Bo,Cg,Ci,Ch,Cf⟩)(hr:D3 (⟨B4,Bo,Cg,Ci,Ch,Cf⟩:As)=o)(ho:o.map cS=xo):Fn Tryz.prog 65 [.agg [.d (.row 3 Dz),.d (.row 2 D0),.d (.row 2 Dy),.d (.row 1 D1),I Ch,I Cf]] [] ⟨.d (.row 1 xo),[],[]⟩:=by
 refine Fn.go Lz Tryz.func65 fun P hP Q hQ=>?_
 conv=>cbv
 have aq:Bo.length≤1000000000:=hd.2.2.1
 have ar:∀e∈Bo,e.name_.size≤1000000000:=hd.2.2.2.1
 generalize ak:Jh (⟨B4,Bo,Cg,Ci,Ch,Cf⟩:As)=l1
 generalize ag:l1.map cS=bb
 refine .dd hP (Re Du Dc Ef Eh aq ak ag) ?_
 conv=>cbv
 have ae:l1=Bo.map (fun e=>e.name_):=ak.symm
 have a6:l1.length=Bo.length:=by rw[ae,List.length_map]
 have hall:∀x∈l1,x.size≤1000000000:=by rw[ae];intro x hx;obtain⟨y,hy,rfl⟩:=List.mem_map.1 hx;exact ar y hy
 refine .go ag fun v2 bc=>?_
 conv=>cbv
 refine LoopW.lp (κ:=Int×(List (List D))×Nat) Lz hP [2] [1,10,11] (fun(aa,ac,ad)=>[(3,.ref 3 0 ad),(12,I aa)]) (fun(aa,ac,ad)=>[(3,.row 1 false ac)])
  (fun(aa,ac,ad)=>∃(w3:List ByteArray),w3.map cS=ac∧ad=w3.length∧0≤aa∧aa≤l1.length∧w3=(l1.take aa.toNat).map (Gl (⟨B4,Bo,Cg,Ci,Ch,Cf⟩:As))∧w3.length=aa.toNat)
  (fun(aa,ac,ad)=>l1.length - aa.toNat) (0,[],0) ⟨[],rfl,rfl,by omega,by omega,rfl,rfl⟩ ⟨rfl,rfl,trivial⟩ rfl ?_
 rintro⟨aa,ac,ad⟩ J ⟨w3,ah,a7,h0,hle,hw,hwl⟩ hJ
 conv=>cbv
 refine .lss (fun h3=>?_) fun h3=>?_
 conv=>cbv
 refine .go aa.toNat ag fun af e4 al=>?_
 conv=>cbv
 rcases ai:Cu (⟨B4,Bo,Cg,Ci,Ch,Cf⟩:As) e4 with⟨⟨au,ap,ab⟩,bd⟩
 refine .dd hP (Xba Du Dc Ef Eh hd ai) ?_
 conv=>cbv
 obtain⟨aw,am⟩:=T4 hd hw_ ai
 simp only[]at aw am
 have be:e4.size≤1000000000:=by rw[al];exact hall _ (List.getElem_mem af)
 refine .go fun v6 ax=>?_
 conv=>cbv
 have hf:(∀n∈[v6,ab],Ma n)∧[v6,ab].length≤100:=⟨by intro n hn;simp only[List.mem_cons,List.not_mem_nil,or_false]at hn;rcases hn with rfl|rfl;(unfold Ma;omega);exact am,by simp⟩
 generalize aj:Gj [v6,ab]=r7
 refine .lnt hP (Wv rfl hf aj) (.ref rfl rfl .nil) ?_
 conv=>cbv
 have ay:=Lq aj hf.1
 simp only[List.length_cons,List.length_nil]at ay
 refine .go fun s8 az bf=>?_
 conv=>cbv
 have an:s8=Gl (⟨B4,Bo,Cg,Ci,Ch,Cf⟩:As) e4:=by rw[az,←aj,ax];unfold Gl;rw[ai]
 refine .one s8 ah rfl fun a1 z9 a8 a2=>?_
 conv=>cbv
 refine .add fun ao ba=>?_
 conv=>cbv
 exact .go [7] (ao,z9,a1) (hJ _ ⟨_,a2,Jy,by omega,by omega,by rw[hw,show ao.toNat=aa.toNat+1 by omega,List.take_succ_eq_append_getElem af,List.map_append,←al,an];rfl,by rw[List.length_append,hwl];simp;omega⟩ mlt)
 conv=>cbv
 have e:w3=D3 (⟨B4,Bo,Cg,Ci,Ch,Cf⟩:As):=(by unfold D3;rw[hw,List.take_of_length_le (by omega),ae,List.map_map];rfl)
 rw[hr]at e
 subst e
 exact hQ _ _ (.r rfl rfl (Nj ah) (by rw[←ah,←ho]))
def Ej(row:List ByteArray):List ByteArray:=row.map Dn
theorem U8{t a:ByteArray}{b:Bool}(h:Xl t=(a,b)):Dn t=if a=tx []then tx [45]else a:=by unfold Dn;rw[h]
theorem Xbr(hrow:row.map cS=xrow)(hn:row.length≤100000000000)(hr:Ej row=o)(ho:o.map cS=xo):Fn Tryz.prog 66 [.d (.row 1 xrow)] [] ⟨.d (.row 1 xo),[],[]⟩:=by
 refine Fn.go Lz Tryz.func66 fun P hP Q hQ=>?_
 conv=>cbv
 refine .go hrow fun v1 ak=>?_
 conv=>cbv
 refine LoopW.lp (κ:=Int×(List (List D))×Nat) Lz hP [1] [7,8] (fun(i9,aa,ab)=>[(3,.ref 2 0 ab),(9,I i9)]) (fun(i9,aa,ab)=>[(2,.row 1 false aa)])
  (fun(i9,aa,ab)=>∃(w2:List ByteArray),w2.map cS=aa∧ab=w2.length∧0≤i9∧i9≤row.length∧w2.length=i9.toNat∧w2=(row.take i9.toNat).map Dn)
  (fun(i9,aa,ab)=>(row.length - i9).toNat) (0,[],0) ⟨[],rfl,rfl,by omega,by omega,rfl,rfl⟩ ⟨rfl,rfl,trivial⟩ rfl ?_
 rintro⟨i9,aa,ab⟩ J ⟨w2,ac,ai,h0,h1,hwl,hw⟩ hJ
 conv=>cbv
 refine .lss (fun h2=>?_) fun h2=>?_
 conv=>cbv
 refine .go i9.toNat hrow fun ad e3 af=>?_
 conv=>cbv
 generalize ae:Dn e3=r4
 refine .dd hP (Zp ae) ?_
 conv=>cbv
 refine .one r4 ac rfl fun ag z5 aj ah=>?_
 conv=>cbv
 refine .add fun v6 al=>?_
 conv=>cbv
 exact .go [4] (v6,z5,ag) (hJ _ ⟨_,ah,Jy,by omega,by omega,by rw[List.length_append,hwl];simp;omega,by rw[hw,show v6.toNat=i9.toNat+1 by omega,List.take_succ_eq_append_getElem ad,List.map_append,←af];rw[←ae];rfl⟩ mlt)
 conv=>cbv
 have e:w2=Ej row:=(by unfold Ej;rw[hw,List.take_of_length_le (by omega)])
 rw[hr]at e
 subst e
 exact hQ _ _ (.r rfl rfl (Nj ac) (by rw[←ac,←ho]))
theorem Xb9(hrow:row.map cS=xrow)(hn:row.length≤100000000000)(hr:Ej row=o)(ho:o.map cS=xo):Fn Tryz.prog 57 [.d (.row 1 xrow)] [] ⟨.d (.row 1 xo),[],[]⟩:=by
 refine Fn.go Lz Tryz.func57 fun P hP Q hQ=>?_
 conv=>cbv
 refine LoopW.lp (κ:=Int×(List (List D))×Nat) Lz hP [1] [0] (fun(i4,aa,ab)=>[(3,.ref 2 0 ab),(4,I i4)]) (fun(i4,aa,ab)=>[(2,.row 1 false aa)])
  (fun(i4,aa,ab)=>∃(w2:List ByteArray),w2.map cS=aa∧ab=w2.length∧0≤i4∧i4≤row.length∧w2.length=i4.toNat∧w2=(row.take i4.toNat).map Dn)
  (fun(i4,aa,ab)=>(row.length - i4).toNat) (0,[],0) ⟨[],rfl,rfl,by omega,by omega,rfl,rfl⟩ ⟨rfl,rfl,trivial⟩ rfl ?_
 rintro⟨i4,aa,ab⟩ J ⟨w2,ae,al,h0,h1,hwl,hw⟩ hJ
 conv=>cbv
 refine .go hrow fun v1 am=>?_
 conv=>cbv
 refine .lss (fun h2=>?_) fun h2=>?_
 conv=>cbv
 refine .go i4.toNat hrow fun af e3 ai=>?_
 conv=>cbv
 rcases ac:Xl e3 with⟨ad,an⟩
 refine .dd hP (FsHex ac) ?_
 conv=>cbv
 refine .eql (fun h5=>?_) fun h5=>?_
 conv=>cbv
 refine .one (tx [45]) ae rfl fun ag z6 aj ah=>?_
 conv=>cbv
 refine .add fun v7 ak=>?_
 conv=>cbv
 exact .go [4] (v7,z6,ag) (hJ _ ⟨_,ah,Jy,by omega,by omega,by rw[List.length_append,hwl];simp;omega,by rw[hw,show v7.toNat=i4.toNat+1 by omega,List.take_succ_eq_append_getElem af,List.map_append,←ai];first|(rw[List.map_singleton,U8 ac,if_pos (show ad=tx []from h5)];done)|(rw[List.map_singleton,U8 ac,if_neg (show¬ad=tx []from h5)];done)⟩ mlt)
 conv=>cbv
 refine .one ad ae rfl fun ag z6 aj ah=>?_
 conv=>cbv
 refine .add fun v7 ak=>?_
 conv=>cbv
 exact .go [4] (v7,z6,ag) (hJ _ ⟨_,ah,Jy,by omega,by omega,by rw[List.length_append,hwl];simp;omega,by rw[hw,show v7.toNat=i4.toNat+1 by omega,List.take_succ_eq_append_getElem af,List.map_append,←ai];first|(rw[List.map_singleton,U8 ac,if_pos (show ad=tx []from h5)];done)|(rw[List.map_singleton,U8 ac,if_neg (show¬ad=tx []from h5)];done)⟩ mlt)
 conv=>cbv
 have e:w2=Ej row:=(by unfold Ej;rw[hw,List.take_of_length_le (by omega)])
 rw[hr]at e
 subst e
 exact hQ _ _ (.r rfl rfl (Nj ae) (by rw[←ae,←ho]))
end
section
open Go Go.Proofs
set_option maxRecDepth 20000
set_option maxHeartbeats 4000000
def W5:List (Nat×TyRow):=[ty3,ty9,Xcf,ty78,XhH]
theorem Wp:Ck Tryz.prog W5:=Ck.of (by kernel_rfl)
theorem L6:Setup Tryz.prog W5:=⟨Wp,mixed⟩
def findWords:List ByteArray:=[(tx []),(tx [116,101,109,112]),(tx [108,111,111,115,101]),(tx [111,112,101,110]),(tx [98,114,111,107,101,110])]
def Nd(k:Int):ByteArray:=findWords.getD k.toNat (tx [])
theorem XbK{k:Int}{o:ByteArray}(e:o=Nd k):o.size≤6:=by
 subst e
 unfold Nd
 by_cases h:k.toNat<5
 ·have:∀i:Fin 5,(findWords.getD i.val (tx [])).size≤6:=by decide
  exact this ⟨k.toNat,h⟩
 ·rw[List.getD,List.getElem?_eq_none (by show 5≤_;omega)]
  decide
def B0(c:Int):ByteArray:=if 1≤c∧c≤4 then Nd c else tx [63]
def B8(l:List E8):List ByteArray:=l.map fun f=>f.name_++tx [32]++B0 f.code_
theorem I2{c:Int}{o:ByteArray}(e:B0 c=o):o.size≤6:=by
 rw[←e]
 unfold B0
 split
 ·exact XbK rfl
 ·decide
variable {code:Int} {o:List ByteArray} {list:List E8} {xlist xo:List (List D)}
theorem Up{o:ByteArray}(hr:B0 code=o):Fn Tryz.prog 149 [I code] [] ⟨S o,[],[]⟩:=by
 refine Fn.go L6 Tryz.func149 fun P hP Q hQ=>?_
 conv=>cbv
 generalize aa:Cp code 1 4=r1
 refine .dd hP (Hz aa) ?_
 cases r1
 simp only[Cp,decide_eq_true_eq,decide_eq_false_iff_not]at aa
 conv=>cbv
 have e:(tx [63])=B0 code:=(by unfold B0;rw[if_neg (by exact aa)])
 rw[hr]at e
 subst e
 exact hQ _ _ (.s rfl rfl)
 simp only[Cp,decide_eq_true_eq,decide_eq_false_iff_not]at aa
 conv=>cbv
 refine .sub fun v2 ae=>?_
 conv=>cbv
 refine .go v2.toNat fun p3 af ad=>?_
 conv=>cbv
 refine .go (l:=[(tx [116,101,109,112]),(tx [108,111,111,115,101]),(tx [111,112,101,110]),(tx [98,114,111,107,101,110])]) (c:=cS) rfl fun ab e4 ac=>?_
 conv=>cbv
 have e:e4=B0 code:=(by have hw:=XdH (d:=tx []) ab ac rfl;unfold B0;rw[if_pos (by exact aa)];unfold Nd;rw[show code.toNat=p3+1 by omega];exact hw)
 rw[hr]at e
 subst e
 exact hQ _ _ (.s rfl rfl)
theorem U6{o:ByteArray}(hr:B0 code=o):Fn Tryz.prog 139 [I code] [] ⟨S o,[],[]⟩:=by
 refine Fn.go L6 Tryz.func139 fun P hP Q hQ=>?_
 conv=>cbv
 generalize aa:Bf code 1 4=r1
 refine .dd hP (Dx aa) ?_
 cases r1
 simp only[Bf,decide_eq_true_eq,decide_eq_false_iff_not]at aa
 conv=>cbv
 have e:(tx [63])=B0 code:=(by unfold B0;rw[if_neg (by exact aa)])
 rw[hr]at e
 subst e
 exact hQ _ _ (.s rfl rfl)
 simp only[Bf,decide_eq_true_eq,decide_eq_false_iff_not]at aa
 conv=>cbv
 refine .go code.toNat fun p2 ae ad=>?_
 conv=>cbv
 refine .go (l:=[(tx []),(tx [116,101,109,112]),(tx [108,111,111,115,101]),(tx [111,112,101,110]),(tx [98,114,111,107,101,110])]) (c:=cS) rfl fun ab e3 ac=>?_
 conv=>cbv
 have e:e3=B0 code:=(by have hw:e3=Nd code:=XdH ab ac (by omega);unfold B0;rw[if_pos (by exact aa)];exact hw)
 rw[hr]at e
 subst e
 exact hQ _ _ (.s rfl rfl)
theorem Sd(hlist:list.map Ix=xlist)(hn:list.length≤1000000000)(hs:∀x∈list,x.name_.size≤1000000000)(hr:B8 list=o)(ho:o.map cS=xo):Fn Tryz.prog 68 [.d (.row 2 xlist)] [] ⟨.d (.row 1 xo),[],[]⟩:=by
 refine Fn.go L6 Tryz.func68 fun P hP Q hQ=>?_
 conv=>cbv
 refine .go hlist fun v1 ao=>?_
 conv=>cbv
 refine LoopW.lp (κ:=Int×(List (List D))×Nat) L6 hP [1] [7,8] (fun(i9,aa,ab)=>[(3,.ref 2 0 ab),(9,I i9)]) (fun(i9,aa,ab)=>[(2,.row 1 false aa)])
  (fun(i9,aa,ab)=>∃(w2:List ByteArray),w2.map cS=aa∧ab=w2.length∧0≤i9∧i9≤list.length∧w2.length=i9.toNat∧w2=(list.take i9.toNat).map fun f=>f.name_++tx [32]++B0 f.code_)
  (fun(i9,aa,ab)=>(list.length - i9).toNat) (0,[],0) ⟨[],rfl,rfl,by omega,by omega,rfl,rfl⟩ ⟨rfl,rfl,trivial⟩ rfl ?_
 rintro⟨i9,aa,ab⟩ J ⟨w2,ae,am,h0,h1,hwl,hw⟩ hJ
 conv=>cbv
 refine .lss (fun h2=>?_) fun h2=>?_
 conv=>cbv
 refine .go i9.toNat hlist fun ag ⟨ac,ad⟩ ah=>?_
 conv=>cbv
 have ap:ac.size≤1000000000:=hs ⟨ac,ad⟩ (by rw[ah];exact List.getElem_mem _)
 refine .litR 1 fun s4 ai aq=>?_
 conv=>cbv
 generalize af:B0 ad=r5
 refine .dd hP (Up af) ?_
 conv=>cbv
 have hzr:=I2 af
 refine .go fun s6 aj ar=>?_
 conv=>cbv
 refine .one s6 ae rfl fun ak z7 an al=>?_
 conv=>cbv
 refine .add fun v8 au=>?_
 conv=>cbv
 exact .go [5] (v8,z7,ak) (hJ _ ⟨_,al,Jy,by omega,by omega,by rw[List.length_append,hwl];simp;omega,by rw[hw,show v8.toNat=i9.toNat+1 by omega,List.take_succ_eq_append_getElem ag,List.map_append,←ah,aj,ai,←af];rfl⟩ mlt)
 conv=>cbv
 have e:w2=B8 list:=(by unfold B8;rw[hw,List.take_of_length_le (by omega)])
 rw[hr]at e
 subst e
 exact hQ _ _ (.r rfl rfl (Nj ae) (by rw[←ae,←ho]))
theorem Sf(hlist:list.map Ix=xlist)(hn:list.length≤1000000000)(hs:∀x∈list,x.name_.size≤1000000000)(hr:B8 list=o)(ho:o.map cS=xo):Fn Tryz.prog 59 [.d (.row 2 xlist)] [] ⟨.d (.row 1 xo),[],[]⟩:=by
 refine Fn.go L6 Tryz.func59 fun P hP Q hQ=>?_
 conv=>cbv
 refine LoopW.lp (κ:=Int×(List (List D))×Nat) L6 hP [1] [0] (fun(i4,aa,ab)=>[(3,.ref 2 0 ab),(4,I i4)]) (fun(i4,aa,ab)=>[(2,.row 1 false aa)])
  (fun(i4,aa,ab)=>∃(w2:List ByteArray),w2.map cS=aa∧ab=w2.length∧0≤i4∧i4≤list.length∧w2.length=i4.toNat∧w2=(list.take i4.toNat).map fun f=>f.name_++tx [32]++B0 f.code_)
  (fun(i4,aa,ab)=>(list.length - i4).toNat) (0,[],0) ⟨[],rfl,rfl,by omega,by omega,rfl,rfl⟩ ⟨rfl,rfl,trivial⟩ rfl ?_
 rintro⟨i4,aa,ab⟩ J ⟨w2,af,ap,h0,h1,hwl,hw⟩ hJ
 conv=>cbv
 refine .go hlist fun v1 au=>?_
 conv=>cbv
 refine .lss (fun h2=>?_) fun h2=>?_
 conv=>cbv
 refine .go i4.toNat hlist fun ai ⟨ac,ad⟩ ag=>?_
 conv=>cbv
 have aw:ac.size≤1000000000:=hs ⟨ac,ad⟩ (by rw[ag];exact List.getElem_mem _)
 refine .litR 1 fun s4 aj ax=>?_
 conv=>cbv
 refine .go i4.toNat hlist fun aq ⟨ak,ae⟩ al=>?_
 conv=>cbv
 generalize ah:B0 ae=r6
 refine .dd hP (U6 ah) ?_
 conv=>cbv
 have hzr:=I2 ah
 have q6:ae=ad:=congrArg (·.code_) (al.trans ag.symm)
 refine .go fun s7 am ay=>?_
 conv=>cbv
 refine .one s7 af rfl fun an z8 ar ao=>?_
 conv=>cbv
 refine .add fun v9 az=>?_
 conv=>cbv
 exact .go [4] (v9,z8,an) (hJ _ ⟨_,ao,Jy,by omega,by omega,by rw[List.length_append,hwl];simp;omega,by rw[hw,show v9.toNat=i4.toNat+1 by omega,List.take_succ_eq_append_getElem ai,List.map_append,←ag,am,aj,←ah,q6];rfl⟩ mlt)
 conv=>cbv
 have e:w2=B8 list:=(by unfold B8;rw[hw,List.take_of_length_le (by omega)])
 rw[hr]at e
 subst e
 exact hQ _ _ (.r rfl rfl (Nj af) (by rw[←af,←ho]))
end
section
open Go Go.Proofs
set_option maxRecDepth 20000
set_option maxHeartbeats 4000000
def Q8:List (Nat×TyRow):=[ty3,ty9,Xcf,XgB,Xfx,XfC,XbA,ty146]
theorem Xw:Ck Tryz.prog Q8:=Ck.of (by kernel_rfl)
theorem Vg:Setup Tryz.prog Q8:=⟨Xw,mixed⟩
section
open Go.Lib Go.RowKit
abbrev zS9:Value:=.string ⟨#[]⟩
theorem Xhg:∃i,Tryz.prog.info? 9=some i∧i.zero=some zS9∧i.size=1∧i.bytes=16:=by
 have h:(Tryz.prog.info? 9).map (fun i=>(i.zero,i.size,i.bytes))=some (some zS9,1,16):=by kernel_rfl
 obtain⟨i,hi,h⟩:=Option.map_eq_some_iff.1 h
 simp only[Prod.mk.injEq]at h
 exact⟨i,hi,h.1,h.2.1,h.2.2⟩
theorem growS(n:Nat)(w:World)(h0:0<n)(hb:n≤1000000000000):Calls Tryz.prog 145 #[.slice none 0 0,.int .i64 n] w fun e w'=>
  e= .returned (.slice (some ⟨w.heap.size,0,none⟩) 0 (grownCap w n 0 9))∧w'=w.drew.alloc (.cells (([]:List Value).toArray++Builtin.zeroCells zS9.cells n++Builtin.zeroCells zS9.cells (grownCap w n 0 9 - n)) 9):=by
 obtain⟨i0,aa,ab,hzs,hzb⟩:=Xhg
 have mixed:Tryz.prog.follows .mixedOrders=true:=by kernel_rfl
 have h1:¬((n:Int)<0):=by omega
 have h4:(n:Int)>0:=by omega
 have ac:IntKind.i64.wrap (n:Int)=n:=by rw[IntKind.wrap_i64];omega
 have hold:(Builtin.firstCells i0.size 0 (.slice none 0 0)).run Tryz.prog w.drew= .ok ([]:List Value).toArray w.drew:=run_firstCells_none w.drew i0.size 0 0 0
 have hrz:∀ty,(Builtin.append_ #[26,3] ty #[.slice none 0 0,.int .i64 n]).run Tryz.prog w=
   .ok (.slice (some ⟨w.heap.size,0,none⟩) n (grownCap w n 0 9)) (w.drew.alloc (.cells (([]:List Value).toArray++Builtin.zeroCells zS9.cells n++Builtin.zeroCells zS9.cells (grownCap w n 0 9 - n)) 9)):=fun ty=>by
  have h:=Lib.run_append_grow_zeros w 26 3 ty 9 i0 _ .i64 .i64 Tryz.underlying26 Tryz.underlying3 aa ab none 0 0 [] hold n (by omega) (by omega) (by omega) (by omega) (by rw[hzb];omega) (by
   rw[hzb,Nat.zero_add]
   have h9:0<n:=h0
   have:=Tn h9
   have:=Nat.mul_le_mul_right 16 this
   omega)
  rw[Nat.zero_add]at h
  exact h
 have hG63:grownCap w n 0 9≤9223372036854775807:=by
  have:=grownCap_le_maxLen w n 0 9 (by unfold maxLen;omega)
  unfold maxLen at this
  omega
 clear hold
 go_enter Tryz.func145,Tryz.ntmps145
 go_wp2_with (at_builtin;refine Lib.wpList_append_run _ rfl _ _ _ _ rfl _ _ rfl rfl _ _ (hrz _) ?_)
 all_goals (go_ret;exact⟨rfl,rfl⟩)
end
theorem XhK{E:Env}{x y:AV}{vs:Array Value}(h:Zg E [x,y] vs):∃u v,vs= #[u,v]∧RelAV E x u∧RelAV E y v:=by
 obtain⟨hs,hr⟩:=h
 have:vs.size=2:=hs
 obtain⟨l⟩:=vs
 match l,this with
 |[u,v],_=>exact⟨u,v,rfl,hr 0 x rfl,hr 1 y rfl⟩
theorem scV{E:Env}{u v:Value}(h:RelAV E (.d (.sc u)) v):v=u:=by
 cases h with
 |d _ _ h=>cases h with|sc=>rfl
theorem Xgd{n:Int}(h0:0<n)(hb:n≤1000000000000):CallOk Tryz.prog 145 [.d (.sc (.slice none 0 0)),.d (.sc (.int .i64 n))] [] ⟨.ref 0 0 0,[.row 1 false []],[]⟩:=by
 intro w S β vs hM hA
 obtain⟨u,v,rfl,h1,h2⟩:=XhK hA
 obtain rfl:=scV h1
 obtain rfl:=scV h2
 obtain⟨n,rfl⟩:∃k:Nat,n=k:=⟨n.toNat,by omega⟩
 refine(growS n w (by omega) (by omega)).mono ?_
 rintro e w' ⟨rfl,rfl⟩
 have hF:Fresh (E5 w S β []) (Ba w S β [] [.row 1 false []]) 0 [.row 1 false []]:=Xg2
 have hge:=grownCap_ge w n 0 9
 obtain⟨q,hrel⟩:=Xbo (E:=Ba w S β [] [.row 1 false []]) hM (r:=0) (sz:=1) (xs:=[]) (t:=9) (fr:=(0,0)) (hF.rt 0 _ rfl) (hF.np 0 (by simp)) hF.m (Grow.alloc w.drew _).ofDrew ⟨Fl _,.inl rfl⟩ (by simp) (by simp) (by simp)
 exact⟨_,_,rfl,rfl,q.mem,q.step,q.rt,q.pres,q.size,hrel 0 _ (Nat.zero_le _) (by
  rw[Array.size_append,Array.size_append,I4,I4]
  simp[Value.cells]
  omega)⟩
variable {o:List ByteArray} {xo:List (List D)} {no:Nat}
theorem If{n:Int}(h0:0<n)(hb:n≤1000000000000):Fn Tryz.prog 145 [.d (.sc (.slice none 0 0)),I n] [] ⟨.ref 0 0 0,[.row 1 false []],[]⟩:=⟨E3 Tryz.func145 rfl rfl,Xgd h0 hb⟩
def Qm(l:List (List ByteArray)):List ByteArray:=l.flatten
def Vk(l:List (List ByteArray)):Nat:=(l.map List.length).sum
theorem Ya{l:List (List ByteArray)}{k:Nat}(h:k<l.length):Vk (l.take (k+1))=Vk (l.take k)+l[k].length:=by
 unfold Vk
 rw[List.take_succ_eq_append_getElem h,List.map_append,List.sum_append]
 simp
theorem U1{l:List (List ByteArray)}{k:Nat}:Vk (l.take k)≤Vk l:=by
 have h:Vk (l.take k++l.drop k)=Vk (l.take k)+Vk (l.drop k):=by unfold Vk;rw[List.map_append,List.sum_append]
 rw[List.take_append_drop]at h
 omega
theorem Xcr{l:List (List ByteArray)}{k:Nat}(h:k<l.length):(l.take (k+1)).flatten=(l.take k).flatten++l[k]:=by
 rw[List.take_succ_eq_append_getElem h,List.flatten_append]
 simp
theorem Xea{l:List (List ByteArray)}:l.flatten.length=Vk l:=by unfold Vk;rw[List.length_flatten]
theorem Cw:Setup Tryz.prog ((4000145,Fs Tryz.prog 4000145)::Q8):=(Setup.mark 4000145 Vg)
theorem Hh{slices:List (List ByteArray)}{xslices:List (List D)}(hslices:slices.map XaP=xslices)(au:0<Vk slices)(aw:Vk slices≤1000000000000)(hsl:slices.length≤1000000)(hr:Qm slices=o)(ho:o.map cS=xo)(hno:no=o.length):Fn Tryz.prog 64 [.d (.row 1 xslices)] [] ⟨.ref 0 0 no,[.row 1 false xo],[]⟩:=by
 refine Fn.goR Cw Tryz.func64 fun P hP Q hQ=>?_
 conv=>cbv
 refine .go hslices fun v1 ax=>?_
 conv=>cbv
 refine LoopW.lp (κ:=Int×Int) Cw hP [] [0,9,10] (fun(i3,ab)=>[(3,I i3),(11,I ab)]) (fun(i3,ab)=>[])
  (fun(i3,ab)=>0≤ab∧ab≤slices.length∧i3=(Vk (slices.take ab.toNat):Int))
  (fun(i3,ab)=>(slices.length - ab).toNat) (0,0) ⟨by omega,by omega,rfl⟩ ⟨rfl,rfl,trivial⟩ rfl ?_
 rintro⟨i3,ab⟩ J ⟨h0,h1,hx⟩ hJ
 have hle:=U1 (l:=slices) (k:=ab.toNat)
 conv=>cbv
 refine .lss (fun h2=>?_) fun h2=>?_
 conv=>cbv
 refine .goX ab.toNat hslices fun ag e3 fe3 aj hfe3=>?_
 replace hfe3:[.row 1 (e3.map cS)]=fe3:=hfe3
 generalize ak:e3.map cS=ay at hfe3
 subst hfe3
 conv=>cbv
 have ae:=Ya ag
 rw[←aj]at ae
 have hle0:=U1 (l:=slices) (k:=ab.toNat+1)
 refine .go ak fun v4 al=>?_
 conv=>cbv
 refine .add fun v5 az=>?_
 conv=>cbv
 refine .lss (fun h6=>?_) fun h6=>?_
 omega
 conv=>cbv
 refine .add fun v7 a1=>?_
 conv=>cbv
 exact .go [] (v5,v7) (hJ _ ⟨by omega,by omega,by rw[show v7.toNat=ab.toNat+1 by omega,ae];omega⟩ mlt)
 conv=>cbv
 rw[List.take_of_length_le (by omega)]at hx
 refine .ddN hP (If (by omega) (by omega)) rfl ?_
 conv=>cbv
 refine .go hslices fun v4 al=>?_
 conv=>cbv
 refine LoopW.lp (κ:=Int×(List (List D))×Nat) Cw hP [1] [25,26] (fun(aa,ac,ad)=>[(6,.ref 2 0 ad),(27,I aa)]) (fun(aa,ac,ad)=>[(2,.row 1 false ac)])
  (fun(aa,ac,ad)=>∃(w2:List ByteArray),w2.map cS=ac∧ad=w2.length∧0≤aa∧aa≤slices.length∧w2.length≤1000000000000∧w2=(slices.take aa.toNat).flatten)
  (fun(aa,ac,ad)=>(slices.length - aa).toNat) (0,[],0) ⟨[],rfl,rfl,by omega,by omega,by simp,rfl⟩ ⟨rfl,rfl,trivial⟩ rfl ?_
 rintro⟨aa,ac,ad⟩ J1 ⟨w2,ah,aq,h0,h1,hx,hw⟩ am
 have hle2:=U1 (l:=slices) (k:=aa.toNat)
 have hwl:w2.length=Vk (slices.take aa.toNat):=by rw[hw,Xea]
 conv=>cbv
 refine .lss (fun h5=>?_) fun h5=>?_
 conv=>cbv
 refine .goX aa.toNat hslices fun af e6 fe6 ai hfe6=>?_
 replace hfe6:[.row 1 (e6.map cS)]=fe6:=hfe6
 generalize an:e6.map cS=a2 at hfe6
 subst hfe6
 conv=>cbv
 have hle3:=U1 (l:=slices) (k:=aa.toNat+1)
 rw[Ya af,←ai]at hle3
 refine .row ah an fun ao z7 ar ap=>?_
 conv=>cbv
 refine .add fun v8 a6=>?_
 conv=>cbv
 exact .go [3] (v8,z7,ao) (am _ ⟨_,ap,Jy,by omega,by omega,by rw[List.length_append];omega,by rw[hw,show v8.toNat=aa.toNat+1 by omega,Xcr af,←ai]⟩ mlt)
 conv=>cbv
 have e:w2=Qm slices:=(by unfold Qm;rw[hw,List.take_of_length_le (by omega)])
 rw[hr]at e
 subst e
 obtain rfl:ac=xo:=by rw[←ah,←ho]
 obtain rfl:ad=no:=by first|omega|(rw[hno];simp;done)|(rw[hno];simp;omega)
 exact hQ _ _ (.of [2] (.inl rfl) rfl rfl rfl rfl)
theorem Wg{B4:List Cm}{Dz:List (List D)}{Bo:List A3}{D0:List (List D)}{Cg:List A3}{Dy:List (List D)}{Ci:List ByteArray}{D1:List (List D)}{Ch:Int}{Cf:Int}(Du:B4.map Cs=Dz)(Dc:Bo.map A2=D0)(Ef:Cg.map A2=Dy)(Eh:Ci.map cS=D1)(hd:okD ⟨B4,Bo,Cg,Ci,Ch,Cf⟩)(hw_:Xe9 ⟨B4,Bo,Cg,Ci,Ch,Cf⟩)(hr:D3 (⟨B4,Bo,Cg,Ci,Ch,Cf⟩:As)=o)(ho:o.map cS=xo)(hno:no=o.length):Fn Tryz.prog 55 [.agg [.d (.row 3 Dz),.d (.row 2 D0),.d (.row 2 Dy),.d (.row 1 D1),I Ch,I Cf]] [] ⟨.ref 0 0 no,[.row 1 false xo],[]⟩:=by
 refine Fn.goR Vg Tryz.func55 fun P hP Q hQ=>?_
 conv=>cbv
 have bm:Bo.length≤1000000000:=hd.2.2.1
 have az:∀e∈Bo,e.name_.size≤1000000000:=hd.2.2.2.1
 refine LoopW.lp (κ:=Int×(List (List D))×Nat) Vg hP [2] [1] (fun(i4,ab,ac)=>[(3,.ref 3 0 ac),(4,I i4)]) (fun(i4,ab,ac)=>[(3,.row 1 false ab)])
  (fun(i4,ab,ac)=>∃(w3:List ByteArray),w3.map cS=ab∧ac=w3.length∧0≤i4∧i4≤Bo.length∧w3=(Bo.take i4.toNat).map (fun e=>Gl (⟨B4,Bo,Cg,Ci,Ch,Cf⟩:As) e.name_)∧w3.length=i4.toNat)
  (fun(i4,ab,ac)=>Bo.length - i4.toNat) (0,[],0) ⟨[],rfl,rfl,by omega,by omega,rfl,rfl⟩ ⟨rfl,rfl,trivial⟩ rfl ?_
 rintro⟨i4,ab,ac⟩ J ⟨w3,am,be,h0,hle,hw,hwl⟩ hJ
 conv=>cbv
 refine .go Dc fun v1 bn=>?_
 conv=>cbv
 refine .lss (fun h2=>?_) fun h2=>?_
 conv=>cbv
 refine .go i4.toNat Dc fun ag ⟨aa,bf⟩ a1=>?_
 conv=>cbv
 rcases ah:Cu (⟨B4,Bo,Cg,Ci,Ch,Cf⟩:As) aa with⟨⟨a2,ay,af⟩,bo⟩
 refine .dd hP (XaF Du Dc Ef Eh hd ah) ?_
 conv=>cbv
 refine .go i4.toNat Dc fun bg ⟨ad,bh⟩ a6=>?_
 conv=>cbv
 obtain⟨a7,ai⟩:=T4 hd hw_ ah
 simp only[]at a7 ai
 have aj:aa=Bo[i4.toNat].name_:=by rw[←a1]
 have an:ad=aa:=by rw[aj,←a6]
 have bp:ad.size≤1000000000:=by rw[an,aj];exact az _ (List.getElem_mem ag)
 refine .litR 1 fun s6 a8 bq=>?_
 conv=>cbv
 refine .go fun v7 ba=>?_
 conv=>cbv
 have ao:Ma v7:=by unfold Ma;omega
 generalize ak:C6 v7=r8
 refine .dd hP (M3 ao ak) ?_
 conv=>cbv
 have bt:=Jc ak ao
 refine .go fun s9 bb bu=>?_
 conv=>cbv
 refine .litR 1 fun bv ap bi=>?_
 conv=>cbv
 generalize ae:C6 af=bw
 refine .dd hP (M3 ai ae) ?_
 conv=>cbv
 have bj:=Jc ae ai
 refine .go fun aq ar bk=>?_
 conv=>cbv
 have al:aq=Gl (⟨B4,Bo,Cg,Ci,Ch,Cf⟩:As) aa:=by unfold Gl;rw[ah,ar,ap,bb,a8,←ak,←ae,ba,an,Xer aa];simp only[];unfold C6 Gj;simp only[Xfc,Ce];simp
 refine .one aq am rfl fun au bc bd aw=>?_
 conv=>cbv
 refine .add fun ax bl=>?_
 conv=>cbv
 exact .go [6] (ax,bc,au) (hJ _ ⟨_,aw,Jy,by omega,by omega,by rw[hw,show ax.toNat=i4.toNat+1 by omega,List.take_succ_eq_append_getElem ag,List.map_append,al,aj];rfl,by rw[List.length_append,hwl];simp;omega⟩ mlt)
 conv=>cbv
 have e:w3=D3 (⟨B4,Bo,Cg,Ci,Ch,Cf⟩:As):=(by unfold D3;rw[hw,List.take_of_length_le (by omega)])
 rw[hr]at e
 subst e
 obtain rfl:ab=xo:=by rw[←am,←ho]
 obtain rfl:ac=no:=by first|omega|(rw[hno];simp;done)|(rw[hno];simp;omega)
 exact hQ _ _ (.of [3] (.inl rfl) rfl rfl rfl rfl)
end
section
open Go Go.Proofs
set_option maxRecDepth 20000
set_option maxHeartbeats 4000000
def R6:List (Nat×TyRow):=[ty3,ty9,Xcf,Xcd,Xfx,ty43,ty78]
theorem W4:Ck Tryz.prog R6:=Ck.of (by kernel_rfl)
theorem Xai:Setup Tryz.prog R6:=⟨W4,mixed⟩
def C1(w:Gc):List ByteArray:=D3 w.disk_++[tx [116,111,108,100]++Gj [(w.told_.length:Int),w.sure_],tx [114,111,119]]++Ej (Jp w.disk_)++B8 (Hl w.disk_)
theorem Od:Setup Tryz.prog ((3000002,Fs Tryz.prog 3000002)::R6):=(Setup.mark 3000002 Xai)
variable {wsetroo wsetver wsetstr wsetrol wdisroo wdisnex wwriver wwristr wwrirol wwribas wwrilin wwriend wwricod wsur wfal:Int} {wdisnod:List Cm} {xwdisnod xwdisent xwdisold xwdisste xwwrioff xwtol xo:List (List D)} {wdisent wdisold:List A3} {wdisste wtol o:List ByteArray} {wwrioff:List Int} {wwriope:Bool}
theorem Uy{no:Nat}(hwdisnod:wdisnod.map Cs=xwdisnod)(hwdisent:wdisent.map A2=xwdisent)(hwdisold:wdisold.map A2=xwdisold)(hwdisste:wdisste.map cS=xwdisste)(hwwrioff:wwrioff.map cI=xwwrioff)(hwtol:wtol.map cS=xwtol)(hd:okD (⟨wdisnod,wdisent,wdisold,wdisste,wdisroo,wdisnex⟩:As))(hw_:Xe9 (⟨wdisnod,wdisent,wdisold,wdisste,wdisroo,wdisnex⟩:As))(htl:wtol.length≤1000000000)(hsu:Ma wsur)(hr:C1 (⟨⟨wsetroo,wsetver,wsetstr,wsetrol⟩,⟨wdisnod,wdisent,wdisold,wdisste,wdisroo,wdisnex⟩,⟨wwriver,wwristr,wwrirol,wwribas,wwrilin,wwrioff,wwriend,wwriope,wwricod⟩,wtol,wsur,wfal⟩:Gc)=o)(ho:o.map cS=xo)(hno:no=o.length):Fn Tryz.prog 17 [.agg [I wsetroo,I wsetver,I wsetstr,I wsetrol,.d (.row 3 xwdisnod),.d (.row 2 xwdisent),.d (.row 2 xwdisold),.d (.row 1 xwdisste),I wdisroo,I wdisnex,I wwriver,I wwristr,I wwrirol,I wwribas,I wwrilin,.d (.row 1 xwwrioff),I wwriend,B wwriope,I wwricod,.d (.row 1 xwtol),I wsur,I wfal]] [] ⟨.ref 0 0 no,[.row 1 false xo],[]⟩:=by
 refine Fn.goR Od Tryz.func17 fun P hP Q hQ=>?_
 conv=>cbv
 refine .go hwtol fun v1 ar=>?_
 conv=>cbv
 have hf:(∀n∈[v1,wsur],Ma n)∧[v1,wsur].length≤100:=⟨by intro n hn;simp only[List.mem_cons,List.not_mem_nil,or_false]at hn;rcases hn with rfl|rfl;(unfold Ma;omega);exact hsu,by simp⟩
 generalize af:Gj [v1,wsur]=r2
 refine .lnt hP (Wv rfl hf af) (.ref rfl rfl .nil) ?_
 conv=>cbv
 have hb2:=Lq af hf.1
 simp only[List.length_cons,List.length_nil]at hb2
 refine .litL 4 fun s3 au a1=>?_
 conv=>cbv
 generalize ag:D3 (⟨wdisnod,wdisent,wdisold,wdisste,wdisroo,wdisnex⟩:As)=l4
 generalize ak:l4.map cS=aw
 refine .dd hP (Zs hwdisnod hwdisent hwdisold hwdisste hd hw_ ag ak) ?_
 conv=>cbv
 generalize ab:Jp (⟨wdisnod,wdisent,wdisold,wdisste,wdisroo,wdisnex⟩:As)=l5
 generalize al:l5.map cS=a2
 refine .dd hP (Xgk hwdisnod hwdisent hwdisold hwdisste hd ab al) ?_
 conv=>cbv
 have ax:=U4 hd ab
 generalize ah:Ej l5=l6
 generalize am:l6.map cS=ay
 refine .dd hP (Xbr al (by omega) ah am) ?_
 conv=>cbv
 generalize ac:Hl (⟨wdisnod,wdisent,wdisold,wdisste,wdisroo,wdisnex⟩:As)=l7
 generalize an:l7.map Ix=a6
 refine .dd hP (Xed hwdisnod hwdisent hwdisold hwdisste hd ac an) ?_
 conv=>cbv
 have ai:=Va hd ac
 generalize aj:B8 l7=l8
 generalize ao:l8.map cS=az
 refine .dd hP (Sd an ai.1 ai.2 aj ao) ?_
 conv=>cbv
 have ap:([l4,[s3,(tx [114,111,119])],l6,l8]:List (List ByteArray)).map XaP=[[.row 1 aw],[.row 1 [[.sc (.string s3)],[.sc (.string (tx [114,111,119]))]]],[.row 1 ay],[.row 1 az]]:=by rw[←ak,←am,←ao];rfl
 refine .go hP (.d (.ref rfl rfl (.d (.d .nil)))) ?_
 conv=>cbv
 have a7:l4.length=wdisent.length:=by rw[←ag];unfold D3;rw[List.length_map]
 have a8:wdisent.length≤1000000000:=hd.2.2.1
 have ax:=U4 hd ab
 have ba:l6.length=l5.length:=by rw[←ah];unfold Ej;rw[List.length_map]
 have ai:=Va hd ac
 have bb:l8.length=l7.length:=by rw[←aj];unfold B8;rw[List.length_map]
 generalize ae:Qm [l4,[s3,(tx [114,111,119])],l6,l8]=ad
 generalize aa:ad.map cS=aq
 obtain⟨nl10,hnl10⟩:∃m,m=ad.length:=⟨_,rfl⟩
 refine .lntR hP (Hh ap (by unfold Vk;simp only[List.map_cons,List.map_nil,List.sum_cons,List.sum_nil,List.length_cons,List.length_nil];omega) (by unfold Vk;simp only[List.map_cons,List.map_nil,List.sum_cons,List.sum_nil,List.length_cons,List.length_nil];omega) (show 4≤1000000 by decide) ae aa hnl10) (.ref rfl (Nj ap rfl) .nil) (aa▸G7 (fun _=>rfl) ad) ?_
 conv=>cbv
 refine .go2 (by kernel_rfl) ?_
 conv=>cbv
 have e:ad=C1 (⟨⟨wsetroo,wsetver,wsetstr,wsetrol⟩,⟨wdisnod,wdisent,wdisold,wdisste,wdisroo,wdisnex⟩,⟨wwriver,wwristr,wwrirol,wwribas,wwrilin,wwrioff,wwriend,wwriope,wwricod⟩,wtol,wsur,wfal⟩:Gc):=(by unfold C1;dsimp only;rw[ag,ab,ah,ac,aj,←ae,au,←af,ar];unfold Qm;simp;rfl)
 rw[hr]at e
 subst e
 obtain rfl:aq=xo:=by rw[←aa,←ho]
 obtain rfl:nl10=no:=by first|omega|(rw[hno];simp;done)|(rw[hno];simp;omega)
 exact hQ _ _ (.of [5] (.inl rfl) rfl rfl rfl rfl)
theorem Wz(hwdisnod:wdisnod.map Cs=xwdisnod)(hwdisent:wdisent.map A2=xwdisent)(hwdisold:wdisold.map A2=xwdisold)(hwdisste:wdisste.map cS=xwdisste)(hwwrioff:wwrioff.map cI=xwwrioff)(hwtol:wtol.map cS=xwtol)(hd:okD (⟨wdisnod,wdisent,wdisold,wdisste,wdisroo,wdisnex⟩:As))(hw_:Xe9 (⟨wdisnod,wdisent,wdisold,wdisste,wdisroo,wdisnex⟩:As))(htl:wtol.length≤1000000000)(hsu:Ma wsur)(hr:C1 (⟨⟨wsetroo,wsetver,wsetstr,wsetrol⟩,⟨wdisnod,wdisent,wdisold,wdisste,wdisroo,wdisnex⟩,⟨wwriver,wwristr,wwrirol,wwribas,wwrilin,wwrioff,wwriend,wwriope,wwricod⟩,wtol,wsur,wfal⟩:Gc)=o)(ho:o.map cS=xo):Fn Tryz.prog 15 [.agg [I wsetroo,I wsetver,I wsetstr,I wsetrol,.d (.row 3 xwdisnod),.d (.row 2 xwdisent),.d (.row 2 xwdisold),.d (.row 1 xwdisste),I wdisroo,I wdisnex,I wwriver,I wwristr,I wwrirol,I wwribas,I wwrilin,.d (.row 1 xwwrioff),I wwriend,B wwriope,I wwricod,.d (.row 1 xwtol),I wsur,I wfal]] [] ⟨.d (.row 1 xo),[],[]⟩:=by
 refine Fn.go Xai Tryz.func15 fun P hP Q hQ=>?_
 conv=>cbv
 generalize ak:D3 (⟨wdisnod,wdisent,wdisold,wdisste,wdisroo,wdisnex⟩:As)=l1
 generalize al:l1.map cS=bh
 obtain⟨nl1,hnl1⟩:∃m,m=l1.length:=⟨_,rfl⟩
 refine .ddA hP (Wg hwdisnod hwdisent hwdisold hwdisste hd hw_ ak al hnl1) rfl rfl rfl (al▸G7 (fun _=>rfl) l1) ?_
 conv=>cbv
 refine .go hwtol fun v2 ax=>?_
 conv=>cbv
 have bi:wdisent.length≤1000000000:=hd.2.2.1
 have bj:l1.length=wdisent.length:=by rw[←ak];unfold D3;rw[List.length_map]
 have aq:Ma v2:=by unfold Ma;omega
 generalize am:C6 v2=r3
 refine .dd hP (M3 aq am) ?_
 conv=>cbv
 have bk:=Jc am aq
 refine .litL 5 fun s4 ay bl=>?_
 conv=>cbv
 refine .litR 1 fun s5 az bm=>?_
 conv=>cbv
 generalize an:C6 wsur=r6
 refine .dd hP (M3 hsu an) ?_
 conv=>cbv
 have bn:=Jc an hsu
 refine .go fun s7 a1 bo=>?_
 conv=>cbv
 refine .sub (m:=[s7,(tx [114,111,119])]) al rfl (hn:=rfl) fun bp z8 a8 a2=>?_
 conv=>cbv
 generalize ao:Jp (⟨wdisnod,wdisent,wdisold,wdisste,wdisroo,wdisnex⟩:As)=l9
 generalize ar:l9.map cS=bq
 refine .dd hP (Xgz hwdisnod hwdisent hwdisold hwdisste hd ao ar) ?_
 conv=>cbv
 have bt:=U4 hd ao
 generalize ab:Ej l9=aa
 generalize af:aa.map cS=ba
 refine .dd hP (Xb9 ar (by omega) ab af) ?_
 conv=>cbv
 have bb:aa.length=l9.length:=by rw[←ab];unfold Ej;rw[List.length_map]
 refine .row a2 af fun bc bu a6 au=>?_
 conv=>cbv
 generalize ac:Hl (⟨wdisnod,wdisent,wdisold,wdisste,wdisroo,wdisnex⟩:As)=ap
 generalize ag:ap.map Ix=bd
 refine .dd hP (XeV hwdisnod hwdisent hwdisold hwdisste hd ac ag) ?_
 conv=>cbv
 have ah:=Va hd ac
 generalize ad:B8 ap=ae
 generalize ai:ae.map cS=be
 refine .dd hP (Sf ag ah.1 ah.2 ad ai) ?_
 conv=>cbv
 have bf:ae.length=ap.length:=by rw[←ad];unfold B8;rw[List.length_map]
 have hna:((l1++[s7,(tx [114,111,119])])++aa).length=(l1++[s7,(tx [114,111,119])]).length+aa.length:=List.length_append
 have hnb:(((l1++[s7,(tx [114,111,119])])++aa)++ae).length=((l1++[s7,(tx [114,111,119])])++aa).length+ae.length:=List.length_append
 have aw:s7=tx [116,111,108,100]++Gj [(wtol.length:Int),wsur]:=by rw[a1,az,ay,←am,←an,ax];unfold C6 Gj;simp only[Xfc,Ce];simp
 refine .row au ai fun bg bv a7 aj=>?_
 conv=>cbv
 have e:(((l1++[s7,(tx [114,111,119])])++aa)++ae)=C1 (⟨⟨wsetroo,wsetver,wsetstr,wsetrol⟩,⟨wdisnod,wdisent,wdisold,wdisste,wdisroo,wdisnex⟩,⟨wwriver,wwristr,wwrirol,wwribas,wwrilin,wwrioff,wwriend,wwriope,wwricod⟩,wtol,wsur,wfal⟩:Gc):=(by unfold C1;dsimp only;rw[ak,ao,ab,ac,ad,←aw])
 rw[hr]at e
 subst e
 exact hQ _ _ (.r rfl rfl (Nj aj) (by rw[←aj,←ho]))
end
end Go.Proofs.YtgdmjbcllgmepaaGreatDoor.Ab
