/- What functions of the program come to, for all arguments in the given bounds. -/
import Derived.Test.YtjbmpmmffjgedaaGreatDoorLch01a
import Derived.Shelf.Strings.Builder1
import Derived.Shelf.Strings.Builder2
import Derived.Shelf.Strings.BuilderF
import Derived.Shelf.Strings.BuilderK
import Derived.Shelf.Strings.Builder2Cap
import Derived.Shelf.Strconv.Atoi
import Derived.Shelf.Strconv.Itoa0
import Derived.Shelf.Strconv.Itoa1
import Derived.Shelf.LaysM
import Derived.Shelf.Strconv.Itoa2
import Derived.Shelf.Strconv.Itoa3
import Derived.Shelf.Strconv.Itoa4
import Derived.Shelf.Strconv.AtoiErrFast
import Derived.Shelf.Strconv.ParseIntEmpty
import Derived.Shelf.Strconv.AtoiFail
import Derived.Shelf.Strconv.Clone
import Derived.Shelf.Strconv.SyntaxError
import Derived.Shelf.LaysC
import Derived.Shelf.Strconv.ToError
import Derived.Shelf.Strconv.Lower
import Derived.Shelf.Strconv.ParseUint10
import Derived.Shelf.Strconv.ParseUint10Empty
import Derived.Shelf.Strconv.ParseUint10Any
import Derived.Shelf.Strconv.ParseInt10
import Derived.Shelf.Strconv.AtoiLong
import Derived.Shelf.Strconv.AtoiInnerAll
import Derived.Shelf.Strconv.RangeError
import Derived.Shelf.Strconv.ToErrorRange
import Derived.Shelf.Strconv.AtoiAll
import Derived.Shelf.Strings.Search1
import Derived.Shelf.Strings.Search2
import Derived.Shelf.Strings.Cut
import Derived.Shelf.Strings.Shaped
import Derived.Shelf.Strings.Prefix
import Derived.Shelf.Bits.Mul64
import Derived.Shelf.Strings.Repeat
import Derived.Shelf.Strings.BuilderCap
import Derived.Ground.Names2Prog
import Derived.Shelf.Slices.Clone
import Derived.Test.YtjbmpmmffjgedaaGreatDoorProg
import Derived.Below
import Derived.ProofKit
import Derived.Test.YtjbmpmmffjgedaaGreatDoorLZ10
import Derived.Lib.AtoiErrMem
import Derived.Lib.SlicesS
import Derived.Lib.ItoaNum
import Derived.Lib.AppendIntMem
set_option linter.unusedVariables false
set_option linter.unusedSimpArgs false
namespace Go.Proofs.YtjbmpmmffjgedaaGreatDoor.Ab
section
open Go Go.Proofs
set_option maxRecDepth 20000
set_option maxHeartbeats 4000000
def Xb5:List (Nat×TyRow):=[ty3,ty4,ty9,Xax,XaE,XfU,ty92]
theorem Xae:B3 Tryz.prog Xb5:=B3.of (by kernel_rfl)
theorem V8:Setup Tryz.prog Xb5:=⟨Xae,mixed⟩
def Hh(h:Bj)(b:ByteArray)(n:Nat)(p:Int):List ByteArray×List Int×Int×Bool:=
 if D8 h.version_ (h.base_+n) b p=true then([],[],p,true)
 else match A2 h.version_ (h.base_+n) b p with
  |(r,q,true)=>if p<q∧q≤b.size then(r::(Hh h b (n+1) q).1,p::(Hh h b (n+1) q).2.1,(Hh h b (n+1) q).2.2)else([],[],p,false)
  |_=>([],[],p,false)
termination_by (b.size - p).toNat
decreasing_by all_goals omega
def Bn(b:ByteArray):Nd:=match Br b with
 |(h,true)=>⟨true,h,(Hh h b 0 24).1,(Hh h b 0 24).2.1,(Hh h b 0 24).2.2.1,(Hh h b 0 24).2.2.2⟩
 |_=>⟨false,⟨0,0,0,0⟩,[],[],0,false⟩
theorem Tx{v n:Int}{r t:ByteArray}(e:Am v n r=t)(h:t≠tx []):5≤t.size:=by
 unfold Am at e
 split at e
 ·rename_i hh
  have h4:=Tt _ (Rg r)
  have h1:1≤(if v=2 then Lu n r.size else C3 r.size).size:=by
   split
   ·unfold Lu
    rw[ByteArray.size_append,Tt _ (by omega)]
    omega
   ·unfold C3
    rw[if_pos (by omega),Bo]
    exact List.length_pos_iff.2 (XdQ _)
  rw[←e,ByteArray.size_append,ByteArray.size_append]
  omega
 ·exact absurd e.symm h
theorem Gw{v n p q:Int}{b r:ByteArray}(h:A2 v n b p=(r,q,true)):0≤p∧p+5≤q∧q≤b.size∧r.size≤60∧(v=1∨v=2)∧0≤n∧n≤1000000000∧q=p+(Am v n r).size∧Fp b p (Am v n r)=true:=by
 have key:∀{x s:Int},0≤s→0≤x→G4 v n b p x s=(r,q,true)→0≤p∧p+5≤q∧q≤b.size∧r.size≤60∧(v=1∨v=2)∧0≤n∧n≤1000000000∧q=p+(Am v n r).size∧Fp b p (Am v n r)=true:=by
  intro x s hs hx e
  unfold G4 at e
  split at e
  ·rename_i hh
   obtain⟨h1,h2,h3,h4⟩:=hh
   simp only[Prod.mk.injEq,and_true]at e
   obtain⟨rfl,rfl⟩:=e
   have h5:=Tx rfl h3
   have h6:=of_decide_eq_true h4
   have h7:(b.extract s.toNat (s+x).toNat).size=x.toNat:=by rw[Wf (by omega) (by omega)];omega
   have h8:(v=1∨v=2)∧0≤n∧n≤1000000000:=by
    by_cases hh:(v=1∨v=2)∧0≤n∧n≤1000000000
    ·exact hh
    ·exact absurd (I2 hh) h3
   exact⟨h6.1.1,by omega,by omega,by omega,h8.1,h8.2.1,h8.2.2,rfl,h4⟩
  ·simp at e
 rcases h1:Bm b p 4 with⟨x,ok⟩
 rcases h2:Cg b p with⟨y,s,ok2⟩
 by_cases hv:v=2
 ·rw[I5 hv h1]at h
  cases ok
  ·simp at h
  ·have:=Km h1
   exact key (by omega) (by omega) h
 ·rw[Iv hv h2]at h
  cases ok2
  ·simp at h
  ·have:=Kh h2
   exact key (by omega) (by omega) h
theorem Ms{h:Bj}{b:ByteArray}{n:Nat}{p:Int}(hm:D8 h.version_ (h.base_+n) b p=true):Hh h b n p=([],[],p,true):=by rw[Hh,if_pos hm]
theorem Mg{h:Bj}{b:ByteArray}{n:Nat}{p:Int}{r:ByteArray}{q:Int}(hm:D8 h.version_ (h.base_+n) b p=false)(hf:A2 h.version_ (h.base_+n) b p=(r,q,false)):Hh h b n p=([],[],p,false):=by rw[Hh,if_neg (by rw[hm];simp),hf]
theorem Mf{h:Bj}{b:ByteArray}{n:Nat}{p:Int}{r:ByteArray}{q:Int}(hm:D8 h.version_ (h.base_+n) b p=false)(hf:A2 h.version_ (h.base_+n) b p=(r,q,true)):Hh h b n p=(r::(Hh h b (n+1) q).1,p::(Hh h b (n+1) q).2.1,(Hh h b (n+1) q).2.2):=by
 have:=Gw hf
 rw[Hh,if_neg (by rw[hm];simp),hf]
 simp only[]
 rw[if_pos (by omega)]
variable {b:ByteArray} {ook omar:Bool} {oheaver oheastr oheabas ohealin oend:Int} {orec:List ByteArray} {xorec xooff:List (List D)} {ooff:List Int}
theorem XcH(hs:b.size<2^47)(hr:Bn b=⟨ook,⟨oheaver,oheastr,oheabas,ohealin⟩,orec,ooff,oend,omar⟩)(horec:orec.map cS=xorec)(hooff:ooff.map cI=xooff):Fn Tryz.prog 162 [S b] [] ⟨.agg [B ook,I oheaver,I oheastr,I oheabas,I ohealin,.d (.row 1 xorec),.d (.row 1 xooff),I oend,B omar],[],[]⟩:=by
 refine Fn.go V8 Tryz.func162 fun P hP Q hQ=>?_
 conv=>cbv
 rcases ak:Br b with⟨⟨aa,ac,ab,ad⟩,ap⟩
 refine .dd hP (Ui (by omega) ak) ?_
 conv=>cbv
 cases ap
 conv=>cbv
 have e:(⟨false,⟨0,0,0,0⟩,[],[],0,false⟩:Nd)=Bn b:=(by unfold Bn;rw[ak])
 rw[hr]at e
 simp only[Bj.mk.injEq,Nd.mk.injEq]at e
 obtain⟨rfl,⟨rfl,rfl,rfl,rfl⟩,rfl,rfl,rfl,rfl⟩:=e
 exact hQ _ _ (.one (.inl rfl) rfl (.agg (.d rfl rfl (.d rfl rfl (.d rfl rfl (.d rfl rfl (.d rfl rfl (.ref rfl rfl (by rw[←horec];rfl) (.ref rfl rfl (by rw[←hooff];rfl) (.d rfl rfl (.d rfl rfl (.nil)))))))))) .nil))
 conv=>cbv
 refine LoopW.lp (κ:=Int×(List (List D))×Nat×(List (List D))×Nat) V8 hP [4,5] [0,2,3,5] (fun(ae,al,am,af,ag)=>[]) (fun(ae,al,am,af,ag)=>[(8,.box 92 [B true,I aa,I ac,I ab,I ad,.ref 9 0 am,.ref 10 0 ag,I ae,B false]),(9,.row 1 false al),(10,.row 1 false af)])
  (fun(ae,al,am,af,ag)=>∃(w9:List ByteArray) (ai:List Int),w9.map cS=al∧am=w9.length∧ai.map cI=af∧ag=ai.length∧(24≤ae∧ae≤b.size∧w9.length=ai.length∧5*(w9.length:Int)+24≤ae)∧Hh ⟨aa,ac,ab,ad⟩ b 0 24=(w9++(Hh ⟨aa,ac,ab,ad⟩ b w9.length ae).1,ai++(Hh ⟨aa,ac,ab,ad⟩ b w9.length ae).2.1,(Hh ⟨aa,ac,ab,ad⟩ b w9.length ae).2.2))
  (fun(ae,al,am,af,ag)=>(b.size - ae).toNat) (24,[],0,[],0) ⟨[],[],rfl,rfl,rfl,rfl,by have:=Gg ak;simp;omega,rfl⟩ trivial rfl ?_
 rintro⟨ae,al,am,af,ag⟩ J ⟨w9,ai,ao,a1,ah,aq,hb,hS⟩ hJ
 have hd:=I6 (Gg ak).2.2
 conv=>cbv
 refine .go fun v2 a4=>?_
 conv=>cbv
 refine .add fun v3 a5=>?_
 conv=>cbv
 have e3:v3=ab+(w9.length:Int):=by omega
 generalize aj:D8 aa v3 b ae=r4
 refine .dd hP (Xgo (by omega) (by omega) aj) ?_
 cases r4
 conv=>cbv
 rcases an:A2 aa v3 b ae with⟨ar,au,aw⟩
 refine .dd hP (Xaq (by omega) (by omega) an) ?_
 conv=>cbv
 cases aw
 conv=>cbv
 have e:(⟨true,⟨aa,ac,ab,ad⟩,w9,ai,ae,false⟩:Nd)=Bn b:=(by rw[e3]at aj an;unfold Bn;rw[ak];simp only[];rw[hS,Mg (h:=⟨aa,ac,ab,ad⟩) aj an];simp)
 rw[hr]at e
 simp only[Bj.mk.injEq,Nd.mk.injEq]at e
 obtain⟨rfl,⟨rfl,rfl,rfl,rfl⟩,rfl,rfl,rfl,rfl⟩:=e
 exact hQ _ _ (.one (.inl rfl) rfl (.agg (.d rfl rfl (.d rfl rfl (.d rfl rfl (.d rfl rfl (.d rfl rfl (.ref rfl (by rw[←ao,List.length_map];first|omega|(simp;omega)) (by rw[←ao,←horec]) (.ref rfl (by rw[←ah,List.length_map];first|omega|(simp;omega)) (by rw[←ah,←hooff]) (.d rfl rfl (.d rfl rfl (.nil)))))))))) .nil))
 conv=>cbv
 have hf:=Gw an
 refine .one ar ao rfl fun ax z6 a2 ay=>?_
 conv=>cbv
 refine .one ae ah rfl fun az z7 a3 a0=>?_
 conv=>cbv
 exact .go [12,14] (au,z6,ax,z7,az) (hJ _ ⟨_,_,ay,Em,a0,Em,by simp;omega,by rw[e3]at aj an;rw[hS,Mf (h:=⟨aa,ac,ab,ad⟩) aj an];simp[List.append_assoc]⟩ mlt)
 conv=>cbv
 have e:(⟨true,⟨aa,ac,ab,ad⟩,w9,ai,ae,true⟩:Nd)=Bn b:=(by rw[e3]at aj;unfold Bn;rw[ak];simp only[];rw[hS,Ms (h:=⟨aa,ac,ab,ad⟩) aj];simp)
 rw[hr]at e
 simp only[Bj.mk.injEq,Nd.mk.injEq]at e
 obtain⟨rfl,⟨rfl,rfl,rfl,rfl⟩,rfl,rfl,rfl,rfl⟩:=e
 exact hQ _ _ (.one (.inl rfl) rfl (.agg (.d rfl rfl (.d rfl rfl (.d rfl rfl (.d rfl rfl (.d rfl rfl (.ref rfl (by rw[←ao,List.length_map];first|omega|(simp;omega)) (by rw[←ao,←horec]) (.ref rfl (by rw[←ah,List.length_map];first|omega|(simp;omega)) (by rw[←ah,←hooff]) (.d rfl rfl (.d rfl rfl (.nil)))))))))) .nil))
theorem U6(hs:b.size<2^47)(hr:Bn b=⟨ook,⟨oheaver,oheastr,oheabas,ohealin⟩,orec,ooff,oend,omar⟩)(horec:orec.map cS=xorec)(hooff:ooff.map cI=xooff):Fn Tryz.prog 74 [S b] [] ⟨.agg [B ook,I oheaver,I oheastr,I oheabas,I ohealin,.d (.row 1 xorec),.d (.row 1 xooff),I oend,B omar],[],[]⟩:=by
 refine Fn.go V8 Tryz.func74 fun P hP Q hQ=>?_
 conv=>cbv
 rcases ak:Br b with⟨⟨aa,ac,ab,ad⟩,ap⟩
 refine .dd hP (Uz (by omega) ak) ?_
 conv=>cbv
 cases ap
 conv=>cbv
 have e:(⟨false,⟨0,0,0,0⟩,[],[],0,false⟩:Nd)=Bn b:=(by unfold Bn;rw[ak])
 rw[hr]at e
 simp only[Bj.mk.injEq,Nd.mk.injEq]at e
 obtain⟨rfl,⟨rfl,rfl,rfl,rfl⟩,rfl,rfl,rfl,rfl⟩:=e
 exact hQ _ _ (.one (.inl rfl) rfl (.agg (.d rfl rfl (.d rfl rfl (.d rfl rfl (.d rfl rfl (.d rfl rfl (.ref rfl rfl (by rw[←horec];rfl) (.ref rfl rfl (by rw[←hooff];rfl) (.d rfl rfl (.d rfl rfl (.nil)))))))))) .nil))
 conv=>cbv
 refine LoopW.lp (κ:=Int×(List (List D))×Nat×(List (List D))×Nat) V8 hP [4,5] [0,2,3,5] (fun(ae,al,am,af,ag)=>[]) (fun(ae,al,am,af,ag)=>[(8,.box 92 [B true,I aa,I ac,I ab,I ad,.ref 9 0 am,.ref 10 0 ag,I ae,B false]),(9,.row 1 false al),(10,.row 1 false af)])
  (fun(ae,al,am,af,ag)=>∃(w9:List ByteArray) (ai:List Int),w9.map cS=al∧am=w9.length∧ai.map cI=af∧ag=ai.length∧(24≤ae∧ae≤b.size∧w9.length=ai.length∧5*(w9.length:Int)+24≤ae)∧Hh ⟨aa,ac,ab,ad⟩ b 0 24=(w9++(Hh ⟨aa,ac,ab,ad⟩ b w9.length ae).1,ai++(Hh ⟨aa,ac,ab,ad⟩ b w9.length ae).2.1,(Hh ⟨aa,ac,ab,ad⟩ b w9.length ae).2.2))
  (fun(ae,al,am,af,ag)=>(b.size - ae).toNat) (24,[],0,[],0) ⟨[],[],rfl,rfl,rfl,rfl,by have:=Gg ak;simp;omega,rfl⟩ trivial rfl ?_
 rintro⟨ae,al,am,af,ag⟩ J ⟨w9,ai,ao,a1,ah,aq,hb,hS⟩ hJ
 have hd:=I6 (Gg ak).2.2
 conv=>cbv
 refine .go fun v2 a4=>?_
 conv=>cbv
 refine .add fun v3 a5=>?_
 conv=>cbv
 have e3:v3=ab+(w9.length:Int):=by omega
 generalize aj:D8 aa v3 b ae=r4
 refine .dd hP (XfJ (by omega) (by omega) aj) ?_
 cases r4
 conv=>cbv
 rcases an:A2 aa v3 b ae with⟨ar,au,aw⟩
 refine .dd hP (XaB (by omega) (by omega) an) ?_
 conv=>cbv
 cases aw
 conv=>cbv
 have e:(⟨true,⟨aa,ac,ab,ad⟩,w9,ai,ae,false⟩:Nd)=Bn b:=(by rw[e3]at aj an;unfold Bn;rw[ak];simp only[];rw[hS,Mg (h:=⟨aa,ac,ab,ad⟩) aj an];simp)
 rw[hr]at e
 simp only[Bj.mk.injEq,Nd.mk.injEq]at e
 obtain⟨rfl,⟨rfl,rfl,rfl,rfl⟩,rfl,rfl,rfl,rfl⟩:=e
 exact hQ _ _ (.one (.inl rfl) rfl (.agg (.d rfl rfl (.d rfl rfl (.d rfl rfl (.d rfl rfl (.d rfl rfl (.ref rfl (by rw[←ao,List.length_map];first|omega|(simp;omega)) (by rw[←ao,←horec]) (.ref rfl (by rw[←ah,List.length_map];first|omega|(simp;omega)) (by rw[←ah,←hooff]) (.d rfl rfl (.d rfl rfl (.nil)))))))))) .nil))
 conv=>cbv
 have hf:=Gw an
 refine .one ar ao rfl fun ax z6 a2 ay=>?_
 conv=>cbv
 refine .one ae ah rfl fun az z7 a3 a0=>?_
 conv=>cbv
 exact .go [12,14] (au,z6,ax,z7,az) (hJ _ ⟨_,_,ay,Em,a0,Em,by simp;omega,by rw[e3]at aj an;rw[hS,Mf (h:=⟨aa,ac,ab,ad⟩) aj an];simp[List.append_assoc]⟩ mlt)
 conv=>cbv
 have e:(⟨true,⟨aa,ac,ab,ad⟩,w9,ai,ae,true⟩:Nd)=Bn b:=(by rw[e3]at aj;unfold Bn;rw[ak];simp only[];rw[hS,Ms (h:=⟨aa,ac,ab,ad⟩) aj];simp)
 rw[hr]at e
 simp only[Bj.mk.injEq,Nd.mk.injEq]at e
 obtain⟨rfl,⟨rfl,rfl,rfl,rfl⟩,rfl,rfl,rfl,rfl⟩:=e
 exact hQ _ _ (.one (.inl rfl) rfl (.agg (.d rfl rfl (.d rfl rfl (.d rfl rfl (.d rfl rfl (.d rfl rfl (.ref rfl (by rw[←ao,List.length_map];first|omega|(simp;omega)) (by rw[←ao,←horec]) (.ref rfl (by rw[←ah,List.length_map];first|omega|(simp;omega)) (by rw[←ah,←hooff]) (.d rfl rfl (.d rfl rfl (.nil)))))))))) .nil))
end
section
open Go Go.Proofs
set_option maxRecDepth 20000
set_option maxHeartbeats 4000000
def XbF:List (Nat×TyRow):=[ty3,ty9,XaE,Xiv,ty162,Xim]
theorem XaA:B3 Tryz.prog XbF:=B3.of (by kernel_rfl)
theorem Na:Setup Tryz.prog XbF:=⟨XaA,mixed⟩
def Xgj(s:Nat)(offs:List Int)(n:Nat):List I8:=((List.range n).filter (fun i=>i% s=0)).map (fun(i:Nat)=>⟨(i:Int),offs.getD i 0⟩)
def Eh(stride:Int)(offs:List Int):List I8:=if stride<1 then[]else Xgj stride.toNat offs offs.length
theorem Z6{s n:Nat}{offs:List Int}:Xgj s offs (n+1)=Xgj s offs n++(if n% s=0 then[⟨(n:Int),offs.getD n 0⟩]else[]):=by
 unfold Xgj
 rw[List.range_succ,List.filter_append,List.map_append]
 congr 1
 by_cases h:n% s=0<;>simp[h]
theorem XbE{s n:Nat}{offs:List Int}:(Xgj s offs n).length≤n:=by
 unfold Xgj
 rw[List.length_map]
 exact Nat.le_trans (List.length_filter_le _ _) (by simp)
theorem XeC{l:List Int}{k:Nat}(h:k<l.length):l[k]=l.getD k 0:=by rw[List.getD_eq_getElem?_getD,List.getElem?_eq_getElem h];rfl
def K1(a b:Int):ByteArray:=if b≤a∧a - b≤1000000000 then C3 (a - b)else tx []
theorem Xbt{a b:Int}{o:ByteArray}(h:K1 a b=o):o.size≤5:=by
 rw[←h]
 unfold K1
 split
 ·exact I3 _
 ·simp[Bo]
def G1(a b:Int):Int:=if b≤a∧a - b<9223372036854775808 then a - b else -1
theorem U5(a b:Int):C3 (G1 a b)=K1 a b:=by
 unfold G1 K1
 by_cases h:b≤a∧a - b≤1000000000
 ·rw[if_pos h,if_pos (by omega)]
 ·rw[if_neg h]
  unfold C3
  split
  ·rw[if_neg (by omega)]
  ·rfl
def M5:Int×Int→List I8→Option ByteArray
 |_,[]=>some (tx [])
 |q,p::l=>if K1 p.count_ q.1=tx []∨K1 p.at_ q.2=tx []then none else(M5 (p.count_,p.at_) l).map fun t=>(K1 p.count_ q.1++K1 p.at_ q.2)++t
def C7(l:List I8):ByteArray:=match M5 (0,0) l with
 |some t=>C3 l.length++t
 |none=>tx []
theorem Sd:∀{l:List I8} {q:Int×Int} {t:ByteArray},M5 q l=some t→t.size≤10*l.length
 |[],q,t,h=>by cases h;simp[Bo]
 |p::l,q,t,h=>by
  simp only[M5]at h
  split at h
  ·cases h
  ·obtain⟨u,hu,rfl⟩:=Option.map_eq_some_iff.1 h
   have:=Sd hu
   have h1:=Xbt (rfl:K1 p.count_ q.1=_)
   have h2:=Xbt (rfl:K1 p.at_ q.2=_)
   rw[ByteArray.size_append,ByteArray.size_append,List.length_cons]
   omega
theorem Mx(l:List I8):(C7 l).size≤5+10*l.length:=by
 unfold C7
 split
 ·rename_i t h
  have h1:=Sd h
  have h2:=I3 l.length
  rw[ByteArray.size_append]
  omega
 ·simp[Bo]
theorem V3{l:List I8}{o:ByteArray}(h:C7 l=o):o.size≤5+10*l.length:=by rw[←h];exact Mx l
theorem Xhz(s:ByteArray):tx []++s=s:=by rw[←Vw s,D0];rfl
theorem Xdx(s:ByteArray):s++tx []=s:=by rw[←Vw s,D0,List.append_nil]
theorem XaU{n w:Int}(h:A0 n w≠tx []):(A0 n w).size=w.toNat:=by
 by_cases hh:0≤n∧1≤w∧w≤8∧n.toNat/2^ (8*w.toNat)=0
 ·exact Oq hh
 ·exact absurd (if_neg hh) h
def wfPl(l:List I8):Prop:=∀p∈l,wfI p.count_∧wfI p.at_
def Lf(acc:ByteArray):List Int→Option ByteArray
 |[]=>some acc
 |x::l=>if A0 x 4=tx []then none else Lf (acc++A0 x 4) l
def Cb(a b c d:Int):ByteArray:=match Lf (tx []) [a,b,c,d]with
 |some t=>t++tx [73,68,88,33]
 |none=>tx []
theorem S1:∀{l:List Int} {acc t:ByteArray},Lf acc l=some t→t.size≤acc.size+8*l.length
 |[],acc,t,h=>by cases h;simp
 |x::l,acc,t,h=>by
  simp only[Lf]at h
  split at h
  ·cases h
  ·have:=S1 h
   have h1:=@Ev x 4
   rw[ByteArray.size_append]at this
   rw[List.length_cons]
   omega
theorem Jx{a b c d:Int}{o:ByteArray}(h:Cb a b c d=o):o.size≤36:=by
 rw[←h]
 unfold Cb
 split
 ·rename_i t ht
  have:=S1 ht
  simp only[Bo,List.length_cons,List.length_nil]at this
  rw[ByteArray.size_append,Bo]
  simp only[List.length_cons,List.length_nil]
  omega
 ·simp[Bo]
theorem Zo:∀{l:List Int} {acc t:ByteArray},Lf acc l=some t→t.size=acc.size+4*l.length
 |[],acc,t,h=>by cases h;simp
 |x::l,acc,t,h=>by
  simp only[Lf]at h
  split at h
  ·cases h
  ·rename_i hx
   have:=Zo h
   have h1:=XaU hx
   rw[ByteArray.size_append,h1]at this
   rw[List.length_cons,this]
   simp
   omega
theorem Ri{a b c d:Int}(h:Cb a b c d≠tx []):(Cb a b c d).size=20:=by
 unfold Cb at h⊢
 split
 ·rename_i t ht
  have:=Zo ht
  simp only[Bo,List.length_cons,List.length_nil]at this
  rw[ByteArray.size_append,Bo,this]
  rfl
 ·rename_i ht
  rw[ht]at h
  exact absurd rfl h
def Cs(h:Bj)(offs:List Int)(fin:Int):ByteArray:=
 if C5 h=true∧Cl h.version_ (h.base_+offs.length)≠tx []∧C7 (Eh h.stride_ offs)≠tx []∧Cb fin offs.length h.stride_ 0≠tx []then
  (Cl h.version_ (h.base_+offs.length)++C7 (Eh h.stride_ offs))++Cb fin offs.length h.stride_ (Fh ((Cl h.version_ (h.base_+offs.length)++C7 (Eh h.stride_ offs))++(Cb fin offs.length h.stride_ 0).extract 0 12))else tx []
theorem Ol{s:Int}{offs:List Int}:(Eh s offs).length≤offs.length:=by
 unfold Eh
 split
 ·simp
 ·exact XbE
theorem Yz{s:Int}{offs:List Int}(h:∀x∈offs,wfI x)(hl:offs.length<2^40):wfPl (Eh s offs):=by
 unfold Eh
 split
 ·intro p hp;simp at hp
 ·intro p hp
  unfold Xgj at hp
  obtain⟨i,hi,rfl⟩:=List.mem_map.1 hp
  have aa:=List.mem_range.1 (List.mem_filter.1 hi).1
  refine⟨⟨by show -9223372036854775808≤(i:Int);omega,by show(i:Int)<9223372036854775808;omega⟩,?_⟩
  show wfI (offs.getD i 0)
  rw[←XeC aa]
  exact h _ (List.getElem_mem aa)
theorem Qa(h:Bj)(offs:List Int)(fin:Int):(Cs h offs fin).size≤57+10*offs.length:=by
 unfold Cs
 split
 ·rw[ByteArray.size_append,ByteArray.size_append]
  have h1:=Ma (rfl:Cl h.version_ (h.base_+offs.length)=_)
  have h2:=Mx (Eh h.stride_ offs)
  have h3:=@Ol h.stride_ offs
  have h4:=Jx (rfl:Cb fin offs.length h.stride_ (Fh ((Cl h.version_ (h.base_+offs.length)++C7 (Eh h.stride_ offs))++(Cb fin offs.length h.stride_ 0).extract 0 12))=_)
  omega
 ·simp[Bo]
variable {stride:Int} {o:ByteArray}
theorem Xdb{offs:List Int}{xoffs:List (List D)}{o:List I8}{xo:List (List D)}(hoffs:offs.map cI=xoffs)(hl:offs.length<2^40)(hr:Eh stride offs=o)(ho:o.map Xcu=xo):Fn Tryz.prog 171 [I stride,.d (.row 1 xoffs)] [] ⟨.d (.row 2 xo),[],[]⟩:=by
 refine Fn.go Na Tryz.func171 fun P hP Q hQ=>?_
 conv=>cbv
 refine LoopW.lp (κ:=Int×(List (List D))×Nat) Na hP [1] [0,1] (fun(i6,aa,ab)=>[(5,.ref 2 0 ab),(6,I i6)]) (fun(i6,aa,ab)=>[(2,.row 2 false aa)])
  (fun(i6,aa,ab)=>∃(w2:List I8),w2.map Xcu=aa∧ab=w2.length∧∃k:Nat,i6=(k:Int)∧k≤offs.length∧(1≤stride∨k=0)∧w2=Xgj stride.toNat offs k)
  (fun(i6,aa,ab)=>(offs.length - i6).toNat) (0,[],0) ⟨[],rfl,rfl,0,rfl,by omega,by omega,by simp[Xgj]⟩ ⟨rfl,rfl,trivial⟩ rfl ?_
 rintro⟨i6,aa,ab⟩ J ⟨w2,ac,ah,k,hi,hk,hs,hw⟩ hJ
 have hwl:w2.length≤k:=by rw[hw];exact XbE
 conv=>cbv
 refine .go hoffs fun v1 ak=>?_
 conv=>cbv
 refine .lss (fun h2=>?_) fun h2=>?_
 conv=>cbv
 refine .geq (fun h3=>?_) fun h3=>?_
 conv=>cbv
 refine .rem fun v4 ad=>?_
 conv=>cbv
 refine .eql (fun h5=>?_) fun h5=>?_
 conv=>cbv
 refine .go i6.toNat hoffs fun ai e6 ae=>?_
 conv=>cbv
 have em0:((k% stride.toNat:Nat):Int)=0:=by rw[Int.natCast_emod,Int.toNat_of_nonneg (by omega),←hi,←ad];exact h5
 have em:k% stride.toNat=0:=by omega
 have e1:(⟨i6,e6⟩:I8)=⟨(k:Int),offs.getD k 0⟩:=by rw[ae,XeC];simp only[hi,Int.toNat_natCast]
 refine .one (⟨i6,e6⟩:I8) ac rfl fun af z7 aj ag=>?_
 conv=>cbv
 refine .add fun v8 al=>?_
 conv=>cbv
 exact .go [4] (v8,z7,af) (hJ _ ⟨_,ag,Em,k+1,by omega,by omega,by omega,by rw[Z6,if_pos em,hw,e1]⟩ mlt)
 conv=>cbv
 have em:¬k% stride.toNat=0:=by intro e;refine h5 ?_;rw[ad,hi,show stride=((stride.toNat:Nat):Int)by omega,←Int.natCast_emod,e];rfl
 refine .add fun v6 am=>?_
 conv=>cbv
 exact .go [2] (v6,aa,ab) (hJ _ ⟨_,ac,Em,k+1,by omega,by omega,by omega,by rw[Z6,if_neg em,hw];simp⟩ mlt)
 conv=>cbv
 have e:w2=Eh stride offs:=(by rw[hw,show k=0 by omega];unfold Eh;rw[if_pos (by omega)];rfl)
 rw[hr]at e
 subst e
 exact hQ _ _ (.r rfl rfl (by rw[←ac,List.length_map];first|omega|(simp;omega)) (by rw[←ac,←ho]))
 conv=>cbv
 have e:w2=Eh stride offs:=(by rw[hw];unfold Eh;split;rw[show k=0 by omega];rfl;rw[show k=offs.length by omega])
 rw[hr]at e
 subst e
 exact hQ _ _ (.r rfl rfl (by rw[←ac,List.length_map];first|omega|(simp;omega)) (by rw[←ac,←ho]))
theorem Od{mark:Int}{count:Int}{sum:Int}(k1:mark<9223372036854775808)(k2:count<9223372036854775808)(k3:stride<9223372036854775808)(k4:sum<9223372036854775808)(hr:Cb mark count stride sum=o):Fn Tryz.prog 172 [I mark,I count,I stride,I sum] [] ⟨S o,[],[]⟩:=by
 refine Fn.go Na Tryz.func172 fun P hP Q hQ=>?_
 conv=>cbv
 refine LoopW.lp (κ:=ByteArray×Int) Na hP [] [10] (fun(s9,aa)=>[(9,S s9),(11,I aa)]) (fun(s9,aa)=>[])
  (fun(s9,aa)=>∃k:Nat,aa=(k:Int)∧k≤4∧s9.size≤8*k∧Lf (tx []) [mark,count,stride,sum]=Lf s9 ([mark,count,stride,sum].drop k))
  (fun(s9,aa)=>(4 - aa).toNat) (tx [],0) ⟨0,rfl,by omega,by simp[Bo],rfl⟩ ⟨rfl,rfl,trivial⟩ rfl ?_
 rintro⟨s9,aa⟩ J ⟨k,hi,hk,hz,hf⟩ hJ
 conv=>cbv
 refine .lss (fun h1=>?_) fun h1=>?_
 conv=>cbv
 refine .go aa.toNat fun p2 ah af=>?_
 conv=>cbv
 refine .go (l:=[mark,count,stride,sum]) (c:=cI) rfl fun ag e3 ac=>?_
 conv=>cbv
 have eE:[mark,count,stride,sum][k]'(by simp;omega)=e3:=by rw[ac];congr 1;omega
 have hE:e3<9223372036854775808:=by
  rw[←eE]
  have ai:k<4:=by omega
  rcases k with _|_|_|_|k
  ·exact k1
  ·exact k2
  ·exact k3
  ·exact k4
  ·omega
 generalize ab:A0 e3 4=r4
 have zr4:=Bu ab
 refine .dd hP (Et (by omega) ab) ?_
 conv=>cbv
 refine .eql (fun h5=>?_) fun h5=>?_
 conv=>cbv
 have e:(tx [])=Cb mark count stride sum:=(by unfold Cb;rw[hf,List.drop_eq_getElem_cons (by simp;omega)];simp only[Lf];rw[eE,if_pos (by rw[ab];exact h5)])
 rw[hr]at e
 subst e
 exact hQ _ _ (.s rfl rfl)
 conv=>cbv
 refine .go fun s6 ad aj=>?_
 conv=>cbv
 refine .add fun v7 ak=>?_
 conv=>cbv
 exact .go [] (s6,v7) (hJ _ ⟨k+1,by omega,by omega,by omega,by rw[hf,List.drop_eq_getElem_cons (by simp;omega)];simp only[Lf];rw[eE,if_neg];rw[ad];rw[ab];exact fun e=>h5 (ab.symm.trans e)⟩ mlt)
 conv=>cbv
 refine .litR 4 fun s2 ae al=>?_
 conv=>cbv
 have e:s2=Cb mark count stride sum:=(by unfold Cb;rw[hf,List.drop_of_length_le (by simp;omega)];simp only[Lf];exact ae)
 rw[hr]at e
 subst e
 exact hQ _ _ (.s rfl rfl)
theorem Yb{a:Int}{b:Int}{o:Int}(ha:wfI a)(hb:wfI b)(hr:G1 a b=o):Fn Tryz.prog 236 [I a,I b] [] ⟨I o,[],[]⟩:=by
 refine Fn.go Na Tryz.func236 fun P hP Q hQ=>?_
 conv=>cbv
 refine .subW fun v1 aa=>?_
 conv=>cbv
 refine .lss (fun h2=>?_) fun h2=>?_
 conv=>cbv
 have e:(-1)=G1 a b:=(by unfold G1;rw[J5]at aa;obtain⟨ab,ac⟩:=ha;obtain⟨ad,hb2⟩:=hb;rw[if_neg (by omega)])
 rw[hr]at e
 subst e
 exact hQ _ _ (.i rfl rfl)
 conv=>cbv
 refine .lss (fun h3=>?_) fun h3=>?_
 conv=>cbv
 have e:(-1)=G1 a b:=(by unfold G1;rw[J5]at aa;obtain⟨ab,ac⟩:=ha;obtain⟨ad,hb2⟩:=hb;rw[if_neg (by omega)])
 rw[hr]at e
 subst e
 exact hQ _ _ (.i rfl rfl)
 conv=>cbv
 have e:v1=G1 a b:=(by unfold G1;rw[J5]at aa;obtain⟨ab,ac⟩:=ha;obtain⟨ad,hb2⟩:=hb;rw[if_pos (by omega)];omega)
 rw[hr]at e
 subst e
 exact hQ _ _ (.i rfl rfl)
theorem Yu{l:List I8}{xl:List (List D)}(hl:l.map Xcu=xl)(hn:l.length<2^40)(hw:wfPl l)(hr:C7 l=o):Fn Tryz.prog 170 [.d (.row 2 xl)] [] ⟨S o,[],[]⟩:=by
 refine Fn.go Na Tryz.func170 fun P hP Q hQ=>?_
 conv=>cbv
 refine .go hl fun v1 ao=>?_
 conv=>cbv
 generalize ae:C3 v1=r2
 have zr2:=Is ae
 refine .dd hP (Lg ae) ?_
 conv=>cbv
 refine LoopW.lp (κ:=ByteArray×Int×Int×Int) Na hP [] [0,4] (fun(s3,i5,ab,ac)=>[(3,S s3),(5,I i5)]) (fun(s3,i5,ab,ac)=>[(0,.box 162 [I ab,I ac])])
  (fun(s3,i5,ab,ac)=>∃(k:Nat) (pr:ByteArray),i5=(k:Int)∧k≤l.length∧s3=C3 l.length++pr∧pr.size≤10*k∧wfI ab∧wfI ac∧M5 (0,0) l=(M5 (ab,ac) (l.drop k)).map fun t=>pr++t)
  (fun(s3,i5,ab,ac)=>(l.length - i5).toNat) (r2,0,0,0) ⟨0,tx [],rfl,by omega,by rw[←ae,ao,Xdx],by simp[Bo],by constructor<;>omega,by constructor<;>omega,by simp[Xhz]⟩ ⟨rfl,rfl,trivial⟩ rfl ?_
 rintro⟨s3,i5,ab,ac⟩ J ⟨k,pr,hi,hk,hs,hz,hwa,hwb,hp⟩ hJ
 have ay:s3.size≤5+10*k:=by rw[hs,ByteArray.size_append];have:=I3 l.length;omega
 conv=>cbv
 refine .go hl fun v3 az=>?_
 conv=>cbv
 refine .lss (fun h4=>?_) fun h4=>?_
 conv=>cbv
 refine .go i5.toNat hl fun ar ⟨aa,ad⟩ ah=>?_
 conv=>cbv
 have hkl:k<l.length:=by omega
 have hd:l.drop k=⟨aa,ad⟩::l.drop (k+1):=by rw[List.drop_eq_getElem_cons hkl,ah];congr 2;omega
 obtain⟨ai,aj⟩:=hw ⟨aa,ad⟩ (by rw[ah];exact List.getElem_mem _)
 simp only[]at ai aj
 generalize ak:G1 aa ab=r6
 refine .dd hP (Yb (by assumption) (by assumption) ak) ?_
 conv=>cbv
 generalize af:C3 r6=r7
 have zr7:=Is af
 refine .dd hP (Lg af) ?_
 conv=>cbv
 generalize al:G1 ad ac=r8
 refine .dd hP (Yb (by assumption) (by assumption) al) ?_
 conv=>cbv
 generalize ag:C3 r8=r9
 have zr9:=Is ag
 refine .dd hP (Lg ag) ?_
 conv=>cbv
 have ea:K1 aa ab=r7:=by rw[←af,←ak,U5]
 have eb:K1 ad ac=r9:=by rw[←ag,←al,U5]
 refine .eql (fun h10=>?_) fun h10=>?_
 conv=>cbv
 have e:(tx [])=C7 l:=(by unfold C7;rw[hp,hd];simp only[M5];rw[ea,eb,if_pos (.inl h10)];rfl)
 rw[hr]at e
 subst e
 exact hQ _ _ (.s rfl rfl)
 conv=>cbv
 refine .eql (fun h11=>?_) fun h11=>?_
 conv=>cbv
 have e:(tx [])=C7 l:=(by unfold C7;rw[hp,hd];simp only[M5];rw[ea,eb,if_pos (.inr h11)];rfl)
 rw[hr]at e
 subst e
 exact hQ _ _ (.s rfl rfl)
 conv=>cbv
 refine .go fun a0 am au=>?_
 conv=>cbv
 refine .go fun ap an aw=>?_
 conv=>cbv
 refine .add fun aq ax=>?_
 conv=>cbv
 exact .go [] (ap,aq,aa,ad) (hJ _ ⟨k+1,pr++(r7++r9),by omega,by omega,by rw[an,am,hs];simp only[ByteArray.append_assoc],by rw[ByteArray.size_append,ByteArray.size_append];omega,ai,aj,by rw[hp,hd];simp only[M5];rw[ea,eb,if_neg (by intro h;rcases h with h|h;exact h10 h;exact h11 h),Option.map_map];congr 1;funext t;simp only[Function.comp,ByteArray.append_assoc]⟩ mlt)
 conv=>cbv
 have e:s3=C7 l:=(by unfold C7;rw[hp,List.drop_of_length_le (by omega),hs];simp[M5,Xdx])
 rw[hr]at e
 subst e
 exact hQ _ _ (.s rfl rfl)
end
section
open Go Go.Proofs
set_option maxRecDepth 20000
set_option maxHeartbeats 4000000
end
section
open Go Go.Proofs
set_option maxRecDepth 20000
set_option maxHeartbeats 4000000
def Yw:List (Nat×TyRow):=[ty3,ty9,XaE,XfU,Xiv]
theorem Ya:B3 Tryz.prog Yw:=B3.of (by kernel_rfl)
theorem Xgq:Setup Tryz.prog Yw:=⟨Ya,mixed⟩
theorem Sj{h:Bj}{offs:List Int}{fin:Int}{o:ByteArray}(e:Cs h offs fin=o):o.size≤57+10*offs.length:=by rw[←e];exact Qa _ _ _
theorem Ul{hver:Int}{hstr:Int}{hbas:Int}{hlin:Int}{offs:List Int}{xoffs:List (List D)}{fin:Int}{o:ByteArray}(hoffs:offs.map cI=xoffs)(hl:offs.length≤1000000000)(hwo:∀x∈offs,wfI x)(hf:fin<9223372036854775808)(hr:Cs (⟨hver,hstr,hbas,hlin⟩:Bj) offs fin=o):Fn Tryz.prog 89 [.agg [I hver,I hstr,I hbas,I hlin],.d (.row 1 xoffs),I fin] [] ⟨S o,[],[]⟩:=by
 refine Fn.go Xgq Tryz.func89 fun P hP Q hQ=>?_
 conv=>cbv
 generalize ag:C5 (⟨hver,hstr,hbas,hlin⟩:Bj)=r1
 refine .dd hP (Wh ag) ?_
 cases r1
 conv=>cbv
 have e:(tx [])=Cs (⟨hver,hstr,hbas,hlin⟩:Bj) offs fin:=(by unfold Cs;rw[if_neg];rintro⟨q1,q2,q3,q4⟩;simp only[]at q1 q2 q3 q4;rw[ag]at q1;cases q1)
 rw[hr]at e
 subst e
 exact hQ _ _ (.s rfl rfl)
 conv=>cbv
 have hh:=I6 ag
 refine .go hoffs fun v2 aj=>?_
 conv=>cbv
 refine .add fun v3 ak=>?_
 conv=>cbv
 generalize ac:Cl hver v3=r4
 have zr4:=Ma ac
 refine .dd hP (Zg ac) ?_
 conv=>cbv
 generalize ab:Eh hstr offs=l5
 generalize al:l5.map Xcu=a3
 refine .dd hP (Xdb hoffs (by omega) ab al) ?_
 conv=>cbv
 have zl5:l5.length≤offs.length:=ab▸Ol
 generalize ad:C7 l5=r6
 have zr6:=V3 ad
 refine .dd hP (Yu al (by omega) (ab▸Yz hwo (by omega)) ad) ?_
 conv=>cbv
 refine .go hoffs fun v7 am=>?_
 conv=>cbv
 generalize aa:Cb fin v7 hstr 0=r8
 have zr8:=Jx aa
 refine .dd hP (Od (by omega) (by omega) (by omega) (by omega) aa) ?_
 conv=>cbv
 refine .eql (fun h9=>?_) fun h9=>?_
 conv=>cbv
 have e:(tx [])=Cs (⟨hver,hstr,hbas,hlin⟩:Bj) offs fin:=(by unfold Cs;rw[if_neg];rintro⟨q1,q2,q3,q4⟩;simp only[]at q1 q2 q3 q4;rw[←aj,←ak,ac]at q2;exact q2 h9)
 rw[hr]at e
 subst e
 exact hQ _ _ (.s rfl rfl)
 conv=>cbv
 refine .eql (fun h10=>?_) fun h10=>?_
 conv=>cbv
 have e:(tx [])=Cs (⟨hver,hstr,hbas,hlin⟩:Bj) offs fin:=(by unfold Cs;rw[if_neg];rintro⟨q1,q2,q3,q4⟩;simp only[]at q1 q2 q3 q4;rw[ab,ad]at q3;exact q3 h10)
 rw[hr]at e
 subst e
 exact hQ _ _ (.s rfl rfl)
 conv=>cbv
 refine .eql (fun h11=>?_) fun h11=>?_
 conv=>cbv
 have e:(tx [])=Cs (⟨hver,hstr,hbas,hlin⟩:Bj) offs fin:=(by unfold Cs;rw[if_neg];rintro⟨q1,q2,q3,q4⟩;simp only[]at q1 q2 q3 q4;rw[←am,aa]at q4;exact q4 h11)
 rw[hr]at e
 subst e
 exact hQ _ _ (.s rfl rfl)
 conv=>cbv
 refine .go fun a4 ah ay=>?_
 conv=>cbv
 have z8:r8.size=20:=by rw[←aa];exact Ri (by rw[aa];exact h11)
 refine .hi fun ar ai=>?_
 conv=>cbv
 have a5:ar.size=12:=by rw[ai,Wf (by omega) (by omega)];rfl
 refine .go fun au an az=>?_
 conv=>cbv
 generalize ae:Fh au=aw
 have zr15:=Il ae
 refine .dd hP (Sy (by omega) ae) ?_
 conv=>cbv
 refine .go fun a6 ao a0=>?_
 conv=>cbv
 refine .go hoffs fun ap a1=>?_
 conv=>cbv
 generalize af:Cb fin ap hstr aw=a7
 have zr18:=Jx af
 refine .dd hP (Od (by omega) (by omega) (by omega) (by omega) af) ?_
 conv=>cbv
 refine .go fun ax aq a2=>?_
 conv=>cbv
 have e:ax=Cs (⟨hver,hstr,hbas,hlin⟩:Bj) offs fin:=(by have q:Cs ⟨hver,hstr,hbas,hlin⟩ offs fin=_:=if_pos ⟨ag,by simp only[];rw[←aj,←ak,ac];exact h9,by simp only[];rw[ab,ad];exact h10,by simp only[];rw[←am,aa];exact h11⟩;rw[q];simp only[];rw[←aj,←ak,ac,ab,ad,show(v2:Int)=v7 by omega,aa,←ah,aq,ao,←ah,←af,←ae,an,ai,show ap=v7 by omega];rfl)
 rw[hr]at e
 subst e
 exact hQ _ _ (.s rfl rfl)
end
section
open Go Go.Proofs
set_option maxRecDepth 20000
set_option maxHeartbeats 4000000
def Xcn:List (Nat×TyRow):=[ty3,ty9,XfZ,Xax,XaE,XfU,ty216]
theorem Xab:B3 Tryz.prog Xcn:=B3.of (by kernel_rfl)
theorem Xew:Setup Tryz.prog Xcn:=⟨Xab,mixed⟩
def Dw(v:Int):Int→List ByteArray→List UInt8
 |_,[]=>[]
 |p,r::l=>(Am v p r).data.toList++Dw v (p+1) l
def Hb(v:Int):Int→Int→List ByteArray→List Int
 |_,_,[]=>[]
 |p,k,r::l=>k::Hb v (p+1) (k+(Am v p r).size) l
def XaJ(h:Bj)(l:List ByteArray):List UInt8:=(Bf h).data.toList++Dw h.version_ h.base_ l
def Di(h:Bj)(l:List ByteArray):ByteArray:=
 if C5 h=true∧l.length≤1000∧h.base_+l.length≤1000000000∧∀r∈l,r.size≤60 then
  tx (XaJ h l)++Cs h (Hb h.version_ h.base_ (Bf h).size l) (XaJ h l).length
 else tx []
theorem Qg{v:Int}:∀{l:List ByteArray} {p:Int} {r:ByteArray},Dw v p (l++[r])=Dw v p l++(Am v (p+l.length) r).data.toList
 |[],p,r=>by simp[Dw]
 |x::l,p,r=>by
  rw[List.cons_append,Dw,Dw,Qg,List.append_assoc,List.length_cons,show p+1+(l.length:Int)=p+((l.length+1:Nat):Int)by omega]
theorem Va{v:Int}:∀{l:List ByteArray} {p k:Int} {r:ByteArray},Hb v p k (l++[r])=Hb v p k l++[k+(Dw v p l).length]
 |[],p,k,r=>by simp[Dw,Hb]
 |x::l,p,k,r=>by
  have e:(Am v p x).data.toList.length=(Am v p x).size:=Array.length_toList
  rw[List.cons_append,Hb,Hb,Va,Dw,List.cons_append,List.length_append,e,show k+((Am v p x).size:Int)+((Dw v (p+1) l).length:Int)=k+(((Am v p x).size+(Dw v (p+1) l).length:Nat):Int)by omega]
theorem P0{v:Int}:∀{l:List ByteArray} {p k:Int},(Hb v p k l).length=l.length
 |[],_,_=>rfl
 |x::l,p,k=>by rw[Hb,List.length_cons,List.length_cons,P0]
theorem L7{v:Int}:∀{l:List ByteArray} {p:Int},(Dw v p l).length≤84*l.length
 |[],_=>by simp[Dw]
 |x::l,p=>by
  have:=@L7 v l (p+1)
  have h:=Bz (rfl:Am v p x=_)
  have e:(Am v p x).data.size=(Am v p x).size:=rfl
  rw[Dw,List.length_append,Array.length_toList,List.length_cons]
  omega
theorem Xw{v:Int}:∀{l:List ByteArray} {p k:Int},0≤k→∀x∈Hb v p k l,0≤x∧x≤k+84*l.length
 |[],_,_,_,x,hx=>by simp[Hb]at hx
 |y::l,p,k,hk,x,hx=>by
  rw[Hb,List.mem_cons]at hx
  have h:=Bz (rfl:Am v p y=_)
  rcases hx with rfl|hx
  ·rw[List.length_cons];omega
  ·have:=@Xw v l (p+1) (k+(Am v p y).size) (by omega) x hx
   rw[List.length_cons];omega
theorem Kl{h:Bj}{l:List ByteArray}{o:ByteArray}(e:Di h l=o):o.size≤200000:=by
 rw[←e]
 unfold Di
 split
 ·rename_i hc
  have h1:=Qa h (Hb h.version_ h.base_ (Bf h).size l) (XaJ h l).length
  have h2:=Fr (rfl:Bf h=_)
  have h3:=@L7 h.version_ l h.base_
  rw[ByteArray.size_append,Bo]
  rw[P0]at h1
  have e:(Bf h).data.size=(Bf h).size:=rfl
  have h4:(XaJ h l).length=(Bf h).size+(Dw h.version_ h.base_ l).length:=by unfold XaJ;rw[List.length_append,Array.length_toList];rfl
  omega
 ·simp[Bo]
theorem Pz{hver:Int}{hstr:Int}{hbas:Int}{hlin:Int}{l:List ByteArray}{xl:List (List D)}{o:ByteArray}(hl:l.map cS=xl)(hn:l.length<2^40)(hr:Di (⟨hver,hstr,hbas,hlin⟩:Bj) l=o):Fn Tryz.prog 28 [.agg [I hver,I hstr,I hbas,I hlin],.d (.row 1 xl)] [] ⟨S o,[],[]⟩:=by
 refine Fn.go Xew Tryz.func28 fun P hP Q hQ=>?_
 conv=>cbv
 generalize aj:C5 (⟨hver,hstr,hbas,hlin⟩:Bj)=r1
 refine .dd hP (Wh aj) ?_
 cases r1
 conv=>cbv
 have e:(tx [])=Di (⟨hver,hstr,hbas,hlin⟩:Bj) l:=(by unfold Di;rw[if_neg];rintro⟨q,_⟩;rw[aj]at q;cases q)
 rw[hr]at e
 subst e
 exact hQ _ _ (.s rfl rfl)
 conv=>cbv
 refine .go hl fun v2 bm=>?_
 conv=>cbv
 refine .gtr (fun h3=>?_) fun h3=>?_
 conv=>cbv
 have e:(tx [])=Di (⟨hver,hstr,hbas,hlin⟩:Bj) l:=(by unfold Di;rw[if_neg];rintro⟨_,q,_⟩;omega)
 rw[hr]at e
 subst e
 exact hQ _ _ (.s rfl rfl)
 conv=>cbv
 refine .go hl fun v4 bn=>?_
 conv=>cbv
 have hh:=I6 aj
 refine .add fun v5 bo=>?_
 conv=>cbv
 refine .gtr (fun h6=>?_) fun h6=>?_
 conv=>cbv
 have e:(tx [])=Di (⟨hver,hstr,hbas,hlin⟩:Bj) l:=(by unfold Di;rw[if_neg];rintro⟨_,_,q,_⟩;simp only[]at q;omega)
 rw[hr]at e
 subst e
 exact hQ _ _ (.s rfl rfl)
 conv=>cbv
 generalize ak:Bf (⟨hver,hstr,hbas,hlin⟩:Bj)=r7
 have zr7:=Fr ak
 refine .dd hP (J6 ak) ?_
 conv=>cbv
 refine .go fun a1 z8 bd a2=>?_
 conv=>cbv
 refine LoopW.lp (κ:=Int×(List (List D))×Nat×(List (List D))×Nat) Xew hP [1,2] [1,2] (fun(i7,aa,ab,ac,ad)=>[(5,.ref 3 0 ab),(6,.ref 4 0 ad),(7,I i7)]) (fun(i7,aa,ab,ac,ad)=>[(3,.row 1 false aa),(4,.row 1 false ac)])
  (fun(i7,aa,ab,ac,ad)=>∃(w3:List UInt8) (w4:List Int),w3.map cB=aa∧ab=w3.length∧w4.map cI=ac∧ad=w4.length∧0≤i7∧i7≤l.length∧w3=r7.data.toList++Dw hver hbas (l.take i7.toNat)∧w4=Hb hver hbas r7.size (l.take i7.toNat)∧∀r∈l.take i7.toNat,r.size≤60)
  (fun(i7,aa,ab,ac,ad)=>(l.length - i7).toNat) (0,z8,a1,[],0) ⟨r7.data.toList,[],a2,(by first|omega|(simp;omega)),rfl,rfl,by omega,by omega,by simp[Dw],by simp[Hb],by simp⟩ ⟨rfl,rfl,rfl,trivial⟩ rfl ?_
 rintro⟨i7,aa,ab,ac,ad⟩ J ⟨w3,w4,aq,be,al,bf,h0,h1,hz,hw,am⟩ hJ
 have q1:=@L7 hver (l.take i7.toNat) hbas
 have q2:(l.take i7.toNat).length=i7.toNat:=by rw[List.length_take];omega
 have q4:w3.length=r7.size+(Dw hver hbas (l.take i7.toNat)).length:=by rw[hz,List.length_append,Array.length_toList];rfl
 have q5:w4.length=i7.toNat:=by rw[hw,P0,q2]
 conv=>cbv
 refine .go hl fun v9 bp=>?_
 conv=>cbv
 refine .lss (fun h10=>?_) fun h10=>?_
 conv=>cbv
 refine .go i7.toNat hl fun a3 a4 af=>?_
 conv=>cbv
 refine .go fun bq bg=>?_
 conv=>cbv
 refine .gtr (fun h13=>?_) fun h13=>?_
 conv=>cbv
 have e:(tx [])=Di (⟨hver,hstr,hbas,hlin⟩:Bj) l:=(by unfold Di;rw[if_neg];rintro⟨_,_,_,q⟩;have:=q a4 (af▸List.getElem_mem _);omega)
 rw[hr]at e
 subst e
 exact hQ _ _ (.s rfl rfl)
 conv=>cbv
 refine .go fun an bh=>?_
 conv=>cbv
 refine .one an al rfl fun ar a5 a6 au=>?_
 conv=>cbv
 refine .add fun aw bi=>?_
 conv=>cbv
 refine .go i7.toNat hl fun a7 ao ag=>?_
 conv=>cbv
 have bs:ao.size≤60:=by rw[ag,←af];omega
 generalize ah:Am hver aw ao=a8
 have zr18:=Bz ah
 refine .dd hP (Ds (by omega) ah) ?_
 conv=>cbv
 refine .str aq fun ax a9 ba ay=>?_
 conv=>cbv
 refine .add fun ae bj=>?_
 conv=>cbv
 have t1:ae.toNat=i7.toNat+1:=by omega
 have t2:l.take ae.toNat=l.take i7.toNat++[ao]:=by rw[t1,ag,List.take_append_getElem]
 have t4:w3++a8.data.toList=r7.data.toList++Dw hver hbas (l.take ae.toNat):=by rw[hz,t2,Qg,q2,List.append_assoc,show hbas+((i7.toNat:Nat):Int)=aw by omega,ah]
 have t5:w4++[an]=Hb hver hbas r7.size (l.take ae.toNat):=by rw[t2,Va,←hw,show an=(r7.size:Int)+((Dw hver hbas (l.take i7.toNat)).length:Int)by omega]
 have t6:∀r∈l.take ae.toNat,r.size≤60:=by rw[t2];intro r hr';rcases List.mem_append.1 hr' with h|h;exact am r h;rw[List.mem_singleton.1 h,ag,←af];omega
 exact .go [7,6] (ae,a9,ax,a5,ar) (hJ _ ⟨_,_,ay,Em,au,Em,by omega,by omega,t4,t5,t6⟩ mlt)
 conv=>cbv
 refine .go fun bb bk=>?_
 conv=>cbv
 generalize ai:Cs (⟨hver,hstr,hbas,hlin⟩:Bj) w4 bb=bt
 have zr12:=Sj ai
 refine .lnt hP (Ul al (by omega) (fun x hx=>by rw[hw]at hx;have:=Xw (k:=(r7.size:Int)) (by omega) x hx;exact⟨by omega,by omega⟩) (by omega) ai) (.agg (.d rfl (.d rfl (.d rfl (.d rfl .nil)))) (.ref rfl (by rw[←al,List.length_map];first|omega|(simp;omega)) (.d rfl .nil))) ?_
 conv=>cbv
 refine .str aq fun bl bu ap az=>?_
 conv=>cbv
 refine .go az (hn:=by rw[ap,List.length_append,Array.length_toList];rfl) fun bc a0=>?_
 conv=>cbv
 have t0:l.take i7.toNat=l:=List.take_of_length_le (by omega)
 have e1:XaJ ⟨hver,hstr,hbas,hlin⟩ l=w3:=by unfold XaJ;rw[ak,hz,t0]
 have e2:Hb hver hbas r7.size l=w4:=by rw[hw,t0]
 rw[t0]at am
 have e:bc=Di (⟨hver,hstr,hbas,hlin⟩:Bj) l:=(by unfold Di;rw[if_pos ⟨aj,by omega,by simp only[];omega,am⟩,e1,ak,a0,←D0,Vw,←ai,←e2];show _=tx w3++Cs _ (Hb hver hbas r7.size l) w3.length;congr 2;omega)
 rw[hr]at e
 subst e
 exact hQ _ _ (.s rfl rfl)
end
section
open Go Go.Proofs
set_option maxRecDepth 20000
set_option maxHeartbeats 4000000
theorem Uc:∀(k:Nat) {h:Bj} {b:ByteArray} {n:Nat} {p:Int},(b.size - p).toNat≤k→0≤p∧p≤b.size→p+(Hh h b n p).1.length≤b.size
 |k,h,b,n,p,hk,hp=>by
  cases hm:D8 h.version_ (h.base_+n) b p
  ·rcases hf:A2 h.version_ (h.base_+n) b p with⟨r,q,ok⟩
   cases ok
   ·rw[Mg hm hf]
    simpa using hp.2
   ·have h2:=Gw hf
    rw[Mf hm hf]
    cases k with
    |zero=>omega
    |succ k=>
     have ih:=Uc k (h:=h) (b:=b) (n:=n+1) (p:=q) (by omega) (by omega)
     rw[List.length_cons]
     omega
  ·rw[Ms hm]
   simpa using hp.2
theorem O5{b:ByteArray}:(Bn b).records_.length≤b.size:=by
 unfold Bn
 split
 ·rename_i h e
  have h2:=Gg e
  have:=Uc _ (h:=h) (b:=b) (n:=0) (p:=24) (Nat.le_refl _) (by omega)
  show(Hh h b 0 24).1.length≤_
  omega
 ·simp
end
section
open Go Go.Proofs
set_option maxRecDepth 20000
set_option maxHeartbeats 4000000
def Xbo:List (Nat×TyRow):=[ty3,ty9,Xg4,XgU,Xbj,XcB,Xc0]
theorem XaC:B3 Tryz.prog Xbo:=B3.of (by kernel_rfl)
theorem Fc:Setup Tryz.prog Xbo:=⟨XaC,mixed⟩
def Z8{α:Type}(p:α→Bool)(l:List α):Int:=if l.findIdx p<l.length then(l.findIdx p:Int)else -1
section
variable {α:Type} {p:α→Bool} {l:List α} {i:Int}
theorem Sr(h0:0≤i)(hi:i.toNat<l.length)(h:p l[i.toNat]=true)(hb:∀(j:Nat) (hj:j<l.length),j<i.toNat→p l[j]=false):i=Z8 p l:=by
 have e:l.findIdx p=i.toNat:=(List.findIdx_eq hi).2 ⟨h,fun j hji=>hb j (by omega) hji⟩
 unfold Z8
 rw[e,if_pos hi]
 omega
theorem L3(hb:∀(j:Nat) (hj:j<l.length),p l[j]=false): -1=Z8 p l:=by
 unfold Z8
 rw[if_neg]
 intro hlt
 have:=List.findIdx_getElem (w:=hlt)
 rw[hb _ hlt]at this
 cases this
theorem Xg2(e:Z8 p l=i): -1≤i∧i<l.length:=by
 rw[←e]
 unfold Z8
 split<;>omega
theorem Xcl(e:Z8 p l=i)(h:0≤i):∃hi:i.toNat<l.length,p l[i.toNat]=true:=by
 unfold Z8 at e
 split at e
 ·rename_i hlt
  have e2:i.toNat=l.findIdx p:=by omega
  refine⟨by omega,?_⟩
  have:=List.findIdx_getElem (w:=hlt)
  simpa only[e2]using this
 ·omega
end
def Bv(e:Ag)(name:ByteArray):Bool:=decide (e.name_=name)
def D3(l:List Ag)(name:ByteArray):Int:=Z8 (fun e=>Bv e name) l
def A1(l:List Ag)(name:ByteArray):Int:=D3 l name
def Ej(n:B5)(id:Int):Bool:=decide (n.id_=id)
def El(l:List B5)(id:Int):Int:=Z8 (fun n=>Ej n id) l
def Iw(d:Aa)(id:Int):Int:=El d.nodes_ id
def Ez(d:Aa)(id:Int):Int:=Iw d id
def B6(l:List Ag)(name:ByteArray):Int:=if A1 l name<0 then 0 else(l.getD (A1 l name).toNat ⟨tx [],0⟩).id_
def Dg(l:List Ag)(name:ByteArray):Bool:=decide (0≤A1 l name)
def Cj(d:Aa)(name:ByteArray):Int:=if A1 d.entries_ name<0 then -1 else Iw d (B6 d.entries_ name)
def Fo(d:Aa)(name:ByteArray):B5×Bool:=if Cj d name<0 then(⟨0,tx [],0⟩,false)else(d.nodes_.getD (Cj d name).toNat ⟨0,tx [],0⟩,true)
def Fk(d:Aa)(name:ByteArray):ByteArray×Bool:=((Fo d name).1.text_,(Fo d name).2)
def okD(d:Aa):Prop:=d.nodes_.length≤1000000000∧(∀n∈d.nodes_,n.text_.size≤1000000000)∧d.entries_.length≤1000000000∧(∀e∈d.entries_,e.name_.size≤1000000000)∧d.old_.length≤1000000000∧d.steps_.length≤1000000000
theorem gD{α:Type}{l:List α}{k:Nat}{d:α}(h:k<l.length):l[k]=l.getD k d:=by rw[List.getD_eq_getElem?_getD,List.getElem?_eq_getElem h];rfl
theorem M7{l:List Ag}{name:ByteArray}{i:Int}(e:A1 l name=i): -1≤i∧i<l.length:=Xg2 e
theorem Uy{d:Aa}{id i:Int}(e:Iw d id=i): -1≤i∧i<d.nodes_.length:=Xg2 e
theorem Gr{d:Aa}{name:ByteArray}{i:Int}(e:Cj d name=i): -1≤i∧i<d.nodes_.length:=by
 unfold Cj at e
 split at e
 ·omega
 ·exact Uy e
theorem XaX{d:Aa}{name t:ByteArray}{ok:Bool}(hd:okD d)(e:Fk d name=(t,ok)):t.size≤1000000000:=by
 have e1:(Fo d name).1.text_=t:=congrArg Prod.fst e
 rw[←e1]
 unfold Fo
 split
 ·simp[Bo]
 ·rename_i h
  have h2:=Gr (rfl:Cj d name=_)
  have h3:(Cj d name).toNat<d.nodes_.length:=by omega
  rw[←gD h3]
  exact hd.2.1 _ (List.getElem_mem h3)
theorem Np{d:Aa}{name:ByteArray}:Fo d name=if Ez d (B6 d.entries_ name)<0∨Dg d.entries_ name=false then(⟨0,tx [],0⟩,false)else(d.nodes_.getD (Ez d (B6 d.entries_ name)).toNat ⟨0,tx [],0⟩,true):=by
 unfold Fo Cj Ez Dg
 by_cases h:A1 d.entries_ name<0
 ·rw[if_pos h,if_pos (by omega),if_pos (.inr (by simp;omega))]
 ·rw[if_neg h]
  by_cases h2:Iw d (B6 d.entries_ name)<0
  ·rw[if_pos h2,if_pos (.inl h2)]
  ·rw[if_neg h2,if_neg]
   rintro(h3|h3)
   ·exact h2 h3
   ·simp at h3;omega
variable {name oatex oa:ByteArray} {o id As Aq oaid oasur:Int} {l An Ao:List Ag} {xl Bk Bh Bg Bi:List (List D)} {Aj:List B5} {Al:List ByteArray} {ob:Bool}
theorem Xa0{enam:ByteArray}{eid:Int}{o:Bool}(hr:Bv (⟨enam,eid⟩:Ag) name=o):Fn Tryz.prog 285 [.agg [S enam,I eid],.ptr 0 0 0] [.box 9 [S name]] ⟨B o,[],[]⟩:=by
 refine Fn.goR Fc Tryz.func285 fun P hP Q hQ=>?_
 conv=>cbv
 refine .eql (fun h1=>?_) fun h1=>?_
 conv=>cbv
 have e:true=Bv (⟨enam,eid⟩:Ag) name:=(by unfold Bv;symm;rw[decide_eq_true_eq];exact h1)
 rw[hr]at e
 subst e
 exact hQ _ _ (.of [] (.inl rfl) rfl rfl rfl rfl)
 conv=>cbv
 have e:false=Bv (⟨enam,eid⟩:Ag) name:=(by unfold Bv;symm;rw[decide_eq_false_iff_not];exact h1)
 rw[hr]at e
 subst e
 exact hQ _ _ (.of [] (.inl rfl) rfl rfl rfl rfl)
theorem Rp{nid:Int}{ntex:ByteArray}{nsur:Int}{o:Bool}(hr:Ej (⟨nid,ntex,nsur⟩:B5) id=o):Fn Tryz.prog 287 [.agg [I nid,S ntex,I nsur],.ptr 0 0 0] [.box 3 [I id]] ⟨B o,[],[]⟩:=by
 refine Fn.goR Fc Tryz.func287 fun P hP Q hQ=>?_
 conv=>cbv
 refine .eql (fun h1=>?_) fun h1=>?_
 conv=>cbv
 have e:true=Ej (⟨nid,ntex,nsur⟩:B5) id:=(by unfold Ej;symm;rw[decide_eq_true_eq];exact h1)
 rw[hr]at e
 subst e
 exact hQ _ _ (.of [] (.inl rfl) rfl rfl rfl rfl)
 conv=>cbv
 have e:false=Ej (⟨nid,ntex,nsur⟩:B5) id:=(by unfold Ej;symm;rw[decide_eq_false_iff_not];exact h1)
 rw[hr]at e
 subst e
 exact hQ _ _ (.of [] (.inl rfl) rfl rfl rfl rfl)
theorem Ly(hl:l.map Ad=xl)(hn:l.length<2^40)(hr:D3 l name=o):Fn Tryz.prog 284 [.d (.row 2 xl),.clo 285 [.ptr 0 0 0]] [.box 9 [S name]] ⟨I o,[],[]⟩:=by
 refine Fn.goR Fc Tryz.func284 fun P hP Q hQ=>?_
 conv=>cbv
 refine .go hl fun v1 af=>?_
 conv=>cbv
 refine LoopW.lp (κ:=Int) Fc hP [] [0,1,7] (fun i8=>[(8,I i8)]) (fun i8=>[])
  (fun i8=>0≤i8∧i8≤l.length∧∀(j:Nat) (hj:j<l.length),j<i8.toNat→Bv l[j] name=false)
  (fun i8=>(l.length - i8).toNat) (0) ⟨by omega,by omega,fun j _ h=>by simp at h⟩ ⟨rfl,trivial⟩ rfl ?_
 rintro i8 J ⟨h0,h1,hb⟩ hJ
 conv=>cbv
 refine .lss (fun h2=>?_) fun h2=>?_
 conv=>cbv
 refine .go i8.toNat hl fun ae ⟨aa,ac⟩ ad=>?_
 conv=>cbv
 generalize ab:Bv (⟨aa,ac⟩:Ag) name=r4
 refine .bx [0] [] hP (Xa0 ab) rfl rfl rfl rfl ?_
 cases r4
 conv=>cbv
 refine .add fun v5 ag=>?_
 conv=>cbv
 exact .go [] (v5) (hJ _ ⟨by omega,by omega,fun j hj h=>if e:j=i8.toNat then by subst e;rw[←ad];exact ab else hb j hj (by omega)⟩ mlt)
 conv=>cbv
 have e:i8=D3 l name:=(by exact Sr (p:=fun x=>Bv x name) h0 (by omega) (ad▸ab) hb)
 rw[hr]at e
 subst e
 exact hQ _ _ (.of [] (.inl rfl) rfl rfl rfl rfl)
 conv=>cbv
 have e:(-1)=D3 l name:=(by exact L3 (p:=fun x=>Bv x name) fun j hj=>hb j hj (by omega))
 rw[hr]at e
 subst e
 exact hQ _ _ (.of [] (.inl rfl) rfl rfl rfl rfl)
theorem Mu{l:List B5}(hl:l.map A5=xl)(hn:l.length<2^40)(hr:El l id=o):Fn Tryz.prog 286 [.d (.row 3 xl),.clo 287 [.ptr 0 0 0]] [.box 3 [I id]] ⟨I o,[],[]⟩:=by
 refine Fn.goR Fc Tryz.func286 fun P hP Q hQ=>?_
 conv=>cbv
 refine .go hl fun v1 ag=>?_
 conv=>cbv
 refine LoopW.lp (κ:=Int) Fc hP [] [0,1,7] (fun i8=>[(8,I i8)]) (fun i8=>[])
  (fun i8=>0≤i8∧i8≤l.length∧∀(j:Nat) (hj:j<l.length),j<i8.toNat→Ej l[j] id=false)
  (fun i8=>(l.length - i8).toNat) (0) ⟨by omega,by omega,fun j _ h=>by simp at h⟩ ⟨rfl,trivial⟩ rfl ?_
 rintro i8 J ⟨h0,h1,hb⟩ hJ
 conv=>cbv
 refine .lss (fun h2=>?_) fun h2=>?_
 conv=>cbv
 refine .go i8.toNat hl fun af ⟨ad,aa,ab⟩ ae=>?_
 conv=>cbv
 generalize ac:Ej (⟨ad,aa,ab⟩:B5) id=r4
 refine .bx [0] [] hP (Rp ac) rfl rfl rfl rfl ?_
 cases r4
 conv=>cbv
 refine .add fun v5 ah=>?_
 conv=>cbv
 exact .go [] (v5) (hJ _ ⟨by omega,by omega,fun j hj h=>if e:j=i8.toNat then by subst e;rw[←ae];exact ac else hb j hj (by omega)⟩ mlt)
 conv=>cbv
 have e:i8=El l id:=(by exact Sr (p:=fun x=>Ej x id) h0 (by omega) (ae▸ac) hb)
 rw[hr]at e
 subst e
 exact hQ _ _ (.of [] (.inl rfl) rfl rfl rfl rfl)
 conv=>cbv
 have e:(-1)=El l id:=(by exact L3 (p:=fun x=>Ej x id) fun j hj=>hb j hj (by omega))
 rw[hr]at e
 subst e
 exact hQ _ _ (.of [] (.inl rfl) rfl rfl rfl rfl)
theorem Xfo(hl:l.map Ad=xl)(hn:l.length<2^40)(hr:A1 l name=o):Fn Tryz.prog 240 [.d (.row 2 xl),S name] [] ⟨I o,[],[]⟩:=by
 refine Fn.go Fc Tryz.func240 fun P hP Q hQ=>?_
 conv=>cbv
 generalize aa:D3 l name=r1
 refine .bx [0] [] hP (Ly hl (by omega) aa) rfl rfl rfl rfl ?_
 conv=>cbv
 have e:r1=A1 l name:=(by unfold A1;exact aa.symm)
 rw[hr]at e
 subst e
 exact hQ _ _ (.i rfl rfl)
theorem Wk(Av:Aj.map A5=Bk)(At:An.map Ad=Bh)(Ax:Ao.map Ad=Bg)(Ay:Al.map cS=Bi)(hn:Aj.length<2^40)(hr:Iw (⟨Aj,An,Ao,Al,As,Aq⟩:Aa) id=o):Fn Tryz.prog 241 [.agg [.d (.row 3 Bk),.d (.row 2 Bh),.d (.row 2 Bg),.d (.row 1 Bi),I As,I Aq],I id] [] ⟨I o,[],[]⟩:=by
 refine Fn.go Fc Tryz.func241 fun P hP Q hQ=>?_
 conv=>cbv
 generalize aa:El Aj id=r1
 refine .bx [1] [] hP (Mu Av (by omega) aa) rfl rfl rfl rfl ?_
 conv=>cbv
 have e:r1=Iw (⟨Aj,An,Ao,Al,As,Aq⟩:Aa) id:=(by unfold Iw;exact aa.symm)
 rw[hr]at e
 subst e
 exact hQ _ _ (.i rfl rfl)
theorem W8(Av:Aj.map A5=Bk)(At:An.map Ad=Bh)(Ax:Ao.map Ad=Bg)(Ay:Al.map cS=Bi)(hd:okD ⟨Aj,An,Ao,Al,As,Aq⟩)(hr:Cj (⟨Aj,An,Ao,Al,As,Aq⟩:Aa) name=o):Fn Tryz.prog 177 [.agg [.d (.row 3 Bk),.d (.row 2 Bh),.d (.row 2 Bg),.d (.row 1 Bi),I As,I Aq],S name] [] ⟨I o,[],[]⟩:=by
 refine Fn.go Fc Tryz.func177 fun P hP Q hQ=>?_
 conv=>cbv
 obtain⟨d1,d2,d3,d4,d5,d6⟩:=hd
 simp only[]at d1 d2 d3 d4 d5 d6
 generalize aa:A1 An name=r1
 refine .dd hP (Xfo At (by omega) aa) ?_
 conv=>cbv
 have hb:=M7 aa
 refine .lss (fun h2=>?_) fun h2=>?_
 conv=>cbv
 have e:(-1)=Cj (⟨Aj,An,Ao,Al,As,Aq⟩:Aa) name:=(by unfold Cj;rw[if_pos (by simp only[];omega)])
 rw[hr]at e
 subst e
 exact hQ _ _ (.i rfl rfl)
 conv=>cbv
 refine .go r1.toNat At fun ab ⟨ae,ac⟩ af=>?_
 conv=>cbv
 generalize ad:Iw (⟨Aj,An,Ao,Al,As,Aq⟩:Aa) ac=r4
 refine .dd hP (Wk Av At Ax Ay (by omega) ad) ?_
 conv=>cbv
 have e:r4=Cj (⟨Aj,An,Ao,Al,As,Aq⟩:Aa) name:=(by unfold Cj B6;simp only[];rw[aa,if_neg (by omega),if_neg (by omega),←gD ab,←af];exact ad.symm)
 rw[hr]at e
 subst e
 exact hQ _ _ (.i rfl rfl)
theorem XgE(Av:Aj.map A5=Bk)(At:An.map Ad=Bh)(Ax:Ao.map Ad=Bg)(Ay:Al.map cS=Bi)(hd:okD ⟨Aj,An,Ao,Al,As,Aq⟩)(hr:Fo (⟨Aj,An,Ao,Al,As,Aq⟩:Aa) name=(⟨oaid,oatex,oasur⟩,ob)):Fn Tryz.prog 93 [.agg [.d (.row 3 Bk),.d (.row 2 Bh),.d (.row 2 Bg),.d (.row 1 Bi),I As,I Aq],S name] [] ⟨.tup [.agg [I oaid,S oatex,I oasur],B ob],[],[]⟩:=by
 refine Fn.go Fc Tryz.func93 fun P hP Q hQ=>?_
 conv=>cbv
 generalize aa:Cj (⟨Aj,An,Ao,Al,As,Aq⟩:Aa) name=r1
 refine .dd hP (W8 Av At Ax Ay hd aa) ?_
 conv=>cbv
 have hb:=Gr aa
 simp only[]at hb
 refine .lss (fun h2=>?_) fun h2=>?_
 conv=>cbv
 have e:((⟨0,tx [],0⟩:B5),false)=Fo (⟨Aj,An,Ao,Al,As,Aq⟩:Aa) name:=(by unfold Fo;rw[if_pos (by rw[aa];omega)])
 rw[hr]at e
 simp only[Prod.mk.injEq,B5.mk.injEq]at e
 obtain⟨⟨rfl,rfl,rfl⟩,rfl⟩:=e
 refine hQ _ _ ?_
 exact .many (.inl rfl) rfl rfl (.agg (.d rfl rfl (.d rfl rfl (.d rfl rfl (.nil)))) (.d rfl rfl (.nil)))
 conv=>cbv
 refine .go r1.toNat Av fun af ⟨ad,ab,ac⟩ ae=>?_
 conv=>cbv
 have e:((⟨ad,ab,ac⟩:B5),true)=Fo (⟨Aj,An,Ao,Al,As,Aq⟩:Aa) name:=(by unfold Fo;rw[aa,if_neg (by omega)];simp only[];rw[←gD (show r1.toNat<Aj.length by omega)];rw[←ae])
 rw[hr]at e
 simp only[Prod.mk.injEq,B5.mk.injEq]at e
 obtain⟨⟨rfl,rfl,rfl⟩,rfl⟩:=e
 refine hQ _ _ ?_
 exact .many (.inl rfl) rfl rfl (.agg (.d rfl rfl (.d rfl rfl (.d rfl rfl (.nil)))) (.d rfl rfl (.nil)))
theorem XcU(Av:Aj.map A5=Bk)(At:An.map Ad=Bh)(Ax:Ao.map Ad=Bg)(Ay:Al.map cS=Bi)(hd:okD ⟨Aj,An,Ao,Al,As,Aq⟩)(hr:Fk (⟨Aj,An,Ao,Al,As,Aq⟩:Aa) name=(oa,ob)):Fn Tryz.prog 79 [.agg [.d (.row 3 Bk),.d (.row 2 Bh),.d (.row 2 Bg),.d (.row 1 Bi),I As,I Aq],S name] [] ⟨.tup [S oa,B ob],[],[]⟩:=by
 refine Fn.go Fc Tryz.func79 fun P hP Q hQ=>?_
 conv=>cbv
 rcases ab:Fo (⟨Aj,An,Ao,Al,As,Aq⟩:Aa) name with⟨⟨ad,aa,ac⟩,ae⟩
 refine .dd hP (XgE Av At Ax Ay hd ab) ?_
 conv=>cbv
 have e:(aa,ae)=Fk (⟨Aj,An,Ao,Al,As,Aq⟩:Aa) name:=(by unfold Fk;rw[ab])
 rw[hr]at e
 simp only[Prod.mk.injEq]at e
 obtain⟨rfl,rfl⟩:=e
 refine hQ _ _ ?_
 exact .many (.inl rfl) rfl rfl (.d rfl rfl (.d rfl rfl (.nil)))
theorem Ga(hl:l.map Ad=xl)(hn:l.length<2^40)(hr:B6 l name=o):Fn Tryz.prog 187 [.d (.row 2 xl),S name] [] ⟨I o,[],[]⟩:=by
 refine Fn.go Fc Tryz.func187 fun P hP Q hQ=>?_
 conv=>cbv
 refine LoopW.lp (κ:=Int) Fc hP [] [0,1] (fun i5=>[(5,I i5)]) (fun i5=>[])
  (fun i5=>0≤i5∧i5≤l.length∧∀(j:Nat) (hj:j<l.length),j<i5.toNat→Bv l[j] name=false)
  (fun i5=>(l.length - i5).toNat) (0) ⟨by omega,by omega,fun j _ h=>by simp at h⟩ ⟨rfl,trivial⟩ rfl ?_
 rintro i5 J ⟨h0,h1,hb⟩ hJ
 conv=>cbv
 refine .go hl fun v1 ai=>?_
 conv=>cbv
 refine .lss (fun h2=>?_) fun h2=>?_
 conv=>cbv
 refine .go i5.toNat hl fun ag ⟨ad,ah⟩ aa=>?_
 conv=>cbv
 refine .eql (fun h4=>?_) fun h4=>?_
 conv=>cbv
 refine .go i5.toNat hl fun ab ⟨ae,ac⟩ af=>?_
 conv=>cbv
 have e:ac=B6 l name:=(by have e2:A1 l name=i5:=(Sr (p:=fun x=>Bv x name) (l:=l) h0 (by omega) (by rw[←aa];unfold Bv;rw[decide_eq_true_eq];exact h4) hb).symm;unfold B6;rw[e2,if_neg (by omega),←gD ab,←af])
 rw[hr]at e
 subst e
 exact hQ _ _ (.i rfl rfl)
 conv=>cbv
 refine .add fun v5 aj=>?_
 conv=>cbv
 exact .go [] (v5) (hJ _ ⟨by omega,by omega,fun j hj h=>if e:j=i5.toNat then by subst e;rw[←aa];unfold Bv;rw[decide_eq_false_iff_not];exact h4 else hb j hj (by omega)⟩ mlt)
 conv=>cbv
 have e:0=B6 l name:=(by have e2:A1 l name= -1:=(L3 (p:=fun x=>Bv x name) fun j hj=>hb j hj (by omega)).symm;unfold B6;rw[e2,if_pos (by omega)])
 rw[hr]at e
 subst e
 exact hQ _ _ (.i rfl rfl)
theorem Kb(Av:Aj.map A5=Bk)(At:An.map Ad=Bh)(Ax:Ao.map Ad=Bg)(Ay:Al.map cS=Bi)(hn:Aj.length<2^40)(hr:Ez (⟨Aj,An,Ao,Al,As,Aq⟩:Aa) id=o):Fn Tryz.prog 186 [.agg [.d (.row 3 Bk),.d (.row 2 Bh),.d (.row 2 Bg),.d (.row 1 Bi),I As,I Aq],I id] [] ⟨I o,[],[]⟩:=by
 refine Fn.go Fc Tryz.func186 fun P hP Q hQ=>?_
 conv=>cbv
 refine LoopW.lp (κ:=Int) Fc hP [] [1,2] (fun i5=>[(5,I i5)]) (fun i5=>[])
  (fun i5=>0≤i5∧i5≤Aj.length∧∀(j:Nat) (hj:j<Aj.length),j<i5.toNat→Ej Aj[j] id=false)
  (fun i5=>(Aj.length - i5).toNat) (0) ⟨by omega,by omega,fun j _ h=>by simp at h⟩ ⟨rfl,trivial⟩ rfl ?_
 rintro i5 J ⟨h0,h1,hb⟩ hJ
 conv=>cbv
 refine .go Av fun v1 af=>?_
 conv=>cbv
 refine .lss (fun h2=>?_) fun h2=>?_
 conv=>cbv
 refine .go i5.toNat Av fun ad ⟨ae,ab,ac⟩ aa=>?_
 conv=>cbv
 refine .eql (fun h4=>?_) fun h4=>?_
 conv=>cbv
 have e:i5=Ez (⟨Aj,An,Ao,Al,As,Aq⟩:Aa) id:=(by exact Sr (p:=fun x=>Ej x id) (l:=Aj) h0 (by omega) (by rw[←aa];unfold Ej;rw[decide_eq_true_eq];exact h4) hb)
 rw[hr]at e
 subst e
 exact hQ _ _ (.i rfl rfl)
 conv=>cbv
 refine .add fun v5 ag=>?_
 conv=>cbv
 exact .go [] (v5) (hJ _ ⟨by omega,by omega,fun j hj h=>if e:j=i5.toNat then by subst e;rw[←aa];unfold Ej;rw[decide_eq_false_iff_not];exact h4 else hb j hj (by omega)⟩ mlt)
 conv=>cbv
 have e:(-1)=Ez (⟨Aj,An,Ao,Al,As,Aq⟩:Aa) id:=(by exact L3 (p:=fun x=>Ej x id) (l:=Aj) fun j hj=>hb j hj (by omega))
 rw[hr]at e
 subst e
 exact hQ _ _ (.i rfl rfl)
theorem Gy{o:Bool}(hl:l.map Ad=xl)(hn:l.length<2^40)(hr:Dg l name=o):Fn Tryz.prog 188 [.d (.row 2 xl),S name] [] ⟨B o,[],[]⟩:=by
 refine Fn.go Fc Tryz.func188 fun P hP Q hQ=>?_
 conv=>cbv
 refine LoopW.lp (κ:=Int) Fc hP [] [0,1] (fun i5=>[(5,I i5)]) (fun i5=>[])
  (fun i5=>0≤i5∧i5≤l.length∧∀(j:Nat) (hj:j<l.length),j<i5.toNat→Bv l[j] name=false)
  (fun i5=>(l.length - i5).toNat) (0) ⟨by omega,by omega,fun j _ h=>by simp at h⟩ ⟨rfl,trivial⟩ rfl ?_
 rintro i5 J ⟨h0,h1,hb⟩ hJ
 conv=>cbv
 refine .go hl fun v1 ae=>?_
 conv=>cbv
 refine .lss (fun h2=>?_) fun h2=>?_
 conv=>cbv
 refine .go i5.toNat hl fun ac ⟨ab,ad⟩ aa=>?_
 conv=>cbv
 refine .eql (fun h4=>?_) fun h4=>?_
 conv=>cbv
 have e:true=Dg l name:=(by have e2:A1 l name=i5:=(Sr (p:=fun x=>Bv x name) (l:=l) h0 (by omega) (by rw[←aa];unfold Bv;rw[decide_eq_true_eq];exact h4) hb).symm;unfold Dg;rw[e2];symm;rw[decide_eq_true_eq];omega)
 rw[hr]at e
 subst e
 exact hQ _ _ (.b rfl rfl)
 conv=>cbv
 refine .add fun v5 af=>?_
 conv=>cbv
 exact .go [] (v5) (hJ _ ⟨by omega,by omega,fun j hj h=>if e:j=i5.toNat then by subst e;rw[←aa];unfold Bv;rw[decide_eq_false_iff_not];exact h4 else hb j hj (by omega)⟩ mlt)
 conv=>cbv
 have e:false=Dg l name:=(by have e2:A1 l name= -1:=(L3 (p:=fun x=>Bv x name) fun j hj=>hb j hj (by omega)).symm;unfold Dg;rw[e2];rfl)
 rw[hr]at e
 subst e
 exact hQ _ _ (.b rfl rfl)
theorem Xgd(Av:Aj.map A5=Bk)(At:An.map Ad=Bh)(Ax:Ao.map Ad=Bg)(Ay:Al.map cS=Bi)(hd:okD ⟨Aj,An,Ao,Al,As,Aq⟩)(hr:Fo (⟨Aj,An,Ao,Al,As,Aq⟩:Aa) name=(⟨oaid,oatex,oasur⟩,ob)):Fn Tryz.prog 100 [.agg [.d (.row 3 Bk),.d (.row 2 Bh),.d (.row 2 Bg),.d (.row 1 Bi),I As,I Aq],S name] [] ⟨.tup [.agg [I oaid,S oatex,I oasur],B ob],[],[]⟩:=by
 refine Fn.go Fc Tryz.func100 fun P hP Q hQ=>?_
 conv=>cbv
 obtain⟨d1,d2,d3,d4,d5,d6⟩:=hd
 simp only[]at d1 d2 d3 d4 d5 d6
 generalize ab:B6 An name=r1
 refine .dd hP (Ga At (by omega) ab) ?_
 conv=>cbv
 generalize aa:Ez (⟨Aj,An,Ao,Al,As,Aq⟩:Aa) r1=r2
 refine .dd hP (Kb Av At Ax Ay (by omega) aa) ?_
 conv=>cbv
 have hb:=Uy (d:=⟨Aj,An,Ao,Al,As,Aq⟩) (id:=r1) aa
 simp only[]at hb
 refine .lss (fun h3=>?_) fun h3=>?_
 conv=>cbv
 have e:((⟨0,tx [],0⟩:B5),false)=Fo (⟨Aj,An,Ao,Al,As,Aq⟩:Aa) name:=(by rw[Np,if_pos (.inl (by simp only[];rw[ab,aa];omega))])
 rw[hr]at e
 simp only[Prod.mk.injEq,B5.mk.injEq]at e
 obtain⟨⟨rfl,rfl,rfl⟩,rfl⟩:=e
 refine hQ _ _ ?_
 exact .many (.inl rfl) rfl rfl (.agg (.d rfl rfl (.d rfl rfl (.d rfl rfl (.nil)))) (.d rfl rfl (.nil)))
 conv=>cbv
 generalize ac:Dg An name=r4
 refine .dd hP (Gy At (by omega) ac) ?_
 cases r4
 conv=>cbv
 have e:((⟨0,tx [],0⟩:B5),false)=Fo (⟨Aj,An,Ao,Al,As,Aq⟩:Aa) name:=(by rw[Np,if_pos (.inr ac)])
 rw[hr]at e
 simp only[Prod.mk.injEq,B5.mk.injEq]at e
 obtain⟨⟨rfl,rfl,rfl⟩,rfl⟩:=e
 refine hQ _ _ ?_
 exact .many (.inl rfl) rfl rfl (.agg (.d rfl rfl (.d rfl rfl (.d rfl rfl (.nil)))) (.d rfl rfl (.nil)))
 conv=>cbv
 refine .go r2.toNat Av fun ah ⟨af,ad,ae⟩ ag=>?_
 conv=>cbv
 have e:((⟨af,ad,ae⟩:B5),true)=Fo (⟨Aj,An,Ao,Al,As,Aq⟩:Aa) name:=(by rw[Np,if_neg (by simp only[];rw[ab,aa,ac];rintro(h|h);omega;cases h)];simp only[];rw[ab,aa,←gD (show r2.toNat<Aj.length by omega),←ag])
 rw[hr]at e
 simp only[Prod.mk.injEq,B5.mk.injEq]at e
 obtain⟨⟨rfl,rfl,rfl⟩,rfl⟩:=e
 refine hQ _ _ ?_
 exact .many (.inl rfl) rfl rfl (.agg (.d rfl rfl (.d rfl rfl (.d rfl rfl (.nil)))) (.d rfl rfl (.nil)))
theorem XcA(Av:Aj.map A5=Bk)(At:An.map Ad=Bh)(Ax:Ao.map Ad=Bg)(Ay:Al.map cS=Bi)(hd:okD ⟨Aj,An,Ao,Al,As,Aq⟩)(hr:Fk (⟨Aj,An,Ao,Al,As,Aq⟩:Aa) name=(oa,ob)):Fn Tryz.prog 68 [.agg [.d (.row 3 Bk),.d (.row 2 Bh),.d (.row 2 Bg),.d (.row 1 Bi),I As,I Aq],S name] [] ⟨.tup [S oa,B ob],[],[]⟩:=by
 refine Fn.go Fc Tryz.func68 fun P hP Q hQ=>?_
 conv=>cbv
 rcases ab:Fo (⟨Aj,An,Ao,Al,As,Aq⟩:Aa) name with⟨⟨ad,aa,ac⟩,ae⟩
 refine .dd hP (Xgd Av At Ax Ay hd ab) ?_
 conv=>cbv
 have e:(aa,ae)=Fk (⟨Aj,An,Ao,Al,As,Aq⟩:Aa) name:=(by unfold Fk;rw[ab])
 rw[hr]at e
 simp only[Prod.mk.injEq]at e
 obtain⟨rfl,rfl⟩:=e
 refine hQ _ _ ?_
 exact .many (.inl rfl) rfl rfl (.d rfl rfl (.d rfl rfl (.nil)))
end
section
open Go.Proofs
open Go.Shelf
def Tryz.lays105_ren:Go.Shelf.Ren:=⟨fun|105=>244|212=>290|99=>291|165=>292|166=>250|170=>252|169=>254|263=>320|264=>321|206=>322|240=>295|241=>323|276=>325|277=>341|n=>n,fun|9=>9|3=>3|4=>4|20=>20|0=>0|46=>146|109=>237|5=>5|72=>216|76=>217|51=>257|146=>258|53=>205|148=>260|70=>214|37=>22|75=>207|127=>241|164=>263|80=>220|n=>n,fun|n=>n⟩
theorem Tryz.lays105:Go.Proofs.Lays.n105 Tryz.prog Tryz.lays105_ren:={
 mixed:=by kernel_rfl
 f99:=Tryz.func291.trans (congrArg some (by kernel_rfl))
 f105:=Tryz.func244.trans (congrArg some (by kernel_rfl))
 f165:=Tryz.func292.trans (congrArg some (by kernel_rfl))
 f166:=Tryz.func250.trans (congrArg some (by kernel_rfl))
 f169:=Tryz.func254.trans (congrArg some (by kernel_rfl))
 f170:=Tryz.func252.trans (congrArg some (by kernel_rfl))
 f206:=Tryz.func322.trans (congrArg some (by kernel_rfl))
 f212:=Tryz.func290.trans (congrArg some (by kernel_rfl))
 f240:=Tryz.func295.trans (congrArg some (by kernel_rfl))
 f241:=Tryz.func323.trans (congrArg some (by kernel_rfl))
 f263:=Tryz.func320.trans (congrArg some (by kernel_rfl))
 f264:=Tryz.func321.trans (congrArg some (by kernel_rfl))
 f276:=Tryz.func325.trans (congrArg some (by kernel_rfl))
 f277:=Tryz.func341.trans (congrArg some (by kernel_rfl))
 t0:=Tryz.underlying0
 a0:=Tryz.isAgg0
 z0:=Tryz.sizeOf0
 v0:=Tryz.zeroValue0
 t3:=Tryz.underlying3
 a3:=Tryz.isAgg3
 z3:=Tryz.sizeOf3
 v3:=Tryz.zeroValue3
 t4:=Tryz.underlying4
 a4:=Tryz.isAgg4
 z4:=Tryz.sizeOf4
 v4:=Tryz.zeroValue4
 t5:=Tryz.underlying5
 a5:=Tryz.isAgg5
 z5:=Tryz.sizeOf5
 v5:=Tryz.zeroValue5
 t9:=Tryz.underlying9
 a9:=Tryz.isAgg9
 z9:=Tryz.sizeOf9
 v9:=Tryz.zeroValue9
 t20:=Tryz.underlying20
 a20:=Tryz.isAgg20
 z20:=Tryz.sizeOf20
 v20:=Tryz.zeroValue20
 t37:=Tryz.underlying22
 a37:=Tryz.isAgg22
 z37:=Tryz.sizeOf22
 v37:=Tryz.zeroValue22
 t46:=Tryz.underlying146
 a46:=Tryz.isAgg146
 z46:=Tryz.sizeOf146
 v46:=Tryz.zeroValue146
 t51:=Tryz.underlying257
 a51:=Tryz.isAgg257
 z51:=Tryz.sizeOf257
 v51:=Tryz.zeroValue257
 t53:=Tryz.underlying205
 a53:=Tryz.isAgg205
 z53:=Tryz.sizeOf205
 v53:=Tryz.zeroValue205
 t70:=Tryz.underlying214
 a70:=Tryz.isAgg214
 z70:=Tryz.sizeOf214
 v70:=Tryz.zeroValue214
 t72:=Tryz.underlying216
 a72:=Tryz.isAgg216
 z72:=Tryz.sizeOf216
 v72:=Tryz.zeroValue216
 t75:=Tryz.underlying207
 a75:=Tryz.isAgg207
 z75:=Tryz.sizeOf207
 v75:=Tryz.zeroValue207
 t76:=Tryz.underlying217
 a76:=Tryz.isAgg217
 z76:=Tryz.sizeOf217
 v76:=Tryz.zeroValue217
 t109:=Tryz.underlying237
 a109:=Tryz.isAgg237
 z109:=Tryz.sizeOf237
 v109:=Tryz.zeroValue237
 t127:=Tryz.underlying241
 a127:=Tryz.isAgg241
 z127:=Tryz.sizeOf241
 v127:=Tryz.zeroValue241
 t146:=Tryz.underlying258
 a146:=Tryz.isAgg258
 z146:=Tryz.sizeOf258
 v146:=Tryz.zeroValue258
 t148:=Tryz.underlying260
 a148:=Tryz.isAgg260
 z148:=Tryz.sizeOf260
 v148:=Tryz.zeroValue260
 t164:=Tryz.underlying263
 a164:=Tryz.isAgg263
 z164:=Tryz.sizeOf263
 v164:=Tryz.zeroValue263}
theorem Tryz.Builder_Extra_105:Builder.Extra Tryz.prog Tryz.lays105_ren:={
 sizeBuilder:=by kernel_rfl
 liesBuilder:=by kernel_rfl
 t5:=Tryz.underlying5
 a5:=Tryz.isAgg5
 z5:=Tryz.sizeOf5
 v5:=Tryz.zeroValue5
 infoByte:=by kernel_rfl
 cellsByte:=by kernel_rfl
 sizeByte:=by kernel_rfl
 neB5:=by decide}
open Go.RowKit Go.Lib in
theorem Tryz.strings_Repeat(s:ByteArray)(c:Nat)(w:World)(hc:c≤9223372036854775807)(hlen:s.size*c≤140737488355328):
  Calls Tryz.prog 244 #[.string s,.int .i64 c] w fun e w'=>e= .returned (.string ⟨(Lib.repeatL s.data.toList c).toArray⟩)∧Below w.heap.size w w':=Any.strings_Repeat Tryz.lays105 Tryz.Builder_Extra_105 s c w hc hlen
end
section
open Go Go.Proofs
set_option maxRecDepth 20000
set_option maxHeartbeats 4000000
def XbX:List (Nat×TyRow):=[ty2,ty3,ty4,ty5,ty9,XfZ,Xht,Xim]
theorem Xbc:B3 Tryz.prog XbX:=B3.of (by kernel_rfl)
theorem Ll:Setup Tryz.prog XbX:=⟨Xbc,mixed⟩
def dig(n:Nat):UInt8:=if n% 16<10 then UInt8.ofNat (48+n% 16)else UInt8.ofNat (87+n% 16)
def Xc8:Nat→Nat→List UInt8
 |0,_=>[]
 |k+1,n=>Xc8 k (n/16)++[dig n]
def Z7(n:Nat):List UInt8:=if h:n<16 then[dig n]else Z7 (n/16)++[dig n]
termination_by n
decreasing_by omega
theorem Pj{n:Nat}(h:n<16):Z7 n=[dig n]:=by rw[Z7,dif_pos h]
theorem X5{n:Nat}(h:¬n<16):Z7 n=Z7 (n/16)++[dig n]:=by rw[Z7,dif_neg h]
theorem Xgu:dig 0=48:=rfl
theorem Yt:∀(k:Nat),Xc8 k 0=List.replicate k 48
 |0=>rfl
 |k+1=>by rw[Xc8,Nat.zero_div,Yt k,Xgu,List.replicate_succ']
theorem Qx:∀(k n:Nat),(Xc8 k n).length=k
 |0,_=>rfl
 |k+1,n=>by rw[Xc8,List.length_append,Qx];rfl
theorem XgX:∀(k n:Nat),n<16^ (k+1)→Xc8 (k+1) n=List.replicate (k+1 - (Z7 n).length) 48++Z7 n∧1≤(Z7 n).length∧(Z7 n).length≤k+1
 |0,n,h=>by
  have h:n<16:=by simpa using h
  rw[Pj h]
  simp[Xc8]
 |k+1,n,h=>by
  by_cases hn:n<16
  ·rw[Pj hn,Xc8,Nat.div_eq_of_lt hn,Yt]
   simp
  ·have h2:n/16<16^ (k+1):=by rw[Nat.pow_succ]at h;omega
   obtain⟨i1,i2,i3⟩:=XgX k (n/16) h2
   rw[X5 hn,Xc8,i1,List.length_append,List.length_singleton,List.append_assoc]
   refine⟨?_,by omega,by omega⟩
   congr 2
   omega
def Af(n:Int):ByteArray:=if 0≤n∧n≤1000000000 then tx (115::(Xc8 8 n.toNat++[46,115,101,103]))else tx []
theorem Ea{n:Int}{o:ByteArray}(e:Af n=o):o.size≤13:=by
 rw[←e]
 unfold Af
 split
 ·rw[Bo,List.length_cons,List.length_append,Qx];simp
 ·simp[Bo]
theorem digL:∀(j:Nat) (h:j<(⟨⟨[48,49,50,51,52,53,54,55,56,57,97,98,99,100,101,102]⟩⟩:ByteArray).size),(⟨⟨[48,49,50,51,52,53,54,55,56,57,97,98,99,100,101,102]⟩⟩:ByteArray)[j]=dig j:=by
 have key:∀j:Fin 16,(⟨⟨[48,49,50,51,52,53,54,55,56,57,97,98,99,100,101,102]⟩⟩:ByteArray)[j.val]'j.isLt=dig j.val:=by decide
 intro j h
 exact key ⟨j,h⟩
theorem Xfr(n:Nat):dig (n% 16)=dig n:=by unfold dig;rw[Nat.mod_mod]
theorem and15(a:Int):Jz .and .i64 a 15=a% 16:=Hy (k:=4) (by omega)
theorem Xif{x:Nat}(h:x<18446744073709551616):Jz .and .u64 (x:Int) 15=((x% 16:Nat):Int):=by
 show IntKind.u64.wrap ((BitVec.ofInt 64 (x:Int)&&&BitVec.ofInt 64 ((15:Nat):Int)).toNat:Int)=_
 rw[BitVec.toNat_and,Ji (by omega),Ji (by omega),Gz,show(15:Nat)=2^4 - 1 from rfl,Nat.and_two_pow_sub_one_eq_mod]
 omega
theorem digF:∀(j:Nat) (hj:j<16) (h:j<(⟨⟨[48,49,50,51,52,53,54,55,56,57,97,98,99,100,101,102,103,104,105,106,107,108,109,110,111,112,113,114,115,116,117,118,119,120,121,122]⟩⟩:ByteArray).size),(⟨⟨[48,49,50,51,52,53,54,55,56,57,97,98,99,100,101,102,103,104,105,106,107,108,109,110,111,112,113,114,115,116,117,118,119,120,121,122]⟩⟩:ByteArray)[j]=dig j:=by
 have key:∀j:Fin 16,(⟨⟨[48,49,50,51,52,53,54,55,56,57,97,98,99,100,101,102,103,104,105,106,107,108,109,110,111,112,113,114,115,116,117,118,119,120,121,122]⟩⟩:ByteArray)[j.val]'(Nat.lt_of_lt_of_le j.isLt (by decide))=dig j.val:=by decide
 intro j hj h
 exact key ⟨j,hj⟩
theorem Xfi{v:Int}{n:Nat}(h:v=((dig n).toNat:Int)):[D.sc (.int .u8 v)]=cB (dig n):=by rw[h];rfl
theorem XbK{α:Type}{l:List α}{p:Nat}{x:α}(h:p<l.length):(l.set p x).drop p=x::l.drop (p+1):=by
 rw[List.drop_eq_getElem_cons (by rw[List.length_set];exact h),List.getElem_set_self]
 congr 1
 rw[List.drop_set_of_lt (by omega)]
def If:Bool:=true
def M2(_:Int):Int:=4
def Kk(u:Int):List UInt8×ByteArray:=([],tx (Z7 u.toNat))
def Gn(n:Int):ByteArray:=tx (Z7 n.toNat)
def Ti(n:Int):ByteArray:=tx (List.replicate n.toNat 48)
theorem tz64{w:World}(h:Lib.TabIs Tryz.prog w "math/bits.deBruijn64tab" .u8 Ql):Calls Tryz.prog 347 #[.int .u64 16] w fun e w'=>e= .returned (.int .i64 4)∧w'=w:=by
 have hq:IntKind.u64.wrap (bits BinOp.and IntKind.u64 16 (IntKind.u64.wrap (-16))*285870213051353865)/288230376151711744=15:=by decide+kernel
 have hc:w.cell? ⟨5,15,none⟩=some (.int .u8 4):=h.cell gn5 15 (by decide)
 go_enter Tryz.func347,Tryz.ntmps347
 go_wp2
 go_ret
 exact⟨rfl,rfl⟩
theorem tz{w:World}(h:Lib.TabIs Tryz.prog w "math/bits.deBruijn64tab" .u8 Ql):Calls Tryz.prog 340 #[.int .u64 16] w fun e w'=>e= .returned (.int .i64 4)∧w'=w:=by
 go_enter Tryz.func340,Tryz.ntmps340
 go_wp2_with (first
  |(go_at_call 347;refine(tz64 h).mono ?_;rintro e w' ⟨rfl,rfl⟩)
  |go_in)
 go_ret
 exact⟨rfl,rfl⟩
variable {o:ByteArray} {n:Int}
theorem Jq{x o:Int}(hx:x=16)(hr:M2 x=o):Fn Tryz.prog 340 [.d (.sc (.int .u64 x))] [] ⟨I o,[],[]⟩:=by
 refine⟨Mo Tryz.func340 rfl rfl,CallOk.ofCallsG fun E vs hS hG hA=>?_⟩
 obtain⟨u,rfl,h1⟩:=args1 hA
 rw[W3 h1,hx]
 refine(tz (Xhs hG)).mono ?_
 rintro e w' ⟨rfl,rfl⟩
 exact⟨_,rfl,⟨rfl,rfl,rfl,Nat.le_refl _,fun _ _=>rfl⟩,by rw[←hr];exact .sc _ rfl⟩
theorem B1(hr:Af n=o):Fn Tryz.prog 69 [I n] [] ⟨S o,[],[]⟩:=by
 refine Fn.go Ll Tryz.func69 fun P hP Q hQ=>?_
 conv=>cbv
 generalize ac:A4 n 0 1000000000=r1
 refine .dd hP (Dj ac) ?_
 cases r1
 simp only[A4,decide_eq_true_eq,decide_eq_false_iff_not]at ac
 conv=>cbv
 have e:(tx [])=Af n:=(by unfold Af;rw[if_neg (by omega)])
 rw[hr]at e
 subst e
 exact hQ _ _ (.s rfl rfl)
 simp only[A4,decide_eq_true_eq,decide_eq_false_iff_not]at ac
 conv=>cbv
 refine LoopW.lp (κ:=Int×(List (List D))×Nat) Ll hP [0] [0] (fun(i4,aa,ab)=>[(3,.ref 1 0 ab),(4,I i4)]) (fun(i4,aa,ab)=>[(1,.row 1 false aa)])
  (fun(i4,aa,ab)=>∃(w1:List UInt8),w1.map cB=aa∧ab=w1.length∧-1≤i4∧i4≤7∧w1=Xc8 (7 - i4).toNat (n.toNat/16^ (i4+1).toNat))
  (fun(i4,aa,ab)=>(i4+1).toNat) (7,[],0) ⟨[],rfl,rfl,by omega,by omega,rfl⟩ ⟨rfl,rfl,trivial⟩ rfl ?_
 rintro⟨i4,aa,ab⟩ J ⟨w1,ad,an,h0,h1,hw⟩ hJ
 have hwl:w1.length=(7 - i4).toNat:=by rw[hw,Qx]
 have hsz:(⟨⟨[48,49,50,51,52,53,54,55,56,57,97,98,99,100,101,102]⟩⟩:ByteArray).size=16:=rfl
 conv=>cbv
 refine .geq (fun h2=>?_) fun h2=>?_
 conv=>cbv
 refine .mul fun v3 ap=>?_
 conv=>cbv
 refine .go fun v4 af=>?_
 conv=>cbv
 have e4:v4=v3:=by rw[af,Gz];omega
 refine .shr fun v5 ag=>?_
 conv=>cbv
 refine .and fun v6 ah=>?_
 conv=>cbv
 have e5:v5=((n.toNat/16^i4.toNat:Nat):Int):=by
  have e2:(2:Int)^v4.toNat=((16^i4.toNat:Nat):Int):=by
   rw[show v4.toNat=4*i4.toNat by omega,Int.pow_mul,Int.natCast_pow]
   rfl
  rw[ag,e2,Int.natCast_ediv,Int.toNat_of_nonneg (by omega)]
 have e6:v6=((n.toNat/16^i4.toNat% 16:Nat):Int):=by rw[ah,and15,e5];omega
 have aq:n.toNat/16^i4.toNat% 16<16:=Nat.mod_lt _ (by omega)
 refine .go v6.toNat fun hjv7 v7 ai bv7=>?_
 conv=>cbv
 have e7:[D.sc (.int .u8 v7)]=cB (dig (n.toNat/16^i4.toNat)):=Xfi (by rw[ai,digL,e6,Int.toNat_natCast,Xfr])
 refine .one (dig (n.toNat/16^i4.toNat)) ad e7 fun aj z8 ao ak=>?_
 conv=>cbv
 refine .sub fun v9 ar=>?_
 conv=>cbv
 exact .go [3] (v9,z8,aj) (hJ _ ⟨_,ak,Em,by omega,by omega,by rw[hw,show(7 - v9).toNat=(7 - i4).toNat+1 by omega,Xc8,show(v9+1).toNat=i4.toNat by omega,Nat.div_div_eq_div_mul,←Nat.pow_succ,show(i4+1).toNat=i4.toNat+1 by omega]⟩ mlt)
 conv=>cbv
 refine .go ad fun s3 ae=>?_
 conv=>cbv
 have au:s3.size=w1.length:=by rw[ae,Bo]
 refine .litL 1 fun s4 al aw=>?_
 conv=>cbv
 refine .litR 4 fun s5 am ax=>?_
 conv=>cbv
 have e:s5=Af n:=(by unfold Af;rw[if_pos (by omega),am,al,ae,hw,show i4= -1 by omega];show tx [115]++tx _++tx [46,115,101,103]=_;rw[D0,D0];simp)
 rw[hr]at e
 subst e
 exact hQ _ _ (.s rfl rfl)
theorem Hf{o:Bool}(hr:If=o):Fn Tryz.prog 339 [I 16] [] ⟨B o,[],[]⟩:=by
 refine Fn.go Ll Tryz.func339 fun P hP Q hQ=>?_
 conv=>cbv
 refine .sub fun v1 aa=>?_
 conv=>cbv
 refine .and fun v2 ab=>?_
 conv=>cbv
 refine .eql (fun h3=>?_) fun h3=>?_
 conv=>cbv
 have e:true=If:=(by rfl)
 rw[hr]at e
 subst e
 exact hQ _ _ (.b rfl rfl)
 conv=>cbv
 have e:false=If:=(by exfalso;apply h3;rw[ab,aa];rfl)
 rw[hr]at e
 subst e
 exact hQ _ _ (.b rfl rfl)
theorem H2{u:Int}{oa:List UInt8}{xoa:List (List D)}{ob:ByteArray}(hu:0≤u∧u<4294967296)(hr:Kk u=(oa,ob))(hoa:oa.map cB=xoa):Fn Tryz.prog 319 [.d (.row 1 []),.d (.sc (.int .u64 u)),I 16,B false,B false] [] ⟨.tup [.d (.row 1 xoa),S ob],[],[]⟩:=by
 refine Fn.go Ll Tryz.func319 fun P hP Q hQ=>?_
 conv=>cbv
 refine .lss (fun h1=>?_) fun h1=>?_
 omega
 conv=>cbv
 refine .eql (fun h2=>?_) fun h2=>?_
 omega
 conv=>cbv
 refine .gtr (fun h3=>?_) fun h3=>?_
 omega
 conv=>cbv
 refine .go 65 hP (by kernel_rfl) fun z4 ay=>?_
 conv=>cbv
 generalize ai:If=r5
 refine .dd hP (Hf ai) ?_
 cases r5
 cases ai
 conv=>cbv
 refine .go fun v6 az=>?_
 conv=>cbv
 generalize aj:M2 v6=r7
 refine .dd hP (Jq (by rw[az,Gz];rfl) aj) ?_
 conv=>cbv
 refine .go fun v8 a0=>?_
 conv=>cbv
 refine .go fun v9 a1=>?_
 conv=>cbv
 refine .go fun be ak=>?_
 conv=>cbv
 refine .subW fun a2 al=>?_
 conv=>cbv
 refine LoopW.lp (κ:=Int×Int×(List (List D))) Ll hP [] [0,3,4,10,11,12,14,15,16] (fun(i1,aa,ab)=>[(1,.d (.sc (.int .u64 i1))),(13,I aa)]) (fun(i1,aa,ab)=>[(1,.row 1 false ab)])
  (fun(i1,aa,ab)=>∃(w1:List UInt8),w1.map cB=ab∧∃k:Nat,i1=((u.toNat/16^k:Nat):Int)∧aa=65 - (k:Int)∧k≤7∧w1.length=65∧Z7 u.toNat=Z7 (u.toNat/16^k)++w1.drop (65 - k))
  (fun(i1,aa,ab)=>(aa).toNat) (u,65,z4) ⟨(List.replicate 65 (0:UInt8)),ay,0,by simp;omega,rfl,by omega,by simp,by simp⟩ ⟨rfl,rfl,trivial⟩ rfl ?_
 rintro⟨i1,aa,ab⟩ J ⟨w1,am,k,af,ba,hk,hwl,hx⟩ hJ
 have e7:r7=4:=aj.symm
 have e8:v8=4:=by rw[a0,Gz,e7];rfl
 have e9:v9=16:=by rw[a1,Gz];rfl
 have a3:a2=15:=by rw[al,ak,Gz,Gz];rfl
 have hlt:u.toNat/16^k≤u.toNat:=Nat.div_le_self _ _
 have a4:16≤u.toNat/16^k→k<7:=by
  intro h
  rcases Nat.lt_or_ge k 7 with h7|h7
  ·exact h7
  ·obtain rfl:k=7:=by omega
   omega
 have hnx:u.toNat/16^ (k+1)=u.toNat/16^k/16:=by rw[Nat.pow_succ,←Nat.div_div_eq_div_mul]
 generalize hq:u.toNat/16^k=q at*
 conv=>cbv
 refine .geq (fun h12=>?_) fun h12=>?_
 conv=>cbv
 refine .sub fun ag an=>?_
 conv=>cbv
 refine .and fun ac ad=>?_
 conv=>cbv
 have h7:=a4 (by omega)
 have ah:ac=((q% 16:Nat):Int):=by rw[ad,a3,af,Xif (by omega)]
 have bb:q% 16<16:=Nat.mod_lt _ (by omega)
 refine .go ac.toNat (hj:=by show ac.toNat<36;omega) fun hjv15 a5 ao bv15=>?_
 conv=>cbv
 refine .go hP Tryz.underlying275 (by kernel_rfl) fun ap bc=>?_
 conv=>cbv
 have a6:[D.sc (.int .u8 a5)]=cB (dig q):=Xfi (by rw[ao,digF _ (by omega),ah,Int.toNat_natCast,Xfr])
 refine .all (dig q) am a6 fun a7 aq=>?_
 conv=>cbv
 refine .shrW fun a8 ar=>?_
 conv=>cbv
 exact .go [] (a8,ag,a7) (hJ _ ⟨_,aq,k+1,by rw[ar,e8,af,Int.fdiv_eq_ediv_of_nonneg _ (by decide),hnx];show(q:Int)/16=_;omega,by omega,by omega,by rw[List.length_set];exact hwl,by rw[hx,X5 (show¬q<16 by omega),List.append_assoc,hnx,show 65 - (k+1)=ap by omega,XbK (by omega),show ap+1=65 - k by omega];rfl⟩ mlt)
 conv=>cbv
 refine .sub fun ag an=>?_
 conv=>cbv
 refine .go i1.toNat (hj:=by show i1.toNat<36;omega) fun hjv14 ac ad bv14=>?_
 conv=>cbv
 refine .go hP Tryz.underlying275 (by kernel_rfl) fun au bd=>?_
 conv=>cbv
 have ah:[D.sc (.int .u8 ac)]=cB (dig q):=Xfi (by rw[ad,digF _ (by omega),af,Int.toNat_natCast])
 refine .all (dig q) am ah fun bf ae=>?_
 conv=>cbv
 refine .lo hP ae Tryz.underlying275 (by kernel_rfl) fun on17 bg hon17 aw=>?_
 conv=>cbv
 refine .off ae fun a9 ax=>?_
 conv=>cbv
 have e:([],a9)=Kk u:=(by unfold Kk;rw[ax,hx,Pj (show q<16 by omega),hon17,aw,show ag.toNat=au by omega,XbK (by omega),show au+1=65 - k by omega,List.take_of_length_le (by simp;omega)];rfl)
 rw[hr]at e
 simp only[Prod.mk.injEq]at e
 obtain⟨rfl,rfl⟩:=e
 refine hQ _ _ ?_
 exact .many (.inl rfl) rfl rfl (.ref rfl rfl (by rw[←hoa];rfl) (.d rfl rfl (.nil)))
theorem Ik(hn:0≤n∧n≤1000000000)(hr:Gn n=o):Fn Tryz.prog 289 [I n,I 16] [] ⟨S o,[],[]⟩:=by
 refine Fn.go Ll Tryz.func289 fun P hP Q hQ=>?_
 conv=>cbv
 refine .eql (fun h1=>?_) fun h1=>?_
 omega
 conv=>cbv
 refine .go fun v2 aa=>?_
 conv=>cbv
 refine .lss (fun h3=>?_) fun h3=>?_
 omega
 conv=>cbv
 rcases ab:Kk v2 with⟨ad,ae⟩
 generalize ac:ad.map cB=af
 refine .dd hP (H2 (by rw[aa,Gz];omega) ab ac) ?_
 conv=>cbv
 have e:ae=Gn n:=(by have e2:v2=n:=(by rw[aa,Gz];omega);unfold Gn;rw[←e2];exact(congrArg Prod.snd ab).symm)
 rw[hr]at e
 subst e
 exact hQ _ _ (.s rfl rfl)
theorem Nq(hn:0≤n∧n≤1000000000)(hr:Gn n=o):Fn Tryz.prog 243 [I n,I 16] [] ⟨S o,[],[]⟩:=by
 refine Fn.go Ll Tryz.func243 fun P hP Q hQ=>?_
 conv=>cbv
 generalize aa:Gn n=r1
 refine .dd hP (Ik hn aa) ?_
 conv=>cbv
 have e:r1=Gn n:=(by exact aa.symm)
 rw[hr]at e
 subst e
 exact hQ _ _ (.s rfl rfl)
theorem Qr{c:Int}(hc:0≤c∧c≤8)(hr:Ti c=o):Fn Tryz.prog 244 [S (tx [48]),I c] [] ⟨S o,[],[]⟩:=by
 refine⟨Mo Tryz.func244 rfl rfl,CallOk.ofCalls fun E vs hS hA=>?_⟩
 obtain⟨u,v,rfl,h1,h2⟩:=args2 hA
 rw[W3 h1,W3 h2]
 obtain⟨k,rfl⟩:=Int.eq_ofNat_of_zero_le hc.1
 refine(Tryz.strings_Repeat (tx [48]) k E.w (by omega) (by rw[Bo];simp;omega)).mono ?_
 rintro e w' ⟨rfl,hb⟩
 refine⟨_,rfl,hb,?_⟩
 have:(⟨(Lib.repeatL (tx [48]).data.toList k).toArray⟩:ByteArray)=o:=by
  rw[←hr]
  unfold Ti tx
  congr 2
  rw[Int.toNat_natCast]
  have key:∀k,Lib.repeatL (tx [48]).data.toList k=List.replicate k 48:=by
   intro k
   induction k with
   |zero=>rfl
   |succ k ih=>show[48]++Lib.repeatL _ k=_;rw[ih];rfl
  exact key k
 rw[this]
 exact .sc _ rfl
theorem Xd(hr:Af n=o):Fn Tryz.prog 182 [I n] [] ⟨S o,[],[]⟩:=by
 refine Fn.go Ll Tryz.func182 fun P hP Q hQ=>?_
 conv=>cbv
 generalize aa:B4 n=r1
 refine .dd hP (Hm aa) ?_
 cases r1
 simp only[B4,decide_eq_true_eq,decide_eq_false_iff_not]at aa
 conv=>cbv
 have e:(tx [])=Af n:=(by unfold Af;rw[if_neg (by omega)])
 rw[hr]at e
 subst e
 exact hQ _ _ (.s rfl rfl)
 simp only[B4,decide_eq_true_eq,decide_eq_false_iff_not]at aa
 conv=>cbv
 generalize ab:Gn n=r2
 refine .dd hP (Nq aa ab) ?_
 conv=>cbv
 obtain⟨p1,p2,p3⟩:=XgX 7 n.toNat (by omega)
 have z2:r2.size=(Z7 n.toNat).length:=by rw[←ab];exact Bo
 refine .go fun v3 ag=>?_
 conv=>cbv
 refine .sub fun v4 ah=>?_
 conv=>cbv
 generalize ac:Ti v4=r5
 refine .dd hP (Qr (by omega) ac) ?_
 conv=>cbv
 have z5:r5.size=v4.toNat:=by rw[←ac];unfold Ti;rw[Bo,List.length_replicate]
 refine .litL 1 fun s6 ad ai=>?_
 conv=>cbv
 refine .go fun s7 ae aj=>?_
 conv=>cbv
 refine .litR 4 fun s8 af ak=>?_
 conv=>cbv
 have e:s8=Af n:=(by unfold Af;rw[if_pos (by omega),af,ae,ad,←ac,←ab,p1];unfold Ti Gn;show tx [115]++tx _++tx _++tx [46,115,101,103]=_;rw[D0,D0,D0,show v4.toNat=7+1 - (Z7 n.toNat).length by omega];simp)
 rw[hr]at e
 subst e
 exact hQ _ _ (.s rfl rfl)
end
section
open Go Go.Proofs
set_option maxRecDepth 20000
set_option maxHeartbeats 4000000
def Zj:List (Nat×TyRow):=[ty3,ty5,ty9,XaE]
theorem Xz:B3 Tryz.prog Zj:=B3.of (by kernel_rfl)
theorem Xf0:Setup Tryz.prog Zj:=⟨Xz,mixed⟩
open Go.RowKit
def Gx(n:Int):ByteArray:=if 0≤n∧n≤1000000000 then Af n++tx [46,116,109,112]else tx []
theorem Rx{n:Int}{o:ByteArray}(e:Gx n=o):o.size≤17:=by
 rw[←e]
 unfold Gx
 split
 ·rw[ByteArray.size_append]
  have:=Ea (n:=n) rfl
  have:(tx [46,116,109,112]).size=4:=rfl
  omega
 ·simp[Bo]
theorem Xij{n:Int}(h:0≤n∧n≤1000000000):Af n=tx (115::(Xc8 8 n.toNat++[46,115,101,103])):=if_pos h
theorem seg13{n:Int}(h:0≤n∧n≤1000000000):(Af n).size=13:=by
 rw[Xij h,Bo,List.length_cons,List.length_append,Qx];rfl
theorem Xho{n:Int}{name:ByteArray}(e:Af n=name)(h:name.size≠0):0≤n∧n≤1000000000:=by
 rcases Decidable.em (0≤n∧n≤1000000000)with h1|h1
 ·exact h1
 ·exfalso;apply h;rw[←e];unfold Af;rw[if_neg h1];rfl
theorem XcO{n:Int}{o:ByteArray}(hr:Gx n=o):Fn Tryz.prog 193 [I n] [] ⟨S o,[],[]⟩:=by
 refine Fn.go Xf0 Tryz.func193 fun P hP Q hQ=>?_
 conv=>cbv
 generalize aa:Af n=r1
 refine .dd hP (B1 aa) ?_
 conv=>cbv
 refine .eql (fun h2=>?_) fun h2=>?_
 conv=>cbv
 have e:(tx [])=Gx n:=(by unfold Gx;rw[if_neg];intro hh;have:=seg13 hh;rw[aa,h2]at this;cases this)
 rw[hr]at e
 subst e
 exact hQ _ _ (.s rfl rfl)
 conv=>cbv
 have ac:=Ea aa
 refine .litR 4 fun s3 ab ad=>?_
 conv=>cbv
 have e:s3=Gx n:=(by unfold Gx;rw[if_pos,ab,←aa];rfl;exact Xho aa (fun h0=>h2 (by apply ByteArray.ext;exact Array.eq_empty_of_size_eq_zero h0)))
 rw[hr]at e
 subst e
 exact hQ _ _ (.s rfl rfl)
end
section
open Go Go.Proofs
set_option maxRecDepth 20000
set_option maxHeartbeats 4000000
open Go.RowKit
end
section
open Go Go.Proofs
set_option maxRecDepth 20000
set_option maxHeartbeats 4000000
def Xb7:List (Nat×TyRow):=[ty3,ty9,Xax,Xbj,XaE,XfU,ty92,ty96,Xir]
theorem Xa7:B3 Tryz.prog Xb7:=B3.of (by kernel_rfl)
theorem Gk:Setup Tryz.prog Xb7:=⟨Xa7,mixed⟩
def Df(d:Aa)(base:Int):ByteArray:=(Fk d (Af base)).1
def Dh(b:ByteArray)(base link:Int):Bool:=(Br b).2&&decide ((Br b).1.base_=base)&&decide ((Br b).1.link_=link)
def Dr(link:Int)(r:ByteArray):Int:=Fj link (A0 r.size 4++r)
def Fg(link:Int)(l:List ByteArray):Int:=l.foldl Dr link
def Dm(b:ByteArray):List ByteArray:=(Bn b).records_
def Fu(b:ByteArray):Int:=Fg (Bn b).head_.link_ (Bn b).records_
def H5(d:Aa):Nat→Int→Int→List T1
 |0,_,_=>[]
 |k+1,base,sum=>if Dh (Df d base) base sum=true∧Dm (Df d base)≠[]then
   ⟨base,Df d base,Bn (Df d base)⟩::H5 d k (base+(Dm (Df d base)).length) (Fg sum (Dm (Df d base)))else[]
def Lk(d:Aa):List T1:=H5 d 16 0 0
def K8(d:Aa):List Int:=(Lk d).map (·.base_)
def Eu(d:Aa):List ByteArray:=(Lk d).map (·.text_)
theorem L8{d:Aa}{b:Int}{t:ByteArray}(hd:okD d)(e:Df d b=t):t.size≤1000000000:=by
 rw[←e]
 exact XaX (ok:=(Fk d (Af b)).2) hd rfl
theorem S2{t:ByteArray}{b s:Int}(h:Dh t b s=true):∃hh,Br t=(hh,true)∧hh.base_=b∧hh.link_=s∧0≤b∧b≤1000000000:=by
 unfold Dh at h
 simp only[Bool.and_eq_true,decide_eq_true_eq]at h
 rcases e:Br t with⟨hh,ok⟩
 rw[e]at h
 obtain⟨⟨h1,h2⟩,h3⟩:=h
 simp only[]at h1 h2 h3
 subst h1
 have h4:=(Gg e).2.2
 obtain⟨v,st,bs,lk⟩:=hh
 have h5:=I6 h4
 exact⟨_,rfl,h2,h3,by simp only[]at h2;omega,by simp only[]at h2;omega⟩
theorem Xdw{t:ByteArray}{hh:Bj}(e:Br t=(hh,true)):(Bn t).head_=hh∧(Bn t).ok_=true:=by unfold Bn;rw[e];exact⟨rfl,rfl⟩
theorem T9{t:ByteArray}{b s:Int}(h:Dh t b s=true):Fu t=Fg s (Dm t):=by
 obtain⟨hh,h1,h2,h3,_⟩:=S2 h
 unfold Fu Dm
 rw[(Xdw h1).1,h3]
theorem Pk{t:ByteArray}{b s:Int}{l:List ByteArray}(h:Dh t b s=true)(e:Dm t=l):Fu t=Fg s l:=by rw[T9 h,e]
theorem Og{d:Aa}{k:Nat}{b s:Int}{t:ByteArray}(h1:Df d b=t)(h2:Dh t b s=false∨Dm t=[]):H5 d k b s=[]:=by
 cases k with
 |zero=>rfl
 |succ k=>
  rw[H5,h1,if_neg]
  rintro⟨h3,h4⟩
  rcases h2 with h2|h2
  ·rw[h2]at h3;cases h3
  ·exact h4 h2
theorem R5{d:Aa}{k:Nat}{b s:Int}{t:ByteArray}(h1:Df d b=t)(h2:Dh t b s=true)(h3:Dm t≠[]):H5 d (k+1) b s=⟨b,t,Bn t⟩::H5 d k (b+(Dm t).length) (Fg s (Dm t)):=by
 rw[H5,h1,if_pos ⟨h2,h3⟩]
theorem Pr{d:Aa}:∀{k:Nat} {b s:Int},(H5 d k b s).length≤k
 |0,_,_=>Nat.le_refl _
 |k+1,b,s=>by
  rw[H5]
  split
  ·rw[List.length_cons];exact Nat.succ_le_succ Pr
  ·exact Nat.zero_le _
theorem Ud{d:Aa}:∀{k:Nat} {b s:Int},∀x∈H5 d k b s,x.text_=Df d x.base_∧x.scan_=Bn (Df d x.base_)∧∃s',Dh (Df d x.base_) x.base_ s'=true
 |0,_,_,x,hx=>by simp[H5]at hx
 |k+1,b,s,x,hx=>by
  rw[H5]at hx
  split at hx
  ·rename_i h
   rw[List.mem_cons]at hx
   rcases hx with rfl|hx
   ·exact⟨rfl,rfl,s,h.1⟩
   ·exact Ud x hx
  ·simp at hx
theorem Xdj{d:Aa}{l:List T1}(e:Lk d=l):l.length≤16:=by rw[←e];exact Pr
theorem Pc{d:Aa}{l:List Int}(e:K8 d=l):l.length≤16:=by rw[←e];unfold K8;rw[List.length_map];exact Pr
theorem XcL{d:Aa}{l:List T1}(e:Lk d=l){x:T1}(hx:x∈l):x.text_=Df d x.base_∧x.scan_=Bn (Df d x.base_)∧∃s',Dh (Df d x.base_) x.base_ s'=true:=by rw[←e]at hx;exact Ud x hx
theorem Xet{d:Aa}{α:Type}(f:T1→α)(g:Int→α)(h:∀x,x.text_=Df d x.base_→x.scan_=Bn (Df d x.base_)→f x=g x.base_):(Lk d).map f=(K8 d).map g:=by
 unfold K8
 rw[List.map_map]
 refine List.map_congr_left fun x hx=>?_
 obtain⟨h1,h2,_⟩:=XcL rfl hx
 exact h x h1 h2
theorem Nm{d:Aa}:Eu d=(K8 d).map fun b=>Df d b:=Xet _ _ fun x h1 _=>h1
theorem XbQ:∀(k:Nat) {h:Bj} {b:ByteArray} {n:Nat} {p:Int},(b.size - p).toNat≤k→0≤p∧p≤b.size→∀r∈(Hh h b n p).1,r.size≤60
 |k,h,b,n,p,hk,hp=>by
  cases hm:D8 h.version_ (h.base_+n) b p
  ·rcases hf:A2 h.version_ (h.base_+n) b p with⟨r,q,ok⟩
   cases ok
   ·rw[Mg hm hf];simp
   ·have h2:=Gw hf
    rw[Mf hm hf]
    cases k with
    |zero=>omega
    |succ k=>
     have ih:=XbQ k (h:=h) (b:=b) (n:=n+1) (p:=q) (by omega) (by omega)
     intro x hx
     rcases List.mem_cons.1 hx with rfl|hx
     ·omega
     ·exact ih x hx
  ·rw[Ms hm];simp
theorem Xcm{b:ByteArray}:∀r∈(Bn b).records_,r.size≤60:=by
 unfold Bn
 split
 ·rename_i h e
  have h2:=Gg e
  exact XbQ _ (h:=h) (b:=b) (n:=0) (p:=24) (Nat.le_refl _) (by omega)
 ·simp
theorem Xbm{α β:Type}{f:α→β}{l:List α}{k:Nat}(h:k<l.length):(l.take (k+1)).map f=(l.take k).map f++[f l[k]]:=by rw[List.take_succ_eq_append_getElem h,List.map_append];rfl
variable {Aj:List B5} {Bk Bh Bg Bi xo:List (List D)} {An Ao:List Ag} {Al:List ByteArray} {As Aq base o link:Int} {b r:ByteArray}
theorem XfM{o:ByteArray}(Av:Aj.map A5=Bk)(At:An.map Ad=Bh)(Ax:Ao.map Ad=Bg)(Ay:Al.map cS=Bi)(hd:okD ⟨Aj,An,Ao,Al,As,Aq⟩)(hr:Df (⟨Aj,An,Ao,Al,As,Aq⟩:Aa) base=o):Fn Tryz.prog 202 [.agg [.d (.row 3 Bk),.d (.row 2 Bh),.d (.row 2 Bg),.d (.row 1 Bi),I As,I Aq],I base] [] ⟨S o,[],[]⟩:=by
 refine Fn.go Gk Tryz.func202 fun P hP Q hQ=>?_
 conv=>cbv
 generalize aa:Af base=r1
 refine .dd hP (Xd aa) ?_
 conv=>cbv
 rcases ab:Fk (⟨Aj,An,Ao,Al,As,Aq⟩:Aa) r1 with⟨ac,ad⟩
 refine .dd hP (XcU Av At Ax Ay hd ab) ?_
 conv=>cbv
 have e:ac=Df (⟨Aj,An,Ao,Al,As,Aq⟩:Aa) base:=(by unfold Df;rw[aa,ab])
 rw[hr]at e
 subst e
 exact hQ _ _ (.s rfl rfl)
theorem Wv{o:ByteArray}(Av:Aj.map A5=Bk)(At:An.map Ad=Bh)(Ax:Ao.map Ad=Bg)(Ay:Al.map cS=Bi)(hd:okD ⟨Aj,An,Ao,Al,As,Aq⟩)(hr:Df (⟨Aj,An,Ao,Al,As,Aq⟩:Aa) base=o):Fn Tryz.prog 15 [.agg [.d (.row 3 Bk),.d (.row 2 Bh),.d (.row 2 Bg),.d (.row 1 Bi),I As,I Aq],I base] [] ⟨S o,[],[]⟩:=by
 refine Fn.go Gk Tryz.func15 fun P hP Q hQ=>?_
 conv=>cbv
 generalize aa:Af base=r1
 refine .dd hP (B1 aa) ?_
 conv=>cbv
 rcases ab:Fk (⟨Aj,An,Ao,Al,As,Aq⟩:Aa) r1 with⟨ac,ad⟩
 refine .dd hP (XcA Av At Ax Ay hd ab) ?_
 conv=>cbv
 have e:ac=Df (⟨Aj,An,Ao,Al,As,Aq⟩:Aa) base:=(by unfold Df;rw[aa,ab])
 rw[hr]at e
 subst e
 exact hQ _ _ (.s rfl rfl)
theorem XfX{o:Bool}(hs:b.size<2^47)(hr:Dh b base link=o):Fn Tryz.prog 203 [S b,I base,I link] [] ⟨B o,[],[]⟩:=by
 refine Fn.go Gk Tryz.func203 fun P hP Q hQ=>?_
 conv=>cbv
 rcases aa:Br b with⟨⟨ab,ac,ad,ae⟩,af⟩
 refine .dd hP (Ui (by omega) aa) ?_
 conv=>cbv
 cases af
 conv=>cbv
 have e:false=Dh b base link:=(by unfold Dh;rw[aa];rfl)
 rw[hr]at e
 subst e
 exact hQ _ _ (.b rfl rfl)
 conv=>cbv
 refine .eql (fun h2=>?_) fun h2=>?_
 conv=>cbv
 refine .eql (fun h3=>?_) fun h3=>?_
 conv=>cbv
 have e:true=Dh b base link:=(by unfold Dh;rw[aa];simp[h2,h3])
 rw[hr]at e
 subst e
 exact hQ _ _ (.b rfl rfl)
 conv=>cbv
 have e:false=Dh b base link:=(by unfold Dh;rw[aa];simp[h2,h3])
 rw[hr]at e
 subst e
 exact hQ _ _ (.b rfl rfl)
 conv=>cbv
 have e:false=Dh b base link:=(by unfold Dh;rw[aa];simp[h2])
 rw[hr]at e
 subst e
 exact hQ _ _ (.b rfl rfl)
theorem Xcz(hb:r.size<2^40)(hr:Dr link r=o):Fn Tryz.prog 246 [I link,S r] [] ⟨I o,[],[]⟩:=by
 refine Fn.go Gk Tryz.func246 fun P hP Q hQ=>?_
 conv=>cbv
 refine .go fun v1 ac=>?_
 conv=>cbv
 generalize aa:A0 v1 4=r2
 have zr2:=Bu aa
 refine .dd hP (Fe (by omega) aa) ?_
 conv=>cbv
 refine .go fun s3 ad ae=>?_
 conv=>cbv
 generalize ab:Fj link s3=r4
 have zr4:=Ml ab
 refine .dd hP (Xl (by omega) ab) ?_
 conv=>cbv
 have e:r4=Dr link r:=(by subst_vars;rfl)
 rw[hr]at e
 subst e
 exact hQ _ _ (.i rfl rfl)
theorem XfA{o:Bool}(hs:b.size<2^47)(hr:Dh b base link=o):Fn Tryz.prog 66 [S b,I base,I link] [] ⟨B o,[],[]⟩:=by
 refine Fn.go Gk Tryz.func66 fun P hP Q hQ=>?_
 conv=>cbv
 rcases aa:Br b with⟨⟨ab,ac,ad,ae⟩,af⟩
 refine .dd hP (Uz (by omega) aa) ?_
 conv=>cbv
 cases af
 conv=>cbv
 have e:false=Dh b base link:=(by unfold Dh;rw[aa];rfl)
 rw[hr]at e
 subst e
 exact hQ _ _ (.b rfl rfl)
 conv=>cbv
 refine .eql (fun h2=>?_) fun h2=>?_
 conv=>cbv
 refine .eql (fun h3=>?_) fun h3=>?_
 conv=>cbv
 have e:true=Dh b base link:=(by unfold Dh;rw[aa];simp[h2,h3])
 rw[hr]at e
 subst e
 exact hQ _ _ (.b rfl rfl)
 conv=>cbv
 have e:false=Dh b base link:=(by unfold Dh;rw[aa];simp[h2,h3])
 rw[hr]at e
 subst e
 exact hQ _ _ (.b rfl rfl)
 conv=>cbv
 have e:false=Dh b base link:=(by unfold Dh;rw[aa];simp[h2])
 rw[hr]at e
 subst e
 exact hQ _ _ (.b rfl rfl)
theorem Pl(hb:r.size<2^40)(hr:Dr link r=o):Fn Tryz.prog 146 [I link,S r] [] ⟨I o,[],[]⟩:=by
 refine Fn.go Gk Tryz.func146 fun P hP Q hQ=>?_
 conv=>cbv
 refine .go fun v1 ac=>?_
 conv=>cbv
 generalize aa:A0 v1 4=r2
 have zr2:=Bu aa
 refine .dd hP (Et (by omega) aa) ?_
 conv=>cbv
 refine .go fun s3 ad ae=>?_
 conv=>cbv
 generalize ab:Fj link s3=r4
 have zr4:=Ml ab
 refine .dd hP (X9 (by omega) ab) ?_
 conv=>cbv
 have e:r4=Dr link r:=(by subst_vars;rfl)
 rw[hr]at e
 subst e
 exact hQ _ _ (.i rfl rfl)
theorem Xfk{l:List ByteArray}{xl:List (List D)}(hl:l.map cS=xl)(hn:l.length<2^40)(hb:∀r∈l,r.size≤60)(hr:Fg link l=o):Fn Tryz.prog 204 [I link,.d (.row 1 xl)] [] ⟨I o,[],[]⟩:=by
 refine Fn.go Gk Tryz.func204 fun P hP Q hQ=>?_
 conv=>cbv
 refine .go hl fun v1 ad=>?_
 conv=>cbv
 refine LoopW.lp (κ:=Int×Int) Gk hP [] [7,8] (fun(i0,i9)=>[(0,I i0),(9,I i9)]) (fun(i0,i9)=>[])
  (fun(i0,i9)=>0≤i9∧i9≤l.length∧i0=Fg link (l.take i9.toNat))
  (fun(i0,i9)=>(l.length - i9).toNat) (link,0) ⟨by omega,by omega,rfl⟩ ⟨rfl,rfl,trivial⟩ rfl ?_
 rintro⟨i0,i9⟩ J ⟨h0,h1,hx⟩ hJ
 conv=>cbv
 refine .lss (fun h2=>?_) fun h2=>?_
 conv=>cbv
 refine .go i9.toNat hl fun aa e3 ab=>?_
 conv=>cbv
 have zb:=hb e3 (ab▸List.getElem_mem _)
 generalize ac:Dr i0 e3=r4
 refine .dd hP (Xcz (by omega) ac) ?_
 conv=>cbv
 refine .add fun v5 ae=>?_
 conv=>cbv
 exact .go [] (r4,v5) (hJ _ ⟨by omega,by omega,by rw[show v5.toNat=i9.toNat+1 by omega,List.take_succ_eq_append_getElem aa,Fg,List.foldl_append,←ab];show r4=Dr (Fg link (l.take i9.toNat)) e3;rw[←hx,ac]⟩ mlt)
 conv=>cbv
 have e:i0=Fg link l:=(by rw[hx,List.take_of_length_le (by omega)])
 rw[hr]at e
 subst e
 exact hQ _ _ (.i rfl rfl)
theorem Xas{o:List ByteArray}(hs:b.size<2^47)(hr:Dm b=o)(ho:o.map cS=xo):Fn Tryz.prog 18 [S b] [] ⟨.d (.row 1 xo),[],[]⟩:=by
 refine Fn.go Gk Tryz.func18 fun P hP Q hQ=>?_
 conv=>cbv
 rcases ai:Bn b with⟨an,⟨ae,af,ag,ah⟩,ab,ad,al,am⟩
 generalize aa:ab.map cS=aj
 generalize ac:ad.map cI=ak
 refine .dd hP (U6 (by omega) ai aa ac) ?_
 conv=>cbv
 have e:ab=Dm b:=(by unfold Dm;rw[ai])
 rw[hr]at e
 subst e
 exact hQ _ _ (.d rfl (by rw[←aa,←ho]))
theorem S6(hs:b.size<2^40)(hr:Fu b=o):Fn Tryz.prog 67 [S b] [] ⟨I o,[],[]⟩:=by
 refine Fn.go Gk Tryz.func67 fun P hP Q hQ=>?_
 conv=>cbv
 rcases ae:Bn b with⟨aq,⟨ag,ah,ai,aa⟩,ab,af,ao,ap⟩
 generalize ac:ab.map cS=am
 generalize ad:af.map cI=an
 refine .dd hP (U6 (by omega) ae ac ad) ?_
 conv=>cbv
 refine LoopW.lp (κ:=Int×Int) Gk hP [] [3] (fun(i4,i5)=>[(4,I i4),(5,I i5)]) (fun(i4,i5)=>[])
  (fun(i4,i5)=>0≤i5∧i5≤ab.length∧i4=Fg aa (ab.take i5.toNat))
  (fun(i4,i5)=>(ab.length - i5).toNat) (aa,0) ⟨by omega,by omega,rfl⟩ ⟨rfl,rfl,trivial⟩ rfl ?_
 rintro⟨i4,i5⟩ J ⟨h0,h1,hx⟩ hJ
 have zs:=Xcm (b:=b)
 have zl:=O5 (b:=b)
 rw[ae]at zs zl
 simp only[]at zs zl
 conv=>cbv
 refine .go ac fun v2 ar=>?_
 conv=>cbv
 refine .lss (fun h3=>?_) fun h3=>?_
 conv=>cbv
 refine .go i5.toNat ac fun aj e4 ak=>?_
 conv=>cbv
 have zb:=zs e4 (ak▸List.getElem_mem _)
 generalize al:Dr i4 e4=r5
 refine .dd hP (Pl (by omega) al) ?_
 conv=>cbv
 refine .add fun v6 au=>?_
 conv=>cbv
 exact .go [] (r5,v6) (hJ _ ⟨by omega,by omega,by rw[show v6.toNat=i5.toNat+1 by omega,List.take_succ_eq_append_getElem aj,Fg,List.foldl_append,←ak];show r5=Dr (Fg aa (ab.take i5.toNat)) e4;rw[←hx,al]⟩ mlt)
 conv=>cbv
 have e:i4=Fu b:=(by unfold Fu;rw[ae,hx,List.take_of_length_le (by omega)])
 rw[hr]at e
 subst e
 exact hQ _ _ (.i rfl rfl)
theorem XhR{o:List T1}(Av:Aj.map A5=Bk)(At:An.map Ad=Bh)(Ax:Ao.map Ad=Bg)(Ay:Al.map cS=Bi)(hd:okD ⟨Aj,An,Ao,Al,As,Aq⟩)(hr:Lk (⟨Aj,An,Ao,Al,As,Aq⟩:Aa)=o)(ho:o.map Xhe=xo):Fn Tryz.prog 121 [.agg [.d (.row 3 Bk),.d (.row 2 Bh),.d (.row 2 Bg),.d (.row 1 Bi),I As,I Aq]] [] ⟨.d (.row 11 xo),[],[]⟩:=by
 refine Fn.go Gk Tryz.func121 fun P hP Q hQ=>?_
 conv=>cbv
 refine LoopW.lp (κ:=Int×Int×(List (List D))×Nat) Gk hP [2] [1] (fun(i4,i5,af,ac)=>[(3,.ref 3 0 ac),(4,I i4),(5,I i5)]) (fun(i4,i5,af,ac)=>[(3,.row 11 false af)])
  (fun(i4,i5,af,ac)=>∃(w3:List T1),w3.map Xhe=af∧ac=w3.length∧(w3.length≤16∧0≤i4∧i4≤2000000000)∧Lk (⟨Aj,An,Ao,Al,As,Aq⟩:Aa)=w3++H5 (⟨Aj,An,Ao,Al,As,Aq⟩:Aa) (16 - w3.length) i4 i5)
  (fun(i4,i5,af,ac)=>16 - ac) (0,0,[],0) ⟨[],rfl,rfl,by simp,rfl⟩ ⟨rfl,rfl,rfl,trivial⟩ rfl ?_
 rintro⟨i4,i5,af,ac⟩ J ⟨w3,ad,a4,hb,hI⟩ hJ
 conv=>cbv
 refine .go fun v1 a6=>?_
 conv=>cbv
 refine .lss (fun h2=>?_) fun h2=>?_
 conv=>cbv
 generalize ak:Df (⟨Aj,An,Ao,Al,As,Aq⟩:Aa) i4=r3
 refine .dd hP (XfM Av At Ax Ay hd ak) ?_
 conv=>cbv
 have z3:=L8 hd ak
 rcases am:Bn r3 with⟨au,⟨ag,ah,ai,aj⟩,ab,al,ap,aq⟩
 generalize aa:ab.map cS=ax
 generalize ae:al.map cI=ay
 refine .dd hP (XcH (by omega) am aa ae) ?_
 conv=>cbv
 have zr:=O5 (b:=r3)
 have zq:=Xcm (b:=r3)
 rw[am]at zr zq
 simp only[]at zr zq
 have rq:Dm r3=ab:=by unfold Dm;rw[am]
 generalize an:Dh r3 i4 i5=r5
 refine .dd hP (XfX (by omega) an) ?_
 cases r5
 conv=>cbv
 have e:w3=Lk (⟨Aj,An,Ao,Al,As,Aq⟩:Aa):=(by rw[hI,Og ak (.inl an),List.append_nil])
 rw[hr]at e
 subst e
 exact hQ _ _ (.r rfl rfl (by rw[←ad,List.length_map];first|omega|(simp;omega)) (by rw[←ad,←ho]))
 conv=>cbv
 refine .go aa fun v6 ar=>?_
 conv=>cbv
 refine .eql (fun h7=>?_) fun h7=>?_
 conv=>cbv
 have e:w3=Lk (⟨Aj,An,Ao,Al,As,Aq⟩:Aa):=(by rw[hI,Og ak (.inr (by rw[rq];exact List.eq_nil_of_length_eq_zero (by omega))),List.append_nil])
 rw[hr]at e
 subst e
 exact hQ _ _ (.r rfl rfl (by rw[←ad,List.length_map];first|omega|(simp;omega)) (by rw[←ad,←ho]))
 conv=>cbv
 have hg:=S2 an
 obtain⟨hh,g1,g2,g3,g4,g5⟩:=hg
 have hne:ab≠[]:=by intro e;rw[e]at ar;simp at ar;exact h7 ar
 refine .one (⟨i4,r3,⟨au,⟨ag,ah,ai,aj⟩,ab,al,ap,aq⟩⟩:T1) ad (by rw[←aa,←ae];rfl) fun az z8 a5 a0=>?_
 conv=>cbv
 refine .go aa fun v9 a1=>?_
 conv=>cbv
 refine .add fun a2 aw=>?_
 conv=>cbv
 generalize ao:Fg i5 ab=a3
 refine .dd hP (Xfk aa (by omega) zq ao) ?_
 conv=>cbv
 exact .go [10] (a2,a3,z8,az) (hJ _ ⟨_,a0,Em,by rw[List.length_append];simp;omega,by rw[hI,show 16 - w3.length=(15 - w3.length)+1 by omega,R5 ak an (by rw[rq];exact hne),List.append_assoc,am,List.length_append,rq,ao,←a1,←aw];simp only[List.length_singleton];rw[show 16 - (w3.length+1)=15 - w3.length by omega];rfl⟩ mlt)
 conv=>cbv
 have e:w3=Lk (⟨Aj,An,Ao,Al,As,Aq⟩:Aa):=(by rw[hI,show 16 - w3.length=0 by omega];simp[H5])
 rw[hr]at e
 subst e
 exact hQ _ _ (.r rfl rfl (by rw[←ad,List.length_map];first|omega|(simp;omega)) (by rw[←ad,←ho]))
theorem XhS{o:List Int}(Av:Aj.map A5=Bk)(At:An.map Ad=Bh)(Ax:Ao.map Ad=Bg)(Ay:Al.map cS=Bi)(hd:okD ⟨Aj,An,Ao,Al,As,Aq⟩)(hr:K8 (⟨Aj,An,Ao,Al,As,Aq⟩:Aa)=o)(ho:o.map cI=xo):Fn Tryz.prog 14 [.agg [.d (.row 3 Bk),.d (.row 2 Bh),.d (.row 2 Bg),.d (.row 1 Bi),I As,I Aq]] [] ⟨.d (.row 1 xo),[],[]⟩:=by
 refine Fn.go Gk Tryz.func14 fun P hP Q hQ=>?_
 conv=>cbv
 refine LoopW.lp (κ:=Int×Int×(List (List D))×Nat) Gk hP [2] [1] (fun(i4,i5,ac,aa)=>[(3,.ref 3 0 aa),(4,I i4),(5,I i5)]) (fun(i4,i5,ac,aa)=>[(3,.row 1 false ac)])
  (fun(i4,i5,ac,aa)=>∃(w3:List Int),w3.map cI=ac∧aa=w3.length∧(w3.length≤16∧0≤i4∧i4≤2000000000)∧K8 (⟨Aj,An,Ao,Al,As,Aq⟩:Aa)=w3++(H5 (⟨Aj,An,Ao,Al,As,Aq⟩:Aa) (16 - w3.length) i4 i5).map (·.base_))
  (fun(i4,i5,ac,aa)=>16 - aa) (0,0,[],0) ⟨[],rfl,rfl,by simp,rfl⟩ ⟨rfl,rfl,rfl,trivial⟩ rfl ?_
 rintro⟨i4,i5,ac,aa⟩ J ⟨w3,ab,an,hb,hI⟩ hJ
 conv=>cbv
 refine .go fun v1 ap=>?_
 conv=>cbv
 refine .lss (fun h2=>?_) fun h2=>?_
 conv=>cbv
 generalize ae:Df (⟨Aj,An,Ao,Al,As,Aq⟩:Aa) i4=r3
 refine .dd hP (Wv Av At Ax Ay hd ae) ?_
 conv=>cbv
 have z3:=L8 hd ae
 generalize ad:Dm r3=l4
 generalize ah:l4.map cS=aq
 refine .dd hP (Xas (by omega) ad ah) ?_
 conv=>cbv
 refine .go ah fun v5 ag=>?_
 conv=>cbv
 refine .eql (fun h6=>?_) fun h6=>?_
 conv=>cbv
 have e:w3=K8 (⟨Aj,An,Ao,Al,As,Aq⟩:Aa):=(by rw[hI,Og ae (.inr (by rw[ad];exact List.eq_nil_of_length_eq_zero (by omega)))];simp)
 rw[hr]at e
 subst e
 exact hQ _ _ (.r rfl rfl (by rw[←ab,List.length_map];first|omega|(simp;omega)) (by rw[←ab,←ho]))
 conv=>cbv
 generalize af:Dh r3 i4 i5=r7
 refine .dd hP (XfA (by omega) af) ?_
 cases r7
 conv=>cbv
 have e:w3=K8 (⟨Aj,An,Ao,Al,As,Aq⟩:Aa):=(by rw[hI,Og ae (.inl af)];simp)
 rw[hr]at e
 subst e
 exact hQ _ _ (.r rfl rfl (by rw[←ab,List.length_map];first|omega|(simp;omega)) (by rw[←ab,←ho]))
 conv=>cbv
 have hg:=S2 af
 obtain⟨hh,g1,g2,g3,g4,g5⟩:=hg
 have hne:l4≠[]:=by intro e;rw[e]at ag;simp at ag;exact h6 ag
 have zr:=O5 (b:=r3)
 have rq:(Bn r3).records_=l4:=ad
 rw[rq]at zr
 refine .one i4 ab rfl fun ak z8 ao al=>?_
 conv=>cbv
 generalize ai:Fu r3=r9
 refine .dd hP (S6 (by omega) ai) ?_
 conv=>cbv
 refine .add fun am aj=>?_
 conv=>cbv
 exact .go [5] (am,r9,z8,ak) (hJ _ ⟨_,al,Em,by rw[List.length_append];simp;omega,by rw[hI,show 16 - w3.length=(15 - w3.length)+1 by omega,R5 ae af (by rw[ad];exact hne),ad,List.map_cons,List.append_assoc,List.length_append,←Pk af ad,ai,←ag,←aj];simp only[List.length_singleton];rw[show 16 - (w3.length+1)=15 - w3.length by omega];rfl⟩ mlt)
 conv=>cbv
 have e:w3=K8 (⟨Aj,An,Ao,Al,As,Aq⟩:Aa):=(by rw[hI,show 16 - w3.length=0 by omega];simp[H5])
 rw[hr]at e
 subst e
 exact hQ _ _ (.r rfl rfl (by rw[←ab,List.length_map];first|omega|(simp;omega)) (by rw[←ab,←ho]))
end
section
open Go Go.Proofs
set_option maxRecDepth 20000
set_option maxHeartbeats 4000000
def X3:List (Nat×TyRow):=[ty3,ty9,Xax,Xbj,XaE,ty92,ty96,Xir]
theorem Xv:B3 Tryz.prog X3:=B3.of (by kernel_rfl)
theorem Q8:Setup Tryz.prog X3:=⟨Xv,mixed⟩
def Xdp(l:List ByteArray):Int:=l.foldl (fun m t=>max m (t.size:Int)) 0
theorem Xf2{l:List ByteArray}{x:ByteArray}:Xdp (l++[x])=max (Xdp l) x.size:=by unfold Xdp;rw[List.foldl_append];rfl
def XhT{α:Type}(f:α→Int)(l:List α):Int:=(l.map f).foldl (·+·) 0
theorem XdD{α:Type}{f:α→Int}{l:List α}{k:Nat}(h:k<l.length):XhT f (l.take (k+1))=XhT f (l.take k)+f l[k]:=by unfold XhT;rw[Xbm h,List.foldl_append];rfl
def Hi(d:Aa):Int:=Xdp (Eu d)
theorem XfC{d:Aa}{l:List ByteArray}(hd:okD d)(e:Eu d=l):l.length≤16∧∀x∈l,x.size≤1000000000:=by
 rw[←e,Nm]
 refine⟨by rw[List.length_map];exact Pc rfl,?_⟩
 intro v hv
 obtain⟨x,hx,rfl⟩:=List.mem_map.1 hv
 exact L8 hd rfl
def N7{α:Type}[DecidableEq α](a b:List α):Bool:=decide (a=b)
theorem Xec{l:List ByteArray}{k:Nat}(h:k<l.length):Xdp (l.take (k+1))=max (Xdp (l.take k)) l[k].size:=by rw[List.take_succ_eq_append_getElem h,Xf2]
variable {Aj:List B5} {Bk Bh Bg Bi:List (List D)} {An Ao:List Ag} {Al:List ByteArray} {As Aq:Int}
theorem Yo{o:List ByteArray}{xo:List (List D)}(Av:Aj.map A5=Bk)(At:An.map Ad=Bh)(Ax:Ao.map Ad=Bg)(Ay:Al.map cS=Bi)(hd:okD ⟨Aj,An,Ao,Al,As,Aq⟩)(hr:Eu (⟨Aj,An,Ao,Al,As,Aq⟩:Aa)=o)(ho:o.map cS=xo):Fn Tryz.prog 61 [.agg [.d (.row 3 Bk),.d (.row 2 Bh),.d (.row 2 Bg),.d (.row 1 Bi),I As,I Aq]] [] ⟨.d (.row 1 xo),[],[]⟩:=by
 refine Fn.go Q8 Tryz.func61 fun P hP Q hQ=>?_
 conv=>cbv
 generalize an:Lk (⟨Aj,An,Ao,Al,As,Aq⟩:Aa)=l1
 generalize ao:l1.map Xhe=a5
 refine .dd hP (XhR Av At Ax Ay hd an ao) ?_
 conv=>cbv
 refine .go ao fun v2 a6=>?_
 conv=>cbv
 refine LoopW.lp (κ:=Int×(List (List D))×Nat) Q8 hP [2] [8,9] (fun(aa,ah,ai)=>[(3,.ref 3 0 ai),(10,I aa)]) (fun(aa,ah,ai)=>[(3,.row 1 false ah)])
  (fun(aa,ah,ai)=>∃(w3:List ByteArray),w3.map cS=ah∧ai=w3.length∧0≤aa∧aa≤l1.length∧w3=(l1.take aa.toNat).map fun x=>x.text_)
  (fun(aa,ah,ai)=>(l1.length - aa).toNat) (0,[],0) ⟨[],rfl,rfl,by omega,by omega,by simp⟩ ⟨rfl,rfl,trivial⟩ rfl ?_
 rintro⟨aa,ah,ai⟩ J ⟨w3,ap,a2,h0,h1,hw⟩ hJ
 have a3:=Xdj an
 have hwl:w3.length=aa.toNat:=by rw[hw,List.length_map,List.length_take];omega
 conv=>cbv
 refine .lss (fun h3=>?_) fun h3=>?_
 conv=>cbv
 refine .goX aa.toNat ao fun ay ⟨aq,al,⟨am,⟨ad,ae,af,ag⟩,ab,ac,aj,ak⟩⟩ fe4 az hfe4=>?_
 replace hfe4:[.sc (.int .i64 aq),.sc (.string al),.sc (.bool am),.sc (.int .i64 ad),.sc (.int .i64 ae),.sc (.int .i64 af),.sc (.int .i64 ag),.row 1 (ab.map cS),.row 1 (ac.map cI),.sc (.int .i64 aj),.sc (.bool ak)]=fe4:=hfe4
 generalize ar:ab.map cS=au at hfe4
 generalize aw:ac.map cI=ax at hfe4
 subst hfe4
 conv=>cbv
 refine .one al ap rfl fun a0 z5 a4 a1=>?_
 conv=>cbv
 refine .add fun v6 a7=>?_
 conv=>cbv
 exact .go [8] (v6,z5,a0) (hJ _ ⟨_,a1,Em,by omega,by omega,by rw[hw,show v6.toNat=aa.toNat+1 by omega,Xbm ay,←az]⟩ mlt)
 conv=>cbv
 have e:w3=Eu (⟨Aj,An,Ao,Al,As,Aq⟩:Aa):=(by unfold Eu;rw[an,hw,List.take_of_length_le (by omega)])
 rw[hr]at e
 subst e
 exact hQ _ _ (.r rfl rfl (by rw[←ap,List.length_map];first|omega|(simp;omega)) (by rw[←ap,←ho]))
theorem Nh{o:Int}(Av:Aj.map A5=Bk)(At:An.map Ad=Bh)(Ax:Ao.map Ad=Bg)(Ay:Al.map cS=Bi)(hd:okD ⟨Aj,An,Ao,Al,As,Aq⟩)(hr:Hi (⟨Aj,An,Ao,Al,As,Aq⟩:Aa)=o):Fn Tryz.prog 10 [.agg [.d (.row 3 Bk),.d (.row 2 Bh),.d (.row 2 Bg),.d (.row 1 Bi),I As,I Aq]] [] ⟨I o,[],[]⟩:=by
 refine Fn.go Q8 Tryz.func10 fun P hP Q hQ=>?_
 conv=>cbv
 generalize aa:Eu (⟨Aj,An,Ao,Al,As,Aq⟩:Aa)=l1
 generalize ab:l1.map cS=ae
 refine .dd hP (Yo Av At Ax Ay hd aa ab) ?_
 conv=>cbv
 refine .go ab fun v2 af=>?_
 conv=>cbv
 refine LoopW.lp (κ:=Int×Int) Q8 hP [] [7,8] (fun(i3,i9)=>[(3,I i3),(9,I i9)]) (fun(i3,i9)=>[])
  (fun(i3,i9)=>0≤i9∧i9≤l1.length∧i3=Xdp (l1.take i9.toNat))
  (fun(i3,i9)=>(l1.length - i9).toNat) (0,0) ⟨by omega,by omega,rfl⟩ ⟨rfl,rfl,trivial⟩ rfl ?_
 rintro⟨i3,i9⟩ J ⟨h0,h1,hx⟩ hJ
 have hb:=XfC hd aa
 conv=>cbv
 refine .lss (fun h3=>?_) fun h3=>?_
 conv=>cbv
 refine .go i9.toNat ab fun ac e4 ad=>?_
 conv=>cbv
 have z4:=hb.2 e4 (ad▸List.getElem_mem _)
 refine .go fun v5 ag=>?_
 conv=>cbv
 refine .go fun v6 ah=>?_
 conv=>cbv
 refine .add fun v7 ai=>?_
 conv=>cbv
 exact .go [] (v6,v7) (hJ _ ⟨by omega,by omega,by rw[show v7.toNat=i9.toNat+1 by omega,Xec ac,←hx,←ad];omega⟩ mlt)
 conv=>cbv
 have e:i3=Hi (⟨Aj,An,Ao,Al,As,Aq⟩:Aa):=(by unfold Hi;rw[aa,hx,List.take_of_length_le (by omega)])
 rw[hr]at e
 subst e
 exact hQ _ _ (.i rfl rfl)
end
section
open Go Go.Proofs
set_option maxRecDepth 20000
set_option maxHeartbeats 4000000
end
section
open Go Go.Proofs
set_option maxRecDepth 20000
set_option maxHeartbeats 4000000
end
section
open Go Go.Proofs
set_option maxRecDepth 20000
set_option maxHeartbeats 4000000
end
section
open Go Go.Proofs
set_option maxRecDepth 20000
set_option maxHeartbeats 4000000
theorem Ey{α:Type}{p:α→Bool}{l:List α}{k:Nat}(h:k<l.length):(l.take (k+1)).filter p=(l.take k).filter p++(if p l[k]then[l[k]]else[]):=by
 rw[List.take_succ_eq_append_getElem h,List.filter_append,List.filter_cons,List.filter_nil]
end
section
open Go Go.Proofs
set_option maxRecDepth 20000
set_option maxHeartbeats 4000000
def Yk:List (Nat×TyRow):=[ty3,ty5,ty9,XfZ,XaE]
theorem Zf:B3 Tryz.prog Yk:=B3.of (by kernel_rfl)
theorem Q7:Setup Tryz.prog Yk:=⟨Zf,mixed⟩
def fig(x:Int):UInt8:=UInt8.ofNat (if x<10 then 48+x.toNat else 87+x.toNat)
def Eo(x:Int):Int:=(if x<10 then 48+x else 97+x - 10)% 256
theorem Xdy{x:Int}(h:0≤x∧x<16):((fig x).toNat:Int)=Eo x:=by
 unfold fig Eo
 split
 ·rw[UInt8.toNat_ofNat',Nat.mod_eq_of_lt (by omega)];omega
 ·rw[UInt8.toNat_ofNat',Nat.mod_eq_of_lt (by omega)];omega
theorem XbG{x r:Int}(hr:Eo x=r)(h:0≤x∧x<16):[D.sc (.int .u8 r)]=cB (fig x):=by
 show _=[D.sc (.int .u8 ((fig x).toNat:Int))]
 rw[Xdy h,hr]
theorem fig10(n:Nat):fig ((n% 10:Nat):Int)=UInt8.ofNat (48+n% 10):=by
 unfold fig
 rw[if_pos (by omega),Int.toNat_natCast]
theorem G5:∀(k u:Nat),u<10^ (k+1)→1≤(Lib.decDigits u).length∧(Lib.decDigits u).length≤k+1
 |0,u,h=>by rw[Lib.decDigits,dif_pos (by simpa using h)];simp
 |k+1,u,h=>by
  by_cases hn:u<10
  ·rw[Lib.decDigits,dif_pos hn];simp
  ·rw[Lib.decDigits,dif_neg hn]
   have:=G5 k (u/10) (by rw[Nat.pow_succ]at h;omega)
   simp;omega
def XeJ(n:Nat):List UInt8:=if n=0 then[]else Lib.decDigits n
theorem N8{n:Nat}(h:n≠0):XeJ n=XeJ (n/10)++[fig ((n% 10:Nat):Int)]:=by
 unfold XeJ
 rw[if_neg h,Lib.decDigits,fig10]
 split
 ·rw[if_pos (by omega),Nat.mod_eq_of_lt (by omega)];rfl
 ·rw[if_neg (by omega)]
theorem Xb2{u:Nat}(h:u≤9223372036854775808):(XeJ u).length≤19:=by
 unfold XeJ
 split
 ·simp
 ·exact(G5 18 u (by omega)).2
abbrev XbA(n:Int):Prop:=-9223372036854775808≤n∧n≤9223372036854775807
def Cr(n:Int):ByteArray:=tx (Lib.itoa n)
theorem XeT(n:Int)(h:n≠0):Lib.itoa n=(if n<0 then[45]else[])++XeJ n.natAbs:=by
 unfold Lib.itoa XeJ
 rw[if_neg (show¬n.natAbs=0 by omega)]
 split
 ·rfl
 ·rw[show n.toNat=n.natAbs by omega];rfl
theorem Xga{n:Int}(h:XbA n):1≤(Lib.itoa n).length∧(Lib.itoa n).length≤20:=by
 unfold XbA at h
 unfold Lib.itoa
 split
 ·have:=G5 18 n.natAbs (by omega)
  simp;omega
 ·have:=G5 18 n.toNat (by omega)
  omega
theorem Pd{n:Int}{o:ByteArray}(e:Cr n=o)(h:XbA n):1≤o.size∧o.size≤20:=by
 rw[←e]
 unfold Cr
 rw[Bo]
 exact Xga h
theorem ArW.quoT{K:Int→Prop}{a:Int}(h:∀v,v=a.tdiv 10→K v)(hr: -9223372036854775808≤a∧a<9223372036854775808:=by omega):ArW .quo .i64 .i64 a 10 K:=by
 refine⟨a.tdiv 10,?_,h _ rfl⟩
 show(if(10:Int)=0 then none else some (Value.int .i64 (IntKind.i64.wrap (a.tdiv 10))))=_
 rw[if_neg (by decide),Pa]
 rcases Int.le_total 0 a with h0|h0
 ·rw[Int.tdiv_eq_ediv_of_nonneg h0];omega
 ·have:a.tdiv 10= -((-a)/10):=by rw[←Int.tdiv_eq_ediv_of_nonneg (by omega),Int.neg_tdiv];omega
  omega
theorem ArW.remT{K:Int→Prop}{k:IntKind}{a:Int}(h:∀v,v=a.tmod 10→K v):ArW .rem k k a 10 K:=by
 refine⟨a.tmod 10,?_,h _ rfl⟩
 show(if k=k then(if(10:Int)=0 then none else some (Value.int k (a.tmod 10)))else none)=_
 rw[if_pos rfl,if_neg (by decide)]
theorem Xig{a:Int}{q:Nat}(h:a= -(q:Int)):a.tdiv 10= -((q/10:Nat):Int):=by
 subst h
 rw[Int.neg_tdiv,Int.tdiv_eq_ediv_of_nonneg (by omega)]
 omega
theorem Xio{a:Int}{q:Nat}(h:a= -(q:Int)):a.tmod 10= -((q% 10:Nat):Int):=by
 subst h
 rw[Int.neg_tmod,Int.tmod_eq_emod_of_nonneg (by omega)]
 omega
theorem Xh4{a:Int}{q:Nat}(h:a=(q:Int)):a.tdiv 10=((q/10:Nat):Int):=by
 subst h
 rw[Int.tdiv_eq_ediv_of_nonneg (by omega)]
 omega
theorem Xik{a:Int}{q:Nat}(h:a=(q:Int)):a.tmod 10=((q% 10:Nat):Int):=by
 subst h
 rw[Int.tmod_eq_emod_of_nonneg (by omega)]
 omega
theorem Kn{x:Int}{o:Int}(hx:0≤x∧x<16)(hr:Eo x=o):Fn Tryz.prog 189 [I x] [] ⟨.d (.sc (.int .u8 o)),[],[]⟩:=by
 refine Fn.go Q7 Tryz.func189 fun P hP Q hQ=>?_
 conv=>cbv
 refine .lss (fun h1=>?_) fun h1=>?_
 conv=>cbv
 refine .add fun v2 aa=>?_
 conv=>cbv
 refine .go fun v3 ab=>?_
 conv=>cbv
 have e:v3=Eo x:=(by rw[ab,Gj,aa];unfold Eo;rw[if_pos (by omega)])
 rw[hr]at e
 subst e
 exact hQ _ _ (.i rfl rfl)
 conv=>cbv
 refine .add fun v2 aa=>?_
 conv=>cbv
 refine .sub fun v3 ab=>?_
 conv=>cbv
 refine .go fun v4 ac=>?_
 conv=>cbv
 have e:v4=Eo x:=(by rw[ac,Gj,ab,aa];unfold Eo;rw[if_neg (by omega)])
 rw[hr]at e
 subst e
 exact hQ _ _ (.i rfl rfl)
theorem Ss{n:Int}{o:ByteArray}(hn:XbA n)(hr:Cr n=o):Fn Tryz.prog 101 [I n] [] ⟨S o,[],[]⟩:=by
 refine Fn.go Q7 Tryz.func101 fun P hP Q hQ=>?_
 conv=>cbv
 refine .eql (fun h1=>?_) fun h1=>?_
 conv=>cbv
 have e:(tx [48])=Cr n:=(by unfold Cr;rw[h1,show Lib.itoa 0=[48]by unfold Lib.itoa;rw[if_neg (by decide),Lib.decDigits];rfl])
 rw[hr]at e
 subst e
 exact hQ _ _ (.s rfl rfl)
 conv=>cbv
 refine .lss (fun h2=>?_) fun h2=>?_
 conv=>cbv
 refine LoopW.lp (κ:=Int×ByteArray) Q7 hP [] [3] (fun(i0,s4)=>[(0,I i0),(4,S s4)]) (fun(i0,s4)=>[])
  (fun(i0,s4)=>∃(q:Nat) (w:List UInt8),s4=tx w∧XeJ n.natAbs=XeJ q++w∧q≤n.natAbs∧(n<0→i0= -(q:Int))∧(0≤n→i0=(q:Int)))
  (fun(i0,s4)=>i0.natAbs) (n,tx []) ⟨n.natAbs,[],rfl,by simp,by omega,by omega,by omega⟩ ⟨rfl,rfl,trivial⟩ rfl ?_
 rintro⟨i0,s4⟩ J ⟨q,w,aa,hw,hq,hiN,hiP⟩ hJ
 have hwl:=congrArg List.length hw
 rw[List.length_append]at hwl
 have hdl:=Xb2 (u:=n.natAbs) (by unfold XbA at hn;omega)
 have ai:s4.size=w.length:=by rw[aa,Bo]
 have et:(n<0→i0.tdiv 10= -((q/10:Nat):Int))∧(0≤n→i0.tdiv 10=((q/10:Nat):Int)):=⟨fun h=>Xig (hiN h),fun h=>Xh4 (hiP h)⟩
 have em:(n<0→i0.tmod 10= -((q% 10:Nat):Int))∧(0≤n→i0.tmod 10=((q% 10:Nat):Int)):=⟨fun h=>Xio (hiN h),fun h=>Xik (hiP h)⟩
 have hn_:=hn
 unfold XbA at hn_
 conv=>cbv
 refine .neq (fun h3=>?_) fun h3=>?_
 conv=>cbv
 refine .remT fun v4 ak=>?_
 conv=>cbv
 refine .lss (fun h5=>?_) fun h5=>?_
 conv=>cbv
 refine .go fun v6 al=>?_
 conv=>cbv
 generalize ad:Eo v6=r7
 refine .dd hP (Kn (by omega) ad) ?_
 conv=>cbv
 refine .go (l:=[fig ((q% 10:Nat):Int)]) (by show[cB (fig _)]=_;rw[show((q% 10:Nat):Int)=v6 by omega,←XbG ad (by omega)]) (hn:=rfl) fun s8 ab=>?_
 conv=>cbv
 have ag:s8.size=1:=by rw[ab];rfl
 refine .go fun s9 ae am=>?_
 conv=>cbv
 refine .quoT fun ah aj=>?_
 conv=>cbv
 exact .go [] (ah,s9) (hJ _ ⟨q/10,fig ((q% 10:Nat):Int)::w,by first|(rw[ae,ab,aa,D0];rfl)|(rw[ab,ac,aa,D0];rfl),by rw[hw,N8 (show q≠0 by omega),List.append_assoc];rfl,by omega,by omega,by omega⟩ mlt)
 conv=>cbv
 generalize af:Eo v4=r6
 refine .dd hP (Kn (by omega) af) ?_
 conv=>cbv
 refine .go (l:=[fig ((q% 10:Nat):Int)]) (by show[cB (fig _)]=_;rw[show((q% 10:Nat):Int)=v4 by omega,←XbG af (by omega)]) (hn:=rfl) fun s7 ac=>?_
 conv=>cbv
 have an:s7.size=1:=by rw[ac];rfl
 refine .go fun s8 ab ag=>?_
 conv=>cbv
 refine .quoT fun v9 ao=>?_
 conv=>cbv
 exact .go [] (v9,s8) (hJ _ ⟨q/10,fig ((q% 10:Nat):Int)::w,by first|(rw[ae,ab,aa,D0];rfl)|(rw[ab,ac,aa,D0];rfl),by rw[hw,N8 (show q≠0 by omega),List.append_assoc];rfl,by omega,by omega,by omega⟩ mlt)
 conv=>cbv
 refine .litL 1 fun s4 aa ai=>?_
 conv=>cbv
 have e:s4=Cr n:=(by unfold Cr;rw[XeT n h1,if_pos h2,hw,show q=0 by omega,aa];rename_i hs4_ _;rw[hs4_];show tx [45]++tx _=_;rw[D0];rfl)
 rw[hr]at e
 subst e
 exact hQ _ _ (.s rfl rfl)
 conv=>cbv
 refine LoopW.lp (κ:=Int×ByteArray) Q7 hP [] [3] (fun(i0,s4)=>[(0,I i0),(4,S s4)]) (fun(i0,s4)=>[])
  (fun(i0,s4)=>∃(q:Nat) (w:List UInt8),s4=tx w∧XeJ n.natAbs=XeJ q++w∧q≤n.natAbs∧(n<0→i0= -(q:Int))∧(0≤n→i0=(q:Int)))
  (fun(i0,s4)=>i0.natAbs) (n,tx []) ⟨n.natAbs,[],rfl,by simp,by omega,by omega,by omega⟩ ⟨rfl,rfl,trivial⟩ rfl ?_
 rintro⟨i0,s4⟩ J ⟨q,w,aa,hw,hq,hiN,hiP⟩ hJ
 have hwl:=congrArg List.length hw
 rw[List.length_append]at hwl
 have hdl:=Xb2 (u:=n.natAbs) (by unfold XbA at hn;omega)
 have ai:s4.size=w.length:=by rw[aa,Bo]
 have et:(n<0→i0.tdiv 10= -((q/10:Nat):Int))∧(0≤n→i0.tdiv 10=((q/10:Nat):Int)):=⟨fun h=>Xig (hiN h),fun h=>Xh4 (hiP h)⟩
 have em:(n<0→i0.tmod 10= -((q% 10:Nat):Int))∧(0≤n→i0.tmod 10=((q% 10:Nat):Int)):=⟨fun h=>Xio (hiN h),fun h=>Xik (hiP h)⟩
 have hn_:=hn
 unfold XbA at hn_
 conv=>cbv
 refine .neq (fun h3=>?_) fun h3=>?_
 conv=>cbv
 refine .remT fun v4 ak=>?_
 conv=>cbv
 refine .lss (fun h5=>?_) fun h5=>?_
 conv=>cbv
 refine .go fun v6 al=>?_
 conv=>cbv
 generalize ad:Eo v6=r7
 refine .dd hP (Kn (by omega) ad) ?_
 conv=>cbv
 refine .go (l:=[fig ((q% 10:Nat):Int)]) (by show[cB (fig _)]=_;rw[show((q% 10:Nat):Int)=v6 by omega,←XbG ad (by omega)]) (hn:=rfl) fun s8 ab=>?_
 conv=>cbv
 have ag:s8.size=1:=by rw[ab];rfl
 refine .go fun s9 ae am=>?_
 conv=>cbv
 refine .quoT fun ah aj=>?_
 conv=>cbv
 exact .go [] (ah,s9) (hJ _ ⟨q/10,fig ((q% 10:Nat):Int)::w,by first|(rw[ae,ab,aa,D0];rfl)|(rw[ab,ac,aa,D0];rfl),by rw[hw,N8 (show q≠0 by omega),List.append_assoc];rfl,by omega,by omega,by omega⟩ mlt)
 conv=>cbv
 generalize af:Eo v4=r6
 refine .dd hP (Kn (by omega) af) ?_
 conv=>cbv
 refine .go (l:=[fig ((q% 10:Nat):Int)]) (by show[cB (fig _)]=_;rw[show((q% 10:Nat):Int)=v4 by omega,←XbG af (by omega)]) (hn:=rfl) fun s7 ac=>?_
 conv=>cbv
 have an:s7.size=1:=by rw[ac];rfl
 refine .go fun s8 ab ag=>?_
 conv=>cbv
 refine .quoT fun v9 ao=>?_
 conv=>cbv
 exact .go [] (v9,s8) (hJ _ ⟨q/10,fig ((q% 10:Nat):Int)::w,by first|(rw[ae,ab,aa,D0];rfl)|(rw[ab,ac,aa,D0];rfl),by rw[hw,N8 (show q≠0 by omega),List.append_assoc];rfl,by omega,by omega,by omega⟩ mlt)
 conv=>cbv
 have e:s4=Cr n:=(by unfold Cr;rw[XeT n h1,if_neg (by omega),hw,show q=0 by omega,aa];rfl)
 rw[hr]at e
 subst e
 exact hQ _ _ (.s rfl rfl)
end
end Go.Proofs.YtjbmpmmffjgedaaGreatDoor.Ab
