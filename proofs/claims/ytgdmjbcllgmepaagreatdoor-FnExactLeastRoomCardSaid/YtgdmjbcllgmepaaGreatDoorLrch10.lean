/- What functions of the program come to, for all arguments in the given bounds. -/
import Derived.Test.YtgdmjbcllgmepaaGreatDoorLrch01a
import Derived.Shelf.Strings.Builder1
import Derived.Shelf.Strings.Builder2
import Derived.Shelf.Strings.BuilderF
import Derived.Shelf.Strings.BuilderK
import Derived.Shelf.Strings.Builder2Cap
import Derived.Shelf.Strconv.Atoi
import Derived.Shelf.Strconv.Itoa0
import Derived.Shelf.Strconv.Itoa1
import Derived.Shelf.LaysM
import Derived.Shelf.Strconv.Itoa2
import Derived.Shelf.Strconv.Itoa3
import Derived.Shelf.Strconv.Itoa4
import Derived.Shelf.Strconv.AtoiErrFast
import Derived.Shelf.Strconv.ParseIntEmpty
import Derived.Shelf.Strconv.AtoiFail
import Derived.Shelf.Strconv.Clone
import Derived.Shelf.Strconv.SyntaxError
import Derived.Shelf.LaysC
import Derived.Shelf.Strconv.ToError
import Derived.Shelf.Strconv.Lower
import Derived.Shelf.Strconv.ParseUint10
import Derived.Shelf.Strconv.ParseUint10Empty
import Derived.Shelf.Strconv.ParseUint10Any
import Derived.Shelf.Strconv.ParseInt10
import Derived.Shelf.Strconv.AtoiLong
import Derived.Shelf.Strconv.AtoiInnerAll
import Derived.Shelf.Strconv.RangeError
import Derived.Shelf.Strconv.ToErrorRange
import Derived.Shelf.Strconv.AtoiAll
import Derived.Shelf.Strings.Search1
import Derived.Shelf.Strings.Search2
import Derived.Shelf.Strings.Cut
import Derived.Shelf.Strings.Shaped
import Derived.Shelf.Strings.Prefix
import Derived.Shelf.Bits.Mul64
import Derived.Shelf.Strings.Repeat
import Derived.Shelf.Strings.BuilderCap
import Derived.Shelf.Slices.Equal
import Derived.Ground.Names2Prog
import Derived.Shelf.Slices.Clone
import Derived.Test.YtgdmjbcllgmepaaGreatDoorProg
import Derived.Below
import Derived.ProofKit
import Derived.Test.YtgdmjbcllgmepaaGreatDoorLrZ9
import Derived.Lib.AtoiErrMem
import Derived.Lib.SlicesS
set_option linter.unusedVariables false
set_option linter.unusedSimpArgs false
namespace Go.Proofs.YtgdmjbcllgmepaaGreatDoor.Ab
section
open Go Go.Proofs
set_option maxRecDepth 20000
set_option maxHeartbeats 4000000
def Xcy:List (Nat×TyRow):=[ty3,ty4,ty9,Xc3,Xha,Xc7,Xgy]
theorem XaU:By Tryz.prog Xcy:=By.of (by kernel_rfl)
theorem W0:Setup Tryz.prog Xcy:=⟨XaU,mixed⟩
def G6(h:B7)(b:ByteArray)(n:Nat)(p:Int):List ByteArray×List Int×Int×Bool:=
 if Dl h.version_ (h.base_+n) b p=true then([],[],p,true)
 else match A4 h.version_ (h.base_+n) b p with
  |(r,q,true)=>if p<q∧q≤b.size then(r::(G6 h b (n+1) q).1,p::(G6 h b (n+1) q).2.1,(G6 h b (n+1) q).2.2)else([],[],p,false)
  |_=>([],[],p,false)
termination_by (b.size - p).toNat
decreasing_by all_goals omega
def Cp(b:ByteArray):P3:=match Cm b with
 |(h,true)=>⟨true,h,(G6 h b 0 24).1,(G6 h b 0 24).2.1,(G6 h b 0 24).2.2.1,(G6 h b 0 24).2.2.2⟩
 |_=>⟨false,⟨0,0,0,0⟩,[],[],0,false⟩
theorem Ua{v n:Int}{r t:ByteArray}(e:Aw v n r=t)(h:t≠tx []):5≤t.size:=by
 unfold Aw at e
 split at e
 ·rename_i hh
  have h4:=Sh _ (Tc r)
  have h1:1≤(if v=2 then L4 n r.size else Ca r.size).size:=by
   split
   ·unfold L4
    rw[ByteArray.size_append,Sh _ (by omega)]
    omega
   ·unfold Ca
    rw[if_pos (by omega),B2]
    exact List.length_pos_iff.2 (Xbc _)
  rw[←e,ByteArray.size_append,ByteArray.size_append]
  omega
 ·exact absurd e.symm h
theorem G2{v n p q:Int}{b r:ByteArray}(h:A4 v n b p=(r,q,true)):0≤p∧p+5≤q∧q≤b.size∧r.size≤60∧(v=1∨v=2)∧0≤n∧n≤1000000000∧q=p+(Aw v n r).size∧Fg b p (Aw v n r)=true:=by
 have key:∀{x s:Int},0≤s→0≤x→Gw v n b p x s=(r,q,true)→0≤p∧p+5≤q∧q≤b.size∧r.size≤60∧(v=1∨v=2)∧0≤n∧n≤1000000000∧q=p+(Aw v n r).size∧Fg b p (Aw v n r)=true:=by
  intro x s hs hx e
  unfold Gw at e
  split at e
  ·rename_i hh
   obtain⟨h1,h2,h3,h4⟩:=hh
   simp only[Prod.mk.injEq,and_true]at e
   obtain⟨rfl,rfl⟩:=e
   have h5:=Ua rfl h3
   have h6:=of_decide_eq_true h4
   have h7:(b.extract s.toNat (s+x).toNat).size=x.toNat:=by rw[Rg (by omega) (by omega)];omega
   have h8:(v=1∨v=2)∧0≤n∧n≤1000000000:=by
    by_cases hh:(v=1∨v=2)∧0≤n∧n≤1000000000
    ·exact hh
    ·exact absurd (I1 hh) h3
   exact⟨h6.1.1,by omega,by omega,by omega,h8.1,h8.2.1,h8.2.2,rfl,h4⟩
  ·simp at e
 rcases h1:Bq b p 4 with⟨x,ok⟩
 rcases h2:Ce b p with⟨y,s,ok2⟩
 by_cases hv:v=2
 ·rw[I9 hv h1]at h
  cases ok
  ·simp at h
  ·have:=K7 h1
   exact key (by omega) (by omega) h
 ·rw[I3 hv h2]at h
  cases ok2
  ·simp at h
  ·have:=Kt h2
   exact key (by omega) (by omega) h
theorem Mv{h:B7}{b:ByteArray}{n:Nat}{p:Int}(hm:Dl h.version_ (h.base_+n) b p=true):G6 h b n p=([],[],p,true):=by rw[G6,if_pos hm]
theorem Mx{h:B7}{b:ByteArray}{n:Nat}{p:Int}{r:ByteArray}{q:Int}(hm:Dl h.version_ (h.base_+n) b p=false)(hf:A4 h.version_ (h.base_+n) b p=(r,q,false)):G6 h b n p=([],[],p,false):=by rw[G6,if_neg (by rw[hm];simp),hf]
theorem Mr{h:B7}{b:ByteArray}{n:Nat}{p:Int}{r:ByteArray}{q:Int}(hm:Dl h.version_ (h.base_+n) b p=false)(hf:A4 h.version_ (h.base_+n) b p=(r,q,true)):G6 h b n p=(r::(G6 h b (n+1) q).1,p::(G6 h b (n+1) q).2.1,(G6 h b (n+1) q).2.2):=by
 have:=G2 hf
 rw[G6,if_neg (by rw[hm];simp),hf]
 simp only[]
 rw[if_pos (by omega)]
variable {b:ByteArray} {ook omar:Bool} {oheaver oheastr oheabas ohealin oend:Int} {orec:List ByteArray} {xorec xooff:List (List D)} {ooff:List Int}
theorem Xdy(hs:b.size<2^47)(hr:Cp b=⟨ook,⟨oheaver,oheastr,oheabas,ohealin⟩,orec,ooff,oend,omar⟩)(horec:orec.map cS=xorec)(hooff:ooff.map cI=xooff):Fn Tryz.prog 199 [S b] [] ⟨.agg [B ook,I oheaver,I oheastr,I oheabas,I ohealin,.d (.row 1 xorec),.d (.row 1 xooff),I oend,B omar],[],[]⟩:=by
 refine Fn.go W0 Tryz.func199 fun P hP Q hQ=>?_
 conv=>cbv
 rcases ak:Cm b with⟨⟨aa,ac,ab,ad⟩,ap⟩
 refine .dd hP (XdO (by omega) ak) ?_
 conv=>cbv
 cases ap
 conv=>cbv
 have e:(⟨false,⟨0,0,0,0⟩,[],[],0,false⟩:P3)=Cp b:=(by unfold Cp;rw[ak])
 rw[hr]at e
 simp only[B7.mk.injEq,P3.mk.injEq]at e
 obtain⟨rfl,⟨rfl,rfl,rfl,rfl⟩,rfl,rfl,rfl,rfl⟩:=e
 exact hQ _ _ (.one (.inl rfl) rfl (.agg (.d rfl rfl (.d rfl rfl (.d rfl rfl (.d rfl rfl (.d rfl rfl (.ref rfl rfl (by rw[←horec];rfl) (.ref rfl rfl (by rw[←hooff];rfl) (.d rfl rfl (.d rfl rfl (.nil)))))))))) .nil))
 conv=>cbv
 refine LoopW.lp (κ:=Int×(List (List D))×Nat×(List (List D))×Nat) W0 hP [4,5] [0,2,3,5] (fun(ae,al,am,af,ag)=>[]) (fun(ae,al,am,af,ag)=>[(8,.box 115 [B true,I aa,I ac,I ab,I ad,.ref 9 0 am,.ref 10 0 ag,I ae,B false]),(9,.row 1 false al),(10,.row 1 false af)])
  (fun(ae,al,am,af,ag)=>∃(w9:List ByteArray) (ai:List Int),w9.map cS=al∧am=w9.length∧ai.map cI=af∧ag=ai.length∧(24≤ae∧ae≤b.size∧w9.length=ai.length∧5*(w9.length:Int)+24≤ae)∧G6 ⟨aa,ac,ab,ad⟩ b 0 24=(w9++(G6 ⟨aa,ac,ab,ad⟩ b w9.length ae).1,ai++(G6 ⟨aa,ac,ab,ad⟩ b w9.length ae).2.1,(G6 ⟨aa,ac,ab,ad⟩ b w9.length ae).2.2))
  (fun(ae,al,am,af,ag)=>(b.size - ae).toNat) (24,[],0,[],0) ⟨[],[],rfl,rfl,rfl,rfl,by have:=Hj ak;simp;omega,rfl⟩ trivial rfl ?_
 rintro⟨ae,al,am,af,ag⟩ J ⟨w9,ai,ao,a1,ah,aq,hb,hS⟩ hJ
 have hd:=Ka (Hj ak).2.2
 conv=>cbv
 refine .go fun v2 a4=>?_
 conv=>cbv
 refine .add fun v3 a5=>?_
 conv=>cbv
 have e3:v3=ab+(w9.length:Int):=by omega
 generalize aj:Dl aa v3 b ae=r4
 refine .dd hP (XgK (by omega) (by omega) aj) ?_
 cases r4
 conv=>cbv
 rcases an:A4 aa v3 b ae with⟨ar,au,aw⟩
 refine .dd hP (Xbr (by omega) (by omega) an) ?_
 conv=>cbv
 cases aw
 conv=>cbv
 have e:(⟨true,⟨aa,ac,ab,ad⟩,w9,ai,ae,false⟩:P3)=Cp b:=(by rw[e3]at aj an;unfold Cp;rw[ak];simp only[];rw[hS,Mx (h:=⟨aa,ac,ab,ad⟩) aj an];simp)
 rw[hr]at e
 simp only[B7.mk.injEq,P3.mk.injEq]at e
 obtain⟨rfl,⟨rfl,rfl,rfl,rfl⟩,rfl,rfl,rfl,rfl⟩:=e
 exact hQ _ _ (.one (.inl rfl) rfl (.agg (.d rfl rfl (.d rfl rfl (.d rfl rfl (.d rfl rfl (.d rfl rfl (.ref rfl (by rw[←ao,List.length_map];first|omega|(simp;omega)) (by rw[←ao,←horec]) (.ref rfl (by rw[←ah,List.length_map];first|omega|(simp;omega)) (by rw[←ah,←hooff]) (.d rfl rfl (.d rfl rfl (.nil)))))))))) .nil))
 conv=>cbv
 have hf:=G2 an
 refine .one ar ao rfl fun ax z6 a2 ay=>?_
 conv=>cbv
 refine .one ae ah rfl fun az z7 a3 a0=>?_
 conv=>cbv
 exact .go [12,14] (au,z6,ax,z7,az) (hJ _ ⟨_,_,ay,Q7,a0,Q7,by simp;omega,by rw[e3]at aj an;rw[hS,Mr (h:=⟨aa,ac,ab,ad⟩) aj an];simp[List.append_assoc]⟩ mlt)
 conv=>cbv
 have e:(⟨true,⟨aa,ac,ab,ad⟩,w9,ai,ae,true⟩:P3)=Cp b:=(by rw[e3]at aj;unfold Cp;rw[ak];simp only[];rw[hS,Mv (h:=⟨aa,ac,ab,ad⟩) aj];simp)
 rw[hr]at e
 simp only[B7.mk.injEq,P3.mk.injEq]at e
 obtain⟨rfl,⟨rfl,rfl,rfl,rfl⟩,rfl,rfl,rfl,rfl⟩:=e
 exact hQ _ _ (.one (.inl rfl) rfl (.agg (.d rfl rfl (.d rfl rfl (.d rfl rfl (.d rfl rfl (.d rfl rfl (.ref rfl (by rw[←ao,List.length_map];first|omega|(simp;omega)) (by rw[←ao,←horec]) (.ref rfl (by rw[←ah,List.length_map];first|omega|(simp;omega)) (by rw[←ah,←hooff]) (.d rfl rfl (.d rfl rfl (.nil)))))))))) .nil))
theorem Xdm(hs:b.size<2^47)(hr:Cp b=⟨ook,⟨oheaver,oheastr,oheabas,ohealin⟩,orec,ooff,oend,omar⟩)(horec:orec.map cS=xorec)(hooff:ooff.map cI=xooff):Fn Tryz.prog 190 [S b] [] ⟨.agg [B ook,I oheaver,I oheastr,I oheabas,I ohealin,.d (.row 1 xorec),.d (.row 1 xooff),I oend,B omar],[],[]⟩:=by
 refine Fn.go W0 Tryz.func190 fun P hP Q hQ=>?_
 conv=>cbv
 rcases ak:Cm b with⟨⟨aa,ac,ab,ad⟩,ap⟩
 refine .dd hP (Xdl (by omega) ak) ?_
 conv=>cbv
 cases ap
 conv=>cbv
 have e:(⟨false,⟨0,0,0,0⟩,[],[],0,false⟩:P3)=Cp b:=(by unfold Cp;rw[ak])
 rw[hr]at e
 simp only[B7.mk.injEq,P3.mk.injEq]at e
 obtain⟨rfl,⟨rfl,rfl,rfl,rfl⟩,rfl,rfl,rfl,rfl⟩:=e
 exact hQ _ _ (.one (.inl rfl) rfl (.agg (.d rfl rfl (.d rfl rfl (.d rfl rfl (.d rfl rfl (.d rfl rfl (.ref rfl rfl (by rw[←horec];rfl) (.ref rfl rfl (by rw[←hooff];rfl) (.d rfl rfl (.d rfl rfl (.nil)))))))))) .nil))
 conv=>cbv
 refine LoopW.lp (κ:=Int×(List (List D))×Nat×(List (List D))×Nat) W0 hP [4,5] [0,2,3,5] (fun(ae,al,am,af,ag)=>[]) (fun(ae,al,am,af,ag)=>[(8,.box 115 [B true,I aa,I ac,I ab,I ad,.ref 9 0 am,.ref 10 0 ag,I ae,B false]),(9,.row 1 false al),(10,.row 1 false af)])
  (fun(ae,al,am,af,ag)=>∃(w9:List ByteArray) (ai:List Int),w9.map cS=al∧am=w9.length∧ai.map cI=af∧ag=ai.length∧(24≤ae∧ae≤b.size∧w9.length=ai.length∧5*(w9.length:Int)+24≤ae)∧G6 ⟨aa,ac,ab,ad⟩ b 0 24=(w9++(G6 ⟨aa,ac,ab,ad⟩ b w9.length ae).1,ai++(G6 ⟨aa,ac,ab,ad⟩ b w9.length ae).2.1,(G6 ⟨aa,ac,ab,ad⟩ b w9.length ae).2.2))
  (fun(ae,al,am,af,ag)=>(b.size - ae).toNat) (24,[],0,[],0) ⟨[],[],rfl,rfl,rfl,rfl,by have:=Hj ak;simp;omega,rfl⟩ trivial rfl ?_
 rintro⟨ae,al,am,af,ag⟩ J ⟨w9,ai,ao,a1,ah,aq,hb,hS⟩ hJ
 have hd:=Ka (Hj ak).2.2
 conv=>cbv
 refine .go fun v2 a4=>?_
 conv=>cbv
 refine .add fun v3 a5=>?_
 conv=>cbv
 have e3:v3=ab+(w9.length:Int):=by omega
 generalize aj:Dl aa v3 b ae=r4
 refine .dd hP (Xgj (by omega) (by omega) aj) ?_
 cases r4
 conv=>cbv
 rcases an:A4 aa v3 b ae with⟨ar,au,aw⟩
 refine .dd hP (Xa0 (by omega) (by omega) an) ?_
 conv=>cbv
 cases aw
 conv=>cbv
 have e:(⟨true,⟨aa,ac,ab,ad⟩,w9,ai,ae,false⟩:P3)=Cp b:=(by rw[e3]at aj an;unfold Cp;rw[ak];simp only[];rw[hS,Mx (h:=⟨aa,ac,ab,ad⟩) aj an];simp)
 rw[hr]at e
 simp only[B7.mk.injEq,P3.mk.injEq]at e
 obtain⟨rfl,⟨rfl,rfl,rfl,rfl⟩,rfl,rfl,rfl,rfl⟩:=e
 exact hQ _ _ (.one (.inl rfl) rfl (.agg (.d rfl rfl (.d rfl rfl (.d rfl rfl (.d rfl rfl (.d rfl rfl (.ref rfl (by rw[←ao,List.length_map];first|omega|(simp;omega)) (by rw[←ao,←horec]) (.ref rfl (by rw[←ah,List.length_map];first|omega|(simp;omega)) (by rw[←ah,←hooff]) (.d rfl rfl (.d rfl rfl (.nil)))))))))) .nil))
 conv=>cbv
 have hf:=G2 an
 refine .one ar ao rfl fun ax z6 a2 ay=>?_
 conv=>cbv
 refine .one ae ah rfl fun az z7 a3 a0=>?_
 conv=>cbv
 exact .go [12,14] (au,z6,ax,z7,az) (hJ _ ⟨_,_,ay,Q7,a0,Q7,by simp;omega,by rw[e3]at aj an;rw[hS,Mr (h:=⟨aa,ac,ab,ad⟩) aj an];simp[List.append_assoc]⟩ mlt)
 conv=>cbv
 have e:(⟨true,⟨aa,ac,ab,ad⟩,w9,ai,ae,true⟩:P3)=Cp b:=(by rw[e3]at aj;unfold Cp;rw[ak];simp only[];rw[hS,Mv (h:=⟨aa,ac,ab,ad⟩) aj];simp)
 rw[hr]at e
 simp only[B7.mk.injEq,P3.mk.injEq]at e
 obtain⟨rfl,⟨rfl,rfl,rfl,rfl⟩,rfl,rfl,rfl,rfl⟩:=e
 exact hQ _ _ (.one (.inl rfl) rfl (.agg (.d rfl rfl (.d rfl rfl (.d rfl rfl (.d rfl rfl (.d rfl rfl (.ref rfl (by rw[←ao,List.length_map];first|omega|(simp;omega)) (by rw[←ao,←horec]) (.ref rfl (by rw[←ah,List.length_map];first|omega|(simp;omega)) (by rw[←ah,←hooff]) (.d rfl rfl (.d rfl rfl (.nil)))))))))) .nil))
end
section
open Go Go.Proofs
set_option maxRecDepth 20000
set_option maxHeartbeats 4000000
def Xb5:List (Nat×TyRow):=[ty3,ty9,Xha,XiV,Xhu,XiE]
theorem Xa3:By Tryz.prog Xb5:=By.of (by kernel_rfl)
theorem H7:Setup Tryz.prog Xb5:=⟨Xa3,mixed⟩
def Xdd(s:Nat)(offs:List Int)(n:Nat):List Gn:=((List.range n).filter (fun i=>i% s=0)).map (fun(i:Nat)=>⟨(i:Int),offs.getD i 0⟩)
def Ck(stride:Int)(offs:List Int):List Gn:=if stride<1 then[]else Xdd stride.toNat offs offs.length
theorem O5{s n:Nat}{offs:List Int}:Xdd s offs (n+1)=Xdd s offs n++(if n% s=0 then[⟨(n:Int),offs.getD n 0⟩]else[]):=by
 unfold Xdd
 rw[List.range_succ,List.filter_append,List.map_append]
 congr 1
 by_cases h:n% s=0<;>simp[h]
theorem W6{s n:Nat}{offs:List Int}:(Xdd s offs n).length≤n:=by
 unfold Xdd
 rw[List.length_map]
 exact Nat.le_trans (List.length_filter_le _ _) (by simp)
theorem Xd{s k:Nat}{offs:List Int}(hk:k% s=0):∀(d:Nat),d<s→Xdd s offs (k+1+d)=Xdd s offs k++[⟨(k:Int),offs.getD k 0⟩]
 |0,_=>by rw[Nat.add_zero,O5,if_pos hk]
 |d+1,h=>by
  rw[←Nat.add_assoc,O5,Xd hk d (by omega),if_neg,List.append_nil]
  have:k+1+d=k+(d+1):=by omega
  rw[this,Nat.add_mod,hk,Nat.zero_add,Nat.mod_mod,Nat.mod_eq_of_lt h]
  omega
theorem XaY{l:List Int}{k:Nat}(h:k<l.length):l[k]=l.getD k 0:=by rw[List.getD_eq_getElem?_getD,List.getElem?_eq_getElem h];rfl
def Ge(a b:Int):ByteArray:=if b≤a∧a - b≤1000000000 then Ca (a - b)else tx []
theorem Rb{a b:Int}{o:ByteArray}(h:Ge a b=o):o.size≤5:=by
 rw[←h]
 unfold Ge
 split
 ·exact Hc _
 ·simp[B2]
def Gv(a b:Int):Int:=if b≤a∧a - b<9223372036854775808 then a - b else -1
theorem U0(a b:Int):Ca (Gv a b)=Ge a b:=by
 unfold Gv Ge
 by_cases h:b≤a∧a - b≤1000000000
 ·rw[if_pos h,if_pos (by omega)]
 ·rw[if_neg h]
  unfold Ca
  split
  ·rw[if_neg (by omega)]
  ·rfl
def Ib:Int×Int→List Gn→Option ByteArray
 |_,[]=>some (tx [])
 |q,p::l=>if Ge p.count_ q.1=tx []∨Ge p.at_ q.2=tx []then none else(Ib (p.count_,p.at_) l).map fun t=>(Ge p.count_ q.1++Ge p.at_ q.2)++t
def Bx(l:List Gn):ByteArray:=match Ib (0,0) l with
 |some t=>Ca l.length++t
 |none=>tx []
theorem S2:∀{l:List Gn} {q:Int×Int} {t:ByteArray},Ib q l=some t→t.size≤10*l.length
 |[],q,t,h=>by cases h;simp[B2]
 |p::l,q,t,h=>by
  simp only[Ib]at h
  split at h
  ·cases h
  ·obtain⟨u,hu,rfl⟩:=Option.map_eq_some_iff.1 h
   have:=S2 hu
   have h1:=Rb (rfl:Ge p.count_ q.1=_)
   have h2:=Rb (rfl:Ge p.at_ q.2=_)
   rw[ByteArray.size_append,ByteArray.size_append,List.length_cons]
   omega
theorem Ni(l:List Gn):(Bx l).size≤5+10*l.length:=by
 unfold Bx
 split
 ·rename_i t h
  have h1:=S2 h
  have h2:=Hc l.length
  rw[ByteArray.size_append]
  omega
 ·simp[B2]
theorem Oa{l:List Gn}{o:ByteArray}(h:Bx l=o):o.size≤5+10*l.length:=by rw[←h];exact Ni l
theorem Xed(s:ByteArray):tx []++s=s:=by rw[←V9 s,Dh];rfl
theorem Wz(s:ByteArray):s++tx []=s:=by rw[←V9 s,Dh,List.append_nil]
theorem Xbh{n w:Int}(h:Az n w≠tx []):(Az n w).size=w.toNat:=by
 by_cases hh:0≤n∧1≤w∧w≤8∧n.toNat/2^ (8*w.toNat)=0
 ·exact O8 hh
 ·exact absurd (if_neg hh) h
def wfPl(l:List Gn):Prop:=∀p∈l,wfI p.count_∧wfI p.at_
def H8(acc:ByteArray):List Int→Option ByteArray
 |[]=>some acc
 |x::l=>if Az x 4=tx []then none else H8 (acc++Az x 4) l
def Bj(a b c d:Int):ByteArray:=match H8 (tx []) [a,b,c,d]with
 |some t=>t++tx [73,68,88,33]
 |none=>tx []
theorem Sf:∀{l:List Int} {acc t:ByteArray},H8 acc l=some t→t.size≤acc.size+8*l.length
 |[],acc,t,h=>by cases h;simp
 |x::l,acc,t,h=>by
  simp only[H8]at h
  split at h
  ·cases h
  ·have:=Sf h
   have h1:=@D9 x 4
   rw[ByteArray.size_append]at this
   rw[List.length_cons]
   omega
theorem Ga{a b c d:Int}{o:ByteArray}(h:Bj a b c d=o):o.size≤36:=by
 rw[←h]
 unfold Bj
 split
 ·rename_i t ht
  have:=Sf ht
  simp only[B2,List.length_cons,List.length_nil]at this
  rw[ByteArray.size_append,B2]
  simp only[List.length_cons,List.length_nil]
  omega
 ·simp[B2]
theorem Zx:∀{l:List Int} {acc t:ByteArray},H8 acc l=some t→t.size=acc.size+4*l.length
 |[],acc,t,h=>by cases h;simp
 |x::l,acc,t,h=>by
  simp only[H8]at h
  split at h
  ·cases h
  ·rename_i hx
   have:=Zx h
   have h1:=Xbh hx
   rw[ByteArray.size_append,h1]at this
   rw[List.length_cons,this]
   simp
   omega
theorem L6{a b c d:Int}(h:Bj a b c d≠tx []):(Bj a b c d).size=20:=by
 unfold Bj at h⊢
 split
 ·rename_i t ht
  have:=Zx ht
  simp only[B2,List.length_cons,List.length_nil]at this
  rw[ByteArray.size_append,B2,this]
  rfl
 ·rename_i ht
  rw[ht]at h
  exact absurd rfl h
def Br(h:B7)(offs:List Int)(fin:Int):ByteArray:=
 if Ct h=true∧Cc h.version_ (h.base_+offs.length)≠tx []∧Bx (Ck h.stride_ offs)≠tx []∧Bj fin offs.length h.stride_ 0≠tx []then
  (Cc h.version_ (h.base_+offs.length)++Bx (Ck h.stride_ offs))++Bj fin offs.length h.stride_ (Ey ((Cc h.version_ (h.base_+offs.length)++Bx (Ck h.stride_ offs))++(Bj fin offs.length h.stride_ 0).extract 0 12))else tx []
theorem K0{s:Int}{offs:List Int}:(Ck s offs).length≤offs.length:=by
 unfold Ck
 split
 ·simp
 ·exact W6
theorem Qw{s:Int}{offs:List Int}(h:∀x∈offs,wfI x)(hl:offs.length<2^40):wfPl (Ck s offs):=by
 unfold Ck
 split
 ·intro p hp;simp at hp
 ·intro p hp
  unfold Xdd at hp
  obtain⟨i,hi,rfl⟩:=List.mem_map.1 hp
  have aa:=List.mem_range.1 (List.mem_filter.1 hi).1
  refine⟨⟨by show -9223372036854775808≤(i:Int);omega,by show(i:Int)<9223372036854775808;omega⟩,?_⟩
  show wfI (offs.getD i 0)
  rw[←XaY aa]
  exact h _ (List.getElem_mem aa)
theorem Zs(h:B7)(offs:List Int)(fin:Int):(Br h offs fin).size≤57+10*offs.length:=by
 unfold Br
 split
 ·rw[ByteArray.size_append,ByteArray.size_append]
  have h1:=Kf (rfl:Cc h.version_ (h.base_+offs.length)=_)
  have h2:=Ni (Ck h.stride_ offs)
  have h3:=@K0 h.stride_ offs
  have h4:=Ga (rfl:Bj fin offs.length h.stride_ (Ey ((Cc h.version_ (h.base_+offs.length)++Bx (Ck h.stride_ offs))++(Bj fin offs.length h.stride_ 0).extract 0 12))=_)
  omega
 ·simp[B2]
variable {stride mark count sum a b:Int} {offs:List Int} {xoffs xo:List (List D)} {o:ByteArray}
theorem Xdp{o:List Gn}(hoffs:offs.map cI=xoffs)(hl:offs.length<2^40)(hr:Ck stride offs=o)(ho:o.map Qz=xo):Fn Tryz.prog 287 [I stride,.d (.row 1 xoffs)] [] ⟨.d (.row 2 xo),[],[]⟩:=by
 refine Fn.go H7 Tryz.func287 fun P hP Q hQ=>?_
 conv=>cbv
 refine LoopW.lp (κ:=Int×(List (List D))×Nat) H7 hP [1] [0,1] (fun(i6,aa,ab)=>[(5,.ref 2 0 ab),(6,I i6)]) (fun(i6,aa,ab)=>[(2,.row 2 false aa)])
  (fun(i6,aa,ab)=>∃(w2:List Gn),w2.map Qz=aa∧ab=w2.length∧∃k:Nat,i6=(k:Int)∧k≤offs.length∧(1≤stride∨k=0)∧w2=Xdd stride.toNat offs k)
  (fun(i6,aa,ab)=>(offs.length - i6).toNat) (0,[],0) ⟨[],rfl,rfl,0,rfl,by omega,by omega,by simp[Xdd]⟩ ⟨rfl,rfl,trivial⟩ rfl ?_
 rintro⟨i6,aa,ab⟩ J ⟨w2,ac,ah,k,hi,hk,hs,hw⟩ hJ
 have hwl:w2.length≤k:=by rw[hw];exact W6
 conv=>cbv
 refine .go hoffs fun v1 ak=>?_
 conv=>cbv
 refine .lss (fun h2=>?_) fun h2=>?_
 conv=>cbv
 refine .geq (fun h3=>?_) fun h3=>?_
 conv=>cbv
 refine .rem fun v4 ad=>?_
 conv=>cbv
 refine .eql (fun h5=>?_) fun h5=>?_
 conv=>cbv
 refine .go i6.toNat hoffs fun ai e6 ae=>?_
 conv=>cbv
 have em0:((k% stride.toNat:Nat):Int)=0:=by rw[Int.natCast_emod,Int.toNat_of_nonneg (by omega),←hi,←ad];exact h5
 have em:k% stride.toNat=0:=by omega
 have e1:(⟨i6,e6⟩:Gn)=⟨(k:Int),offs.getD k 0⟩:=by rw[ae,XaY];simp only[hi,Int.toNat_natCast]
 refine .one (⟨i6,e6⟩:Gn) ac rfl fun af z7 aj ag=>?_
 conv=>cbv
 refine .add fun v8 al=>?_
 conv=>cbv
 exact .go [4] (v8,z7,af) (hJ _ ⟨_,ag,Q7,k+1,by omega,by omega,by omega,by rw[O5,if_pos em,hw,e1]⟩ mlt)
 conv=>cbv
 have em:¬k% stride.toNat=0:=by intro e;refine h5 ?_;rw[ad,hi,show stride=((stride.toNat:Nat):Int)by omega,←Int.natCast_emod,e];rfl
 refine .add fun v6 am=>?_
 conv=>cbv
 exact .go [2] (v6,aa,ab) (hJ _ ⟨_,ac,Q7,k+1,by omega,by omega,by omega,by rw[O5,if_neg em,hw];simp⟩ mlt)
 conv=>cbv
 have e:w2=Ck stride offs:=(by rw[hw,show k=0 by omega];unfold Ck;rw[if_pos (by omega)];rfl)
 rw[hr]at e
 subst e
 exact hQ _ _ (.r rfl rfl (by rw[←ac,List.length_map];first|omega|(simp;omega)) (by rw[←ac,←ho]))
 conv=>cbv
 have e:w2=Ck stride offs:=(by rw[hw];unfold Ck;split;rw[show k=0 by omega];rfl;rw[show k=offs.length by omega])
 rw[hr]at e
 subst e
 exact hQ _ _ (.r rfl rfl (by rw[←ac,List.length_map];first|omega|(simp;omega)) (by rw[←ac,←ho]))
theorem Xdt{o:List Gn}(hoffs:offs.map cI=xoffs)(hl:offs.length<2^40)(hr:Ck stride offs=o)(ho:o.map Qz=xo):Fn Tryz.prog 292 [I stride,.d (.row 1 xoffs)] [] ⟨.d (.row 2 xo),[],[]⟩:=by
 refine Fn.go H7 Tryz.func292 fun P hP Q hQ=>?_
 conv=>cbv
 refine .lss (fun h1=>?_) fun h1=>?_
 conv=>cbv
 have e:[]=Ck stride offs:=(by unfold Ck;rw[if_pos (by omega)])
 rw[hr]at e
 subst e
 exact hQ _ _ (.r rfl rfl rfl (by rw[←ho];rfl))
 conv=>cbv
 refine LoopW.lp (κ:=Int×(List (List D))×Nat) H7 hP [1] [0,1] (fun(i6,aa,ab)=>[(5,.ref 2 0 ab),(6,I i6)]) (fun(i6,aa,ab)=>[(2,.row 2 false aa)])
  (fun(i6,aa,ab)=>∃(w2:List Gn),w2.map Qz=aa∧ab=w2.length∧∃k:Nat,i6=(k:Int)∧k≤offs.length∧k% stride.toNat=0∧w2=Xdd stride.toNat offs k)
  (fun(i6,aa,ab)=>(offs.length - i6).toNat) (0,[],0) ⟨[],rfl,rfl,0,rfl,by omega,by simp,by simp[Xdd]⟩ ⟨rfl,rfl,trivial⟩ rfl ?_
 rintro⟨i6,aa,ab⟩ J ⟨w2,ac,ag,k,hi,hk,hs,hw⟩ hJ
 have hwl:w2.length≤k:=by rw[hw];exact W6
 conv=>cbv
 refine .go hoffs fun v2 aj=>?_
 conv=>cbv
 refine .lss (fun h3=>?_) fun h3=>?_
 conv=>cbv
 refine .go i6.toNat hoffs fun ah e4 ae=>?_
 conv=>cbv
 have e1:(⟨i6,e4⟩:Gn)=⟨(k:Int),offs.getD k 0⟩:=by rw[ae,XaY];simp only[hi,Int.toNat_natCast]
 refine .one (⟨i6,e4⟩:Gn) ac rfl fun af z5 ai ad=>?_
 conv=>cbv
 refine .go hoffs fun v6 ak=>?_
 conv=>cbv
 refine .sub fun v7 al=>?_
 conv=>cbv
 refine .gtr (fun h8=>?_) fun h8=>?_
 conv=>cbv
 have e:(w2++[(⟨i6,e4⟩:Gn)])=Ck stride offs:=(by unfold Ck;rw[if_neg (by omega),show offs.length=k+1+(offs.length - 1 - k)by omega,Xd hs _ (by omega),hw,e1])
 rw[hr]at e
 subst e
 exact hQ _ _ (.r rfl rfl (by rw[←ad,List.length_map];first|omega|(simp;omega)) (by rw[←ad,←ho]))
 conv=>cbv
 refine .add fun v9 am=>?_
 conv=>cbv
 exact .go [4] (v9,z5,af) (hJ _ ⟨_,ad,Q7,k+stride.toNat,by omega,by omega,by rw[Nat.add_mod_right];exact hs,by rw[show k+stride.toNat=k+1+(stride.toNat - 1)by omega,Xd hs _ (by omega),hw,e1]⟩ mlt)
 conv=>cbv
 have e:w2=Ck stride offs:=(by unfold Ck;rw[if_neg (by omega),hw,show k=offs.length by omega])
 rw[hr]at e
 subst e
 exact hQ _ _ (.r rfl rfl (by rw[←ac,List.length_map];first|omega|(simp;omega)) (by rw[←ac,←ho]))
theorem Pa(k1:mark<9223372036854775808)(k2:count<9223372036854775808)(k3:stride<9223372036854775808)(k4:sum<9223372036854775808)(hr:Bj mark count stride sum=o):Fn Tryz.prog 293 [I mark,I count,I stride,I sum] [] ⟨S o,[],[]⟩:=by
 refine Fn.go H7 Tryz.func293 fun P hP Q hQ=>?_
 conv=>cbv
 refine .go fun v1 ah=>?_
 conv=>cbv
 refine LoopW.lp (κ:=ByteArray×Int) H7 hP [] [17,18] (fun(s9,aa)=>[(9,S s9),(19,I aa)]) (fun(s9,aa)=>[])
  (fun(s9,aa)=>∃k:Nat,aa=(k:Int)∧k≤4∧s9.size≤8*k∧H8 (tx []) [mark,count,stride,sum]=H8 s9 ([mark,count,stride,sum].drop k))
  (fun(s9,aa)=>(4 - aa).toNat) (tx [],0) ⟨0,rfl,by omega,by simp[B2],rfl⟩ ⟨rfl,rfl,trivial⟩ rfl ?_
 rintro⟨s9,aa⟩ J ⟨k,hi,hk,hz,hf⟩ hJ
 conv=>cbv
 refine .lss (fun h2=>?_) fun h2=>?_
 conv=>cbv
 refine .go aa.toNat fun p3 ai af=>?_
 conv=>cbv
 refine .go (l:=[mark,count,stride,sum]) (c:=cI) rfl fun ag e4 ac=>?_
 conv=>cbv
 have eE:[mark,count,stride,sum][k]'(by simp;omega)=e4:=by rw[ac];congr 1;omega
 have hE:e4<9223372036854775808:=by
  rw[←eE]
  have aj:k<4:=by omega
  rcases k with _|_|_|_|k
  ·exact k1
  ·exact k2
  ·exact k3
  ·exact k4
  ·omega
 generalize ab:Az e4 4=r5
 have zr5:=Bu ab
 refine .dd hP (Ek (by omega) ab) ?_
 conv=>cbv
 refine .eql (fun h6=>?_) fun h6=>?_
 conv=>cbv
 have e:(tx [])=Bj mark count stride sum:=(by unfold Bj;rw[hf,List.drop_eq_getElem_cons (by simp;omega)];simp only[H8];rw[eE,if_pos (by rw[ab];exact h6)])
 rw[hr]at e
 subst e
 exact hQ _ _ (.s rfl rfl)
 conv=>cbv
 refine .go fun s7 ad ak=>?_
 conv=>cbv
 refine .add fun v8 al=>?_
 conv=>cbv
 exact .go [] (s7,v8) (hJ _ ⟨k+1,by omega,by omega,by omega,by rw[hf,List.drop_eq_getElem_cons (by simp;omega)];simp only[H8];rw[eE,if_neg];rw[ad];rw[ab];exact fun e=>h6 (ab.symm.trans e)⟩ mlt)
 conv=>cbv
 refine .litR 4 fun s3 ae am=>?_
 conv=>cbv
 have e:s3=Bj mark count stride sum:=(by unfold Bj;rw[hf,List.drop_of_length_le (by simp;omega)];simp only[H8];exact ae)
 rw[hr]at e
 subst e
 exact hQ _ _ (.s rfl rfl)
theorem On(k1:mark<9223372036854775808)(k2:count<9223372036854775808)(k3:stride<9223372036854775808)(k4:sum<9223372036854775808)(hr:Bj mark count stride sum=o):Fn Tryz.prog 288 [I mark,I count,I stride,I sum] [] ⟨S o,[],[]⟩:=by
 refine Fn.go H7 Tryz.func288 fun P hP Q hQ=>?_
 conv=>cbv
 refine LoopW.lp (κ:=ByteArray×Int) H7 hP [] [10] (fun(s9,aa)=>[(9,S s9),(11,I aa)]) (fun(s9,aa)=>[])
  (fun(s9,aa)=>∃k:Nat,aa=(k:Int)∧k≤4∧s9.size≤8*k∧H8 (tx []) [mark,count,stride,sum]=H8 s9 ([mark,count,stride,sum].drop k))
  (fun(s9,aa)=>(4 - aa).toNat) (tx [],0) ⟨0,rfl,by omega,by simp[B2],rfl⟩ ⟨rfl,rfl,trivial⟩ rfl ?_
 rintro⟨s9,aa⟩ J ⟨k,hi,hk,hz,hf⟩ hJ
 conv=>cbv
 refine .lss (fun h1=>?_) fun h1=>?_
 conv=>cbv
 refine .go aa.toNat fun p2 ah af=>?_
 conv=>cbv
 refine .go (l:=[mark,count,stride,sum]) (c:=cI) rfl fun ag e3 ac=>?_
 conv=>cbv
 have eE:[mark,count,stride,sum][k]'(by simp;omega)=e3:=by rw[ac];congr 1;omega
 have hE:e3<9223372036854775808:=by
  rw[←eE]
  have ai:k<4:=by omega
  rcases k with _|_|_|_|k
  ·exact k1
  ·exact k2
  ·exact k3
  ·exact k4
  ·omega
 generalize ab:Az e3 4=r4
 have zr4:=Bu ab
 refine .dd hP (D7 (by omega) ab) ?_
 conv=>cbv
 refine .eql (fun h5=>?_) fun h5=>?_
 conv=>cbv
 have e:(tx [])=Bj mark count stride sum:=(by unfold Bj;rw[hf,List.drop_eq_getElem_cons (by simp;omega)];simp only[H8];rw[eE,if_pos (by rw[ab];exact h5)])
 rw[hr]at e
 subst e
 exact hQ _ _ (.s rfl rfl)
 conv=>cbv
 refine .go fun s6 ad aj=>?_
 conv=>cbv
 refine .add fun v7 ak=>?_
 conv=>cbv
 exact .go [] (s6,v7) (hJ _ ⟨k+1,by omega,by omega,by omega,by rw[hf,List.drop_eq_getElem_cons (by simp;omega)];simp only[H8];rw[eE,if_neg];rw[ad];rw[ab];exact fun e=>h5 (ab.symm.trans e)⟩ mlt)
 conv=>cbv
 refine .litR 4 fun s2 ae al=>?_
 conv=>cbv
 have e:s2=Bj mark count stride sum:=(by unfold Bj;rw[hf,List.drop_of_length_le (by simp;omega)];simp only[H8];exact ae)
 rw[hr]at e
 subst e
 exact hQ _ _ (.s rfl rfl)
theorem Zo{o:Int}(ha:wfI a)(hb:wfI b)(hr:Gv a b=o):Fn Tryz.prog 325 [I a,I b] [] ⟨I o,[],[]⟩:=by
 refine Fn.go H7 Tryz.func325 fun P hP Q hQ=>?_
 conv=>cbv
 refine .subW fun v1 aa=>?_
 conv=>cbv
 refine .lss (fun h2=>?_) fun h2=>?_
 conv=>cbv
 have e:(-1)=Gv a b:=(by unfold Gv;rw[Kb]at aa;obtain⟨ab,ac⟩:=ha;obtain⟨ad,hb2⟩:=hb;rw[if_neg (by omega)])
 rw[hr]at e
 subst e
 exact hQ _ _ (.i rfl rfl)
 conv=>cbv
 refine .lss (fun h3=>?_) fun h3=>?_
 conv=>cbv
 have e:(-1)=Gv a b:=(by unfold Gv;rw[Kb]at aa;obtain⟨ab,ac⟩:=ha;obtain⟨ad,hb2⟩:=hb;rw[if_neg (by omega)])
 rw[hr]at e
 subst e
 exact hQ _ _ (.i rfl rfl)
 conv=>cbv
 have e:v1=Gv a b:=(by unfold Gv;rw[Kb]at aa;obtain⟨ab,ac⟩:=ha;obtain⟨ad,hb2⟩:=hb;rw[if_pos (by omega)];omega)
 rw[hr]at e
 subst e
 exact hQ _ _ (.i rfl rfl)
theorem XfL(ha:wfI a)(hb:wfI b)(hr:Ge a b=o):Fn Tryz.prog 327 [I a,I b] [] ⟨S o,[],[]⟩:=by
 refine Fn.go H7 Tryz.func327 fun P hP Q hQ=>?_
 conv=>cbv
 refine .lss (fun h1=>?_) fun h1=>?_
 conv=>cbv
 have e:(tx [])=Ge a b:=(by unfold Ge;rw[if_neg (by omega)])
 rw[hr]at e
 subst e
 exact hQ _ _ (.s rfl rfl)
 conv=>cbv
 refine .go fun v2 ab=>?_
 conv=>cbv
 refine .go fun v3 ac=>?_
 conv=>cbv
 refine .subW fun v4 ad=>?_
 conv=>cbv
 have e4:v4=a - b:=by rw[ad,ab,ac,Fl,Fl,Fl];obtain⟨af,ag⟩:=ha;obtain⟨ah,hb2⟩:=hb;omega
 refine .gtr (fun h5=>?_) fun h5=>?_
 conv=>cbv
 have e:(tx [])=Ge a b:=(by unfold Ge;rw[if_neg (by omega)])
 rw[hr]at e
 subst e
 exact hQ _ _ (.s rfl rfl)
 conv=>cbv
 refine .sub fun v6 ae=>?_
 conv=>cbv
 generalize aa:Ca v6=r7
 have zr7:=Gl aa
 refine .dd hP (S5 aa) ?_
 conv=>cbv
 have e:r7=Ge a b:=(by unfold Ge;rw[if_pos (by omega),←aa,ae])
 rw[hr]at e
 subst e
 exact hQ _ _ (.s rfl rfl)
theorem Y8{l:List Gn}{xl:List (List D)}(hl:l.map Qz=xl)(hn:l.length<2^40)(hw:wfPl l)(hr:Bx l=o):Fn Tryz.prog 286 [.d (.row 2 xl)] [] ⟨S o,[],[]⟩:=by
 refine Fn.go H7 Tryz.func286 fun P hP Q hQ=>?_
 conv=>cbv
 refine .go hl fun v1 ao=>?_
 conv=>cbv
 generalize ae:Ca v1=r2
 have zr2:=Gl ae
 refine .dd hP (Mk ae) ?_
 conv=>cbv
 refine LoopW.lp (κ:=ByteArray×Int×Int×Int) H7 hP [] [0,4] (fun(s3,i5,ab,ac)=>[(3,S s3),(5,I i5)]) (fun(s3,i5,ab,ac)=>[(0,.box 253 [I ab,I ac])])
  (fun(s3,i5,ab,ac)=>∃(k:Nat) (pr:ByteArray),i5=(k:Int)∧k≤l.length∧s3=Ca l.length++pr∧pr.size≤10*k∧wfI ab∧wfI ac∧Ib (0,0) l=(Ib (ab,ac) (l.drop k)).map fun t=>pr++t)
  (fun(s3,i5,ab,ac)=>(l.length - i5).toNat) (r2,0,0,0) ⟨0,tx [],rfl,by omega,by rw[←ae,ao,Wz],by simp[B2],by constructor<;>omega,by constructor<;>omega,by simp[Xed]⟩ ⟨rfl,rfl,trivial⟩ rfl ?_
 rintro⟨s3,i5,ab,ac⟩ J ⟨k,pr,hi,hk,hs,hz,hwa,hwb,hp⟩ hJ
 have ay:s3.size≤5+10*k:=by rw[hs,ByteArray.size_append];have:=Hc l.length;omega
 conv=>cbv
 refine .go hl fun v3 az=>?_
 conv=>cbv
 refine .lss (fun h4=>?_) fun h4=>?_
 conv=>cbv
 refine .go i5.toNat hl fun ar ⟨aa,ad⟩ ah=>?_
 conv=>cbv
 have hkl:k<l.length:=by omega
 have hd:l.drop k=⟨aa,ad⟩::l.drop (k+1):=by rw[List.drop_eq_getElem_cons hkl,ah];congr 2;omega
 obtain⟨ai,aj⟩:=hw ⟨aa,ad⟩ (by rw[ah];exact List.getElem_mem _)
 simp only[]at ai aj
 generalize ak:Gv aa ab=r6
 refine .dd hP (Zo (by assumption) (by assumption) ak) ?_
 conv=>cbv
 generalize af:Ca r6=r7
 have zr7:=Gl af
 refine .dd hP (Mk af) ?_
 conv=>cbv
 generalize al:Gv ad ac=r8
 refine .dd hP (Zo (by assumption) (by assumption) al) ?_
 conv=>cbv
 generalize ag:Ca r8=r9
 have zr9:=Gl ag
 refine .dd hP (Mk ag) ?_
 conv=>cbv
 have ea:Ge aa ab=r7:=by rw[←af,←ak,U0]
 have eb:Ge ad ac=r9:=by rw[←ag,←al,U0]
 refine .eql (fun h10=>?_) fun h10=>?_
 conv=>cbv
 have e:(tx [])=Bx l:=(by unfold Bx;rw[hp,hd];simp only[Ib];rw[ea,eb,if_pos (.inl h10)];rfl)
 rw[hr]at e
 subst e
 exact hQ _ _ (.s rfl rfl)
 conv=>cbv
 refine .eql (fun h11=>?_) fun h11=>?_
 conv=>cbv
 have e:(tx [])=Bx l:=(by unfold Bx;rw[hp,hd];simp only[Ib];rw[ea,eb,if_pos (.inr h11)];rfl)
 rw[hr]at e
 subst e
 exact hQ _ _ (.s rfl rfl)
 conv=>cbv
 refine .go fun a0 am au=>?_
 conv=>cbv
 refine .go fun ap an aw=>?_
 conv=>cbv
 refine .add fun aq ax=>?_
 conv=>cbv
 exact .go [] (ap,aq,aa,ad) (hJ _ ⟨k+1,pr++(r7++r9),by omega,by omega,by rw[an,am,hs];simp only[ByteArray.append_assoc],by rw[ByteArray.size_append,ByteArray.size_append];omega,ai,aj,by rw[hp,hd];simp only[Ib];rw[ea,eb,if_neg (by intro h;rcases h with h|h;exact h10 h;exact h11 h),Option.map_map];congr 1;funext t;simp only[Function.comp,ByteArray.append_assoc]⟩ mlt)
 conv=>cbv
 have e:s3=Bx l:=(by unfold Bx;rw[hp,List.drop_of_length_le (by omega),hs];simp[Ib,Wz])
 rw[hr]at e
 subst e
 exact hQ _ _ (.s rfl rfl)
end
section
open Go Go.Proofs
set_option maxRecDepth 20000
set_option maxHeartbeats 4000000
def Zy:List (Nat×TyRow):=[ty3,ty9,Xir,Xhu,XiE]
theorem Z1:By Tryz.prog Zy:=By.of (by kernel_rfl)
theorem XcO:Setup Tryz.prog Zy:=⟨Z1,mixed⟩
theorem Xat{l:List Gn}{xl:List (List D)}{o:ByteArray}(hl:l.map Qz=xl)(hn:l.length≤1000000000)(hw:wfPl l)(hr:Bx l=o):Fn Tryz.prog 291 [.d (.row 2 xl)] [] ⟨S o,[],[]⟩:=by
 refine Fn.go XcO Tryz.func291 fun P hP Q hQ=>?_
 conv=>cbv
 refine .go hl fun v1 az=>?_
 conv=>cbv
 generalize al:Ca v1=r2
 have zr2:=Gl al
 refine .dd hP (S5 al) ?_
 conv=>cbv
 obtain⟨nb3,hnb3⟩:∃m,([]:List UInt8).length+r2.size=m:=⟨_,rfl⟩
 obtain⟨b3,am⟩:∃m,[]++r2.data.toList=m:=⟨_,rfl⟩
 obtain⟨kb3,aq⟩:∃m,(r2.size:Int)=m:=⟨_,rfl⟩
 have lb3:nb3=b3.length:=by rw[←am,List.length_append,Array.length_toList];exact hnb3.symm
 refine .bx [2,0] [0] hP (Xgo rfl (by first|omega|(simp;omega)) hnb3 am aq) rfl rfl rfl rfl ?_
 conv=>cbv
 refine .go hl fun v4 a4=>?_
 conv=>cbv
 refine LoopW.lp (κ:=Int×Int×Int×(List UInt8)×Nat) XcO hP [3] [3,4,15,16] (fun(ac,ad,ae,aa,ag)=>[(17,I ac)]) (fun(ac,ad,ae,aa,ag)=>[(2,.box 219 [.ptr 2 0 0,.ref 5 0 ag]),(4,.box 253 [I ad,I ae]),(5,.buf 5 false aa)])
  (fun(ac,ad,ae,aa,ag)=>ag=aa.length∧∃(k:Nat) (pr:ByteArray),ac=(k:Int)∧k≤l.length∧aa=(Ca l.length++pr).data.toList∧pr.size≤10*k∧wfI ad∧wfI ae∧Ib (0,0) l=(Ib (ad,ae) (l.drop k)).map fun t=>pr++t)
  (fun(ac,ad,ae,aa,ag)=>(l.length - ac).toNat) (0,0,0,b3,nb3) ⟨lb3,0,tx [],rfl,by omega,by rw[←am,Wz,←az,al];rfl,by simp[B2],by constructor<;>omega,by constructor<;>omega,by simp[Xed]⟩ ⟨rfl,trivial⟩ rfl ?_
 rintro⟨ac,ad,ae,aa,ag⟩ J ⟨ak,k,pr,hi,hk,hs,hz,hwa,hwb,hp⟩ hJ
 have z1:1≤(Ca l.length).size:=by unfold Ca;rw[if_pos (by omega),B2];exact List.length_pos_iff.2 (Xbc _)
 have zv:=Hc l.length
 have zl:aa.length=(Ca l.length).size+pr.size:=by rw[hs,Array.length_toList];exact ByteArray.size_append
 conv=>cbv
 refine .lss (fun h5=>?_) fun h5=>?_
 conv=>cbv
 refine .go ac.toNat hl fun a1 ⟨ab,af⟩ ar=>?_
 conv=>cbv
 have hkl:k<l.length:=by omega
 have hd:l.drop k=⟨ab,af⟩::l.drop (k+1):=by rw[List.drop_eq_getElem_cons hkl,ar];congr 2;omega
 obtain⟨au,aw⟩:=hw ⟨ab,af⟩ (by rw[ar];exact List.getElem_mem _)
 simp only[]at au aw
 generalize ah:Ge ab ad=r7
 have zr7:=Rb ah
 refine .dd hP (XfL (by assumption) (by assumption) ah) ?_
 conv=>cbv
 generalize ai:Ge af ae=r8
 have zr8:=Rb ai
 refine .dd hP (XfL (by assumption) (by assumption) ai) ?_
 conv=>cbv
 refine .eql (fun h9=>?_) fun h9=>?_
 conv=>cbv
 have e:(tx [])=Bx l:=(by unfold Bx;rw[hp,hd];simp only[Ib];rw[ah,ai,if_pos (.inl h9)];rfl)
 rw[hr]at e
 subst e
 exact hQ _ _ (.s rfl rfl)
 conv=>cbv
 refine .eql (fun h10=>?_) fun h10=>?_
 conv=>cbv
 have e:(tx [])=Bx l:=(by unfold Bx;rw[hp,hd];simp only[Ib];rw[ah,ai,if_pos (.inr h10)];rfl)
 rw[hr]at e
 subst e
 exact hQ _ _ (.s rfl rfl)
 conv=>cbv
 refine .go fun an ax a2=>?_
 conv=>cbv
 obtain⟨nb12,hnb12⟩:∃m,(aa:List UInt8).length+an.size=m:=⟨_,rfl⟩
 obtain⟨ay,aj⟩:∃m,aa++an.data.toList=m:=⟨_,rfl⟩
 obtain⟨kb12,ao⟩:∃m,(an.size:Int)=m:=⟨_,rfl⟩
 have lb12:nb12=ay.length:=by rw[←aj,List.length_append,Array.length_toList];exact hnb12.symm
 refine .bx [2,5] [5] hP (Xgn ak (by first|omega|(simp;omega)) hnb12 aj ao) rfl rfl rfl rfl ?_
 conv=>cbv
 refine .add fun a0 a3=>?_
 conv=>cbv
 exact .go [7] (a0,ab,af,ay,nb12) (hJ _ ⟨Q7,k+1,pr++(r7++r8),by omega,by omega,by rw[←aj,hs,ax];simp[ByteArray.data_append,List.append_assoc],by rw[ByteArray.size_append,ByteArray.size_append];omega,au,aw,by rw[hp,hd];simp only[Ib];rw[ah,ai,if_neg (by intro h;rcases h with h|h;exact h9 h;exact h10 h),Option.map_map];congr 1;funext t;simp only[Function.comp,ByteArray.append_assoc]⟩ mlt)
 conv=>cbv
 obtain⟨b6,ap⟩:∃m,tx aa=m:=⟨_,rfl⟩
 have zb6:b6.size=aa.length:=by rw[←ap,B2]
 refine .bx [2,5] [5] hP (XfT (x:=.ptr 0 0 0) ak (by intro e;rw[e]at zl;simp at zl;omega) (by first|omega|(simp;omega)) ap) rfl rfl rfl rfl ?_
 conv=>cbv
 have e:b6=Bx l:=(by unfold Bx;rw[hp,List.drop_of_length_le (by omega)];simp only[Ib,Option.map_some,Wz];rw[←ap,hs,V9])
 rw[hr]at e
 subst e
 exact hQ _ _ (.s rfl rfl)
end
section
open Go Go.Proofs
set_option maxRecDepth 20000
set_option maxHeartbeats 4000000
def Xz:List (Nat×TyRow):=[ty3,ty9,Xha,Xc7,Xhu]
theorem Zm:By Tryz.prog Xz:=By.of (by kernel_rfl)
theorem XcQ:Setup Tryz.prog Xz:=⟨Zm,mixed⟩
theorem Se{h:B7}{offs:List Int}{fin:Int}{o:ByteArray}(e:Br h offs fin=o):o.size≤57+10*offs.length:=by rw[←e];exact Zs _ _ _
variable {hver hstr hbas hlin fin:Int} {offs:List Int} {xoffs:List (List D)} {o:ByteArray}
theorem Xdq(hoffs:offs.map cI=xoffs)(hl:offs.length≤1000000000)(hwo:∀x∈offs,wfI x)(hf:fin<9223372036854775808)(hr:Br (⟨hver,hstr,hbas,hlin⟩:B7) offs fin=o):Fn Tryz.prog 234 [.agg [I hver,I hstr,I hbas,I hlin],.d (.row 1 xoffs),I fin] [] ⟨S o,[],[]⟩:=by
 refine Fn.go XcQ Tryz.func234 fun P hP Q hQ=>?_
 conv=>cbv
 generalize ag:Ct (⟨hver,hstr,hbas,hlin⟩:B7)=r1
 refine .dd hP (Xc0 ag) ?_
 cases r1
 conv=>cbv
 have e:(tx [])=Br (⟨hver,hstr,hbas,hlin⟩:B7) offs fin:=(by unfold Br;rw[if_neg];rintro⟨q1,q2,q3,q4⟩;simp only[]at q1 q2 q3 q4;rw[ag]at q1;cases q1)
 rw[hr]at e
 subst e
 exact hQ _ _ (.s rfl rfl)
 conv=>cbv
 have hh:=Ka ag
 refine .go hoffs fun v2 aj=>?_
 conv=>cbv
 refine .add fun v3 ak=>?_
 conv=>cbv
 generalize ac:Cc hver v3=r4
 have zr4:=Kf ac
 refine .dd hP (Zk ac) ?_
 conv=>cbv
 generalize ab:Ck hstr offs=l5
 generalize al:l5.map Qz=a3
 refine .dd hP (Xdt hoffs (by omega) ab al) ?_
 conv=>cbv
 have zl5:l5.length≤offs.length:=ab▸K0
 generalize ad:Bx l5=r6
 have zr6:=Oa ad
 refine .dd hP (Xat al (by omega) (ab▸Qw hwo (by omega)) ad) ?_
 conv=>cbv
 refine .go hoffs fun v7 am=>?_
 conv=>cbv
 generalize aa:Bj fin v7 hstr 0=r8
 have zr8:=Ga aa
 refine .dd hP (Pa (by omega) (by omega) (by omega) (by omega) aa) ?_
 conv=>cbv
 refine .eql (fun h9=>?_) fun h9=>?_
 conv=>cbv
 have e:(tx [])=Br (⟨hver,hstr,hbas,hlin⟩:B7) offs fin:=(by unfold Br;rw[if_neg];rintro⟨q1,q2,q3,q4⟩;simp only[]at q1 q2 q3 q4;rw[←aj,←ak,ac]at q2;exact q2 h9)
 rw[hr]at e
 subst e
 exact hQ _ _ (.s rfl rfl)
 conv=>cbv
 refine .eql (fun h10=>?_) fun h10=>?_
 conv=>cbv
 have e:(tx [])=Br (⟨hver,hstr,hbas,hlin⟩:B7) offs fin:=(by unfold Br;rw[if_neg];rintro⟨q1,q2,q3,q4⟩;simp only[]at q1 q2 q3 q4;rw[ab,ad]at q3;exact q3 h10)
 rw[hr]at e
 subst e
 exact hQ _ _ (.s rfl rfl)
 conv=>cbv
 refine .eql (fun h11=>?_) fun h11=>?_
 conv=>cbv
 have e:(tx [])=Br (⟨hver,hstr,hbas,hlin⟩:B7) offs fin:=(by unfold Br;rw[if_neg];rintro⟨q1,q2,q3,q4⟩;simp only[]at q1 q2 q3 q4;rw[←am,aa]at q4;exact q4 h11)
 rw[hr]at e
 subst e
 exact hQ _ _ (.s rfl rfl)
 conv=>cbv
 refine .go fun a4 ah ay=>?_
 conv=>cbv
 have z8:r8.size=20:=by rw[←aa];exact L6 (by rw[aa];exact h11)
 refine .hi fun ar ai=>?_
 conv=>cbv
 have a5:ar.size=12:=by rw[ai,Rg (by omega) (by omega)];rfl
 refine .go fun au an az=>?_
 conv=>cbv
 generalize ae:Ey au=aw
 have zr15:=Hk ae
 refine .dd hP (Sj (by omega) ae) ?_
 conv=>cbv
 refine .go fun a6 ao a0=>?_
 conv=>cbv
 refine .go hoffs fun ap a1=>?_
 conv=>cbv
 generalize af:Bj fin ap hstr aw=a7
 have zr18:=Ga af
 refine .dd hP (Pa (by omega) (by omega) (by omega) (by omega) af) ?_
 conv=>cbv
 refine .go fun ax aq a2=>?_
 conv=>cbv
 have e:ax=Br (⟨hver,hstr,hbas,hlin⟩:B7) offs fin:=(by have q:Br ⟨hver,hstr,hbas,hlin⟩ offs fin=_:=if_pos ⟨ag,by simp only[];rw[←aj,←ak,ac];exact h9,by simp only[];rw[ab,ad];exact h10,by simp only[];rw[←am,aa];exact h11⟩;rw[q];simp only[];rw[←aj,←ak,ac,ab,ad,show(v2:Int)=v7 by omega,aa,←ah,aq,ao,←ah,←af,←ae,an,ai,show ap=v7 by omega];rfl)
 rw[hr]at e
 subst e
 exact hQ _ _ (.s rfl rfl)
theorem Xdo(hoffs:offs.map cI=xoffs)(hl:offs.length≤1000000000)(hwo:∀x∈offs,wfI x)(hf:fin<9223372036854775808)(hr:Br (⟨hver,hstr,hbas,hlin⟩:B7) offs fin=o):Fn Tryz.prog 223 [.agg [I hver,I hstr,I hbas,I hlin],.d (.row 1 xoffs),I fin] [] ⟨S o,[],[]⟩:=by
 refine Fn.go XcQ Tryz.func223 fun P hP Q hQ=>?_
 conv=>cbv
 generalize ag:Ct (⟨hver,hstr,hbas,hlin⟩:B7)=r1
 refine .dd hP (XcG ag) ?_
 cases r1
 conv=>cbv
 have e:(tx [])=Br (⟨hver,hstr,hbas,hlin⟩:B7) offs fin:=(by unfold Br;rw[if_neg];rintro⟨q1,q2,q3,q4⟩;simp only[]at q1 q2 q3 q4;rw[ag]at q1;cases q1)
 rw[hr]at e
 subst e
 exact hQ _ _ (.s rfl rfl)
 conv=>cbv
 have hh:=Ka ag
 refine .go hoffs fun v2 aj=>?_
 conv=>cbv
 refine .add fun v3 ak=>?_
 conv=>cbv
 generalize ac:Cc hver v3=r4
 have zr4:=Kf ac
 refine .dd hP (Xao ac) ?_
 conv=>cbv
 generalize ab:Ck hstr offs=l5
 generalize al:l5.map Qz=a3
 refine .dd hP (Xdp hoffs (by omega) ab al) ?_
 conv=>cbv
 have zl5:l5.length≤offs.length:=ab▸K0
 generalize ad:Bx l5=r6
 have zr6:=Oa ad
 refine .dd hP (Y8 al (by omega) (ab▸Qw hwo (by omega)) ad) ?_
 conv=>cbv
 refine .go hoffs fun v7 am=>?_
 conv=>cbv
 generalize aa:Bj fin v7 hstr 0=r8
 have zr8:=Ga aa
 refine .dd hP (On (by omega) (by omega) (by omega) (by omega) aa) ?_
 conv=>cbv
 refine .eql (fun h9=>?_) fun h9=>?_
 conv=>cbv
 have e:(tx [])=Br (⟨hver,hstr,hbas,hlin⟩:B7) offs fin:=(by unfold Br;rw[if_neg];rintro⟨q1,q2,q3,q4⟩;simp only[]at q1 q2 q3 q4;rw[←aj,←ak,ac]at q2;exact q2 h9)
 rw[hr]at e
 subst e
 exact hQ _ _ (.s rfl rfl)
 conv=>cbv
 refine .eql (fun h10=>?_) fun h10=>?_
 conv=>cbv
 have e:(tx [])=Br (⟨hver,hstr,hbas,hlin⟩:B7) offs fin:=(by unfold Br;rw[if_neg];rintro⟨q1,q2,q3,q4⟩;simp only[]at q1 q2 q3 q4;rw[ab,ad]at q3;exact q3 h10)
 rw[hr]at e
 subst e
 exact hQ _ _ (.s rfl rfl)
 conv=>cbv
 refine .eql (fun h11=>?_) fun h11=>?_
 conv=>cbv
 have e:(tx [])=Br (⟨hver,hstr,hbas,hlin⟩:B7) offs fin:=(by unfold Br;rw[if_neg];rintro⟨q1,q2,q3,q4⟩;simp only[]at q1 q2 q3 q4;rw[←am,aa]at q4;exact q4 h11)
 rw[hr]at e
 subst e
 exact hQ _ _ (.s rfl rfl)
 conv=>cbv
 refine .go fun a4 ah ay=>?_
 conv=>cbv
 have z8:r8.size=20:=by rw[←aa];exact L6 (by rw[aa];exact h11)
 refine .hi fun ar ai=>?_
 conv=>cbv
 have a5:ar.size=12:=by rw[ai,Rg (by omega) (by omega)];rfl
 refine .go fun au an az=>?_
 conv=>cbv
 generalize ae:Ey au=aw
 have zr15:=Hk ae
 refine .dd hP (Tp (by omega) ae) ?_
 conv=>cbv
 refine .go fun a6 ao a0=>?_
 conv=>cbv
 refine .go hoffs fun ap a1=>?_
 conv=>cbv
 generalize af:Bj fin ap hstr aw=a7
 have zr18:=Ga af
 refine .dd hP (On (by omega) (by omega) (by omega) (by omega) af) ?_
 conv=>cbv
 refine .go fun ax aq a2=>?_
 conv=>cbv
 have e:ax=Br (⟨hver,hstr,hbas,hlin⟩:B7) offs fin:=(by have q:Br ⟨hver,hstr,hbas,hlin⟩ offs fin=_:=if_pos ⟨ag,by simp only[];rw[←aj,←ak,ac];exact h9,by simp only[];rw[ab,ad];exact h10,by simp only[];rw[←am,aa];exact h11⟩;rw[q];simp only[];rw[←aj,←ak,ac,ab,ad,show(v2:Int)=v7 by omega,aa,←ah,aq,ao,←ah,←af,←ae,an,ai,show ap=v7 by omega];rfl)
 rw[hr]at e
 subst e
 exact hQ _ _ (.s rfl rfl)
end
section
open Go Go.Proofs
set_option maxRecDepth 20000
set_option maxHeartbeats 4000000
end
section
open Go Go.Proofs
set_option maxRecDepth 20000
set_option maxHeartbeats 4000000
theorem U8:∀(k:Nat) {h:B7} {b:ByteArray} {n:Nat} {p:Int},(b.size - p).toNat≤k→0≤p∧p≤b.size→p+(G6 h b n p).1.length≤b.size
 |k,h,b,n,p,hk,hp=>by
  cases hm:Dl h.version_ (h.base_+n) b p
  ·rcases hf:A4 h.version_ (h.base_+n) b p with⟨r,q,ok⟩
   cases ok
   ·rw[Mx hm hf]
    simpa using hp.2
   ·have h2:=G2 hf
    rw[Mr hm hf]
    cases k with
    |zero=>omega
    |succ k=>
     have ih:=U8 k (h:=h) (b:=b) (n:=n+1) (p:=q) (by omega) (by omega)
     rw[List.length_cons]
     omega
  ·rw[Mv hm]
   simpa using hp.2
theorem Va{b:ByteArray}:(Cp b).records_.length≤b.size:=by
 unfold Cp
 split
 ·rename_i h e
  have h2:=Hj e
  have:=U8 _ (h:=h) (b:=b) (n:=0) (p:=24) (Nat.le_refl _) (by omega)
  show(G6 h b 0 24).1.length≤_
  omega
 ·simp
end
section
open Go Go.Proofs
set_option maxRecDepth 20000
set_option maxHeartbeats 4000000
def XbW:List (Nat×TyRow):=[ty3,ty9,Xd8,Xde,XaI,Xx,XbM]
theorem Xbj:By Tryz.prog XbW:=By.of (by kernel_rfl)
theorem Eo:Setup Tryz.prog XbW:=⟨Xbj,mixed⟩
def Ub{α:Type}(p:α→Bool)(l:List α):Int:=if l.findIdx p<l.length then(l.findIdx p:Int)else -1
section
variable {α:Type} {p:α→Bool} {l:List α} {i:Int}
theorem Nz(h0:0≤i)(hi:i.toNat<l.length)(h:p l[i.toNat]=true)(hb:∀(j:Nat) (hj:j<l.length),j<i.toNat→p l[j]=false):i=Ub p l:=by
 have e:l.findIdx p=i.toNat:=(List.findIdx_eq hi).2 ⟨h,fun j hji=>hb j (by omega) hji⟩
 unfold Ub
 rw[e,if_pos hi]
 omega
theorem Iv(hb:∀(j:Nat) (hj:j<l.length),p l[j]=false): -1=Ub p l:=by
 unfold Ub
 rw[if_neg]
 intro hlt
 have:=List.findIdx_getElem (w:=hlt)
 rw[hb _ hlt]at this
 cases this
theorem XcB(e:Ub p l=i): -1≤i∧i<l.length:=by
 rw[←e]
 unfold Ub
 split<;>omega
theorem Ws(e:Ub p l=i)(h:0≤i):∃hi:i.toNat<l.length,p l[i.toNat]=true:=by
 unfold Ub at e
 split at e
 ·rename_i hlt
  have e2:i.toNat=l.findIdx p:=by omega
  refine⟨by omega,?_⟩
  have:=List.findIdx_getElem (w:=hlt)
  simpa only[e2]using this
 ·omega
theorem Xh1(e:Ub p l=i)(h:i<0):∀x∈l,p x=false:=by
 unfold Ub at e
 split at e
 ·omega
 ·rename_i hlt
  intro x hx
  cases hp:p x
  ·rfl
  ·exact absurd (List.findIdx_lt_length_of_exists ⟨x,hx,hp⟩) hlt
end
def Bz(e:Aj)(name:ByteArray):Bool:=decide (e.name_=name)
def Dj(l:List Aj)(name:ByteArray):Int:=Ub (fun e=>Bz e name) l
def A7(l:List Aj)(name:ByteArray):Int:=Dj l name
def Dx(n:Bs)(id:Int):Bool:=decide (n.id_=id)
def Dw(l:List Bs)(id:Int):Int:=Ub (fun n=>Dx n id) l
def Hf(d:Ac)(id:Int):Int:=Dw d.nodes_ id
def Gg(d:Ac)(id:Int):Int:=Hf d id
def Cg(l:List Aj)(name:ByteArray):Int:=if A7 l name<0 then 0 else(l.getD (A7 l name).toNat ⟨tx [],0⟩).id_
def Do(l:List Aj)(name:ByteArray):Bool:=decide (0≤A7 l name)
def Cf(d:Ac)(name:ByteArray):Int:=if A7 d.entries_ name<0 then -1 else Hf d (Cg d.entries_ name)
def Fa(d:Ac)(name:ByteArray):Bs×Bool:=if Cf d name<0 then(⟨0,tx [],0⟩,false)else(d.nodes_.getD (Cf d name).toNat ⟨0,tx [],0⟩,true)
def Fb(d:Ac)(name:ByteArray):ByteArray×Bool:=((Fa d name).1.text_,(Fa d name).2)
def okD(d:Ac):Prop:=d.nodes_.length≤1000000000∧(∀n∈d.nodes_,n.text_.size≤1000000000)∧d.entries_.length≤1000000000∧(∀e∈d.entries_,e.name_.size≤1000000000)∧d.old_.length≤1000000000∧d.steps_.length≤1000000000
theorem gD{α:Type}{l:List α}{k:Nat}{d:α}(h:k<l.length):l[k]=l.getD k d:=by rw[List.getD_eq_getElem?_getD,List.getElem?_eq_getElem h];rfl
theorem Hg{l:List Aj}{name:ByteArray}{i:Int}(e:A7 l name=i): -1≤i∧i<l.length:=XcB e
theorem Uj{d:Ac}{id i:Int}(e:Hf d id=i): -1≤i∧i<d.nodes_.length:=XcB e
theorem Gr{d:Ac}{name:ByteArray}{i:Int}(e:Cf d name=i): -1≤i∧i<d.nodes_.length:=by
 unfold Cf at e
 split at e
 ·omega
 ·exact Uj e
theorem Xbs{d:Ac}{name t:ByteArray}{ok:Bool}(hd:okD d)(e:Fb d name=(t,ok)):t.size≤1000000000:=by
 have e1:(Fa d name).1.text_=t:=congrArg Prod.fst e
 rw[←e1]
 unfold Fa
 split
 ·simp[B2]
 ·rename_i h
  have h2:=Gr (rfl:Cf d name=_)
  have h3:(Cf d name).toNat<d.nodes_.length:=by omega
  rw[←gD h3]
  exact hd.2.1 _ (List.getElem_mem h3)
theorem Ny{d:Ac}{name:ByteArray}:Fa d name=if Gg d (Cg d.entries_ name)<0∨Do d.entries_ name=false then(⟨0,tx [],0⟩,false)else(d.nodes_.getD (Gg d (Cg d.entries_ name)).toNat ⟨0,tx [],0⟩,true):=by
 unfold Fa Cf Gg Do
 by_cases h:A7 d.entries_ name<0
 ·rw[if_pos h,if_pos (by omega),if_pos (.inr (by simp;omega))]
 ·rw[if_neg h]
  by_cases h2:Hf d (Cg d.entries_ name)<0
  ·rw[if_pos h2,if_pos (.inl h2)]
  ·rw[if_neg h2,if_neg]
   rintro(h3|h3)
   ·exact h2 h3
   ·simp at h3;omega
variable {name oatex oa:ByteArray} {o id An Am oaid oasur:Int} {l Al Ak:List Aj} {xl Bo Bm Bl Bn:List (List D)} {Ah:List Bs} {Ai:List ByteArray} {ob:Bool}
theorem Xby{enam:ByteArray}{eid:Int}{o:Bool}(hr:Bz (⟨enam,eid⟩:Aj) name=o):Fn Tryz.prog 322 [.agg [S enam,I eid],.ptr 0 0 0] [.box 9 [S name]] ⟨B o,[],[]⟩:=by
 refine Fn.goR Eo Tryz.func322 fun P hP Q hQ=>?_
 conv=>cbv
 refine .eql (fun h1=>?_) fun h1=>?_
 conv=>cbv
 have e:true=Bz (⟨enam,eid⟩:Aj) name:=(by unfold Bz;symm;rw[decide_eq_true_eq];exact h1)
 rw[hr]at e
 subst e
 exact hQ _ _ (.of [] (.inl rfl) rfl rfl rfl rfl)
 conv=>cbv
 have e:false=Bz (⟨enam,eid⟩:Aj) name:=(by unfold Bz;symm;rw[decide_eq_false_iff_not];exact h1)
 rw[hr]at e
 subst e
 exact hQ _ _ (.of [] (.inl rfl) rfl rfl rfl rfl)
theorem R5{nid:Int}{ntex:ByteArray}{nsur:Int}{o:Bool}(hr:Dx (⟨nid,ntex,nsur⟩:Bs) id=o):Fn Tryz.prog 303 [.agg [I nid,S ntex,I nsur],.ptr 0 0 0] [.box 3 [I id]] ⟨B o,[],[]⟩:=by
 refine Fn.goR Eo Tryz.func303 fun P hP Q hQ=>?_
 conv=>cbv
 refine .eql (fun h1=>?_) fun h1=>?_
 conv=>cbv
 have e:true=Dx (⟨nid,ntex,nsur⟩:Bs) id:=(by unfold Dx;symm;rw[decide_eq_true_eq];exact h1)
 rw[hr]at e
 subst e
 exact hQ _ _ (.of [] (.inl rfl) rfl rfl rfl rfl)
 conv=>cbv
 have e:false=Dx (⟨nid,ntex,nsur⟩:Bs) id:=(by unfold Dx;symm;rw[decide_eq_false_iff_not];exact h1)
 rw[hr]at e
 subst e
 exact hQ _ _ (.of [] (.inl rfl) rfl rfl rfl rfl)
theorem Me(hl:l.map Ae=xl)(hn:l.length<2^40)(hr:Dj l name=o):Fn Tryz.prog 301 [.d (.row 2 xl),.clo 322 [.ptr 0 0 0]] [.box 9 [S name]] ⟨I o,[],[]⟩:=by
 refine Fn.goR Eo Tryz.func301 fun P hP Q hQ=>?_
 conv=>cbv
 refine .go hl fun v1 af=>?_
 conv=>cbv
 refine LoopW.lp (κ:=Int) Eo hP [] [0,1,7] (fun i8=>[(8,I i8)]) (fun i8=>[])
  (fun i8=>0≤i8∧i8≤l.length∧∀(j:Nat) (hj:j<l.length),j<i8.toNat→Bz l[j] name=false)
  (fun i8=>(l.length - i8).toNat) (0) ⟨by omega,by omega,fun j _ h=>by simp at h⟩ ⟨rfl,trivial⟩ rfl ?_
 rintro i8 J ⟨h0,h1,hb⟩ hJ
 conv=>cbv
 refine .lss (fun h2=>?_) fun h2=>?_
 conv=>cbv
 refine .go i8.toNat hl fun ae ⟨aa,ac⟩ ad=>?_
 conv=>cbv
 generalize ab:Bz (⟨aa,ac⟩:Aj) name=r4
 refine .bx [0] [] hP (Xby ab) rfl rfl rfl rfl ?_
 cases r4
 conv=>cbv
 refine .add fun v5 ag=>?_
 conv=>cbv
 exact .go [] (v5) (hJ _ ⟨by omega,by omega,fun j hj h=>if e:j=i8.toNat then by subst e;rw[←ad];exact ab else hb j hj (by omega)⟩ mlt)
 conv=>cbv
 have e:i8=Dj l name:=(by exact Nz (p:=fun x=>Bz x name) h0 (by omega) (ad▸ab) hb)
 rw[hr]at e
 subst e
 exact hQ _ _ (.of [] (.inl rfl) rfl rfl rfl rfl)
 conv=>cbv
 have e:(-1)=Dj l name:=(by exact Iv (p:=fun x=>Bz x name) fun j hj=>hb j hj (by omega))
 rw[hr]at e
 subst e
 exact hQ _ _ (.of [] (.inl rfl) rfl rfl rfl rfl)
theorem M9{l:List Bs}(hl:l.map A5=xl)(hn:l.length<2^40)(hr:Dw l id=o):Fn Tryz.prog 302 [.d (.row 3 xl),.clo 303 [.ptr 0 0 0]] [.box 3 [I id]] ⟨I o,[],[]⟩:=by
 refine Fn.goR Eo Tryz.func302 fun P hP Q hQ=>?_
 conv=>cbv
 refine .go hl fun v1 ag=>?_
 conv=>cbv
 refine LoopW.lp (κ:=Int) Eo hP [] [0,1,7] (fun i8=>[(8,I i8)]) (fun i8=>[])
  (fun i8=>0≤i8∧i8≤l.length∧∀(j:Nat) (hj:j<l.length),j<i8.toNat→Dx l[j] id=false)
  (fun i8=>(l.length - i8).toNat) (0) ⟨by omega,by omega,fun j _ h=>by simp at h⟩ ⟨rfl,trivial⟩ rfl ?_
 rintro i8 J ⟨h0,h1,hb⟩ hJ
 conv=>cbv
 refine .lss (fun h2=>?_) fun h2=>?_
 conv=>cbv
 refine .go i8.toNat hl fun af ⟨ad,aa,ab⟩ ae=>?_
 conv=>cbv
 generalize ac:Dx (⟨ad,aa,ab⟩:Bs) id=r4
 refine .bx [0] [] hP (R5 ac) rfl rfl rfl rfl ?_
 cases r4
 conv=>cbv
 refine .add fun v5 ah=>?_
 conv=>cbv
 exact .go [] (v5) (hJ _ ⟨by omega,by omega,fun j hj h=>if e:j=i8.toNat then by subst e;rw[←ae];exact ac else hb j hj (by omega)⟩ mlt)
 conv=>cbv
 have e:i8=Dw l id:=(by exact Nz (p:=fun x=>Dx x id) h0 (by omega) (ae▸ac) hb)
 rw[hr]at e
 subst e
 exact hQ _ _ (.of [] (.inl rfl) rfl rfl rfl rfl)
 conv=>cbv
 have e:(-1)=Dw l id:=(by exact Iv (p:=fun x=>Dx x id) fun j hj=>hb j hj (by omega))
 rw[hr]at e
 subst e
 exact hQ _ _ (.of [] (.inl rfl) rfl rfl rfl rfl)
theorem Mb(hl:l.map Ae=xl)(hn:l.length<2^40)(hr:A7 l name=o):Fn Tryz.prog 280 [.d (.row 2 xl),S name] [] ⟨I o,[],[]⟩:=by
 refine Fn.go Eo Tryz.func280 fun P hP Q hQ=>?_
 conv=>cbv
 generalize aa:Dj l name=r1
 refine .bx [0] [] hP (Me hl (by omega) aa) rfl rfl rfl rfl ?_
 conv=>cbv
 have e:r1=A7 l name:=(by unfold A7;exact aa.symm)
 rw[hr]at e
 subst e
 exact hQ _ _ (.i rfl rfl)
theorem K3(Aq:Ah.map A5=Bo)(As:Al.map Ae=Bm)(Av:Ak.map Ae=Bl)(At:Ai.map cS=Bn)(hn:Ah.length<2^40)(hr:Hf (⟨Ah,Al,Ak,Ai,An,Am⟩:Ac) id=o):Fn Tryz.prog 249 [.agg [.d (.row 3 Bo),.d (.row 2 Bm),.d (.row 2 Bl),.d (.row 1 Bn),I An,I Am],I id] [] ⟨I o,[],[]⟩:=by
 refine Fn.go Eo Tryz.func249 fun P hP Q hQ=>?_
 conv=>cbv
 generalize aa:Dw Ah id=r1
 refine .bx [1] [] hP (M9 Aq (by omega) aa) rfl rfl rfl rfl ?_
 conv=>cbv
 have e:r1=Hf (⟨Ah,Al,Ak,Ai,An,Am⟩:Ac) id:=(by unfold Hf;exact aa.symm)
 rw[hr]at e
 subst e
 exact hQ _ _ (.i rfl rfl)
theorem Kx(Aq:Ah.map A5=Bo)(As:Al.map Ae=Bm)(Av:Ak.map Ae=Bl)(At:Ai.map cS=Bn)(hd:okD ⟨Ah,Al,Ak,Ai,An,Am⟩)(hr:Cf (⟨Ah,Al,Ak,Ai,An,Am⟩:Ac) name=o):Fn Tryz.prog 217 [.agg [.d (.row 3 Bo),.d (.row 2 Bm),.d (.row 2 Bl),.d (.row 1 Bn),I An,I Am],S name] [] ⟨I o,[],[]⟩:=by
 refine Fn.go Eo Tryz.func217 fun P hP Q hQ=>?_
 conv=>cbv
 obtain⟨d1,d2,d3,d4,d5,d6⟩:=hd
 simp only[]at d1 d2 d3 d4 d5 d6
 generalize aa:A7 Al name=r1
 refine .dd hP (Mb As (by omega) aa) ?_
 conv=>cbv
 have hb:=Hg aa
 refine .lss (fun h2=>?_) fun h2=>?_
 conv=>cbv
 have e:(-1)=Cf (⟨Ah,Al,Ak,Ai,An,Am⟩:Ac) name:=(by unfold Cf;rw[if_pos (by simp only[];omega)])
 rw[hr]at e
 subst e
 exact hQ _ _ (.i rfl rfl)
 conv=>cbv
 refine .go r1.toNat As fun ab ⟨ae,ac⟩ af=>?_
 conv=>cbv
 generalize ad:Hf (⟨Ah,Al,Ak,Ai,An,Am⟩:Ac) ac=r4
 refine .dd hP (K3 Aq As Av At (by omega) ad) ?_
 conv=>cbv
 have e:r4=Cf (⟨Ah,Al,Ak,Ai,An,Am⟩:Ac) name:=(by unfold Cf Cg;simp only[];rw[aa,if_neg (by omega),if_neg (by omega),←gD ab,←af];exact ad.symm)
 rw[hr]at e
 subst e
 exact hQ _ _ (.i rfl rfl)
theorem Xgt(Aq:Ah.map A5=Bo)(As:Al.map Ae=Bm)(Av:Ak.map Ae=Bl)(At:Ai.map cS=Bn)(hd:okD ⟨Ah,Al,Ak,Ai,An,Am⟩)(hr:Fa (⟨Ah,Al,Ak,Ai,An,Am⟩:Ac) name=(⟨oaid,oatex,oasur⟩,ob)):Fn Tryz.prog 147 [.agg [.d (.row 3 Bo),.d (.row 2 Bm),.d (.row 2 Bl),.d (.row 1 Bn),I An,I Am],S name] [] ⟨.tup [.agg [I oaid,S oatex,I oasur],B ob],[],[]⟩:=by
 refine Fn.go Eo Tryz.func147 fun P hP Q hQ=>?_
 conv=>cbv
 generalize aa:Cf (⟨Ah,Al,Ak,Ai,An,Am⟩:Ac) name=r1
 refine .dd hP (Kx Aq As Av At hd aa) ?_
 conv=>cbv
 have hb:=Gr aa
 simp only[]at hb
 refine .lss (fun h2=>?_) fun h2=>?_
 conv=>cbv
 have e:((⟨0,tx [],0⟩:Bs),false)=Fa (⟨Ah,Al,Ak,Ai,An,Am⟩:Ac) name:=(by unfold Fa;rw[if_pos (by rw[aa];omega)])
 rw[hr]at e
 simp only[Prod.mk.injEq,Bs.mk.injEq]at e
 obtain⟨⟨rfl,rfl,rfl⟩,rfl⟩:=e
 refine hQ _ _ ?_
 exact .many (.inl rfl) rfl rfl (.agg (.d rfl rfl (.d rfl rfl (.d rfl rfl (.nil)))) (.d rfl rfl (.nil)))
 conv=>cbv
 refine .go r1.toNat Aq fun af ⟨ad,ab,ac⟩ ae=>?_
 conv=>cbv
 have e:((⟨ad,ab,ac⟩:Bs),true)=Fa (⟨Ah,Al,Ak,Ai,An,Am⟩:Ac) name:=(by unfold Fa;rw[aa,if_neg (by omega)];simp only[];rw[←gD (show r1.toNat<Ah.length by omega)];rw[←ae])
 rw[hr]at e
 simp only[Prod.mk.injEq,Bs.mk.injEq]at e
 obtain⟨⟨rfl,rfl,rfl⟩,rfl⟩:=e
 refine hQ _ _ ?_
 exact .many (.inl rfl) rfl rfl (.agg (.d rfl rfl (.d rfl rfl (.d rfl rfl (.nil)))) (.d rfl rfl (.nil)))
theorem Xdb(Aq:Ah.map A5=Bo)(As:Al.map Ae=Bm)(Av:Ak.map Ae=Bl)(At:Ai.map cS=Bn)(hd:okD ⟨Ah,Al,Ak,Ai,An,Am⟩)(hr:Fb (⟨Ah,Al,Ak,Ai,An,Am⟩:Ac) name=(oa,ob)):Fn Tryz.prog 261 [.agg [.d (.row 3 Bo),.d (.row 2 Bm),.d (.row 2 Bl),.d (.row 1 Bn),I An,I Am],S name] [] ⟨.tup [S oa,B ob],[],[]⟩:=by
 refine Fn.go Eo Tryz.func261 fun P hP Q hQ=>?_
 conv=>cbv
 rcases ab:Fa (⟨Ah,Al,Ak,Ai,An,Am⟩:Ac) name with⟨⟨ad,aa,ac⟩,ae⟩
 refine .dd hP (Xgt Aq As Av At hd ab) ?_
 conv=>cbv
 have e:(aa,ae)=Fb (⟨Ah,Al,Ak,Ai,An,Am⟩:Ac) name:=(by unfold Fb;rw[ab])
 rw[hr]at e
 simp only[Prod.mk.injEq]at e
 obtain⟨rfl,rfl⟩:=e
 refine hQ _ _ ?_
 exact .many (.inl rfl) rfl rfl (.d rfl rfl (.d rfl rfl (.nil)))
theorem Lu(hl:l.map Ae=xl)(hn:l.length<2^40)(hr:Cg l name=o):Fn Tryz.prog 213 [.d (.row 2 xl),S name] [] ⟨I o,[],[]⟩:=by
 refine Fn.go Eo Tryz.func213 fun P hP Q hQ=>?_
 conv=>cbv
 refine LoopW.lp (κ:=Int) Eo hP [] [0,1] (fun i5=>[(5,I i5)]) (fun i5=>[])
  (fun i5=>0≤i5∧i5≤l.length∧∀(j:Nat) (hj:j<l.length),j<i5.toNat→Bz l[j] name=false)
  (fun i5=>(l.length - i5).toNat) (0) ⟨by omega,by omega,fun j _ h=>by simp at h⟩ ⟨rfl,trivial⟩ rfl ?_
 rintro i5 J ⟨h0,h1,hb⟩ hJ
 conv=>cbv
 refine .go hl fun v1 ai=>?_
 conv=>cbv
 refine .lss (fun h2=>?_) fun h2=>?_
 conv=>cbv
 refine .go i5.toNat hl fun ag ⟨ad,ah⟩ aa=>?_
 conv=>cbv
 refine .eql (fun h4=>?_) fun h4=>?_
 conv=>cbv
 refine .go i5.toNat hl fun ab ⟨ae,ac⟩ af=>?_
 conv=>cbv
 have e:ac=Cg l name:=(by have e2:A7 l name=i5:=(Nz (p:=fun x=>Bz x name) (l:=l) h0 (by omega) (by rw[←aa];unfold Bz;rw[decide_eq_true_eq];exact h4) hb).symm;unfold Cg;rw[e2,if_neg (by omega),←gD ab,←af])
 rw[hr]at e
 subst e
 exact hQ _ _ (.i rfl rfl)
 conv=>cbv
 refine .add fun v5 aj=>?_
 conv=>cbv
 exact .go [] (v5) (hJ _ ⟨by omega,by omega,fun j hj h=>if e:j=i5.toNat then by subst e;rw[←aa];unfold Bz;rw[decide_eq_false_iff_not];exact h4 else hb j hj (by omega)⟩ mlt)
 conv=>cbv
 have e:0=Cg l name:=(by have e2:A7 l name= -1:=(Iv (p:=fun x=>Bz x name) fun j hj=>hb j hj (by omega)).symm;unfold Cg;rw[e2,if_pos (by omega)])
 rw[hr]at e
 subst e
 exact hQ _ _ (.i rfl rfl)
theorem Ob(Aq:Ah.map A5=Bo)(As:Al.map Ae=Bm)(Av:Ak.map Ae=Bl)(At:Ai.map cS=Bn)(hn:Ah.length<2^40)(hr:Gg (⟨Ah,Al,Ak,Ai,An,Am⟩:Ac) id=o):Fn Tryz.prog 212 [.agg [.d (.row 3 Bo),.d (.row 2 Bm),.d (.row 2 Bl),.d (.row 1 Bn),I An,I Am],I id] [] ⟨I o,[],[]⟩:=by
 refine Fn.go Eo Tryz.func212 fun P hP Q hQ=>?_
 conv=>cbv
 refine LoopW.lp (κ:=Int) Eo hP [] [1,2] (fun i5=>[(5,I i5)]) (fun i5=>[])
  (fun i5=>0≤i5∧i5≤Ah.length∧∀(j:Nat) (hj:j<Ah.length),j<i5.toNat→Dx Ah[j] id=false)
  (fun i5=>(Ah.length - i5).toNat) (0) ⟨by omega,by omega,fun j _ h=>by simp at h⟩ ⟨rfl,trivial⟩ rfl ?_
 rintro i5 J ⟨h0,h1,hb⟩ hJ
 conv=>cbv
 refine .go Aq fun v1 af=>?_
 conv=>cbv
 refine .lss (fun h2=>?_) fun h2=>?_
 conv=>cbv
 refine .go i5.toNat Aq fun ad ⟨ae,ab,ac⟩ aa=>?_
 conv=>cbv
 refine .eql (fun h4=>?_) fun h4=>?_
 conv=>cbv
 have e:i5=Gg (⟨Ah,Al,Ak,Ai,An,Am⟩:Ac) id:=(by exact Nz (p:=fun x=>Dx x id) (l:=Ah) h0 (by omega) (by rw[←aa];unfold Dx;rw[decide_eq_true_eq];exact h4) hb)
 rw[hr]at e
 subst e
 exact hQ _ _ (.i rfl rfl)
 conv=>cbv
 refine .add fun v5 ag=>?_
 conv=>cbv
 exact .go [] (v5) (hJ _ ⟨by omega,by omega,fun j hj h=>if e:j=i5.toNat then by subst e;rw[←aa];unfold Dx;rw[decide_eq_false_iff_not];exact h4 else hb j hj (by omega)⟩ mlt)
 conv=>cbv
 have e:(-1)=Gg (⟨Ah,Al,Ak,Ai,An,Am⟩:Ac) id:=(by exact Iv (p:=fun x=>Dx x id) (l:=Ah) fun j hj=>hb j hj (by omega))
 rw[hr]at e
 subst e
 exact hQ _ _ (.i rfl rfl)
theorem Of{o:Bool}(hl:l.map Ae=xl)(hn:l.length<2^40)(hr:Do l name=o):Fn Tryz.prog 214 [.d (.row 2 xl),S name] [] ⟨B o,[],[]⟩:=by
 refine Fn.go Eo Tryz.func214 fun P hP Q hQ=>?_
 conv=>cbv
 refine LoopW.lp (κ:=Int) Eo hP [] [0,1] (fun i5=>[(5,I i5)]) (fun i5=>[])
  (fun i5=>0≤i5∧i5≤l.length∧∀(j:Nat) (hj:j<l.length),j<i5.toNat→Bz l[j] name=false)
  (fun i5=>(l.length - i5).toNat) (0) ⟨by omega,by omega,fun j _ h=>by simp at h⟩ ⟨rfl,trivial⟩ rfl ?_
 rintro i5 J ⟨h0,h1,hb⟩ hJ
 conv=>cbv
 refine .go hl fun v1 ae=>?_
 conv=>cbv
 refine .lss (fun h2=>?_) fun h2=>?_
 conv=>cbv
 refine .go i5.toNat hl fun ac ⟨ab,ad⟩ aa=>?_
 conv=>cbv
 refine .eql (fun h4=>?_) fun h4=>?_
 conv=>cbv
 have e:true=Do l name:=(by have e2:A7 l name=i5:=(Nz (p:=fun x=>Bz x name) (l:=l) h0 (by omega) (by rw[←aa];unfold Bz;rw[decide_eq_true_eq];exact h4) hb).symm;unfold Do;rw[e2];symm;rw[decide_eq_true_eq];omega)
 rw[hr]at e
 subst e
 exact hQ _ _ (.b rfl rfl)
 conv=>cbv
 refine .add fun v5 af=>?_
 conv=>cbv
 exact .go [] (v5) (hJ _ ⟨by omega,by omega,fun j hj h=>if e:j=i5.toNat then by subst e;rw[←aa];unfold Bz;rw[decide_eq_false_iff_not];exact h4 else hb j hj (by omega)⟩ mlt)
 conv=>cbv
 have e:false=Do l name:=(by have e2:A7 l name= -1:=(Iv (p:=fun x=>Bz x name) fun j hj=>hb j hj (by omega)).symm;unfold Do;rw[e2];rfl)
 rw[hr]at e
 subst e
 exact hQ _ _ (.b rfl rfl)
theorem XfR(Aq:Ah.map A5=Bo)(As:Al.map Ae=Bm)(Av:Ak.map Ae=Bl)(At:Ai.map cS=Bn)(hd:okD ⟨Ah,Al,Ak,Ai,An,Am⟩)(hr:Fa (⟨Ah,Al,Ak,Ai,An,Am⟩:Ac) name=(⟨oaid,oatex,oasur⟩,ob)):Fn Tryz.prog 135 [.agg [.d (.row 3 Bo),.d (.row 2 Bm),.d (.row 2 Bl),.d (.row 1 Bn),I An,I Am],S name] [] ⟨.tup [.agg [I oaid,S oatex,I oasur],B ob],[],[]⟩:=by
 refine Fn.go Eo Tryz.func135 fun P hP Q hQ=>?_
 conv=>cbv
 obtain⟨d1,d2,d3,d4,d5,d6⟩:=hd
 simp only[]at d1 d2 d3 d4 d5 d6
 generalize ab:Cg Al name=r1
 refine .dd hP (Lu As (by omega) ab) ?_
 conv=>cbv
 generalize aa:Gg (⟨Ah,Al,Ak,Ai,An,Am⟩:Ac) r1=r2
 refine .dd hP (Ob Aq As Av At (by omega) aa) ?_
 conv=>cbv
 have hb:=Uj (d:=⟨Ah,Al,Ak,Ai,An,Am⟩) (id:=r1) aa
 simp only[]at hb
 refine .lss (fun h3=>?_) fun h3=>?_
 conv=>cbv
 have e:((⟨0,tx [],0⟩:Bs),false)=Fa (⟨Ah,Al,Ak,Ai,An,Am⟩:Ac) name:=(by rw[Ny,if_pos (.inl (by simp only[];rw[ab,aa];omega))])
 rw[hr]at e
 simp only[Prod.mk.injEq,Bs.mk.injEq]at e
 obtain⟨⟨rfl,rfl,rfl⟩,rfl⟩:=e
 refine hQ _ _ ?_
 exact .many (.inl rfl) rfl rfl (.agg (.d rfl rfl (.d rfl rfl (.d rfl rfl (.nil)))) (.d rfl rfl (.nil)))
 conv=>cbv
 generalize ac:Do Al name=r4
 refine .dd hP (Of As (by omega) ac) ?_
 cases r4
 conv=>cbv
 have e:((⟨0,tx [],0⟩:Bs),false)=Fa (⟨Ah,Al,Ak,Ai,An,Am⟩:Ac) name:=(by rw[Ny,if_pos (.inr ac)])
 rw[hr]at e
 simp only[Prod.mk.injEq,Bs.mk.injEq]at e
 obtain⟨⟨rfl,rfl,rfl⟩,rfl⟩:=e
 refine hQ _ _ ?_
 exact .many (.inl rfl) rfl rfl (.agg (.d rfl rfl (.d rfl rfl (.d rfl rfl (.nil)))) (.d rfl rfl (.nil)))
 conv=>cbv
 refine .go r2.toNat Aq fun ah ⟨af,ad,ae⟩ ag=>?_
 conv=>cbv
 have e:((⟨af,ad,ae⟩:Bs),true)=Fa (⟨Ah,Al,Ak,Ai,An,Am⟩:Ac) name:=(by rw[Ny,if_neg (by simp only[];rw[ab,aa,ac];rintro(h|h);omega;cases h)];simp only[];rw[ab,aa,←gD (show r2.toNat<Ah.length by omega),←ag])
 rw[hr]at e
 simp only[Prod.mk.injEq,Bs.mk.injEq]at e
 obtain⟨⟨rfl,rfl,rfl⟩,rfl⟩:=e
 refine hQ _ _ ?_
 exact .many (.inl rfl) rfl rfl (.agg (.d rfl rfl (.d rfl rfl (.d rfl rfl (.nil)))) (.d rfl rfl (.nil)))
theorem Xdg(Aq:Ah.map A5=Bo)(As:Al.map Ae=Bm)(Av:Ak.map Ae=Bl)(At:Ai.map cS=Bn)(hd:okD ⟨Ah,Al,Ak,Ai,An,Am⟩)(hr:Fb (⟨Ah,Al,Ak,Ai,An,Am⟩:Ac) name=(oa,ob)):Fn Tryz.prog 186 [.agg [.d (.row 3 Bo),.d (.row 2 Bm),.d (.row 2 Bl),.d (.row 1 Bn),I An,I Am],S name] [] ⟨.tup [S oa,B ob],[],[]⟩:=by
 refine Fn.go Eo Tryz.func186 fun P hP Q hQ=>?_
 conv=>cbv
 rcases ab:Fa (⟨Ah,Al,Ak,Ai,An,Am⟩:Ac) name with⟨⟨ad,aa,ac⟩,ae⟩
 refine .dd hP (XfR Aq As Av At hd ab) ?_
 conv=>cbv
 have e:(aa,ae)=Fb (⟨Ah,Al,Ak,Ai,An,Am⟩:Ac) name:=(by unfold Fb;rw[ab])
 rw[hr]at e
 simp only[Prod.mk.injEq]at e
 obtain⟨rfl,rfl⟩:=e
 refine hQ _ _ ?_
 exact .many (.inl rfl) rfl rfl (.d rfl rfl (.d rfl rfl (.nil)))
end
section
open Go.Proofs
open Go.Shelf
def Tryz.lays172_ren:Go.Shelf.Ren:=⟨fun|172=>305|244=>331|245=>324|247=>354|279=>346|280=>347|281=>348|282=>349|287=>323|316=>362|171=>216|205=>363|321=>344|322=>345|243=>279|246=>314|283=>335|284=>336|285=>337|286=>338|129=>357|317=>356|318=>358|319=>359|320=>360|337=>367|338=>368|n=>n,fun|9=>9|3=>3|75=>221|76=>222|4=>4|5=>5|167=>273|37=>135|0=>0|85=>279|2=>2|168=>275|53=>228|175=>229|46=>196|210=>287|127=>249|145=>294|143=>292|21=>21|171=>262|173=>265|212=>282|51=>260|20=>20|213=>283|232=>295|233=>296|80=>225|n=>n,fun|15=>2|16=>3|17=>1|18=>4|19=>5|n=>n⟩
def Tryz.laysM246_ren:Go.Shelf.Ren:=⟨fun|246=>314|283=>335|284=>336|285=>337|286=>338|129=>357|317=>356|318=>358|319=>359|320=>360|337=>367|338=>368|n=>n,fun|2=>2|3=>3|9=>9|4=>4|171=>262|0=>0|53=>228|37=>135|5=>5|173=>265|212=>282|51=>260|20=>20|213=>283|46=>196|232=>295|233=>296|n=>n,fun|17=>1|18=>4|19=>5|n=>n⟩
def Tryz.laysM243_ren:Go.Shelf.Ren:=⟨fun|243=>279|246=>314|283=>335|284=>336|285=>337|286=>338|129=>357|317=>356|318=>358|319=>359|320=>360|337=>367|338=>368|n=>n,fun|3=>3|9=>9|2=>2|4=>4|171=>262|0=>0|53=>228|37=>135|5=>5|173=>265|212=>282|51=>260|20=>20|213=>283|46=>196|232=>295|233=>296|n=>n,fun|17=>1|18=>4|19=>5|n=>n⟩
def Tryz.laysM171_ren:Go.Shelf.Ren:=⟨fun|171=>216|243=>279|246=>314|283=>335|284=>336|285=>337|286=>338|129=>357|317=>356|318=>358|319=>359|320=>360|337=>367|338=>368|n=>n,fun|3=>3|9=>9|2=>2|4=>4|171=>262|0=>0|53=>228|37=>135|5=>5|173=>265|212=>282|51=>260|20=>20|213=>283|46=>196|232=>295|233=>296|n=>n,fun|17=>1|18=>4|19=>5|n=>n⟩
theorem Tryz.laysM171:Go.Proofs.LaysM.n171 Tryz.prog Tryz.laysM171_ren:={
 mixed:=by kernel_rfl
 f129:=Tryz.func357.trans (congrArg some (by kernel_rfl))
 f171:=Tryz.func216.trans (congrArg some (by kernel_rfl))
 f243:=Tryz.func279.trans (congrArg some (by kernel_rfl))
 f246:=Tryz.func314.trans (congrArg some (by kernel_rfl))
 f283:=Tryz.func335.trans (congrArg some (by kernel_rfl))
 f284:=Tryz.func336.trans (congrArg some (by kernel_rfl))
 f285:=Tryz.func337.trans (congrArg some (by kernel_rfl))
 f286:=Tryz.func338.trans (congrArg some (by kernel_rfl))
 f317:=Tryz.func356.trans (congrArg some (by kernel_rfl))
 f318:=Tryz.func358.trans (congrArg some (by kernel_rfl))
 f319:=Tryz.func359.trans (congrArg some (by kernel_rfl))
 f320:=Tryz.func360.trans (congrArg some (by kernel_rfl))
 f337:=Tryz.func367.trans (congrArg some (by kernel_rfl))
 f338:=Tryz.func368.trans (congrArg some (by kernel_rfl))
 t0:=Tryz.underlying0
 a0:=Tryz.isAgg0
 z0:=Tryz.sizeOf0
 v0:=Tryz.zeroValue0
 t2:=Tryz.underlying2
 a2:=Tryz.isAgg2
 z2:=Tryz.sizeOf2
 v2:=Tryz.zeroValue2
 t3:=Tryz.underlying3
 a3:=Tryz.isAgg3
 z3:=Tryz.sizeOf3
 v3:=Tryz.zeroValue3
 t4:=Tryz.underlying4
 a4:=Tryz.isAgg4
 z4:=Tryz.sizeOf4
 v4:=Tryz.zeroValue4
 t5:=Tryz.underlying5
 a5:=Tryz.isAgg5
 z5:=Tryz.sizeOf5
 v5:=Tryz.zeroValue5
 t9:=Tryz.underlying9
 a9:=Tryz.isAgg9
 z9:=Tryz.sizeOf9
 v9:=Tryz.zeroValue9
 t20:=Tryz.underlying20
 a20:=Tryz.isAgg20
 z20:=Tryz.sizeOf20
 v20:=Tryz.zeroValue20
 t37:=Tryz.underlying135
 a37:=Tryz.isAgg135
 z37:=Tryz.sizeOf135
 v37:=Tryz.zeroValue135
 t46:=Tryz.underlying196
 a46:=Tryz.isAgg196
 z46:=Tryz.sizeOf196
 v46:=Tryz.zeroValue196
 t51:=Tryz.underlying260
 a51:=Tryz.isAgg260
 z51:=Tryz.sizeOf260
 v51:=Tryz.zeroValue260
 t53:=Tryz.underlying228
 a53:=Tryz.isAgg228
 z53:=Tryz.sizeOf228
 v53:=Tryz.zeroValue228
 t171:=Tryz.underlying262
 a171:=Tryz.isAgg262
 z171:=Tryz.sizeOf262
 v171:=Tryz.zeroValue262
 t173:=Tryz.underlying265
 a173:=Tryz.isAgg265
 z173:=Tryz.sizeOf265
 v173:=Tryz.zeroValue265
 t212:=Tryz.underlying282
 a212:=Tryz.isAgg282
 z212:=Tryz.sizeOf282
 v212:=Tryz.zeroValue282
 t213:=Tryz.underlying283
 a213:=Tryz.isAgg283
 z213:=Tryz.sizeOf283
 t232:=Tryz.underlying295
 a232:=Tryz.isAgg295
 z232:=Tryz.sizeOf295
 v232:=Tryz.zeroValue295
 t233:=Tryz.underlying296
 a233:=Tryz.isAgg296
 z233:=Tryz.sizeOf296
 v233:=Tryz.zeroValue296
 g17:=by kernel_rfl
 g18:=by kernel_rfl
 g19:=by kernel_rfl
 i0:=by kernel_rfl
 i2:=by kernel_rfl
 i3:=by kernel_rfl
 i4:=by kernel_rfl
 i5:=by kernel_rfl
 i9:=by kernel_rfl
 i20:=by kernel_rfl
 i37:=by kernel_rfl
 i46:=by kernel_rfl
 i51:=by kernel_rfl
 i53:=by kernel_rfl
 i171:=by kernel_rfl
 i173:=by kernel_rfl
 i212:=by kernel_rfl
 i232:=by kernel_rfl
 i233:=by kernel_rfl
 m17:=by kernel_rfl
 m18:=by kernel_rfl
 m19:=by kernel_rfl}
open Go.RowKit Go.Sort Go.Lib in
theorem Tryz.strconv_Itoa(n:Int)(h0: -9223372036854775808≤n)(h1:n≤9223372036854775807)(w:World)(htab:Lib.TabIs Tryz.prog w "internal/strconv.uint64pow10" .u64 Lib.pow10Tab):
  Calls Tryz.prog 216 #[.int .i64 n] w fun e w'=>e= .returned (.string ⟨(Lib.itoa n).toArray⟩)∧∃k os,w'=grow (w.drewN k) os:=Any.strconv_Itoa Tryz.laysM171 n h0 h1 w htab
def Tryz.laysC172_ren:Go.Shelf.Ren:=⟨fun|172=>305|244=>331|245=>324|247=>354|279=>346|280=>347|281=>348|282=>349|287=>323|316=>362|171=>216|205=>363|321=>344|322=>345|243=>279|246=>314|283=>335|284=>336|285=>337|286=>338|129=>357|317=>356|318=>358|319=>359|320=>360|337=>367|338=>368|n=>n,fun|9=>9|3=>3|75=>221|76=>222|4=>4|5=>5|167=>273|37=>135|0=>0|85=>279|2=>2|168=>275|53=>228|175=>229|46=>196|210=>287|127=>249|145=>294|143=>292|21=>21|171=>262|173=>265|212=>282|51=>260|20=>20|213=>283|232=>295|233=>296|80=>225|n=>n,fun|15=>2|16=>3|17=>1|18=>4|19=>5|n=>n⟩
theorem Tryz.laysC172:Go.Proofs.LaysC.n172 Tryz.prog Tryz.laysC172_ren:={
 mixed:=by kernel_rfl
 f129:=Tryz.func357.trans (congrArg some (by kernel_rfl))
 f171:=Tryz.func216.trans (congrArg some (by kernel_rfl))
 f172:=Tryz.func305.trans (congrArg some (by kernel_rfl))
 f205:=Tryz.func363.trans (congrArg some (by kernel_rfl))
 f243:=Tryz.func279.trans (congrArg some (by kernel_rfl))
 f244:=Tryz.func331.trans (congrArg some (by kernel_rfl))
 f245:=Tryz.func324.trans (congrArg some (by kernel_rfl))
 f246:=Tryz.func314.trans (congrArg some (by kernel_rfl))
 f247:=Tryz.func354.trans (congrArg some (by kernel_rfl))
 f279:=Tryz.func346.trans (congrArg some (by kernel_rfl))
 f280:=Tryz.func347.trans (congrArg some (by kernel_rfl))
 f281:=Tryz.func348.trans (congrArg some (by kernel_rfl))
 f282:=Tryz.func349.trans (congrArg some (by kernel_rfl))
 f283:=Tryz.func335.trans (congrArg some (by kernel_rfl))
 f284:=Tryz.func336.trans (congrArg some (by kernel_rfl))
 f285:=Tryz.func337.trans (congrArg some (by kernel_rfl))
 f286:=Tryz.func338.trans (congrArg some (by kernel_rfl))
 f287:=Tryz.func323.trans (congrArg some (by kernel_rfl))
 f316:=Tryz.func362.trans (congrArg some (by kernel_rfl))
 f317:=Tryz.func356.trans (congrArg some (by kernel_rfl))
 f318:=Tryz.func358.trans (congrArg some (by kernel_rfl))
 f319:=Tryz.func359.trans (congrArg some (by kernel_rfl))
 f320:=Tryz.func360.trans (congrArg some (by kernel_rfl))
 f321:=Tryz.func344.trans (congrArg some (by kernel_rfl))
 f322:=Tryz.func345.trans (congrArg some (by kernel_rfl))
 f337:=Tryz.func367.trans (congrArg some (by kernel_rfl))
 f338:=Tryz.func368.trans (congrArg some (by kernel_rfl))
 t0:=Tryz.underlying0
 a0:=Tryz.isAgg0
 z0:=Tryz.sizeOf0
 v0:=Tryz.zeroValue0
 t2:=Tryz.underlying2
 a2:=Tryz.isAgg2
 z2:=Tryz.sizeOf2
 v2:=Tryz.zeroValue2
 t3:=Tryz.underlying3
 a3:=Tryz.isAgg3
 z3:=Tryz.sizeOf3
 v3:=Tryz.zeroValue3
 t4:=Tryz.underlying4
 a4:=Tryz.isAgg4
 z4:=Tryz.sizeOf4
 v4:=Tryz.zeroValue4
 t5:=Tryz.underlying5
 a5:=Tryz.isAgg5
 z5:=Tryz.sizeOf5
 v5:=Tryz.zeroValue5
 t9:=Tryz.underlying9
 a9:=Tryz.isAgg9
 z9:=Tryz.sizeOf9
 v9:=Tryz.zeroValue9
 t20:=Tryz.underlying20
 a20:=Tryz.isAgg20
 z20:=Tryz.sizeOf20
 v20:=Tryz.zeroValue20
 t21:=Tryz.underlying21
 a21:=Tryz.isAgg21
 z21:=Tryz.sizeOf21
 v21:=Tryz.zeroValue21
 t37:=Tryz.underlying135
 a37:=Tryz.isAgg135
 z37:=Tryz.sizeOf135
 v37:=Tryz.zeroValue135
 t46:=Tryz.underlying196
 a46:=Tryz.isAgg196
 z46:=Tryz.sizeOf196
 v46:=Tryz.zeroValue196
 t51:=Tryz.underlying260
 a51:=Tryz.isAgg260
 z51:=Tryz.sizeOf260
 v51:=Tryz.zeroValue260
 t53:=Tryz.underlying228
 a53:=Tryz.isAgg228
 z53:=Tryz.sizeOf228
 v53:=Tryz.zeroValue228
 t75:=Tryz.underlying221
 a75:=Tryz.isAgg221
 z75:=Tryz.sizeOf221
 v75:=Tryz.zeroValue221
 t76:=Tryz.underlying222
 a76:=Tryz.isAgg222
 z76:=Tryz.sizeOf222
 v76:=Tryz.zeroValue222
 t85:=Tryz.underlying279
 a85:=Tryz.isAgg279
 z85:=Tryz.sizeOf279
 v85:=Tryz.zeroValue279
 t127:=Tryz.underlying249
 a127:=Tryz.isAgg249
 z127:=Tryz.sizeOf249
 v127:=Tryz.zeroValue249
 t143:=Tryz.underlying292
 a143:=Tryz.isAgg292
 z143:=Tryz.sizeOf292
 v143:=Tryz.zeroValue292
 t145:=Tryz.underlying294
 a145:=Tryz.isAgg294
 z145:=Tryz.sizeOf294
 v145:=Tryz.zeroValue294
 t167:=Tryz.underlying273
 a167:=Tryz.isAgg273
 z167:=Tryz.sizeOf273
 v167:=Tryz.zeroValue273
 t168:=Tryz.underlying275
 a168:=Tryz.isAgg275
 z168:=Tryz.sizeOf275
 v168:=Tryz.zeroValue275
 t171:=Tryz.underlying262
 a171:=Tryz.isAgg262
 z171:=Tryz.sizeOf262
 v171:=Tryz.zeroValue262
 t173:=Tryz.underlying265
 a173:=Tryz.isAgg265
 z173:=Tryz.sizeOf265
 v173:=Tryz.zeroValue265
 t175:=Tryz.underlying229
 a175:=Tryz.isAgg229
 z175:=Tryz.sizeOf229
 v175:=Tryz.zeroValue229
 t210:=Tryz.underlying287
 a210:=Tryz.isAgg287
 z210:=Tryz.sizeOf287
 v210:=Tryz.zeroValue287
 t212:=Tryz.underlying282
 a212:=Tryz.isAgg282
 z212:=Tryz.sizeOf282
 v212:=Tryz.zeroValue282
 t213:=Tryz.underlying283
 a213:=Tryz.isAgg283
 z213:=Tryz.sizeOf283
 t232:=Tryz.underlying295
 a232:=Tryz.isAgg295
 z232:=Tryz.sizeOf295
 v232:=Tryz.zeroValue295
 t233:=Tryz.underlying296
 a233:=Tryz.isAgg296
 z233:=Tryz.sizeOf296
 v233:=Tryz.zeroValue296
 g15:=by kernel_rfl
 g16:=by kernel_rfl
 g17:=by kernel_rfl
 g18:=by kernel_rfl
 g19:=by kernel_rfl
 t80:=Tryz.underlying225
 a80:=Tryz.isAgg225
 z80:=Tryz.sizeOf225
 v80:=Tryz.zeroValue225
 i0:=by kernel_rfl
 i2:=by kernel_rfl
 i3:=by kernel_rfl
 i4:=by kernel_rfl
 i5:=by kernel_rfl
 i9:=by kernel_rfl
 i20:=by kernel_rfl
 i21:=by kernel_rfl
 i37:=by kernel_rfl
 i46:=by kernel_rfl
 i51:=by kernel_rfl
 i53:=by kernel_rfl
 i75:=by kernel_rfl
 i76:=by kernel_rfl
 i80:=by kernel_rfl
 i85:=by kernel_rfl
 i127:=by kernel_rfl
 i143:=by kernel_rfl
 i145:=by kernel_rfl
 i167:=by kernel_rfl
 i168:=by kernel_rfl
 i171:=by kernel_rfl
 i173:=by kernel_rfl
 i175:=by kernel_rfl
 i210:=by kernel_rfl
 i212:=by kernel_rfl
 i232:=by kernel_rfl
 i233:=by kernel_rfl
 m15:=by kernel_rfl
 m16:=by kernel_rfl
 m17:=by kernel_rfl
 m18:=by kernel_rfl
 m19:=by kernel_rfl
 c0:=by kernel_rfl
 c2:=by kernel_rfl
 c3:=by kernel_rfl
 c4:=by kernel_rfl
 c5:=by kernel_rfl
 c9:=by kernel_rfl
 c20:=by kernel_rfl
 c21:=by kernel_rfl
 c37:=by kernel_rfl
 c46:=by kernel_rfl
 c51:=by kernel_rfl
 c53:=by kernel_rfl
 c75:=by kernel_rfl
 c76:=by kernel_rfl
 c80:=by kernel_rfl
 c85:=by kernel_rfl
 c127:=by kernel_rfl
 c143:=by kernel_rfl
 c145:=by kernel_rfl
 c167:=by kernel_rfl
 c168:=by kernel_rfl
 c171:=by kernel_rfl
 c173:=by kernel_rfl
 c175:=by kernel_rfl
 c210:=by kernel_rfl
 c212:=by kernel_rfl
 c213:=by kernel_rfl
 c232:=by kernel_rfl
 c233:=by kernel_rfl}
open Go.RowKit in
theorem Tryz.strconv_Atoi_ok(s:ByteArray)(hmax:s.size≤9223372036854775806)(v:Int)(h:Lib.atoiAll s.data.toList= .ok v)(w:World):
  Calls Tryz.prog 305 #[.string s] w fun e w'=>e= .returned (.tuple #[.int .i64 v,.nilIface])∧(w'=w∨∃t,w'=Lib.bytesWorld w 5 t):=Any.strconv_Atoi_ok Tryz.laysC172 s hmax v h w
open Go.RowKit in
theorem Tryz.strconv_Atoi_syntax(s:ByteArray)(hlim:s.size≤281474976710656)(h:Lib.atoiAll s.data.toList=(Lib.atoiAll []))(ev:Value)(w:World)(hv:w.cell? ⟨2,0,none⟩=some ev)(hev:ev= .nilIface∨∃te pe,ev= .iface te pe):
  Calls Tryz.prog 305 #[.string s] w fun e w'=>∃N,e= .returned (.tuple #[.int .i64 (0),.iface 275 (.pointer (some ⟨N,0,none⟩))])∧w.heap.size≤N∧w'.heap[N]? =some (.cells #[.string ⟨#[65,116,111,105]⟩,.string s,ev] 287 (0,0))∧Below w.heap.size w w':=Any.strconv_Atoi_syntax Tryz.laysC172 s hlim h ev w hv hev
open Go.RowKit in
theorem Tryz.strconv_Atoi_range(s:ByteArray)(hlim:s.size≤281474976710656)(h:Lib.atoiAll s.data.toList= .range)(ev:Value)(w:World)(hv:w.cell? ⟨3,0,none⟩=some ev)(hev:ev= .nilIface∨∃te pe,ev= .iface te pe):
  Calls Tryz.prog 305 #[.string s] w fun e w'=>∃N,e= .returned (.tuple #[.int .i64 (Lib.atoiSat s.data.toList),.iface 275 (.pointer (some ⟨N,0,none⟩))])∧w.heap.size≤N∧w'.heap[N]? =some (.cells #[.string ⟨#[65,116,111,105]⟩,.string s,ev] 287 (0,0))∧Below w.heap.size w w':=Any.strconv_Atoi_range Tryz.laysC172 s hlim h ev w hv hev
def Tryz.lays219_ren:Go.Shelf.Ren:=⟨fun|219=>330|217=>350|225=>351|224=>352|267=>353|266=>364|314=>365|n=>n,fun|9=>9|3=>3|4=>4|5=>5|46=>196|146=>267|51=>260|n=>n,fun|1=>0|n=>n⟩
theorem Tryz.lays219:Go.Proofs.Lays.n219 Tryz.prog Tryz.lays219_ren:={
 mixed:=by kernel_rfl
 f217:=Tryz.func350.trans (congrArg some (by kernel_rfl))
 f219:=Tryz.func330.trans (congrArg some (by kernel_rfl))
 f224:=Tryz.func352.trans (congrArg some (by kernel_rfl))
 f225:=Tryz.func351.trans (congrArg some (by kernel_rfl))
 f266:=Tryz.func364.trans (congrArg some (by kernel_rfl))
 f267:=Tryz.func353.trans (congrArg some (by kernel_rfl))
 f314:=Tryz.func365.trans (congrArg some (by kernel_rfl))
 t3:=Tryz.underlying3
 a3:=Tryz.isAgg3
 z3:=Tryz.sizeOf3
 v3:=Tryz.zeroValue3
 t4:=Tryz.underlying4
 a4:=Tryz.isAgg4
 z4:=Tryz.sizeOf4
 v4:=Tryz.zeroValue4
 t5:=Tryz.underlying5
 a5:=Tryz.isAgg5
 z5:=Tryz.sizeOf5
 v5:=Tryz.zeroValue5
 t9:=Tryz.underlying9
 a9:=Tryz.isAgg9
 z9:=Tryz.sizeOf9
 v9:=Tryz.zeroValue9
 t46:=Tryz.underlying196
 a46:=Tryz.isAgg196
 z46:=Tryz.sizeOf196
 v46:=Tryz.zeroValue196
 t51:=Tryz.underlying260
 a51:=Tryz.isAgg260
 z51:=Tryz.sizeOf260
 v51:=Tryz.zeroValue260
 t146:=Tryz.underlying267
 a146:=Tryz.isAgg267
 z146:=Tryz.sizeOf267
 v146:=Tryz.zeroValue267
 g1:=by kernel_rfl}
open Go.RowKit Go.Lib in
theorem Tryz.stringslite_Index_one(s:ByteArray)(c:UInt8)(w:World):
  Calls Tryz.prog 330 #[.string s,.string ⟨#[c]⟩] w fun e w'=>e= .returned (.int .i64 (Lib.indexByte s.data.toList c))∧w'=w:=Any.stringslite_Index_one Tryz.lays219 s c w
def Tryz.lays105_ren:Go.Shelf.Ren:=⟨fun|105=>267|212=>315|99=>316|165=>317|166=>271|170=>272|169=>273|263=>339|264=>340|206=>341|240=>319|241=>342|276=>343|277=>361|n=>n,fun|9=>9|3=>3|4=>4|20=>20|0=>0|46=>196|109=>244|5=>5|72=>219|76=>222|51=>260|146=>267|53=>228|148=>269|70=>217|37=>135|75=>221|127=>249|164=>271|80=>225|n=>n,fun|n=>n⟩
theorem Tryz.lays105:Go.Proofs.Lays.n105 Tryz.prog Tryz.lays105_ren:={
 mixed:=by kernel_rfl
 f99:=Tryz.func316.trans (congrArg some (by kernel_rfl))
 f105:=Tryz.func267.trans (congrArg some (by kernel_rfl))
 f165:=Tryz.func317.trans (congrArg some (by kernel_rfl))
 f166:=Tryz.func271.trans (congrArg some (by kernel_rfl))
 f169:=Tryz.func273.trans (congrArg some (by kernel_rfl))
 f170:=Tryz.func272.trans (congrArg some (by kernel_rfl))
 f206:=Tryz.func341.trans (congrArg some (by kernel_rfl))
 f212:=Tryz.func315.trans (congrArg some (by kernel_rfl))
 f240:=Tryz.func319.trans (congrArg some (by kernel_rfl))
 f241:=Tryz.func342.trans (congrArg some (by kernel_rfl))
 f263:=Tryz.func339.trans (congrArg some (by kernel_rfl))
 f264:=Tryz.func340.trans (congrArg some (by kernel_rfl))
 f276:=Tryz.func343.trans (congrArg some (by kernel_rfl))
 f277:=Tryz.func361.trans (congrArg some (by kernel_rfl))
 t0:=Tryz.underlying0
 a0:=Tryz.isAgg0
 z0:=Tryz.sizeOf0
 v0:=Tryz.zeroValue0
 t3:=Tryz.underlying3
 a3:=Tryz.isAgg3
 z3:=Tryz.sizeOf3
 v3:=Tryz.zeroValue3
 t4:=Tryz.underlying4
 a4:=Tryz.isAgg4
 z4:=Tryz.sizeOf4
 v4:=Tryz.zeroValue4
 t5:=Tryz.underlying5
 a5:=Tryz.isAgg5
 z5:=Tryz.sizeOf5
 v5:=Tryz.zeroValue5
 t9:=Tryz.underlying9
 a9:=Tryz.isAgg9
 z9:=Tryz.sizeOf9
 v9:=Tryz.zeroValue9
 t20:=Tryz.underlying20
 a20:=Tryz.isAgg20
 z20:=Tryz.sizeOf20
 v20:=Tryz.zeroValue20
 t37:=Tryz.underlying135
 a37:=Tryz.isAgg135
 z37:=Tryz.sizeOf135
 v37:=Tryz.zeroValue135
 t46:=Tryz.underlying196
 a46:=Tryz.isAgg196
 z46:=Tryz.sizeOf196
 v46:=Tryz.zeroValue196
 t51:=Tryz.underlying260
 a51:=Tryz.isAgg260
 z51:=Tryz.sizeOf260
 v51:=Tryz.zeroValue260
 t53:=Tryz.underlying228
 a53:=Tryz.isAgg228
 z53:=Tryz.sizeOf228
 v53:=Tryz.zeroValue228
 t70:=Tryz.underlying217
 a70:=Tryz.isAgg217
 z70:=Tryz.sizeOf217
 v70:=Tryz.zeroValue217
 t72:=Tryz.underlying219
 a72:=Tryz.isAgg219
 z72:=Tryz.sizeOf219
 v72:=Tryz.zeroValue219
 t75:=Tryz.underlying221
 a75:=Tryz.isAgg221
 z75:=Tryz.sizeOf221
 v75:=Tryz.zeroValue221
 t76:=Tryz.underlying222
 a76:=Tryz.isAgg222
 z76:=Tryz.sizeOf222
 v76:=Tryz.zeroValue222
 t109:=Tryz.underlying244
 a109:=Tryz.isAgg244
 z109:=Tryz.sizeOf244
 v109:=Tryz.zeroValue244
 t127:=Tryz.underlying249
 a127:=Tryz.isAgg249
 z127:=Tryz.sizeOf249
 v127:=Tryz.zeroValue249
 t146:=Tryz.underlying267
 a146:=Tryz.isAgg267
 z146:=Tryz.sizeOf267
 v146:=Tryz.zeroValue267
 t148:=Tryz.underlying269
 a148:=Tryz.isAgg269
 z148:=Tryz.sizeOf269
 v148:=Tryz.zeroValue269
 t164:=Tryz.underlying271
 a164:=Tryz.isAgg271
 z164:=Tryz.sizeOf271
 v164:=Tryz.zeroValue271}
theorem Tryz.Builder_Extra_105:Builder.Extra Tryz.prog Tryz.lays105_ren:={
 sizeBuilder:=by kernel_rfl
 liesBuilder:=by kernel_rfl
 t5:=Tryz.underlying5
 a5:=Tryz.isAgg5
 z5:=Tryz.sizeOf5
 v5:=Tryz.zeroValue5
 infoByte:=by kernel_rfl
 cellsByte:=by kernel_rfl
 sizeByte:=by kernel_rfl
 neB5:=by decide}
open Go.RowKit Go.Lib in
theorem Tryz.strings_Repeat(s:ByteArray)(c:Nat)(w:World)(hc:c≤9223372036854775807)(hlen:s.size*c≤140737488355328):
  Calls Tryz.prog 267 #[.string s,.int .i64 c] w fun e w'=>e= .returned (.string ⟨(Lib.repeatL s.data.toList c).toArray⟩)∧Below w.heap.size w w':=Any.strings_Repeat Tryz.lays105 Tryz.Builder_Extra_105 s c w hc hlen
end
section
open Go Go.Proofs
set_option maxRecDepth 20000
set_option maxHeartbeats 4000000
def Xcx:List (Nat×TyRow):=[ty2,ty3,ty4,ty5,ty9,Xfh,XiK,XiV]
theorem Xbi:By Tryz.prog Xcx:=By.of (by kernel_rfl)
theorem Ls:Setup Tryz.prog Xcx:=⟨Xbi,mixed⟩
def dig(n:Nat):UInt8:=if n% 16<10 then UInt8.ofNat (48+n% 16)else UInt8.ofNat (87+n% 16)
def XdU:Nat→Nat→List UInt8
 |0,_=>[]
 |k+1,n=>XdU k (n/16)++[dig n]
def XaJ(n:Nat):List UInt8:=if h:n<16 then[dig n]else XaJ (n/16)++[dig n]
termination_by n
decreasing_by omega
theorem Pj{n:Nat}(h:n<16):XaJ n=[dig n]:=by rw[XaJ,dif_pos h]
theorem Xaa{n:Nat}(h:¬n<16):XaJ n=XaJ (n/16)++[dig n]:=by rw[XaJ,dif_neg h]
theorem Xgh:dig 0=48:=rfl
theorem Xaq:∀(k:Nat),XdU k 0=List.replicate k 48
 |0=>rfl
 |k+1=>by rw[XdU,Nat.zero_div,Xaq k,Xgh,List.replicate_succ']
theorem Wk:∀(k n:Nat),(XdU k n).length=k
 |0,_=>rfl
 |k+1,n=>by rw[XdU,List.length_append,Wk];rfl
theorem Xhe:∀(k n:Nat),n<16^ (k+1)→XdU (k+1) n=List.replicate (k+1 - (XaJ n).length) 48++XaJ n∧1≤(XaJ n).length∧(XaJ n).length≤k+1
 |0,n,h=>by
  have h:n<16:=by simpa using h
  rw[Pj h]
  simp[XdU]
 |k+1,n,h=>by
  by_cases hn:n<16
  ·rw[Pj hn,XdU,Nat.div_eq_of_lt hn,Xaq]
   simp
  ·have h2:n/16<16^ (k+1):=by rw[Nat.pow_succ]at h;omega
   obtain⟨i1,i2,i3⟩:=Xhe k (n/16) h2
   rw[Xaa hn,XdU,i1,List.length_append,List.length_singleton,List.append_assoc]
   refine⟨?_,by omega,by omega⟩
   congr 2
   omega
def Af(n:Int):ByteArray:=if 0≤n∧n≤1000000000 then tx (115::(XdU 8 n.toNat++[46,115,101,103]))else tx []
theorem Uh{n:Int}{o:ByteArray}(e:Af n=o):o.size≤13:=by
 rw[←e]
 unfold Af
 split
 ·rw[B2,List.length_cons,List.length_append,Wk];simp
 ·simp[B2]
theorem digL:∀(j:Nat) (h:j<(⟨⟨[48,49,50,51,52,53,54,55,56,57,97,98,99,100,101,102]⟩⟩:ByteArray).size),(⟨⟨[48,49,50,51,52,53,54,55,56,57,97,98,99,100,101,102]⟩⟩:ByteArray)[j]=dig j:=by
 have key:∀j:Fin 16,(⟨⟨[48,49,50,51,52,53,54,55,56,57,97,98,99,100,101,102]⟩⟩:ByteArray)[j.val]'j.isLt=dig j.val:=by decide
 intro j h
 exact key ⟨j,h⟩
theorem XfG(n:Nat):dig (n% 16)=dig n:=by unfold dig;rw[Nat.mod_mod]
theorem and15(a:Int):Pi .and .i64 a 15=a% 16:=H1 (k:=4) (by omega)
theorem Xii{x:Nat}(h:x<18446744073709551616):Pi .and .u64 (x:Int) 15=((x% 16:Nat):Int):=by
 show IntKind.u64.wrap ((BitVec.ofInt 64 (x:Int)&&&BitVec.ofInt 64 ((15:Nat):Int)).toNat:Int)=_
 rw[BitVec.toNat_and,Jn (by omega),Jn (by omega),Fl,show(15:Nat)=2^4 - 1 from rfl,Nat.and_two_pow_sub_one_eq_mod]
 omega
theorem digF:∀(j:Nat) (hj:j<16) (h:j<(⟨⟨[48,49,50,51,52,53,54,55,56,57,97,98,99,100,101,102,103,104,105,106,107,108,109,110,111,112,113,114,115,116,117,118,119,120,121,122]⟩⟩:ByteArray).size),(⟨⟨[48,49,50,51,52,53,54,55,56,57,97,98,99,100,101,102,103,104,105,106,107,108,109,110,111,112,113,114,115,116,117,118,119,120,121,122]⟩⟩:ByteArray)[j]=dig j:=by
 have key:∀j:Fin 16,(⟨⟨[48,49,50,51,52,53,54,55,56,57,97,98,99,100,101,102,103,104,105,106,107,108,109,110,111,112,113,114,115,116,117,118,119,120,121,122]⟩⟩:ByteArray)[j.val]'(Nat.lt_of_lt_of_le j.isLt (by decide))=dig j.val:=by decide
 intro j hj h
 exact key ⟨j,hj⟩
theorem XfI{v:Int}{n:Nat}(h:v=((dig n).toNat:Int)):[D.sc (.int .u8 v)]=cB (dig n):=by rw[h];rfl
theorem Xcz{α:Type}{l:List α}{p:Nat}{x:α}(h:p<l.length):(l.set p x).drop p=x::l.drop (p+1):=by
 rw[List.drop_eq_getElem_cons (by rw[List.length_set];exact h),List.getElem_set_self]
 congr 1
 rw[List.drop_set_of_lt (by omega)]
def Ij:Bool:=true
def Ng(_:Int):Int:=4
def K8(u:Int):List UInt8×ByteArray:=([],tx (XaJ u.toNat))
def Gq(n:Int):ByteArray:=tx (XaJ n.toNat)
def Ry(n:Int):ByteArray:=tx (List.replicate n.toNat 48)
theorem tz64{w:World}(h:Lib.TabIs Tryz.prog w "math/bits.deBruijn64tab" .u8 Qg):Calls Tryz.prog 368 #[.int .u64 16] w fun e w'=>e= .returned (.int .i64 4)∧w'=w:=by
 have hq:IntKind.u64.wrap (bits BinOp.and IntKind.u64 16 (IntKind.u64.wrap (-16))*285870213051353865)/288230376151711744=15:=by decide+kernel
 have hc:w.cell? ⟨5,15,none⟩=some (.int .u8 4):=h.cell gn5 15 (by decide)
 go_enter Tryz.func368,Tryz.ntmps368
 go_wp2
 go_ret
 exact⟨rfl,rfl⟩
theorem tz{w:World}(h:Lib.TabIs Tryz.prog w "math/bits.deBruijn64tab" .u8 Qg):Calls Tryz.prog 360 #[.int .u64 16] w fun e w'=>e= .returned (.int .i64 4)∧w'=w:=by
 go_enter Tryz.func360,Tryz.ntmps360
 go_wp2_with (first
  |(go_at_call 368;refine(tz64 h).mono ?_;rintro e w' ⟨rfl,rfl⟩)
  |go_in)
 go_ret
 exact⟨rfl,rfl⟩
variable {o:ByteArray} {n:Int}
theorem J3{x o:Int}(hx:x=16)(hr:Ng x=o):Fn Tryz.prog 360 [.d (.sc (.int .u64 x))] [] ⟨I o,[],[]⟩:=by
 refine⟨D5 Tryz.func360 rfl rfl,CallOk.ofCallsG fun E vs hS hG hA=>?_⟩
 obtain⟨u,rfl,h1⟩:=XhL hA
 rw[Nv h1,hx]
 refine(tz (Xhr hG)).mono ?_
 rintro e w' ⟨rfl,rfl⟩
 exact⟨_,rfl,⟨rfl,rfl,rfl,Nat.le_refl _,fun _ _=>rfl⟩,by rw[←hr];exact .sc _ rfl⟩
theorem Co(hr:Af n=o):Fn Tryz.prog 157 [I n] [] ⟨S o,[],[]⟩:=by
 refine Fn.go Ls Tryz.func157 fun P hP Q hQ=>?_
 conv=>cbv
 generalize ac:A8 n 0 1000000000=r1
 refine .dd hP (Cy ac) ?_
 cases r1
 simp only[A8,decide_eq_true_eq,decide_eq_false_iff_not]at ac
 conv=>cbv
 have e:(tx [])=Af n:=(by unfold Af;rw[if_neg (by omega)])
 rw[hr]at e
 subst e
 exact hQ _ _ (.s rfl rfl)
 simp only[A8,decide_eq_true_eq,decide_eq_false_iff_not]at ac
 conv=>cbv
 refine LoopW.lp (κ:=Int×(List (List D))×Nat) Ls hP [0] [0] (fun(i4,aa,ab)=>[(3,.ref 1 0 ab),(4,I i4)]) (fun(i4,aa,ab)=>[(1,.row 1 false aa)])
  (fun(i4,aa,ab)=>∃(w1:List UInt8),w1.map cB=aa∧ab=w1.length∧-1≤i4∧i4≤7∧w1=XdU (7 - i4).toNat (n.toNat/16^ (i4+1).toNat))
  (fun(i4,aa,ab)=>(i4+1).toNat) (7,[],0) ⟨[],rfl,rfl,by omega,by omega,rfl⟩ ⟨rfl,rfl,trivial⟩ rfl ?_
 rintro⟨i4,aa,ab⟩ J ⟨w1,ad,an,h0,h1,hw⟩ hJ
 have hwl:w1.length=(7 - i4).toNat:=by rw[hw,Wk]
 have hsz:(⟨⟨[48,49,50,51,52,53,54,55,56,57,97,98,99,100,101,102]⟩⟩:ByteArray).size=16:=rfl
 conv=>cbv
 refine .geq (fun h2=>?_) fun h2=>?_
 conv=>cbv
 refine .mul fun v3 ap=>?_
 conv=>cbv
 refine .go fun v4 af=>?_
 conv=>cbv
 have e4:v4=v3:=by rw[af,Fl];omega
 refine .shr fun v5 ag=>?_
 conv=>cbv
 refine .and fun v6 ah=>?_
 conv=>cbv
 have e5:v5=((n.toNat/16^i4.toNat:Nat):Int):=by
  have e2:(2:Int)^v4.toNat=((16^i4.toNat:Nat):Int):=by
   rw[show v4.toNat=4*i4.toNat by omega,Int.pow_mul,Int.natCast_pow]
   rfl
  rw[ag,e2,Int.natCast_ediv,Int.toNat_of_nonneg (by omega)]
 have e6:v6=((n.toNat/16^i4.toNat% 16:Nat):Int):=by rw[ah,and15,e5];omega
 have aq:n.toNat/16^i4.toNat% 16<16:=Nat.mod_lt _ (by omega)
 refine .go v6.toNat fun hjv7 v7 ai bv7=>?_
 conv=>cbv
 have e7:[D.sc (.int .u8 v7)]=cB (dig (n.toNat/16^i4.toNat)):=XfI (by rw[ai,digL,e6,Int.toNat_natCast,XfG])
 refine .one (dig (n.toNat/16^i4.toNat)) ad e7 fun aj z8 ao ak=>?_
 conv=>cbv
 refine .sub fun v9 ar=>?_
 conv=>cbv
 exact .go [3] (v9,z8,aj) (hJ _ ⟨_,ak,Q7,by omega,by omega,by rw[hw,show(7 - v9).toNat=(7 - i4).toNat+1 by omega,XdU,show(v9+1).toNat=i4.toNat by omega,Nat.div_div_eq_div_mul,←Nat.pow_succ,show(i4+1).toNat=i4.toNat+1 by omega]⟩ mlt)
 conv=>cbv
 refine .go ad fun s3 ae=>?_
 conv=>cbv
 have au:s3.size=w1.length:=by rw[ae,B2]
 refine .litL 1 fun s4 al aw=>?_
 conv=>cbv
 refine .litR 4 fun s5 am ax=>?_
 conv=>cbv
 have e:s5=Af n:=(by unfold Af;rw[if_pos (by omega),am,al,ae,hw,show i4= -1 by omega];show tx [115]++tx _++tx [46,115,101,103]=_;rw[Dh,Dh];simp)
 rw[hr]at e
 subst e
 exact hQ _ _ (.s rfl rfl)
theorem G8{o:Bool}(hr:Ij=o):Fn Tryz.prog 359 [I 16] [] ⟨B o,[],[]⟩:=by
 refine Fn.go Ls Tryz.func359 fun P hP Q hQ=>?_
 conv=>cbv
 refine .sub fun v1 aa=>?_
 conv=>cbv
 refine .and fun v2 ab=>?_
 conv=>cbv
 refine .eql (fun h3=>?_) fun h3=>?_
 conv=>cbv
 have e:true=Ij:=(by rfl)
 rw[hr]at e
 subst e
 exact hQ _ _ (.b rfl rfl)
 conv=>cbv
 have e:false=Ij:=(by exfalso;apply h3;rw[ab,aa];rfl)
 rw[hr]at e
 subst e
 exact hQ _ _ (.b rfl rfl)
theorem H6{u:Int}{oa:List UInt8}{xoa:List (List D)}{ob:ByteArray}(hu:0≤u∧u<4294967296)(hr:K8 u=(oa,ob))(hoa:oa.map cB=xoa):Fn Tryz.prog 338 [.d (.row 1 []),.d (.sc (.int .u64 u)),I 16,B false,B false] [] ⟨.tup [.d (.row 1 xoa),S ob],[],[]⟩:=by
 refine Fn.go Ls Tryz.func338 fun P hP Q hQ=>?_
 conv=>cbv
 refine .lss (fun h1=>?_) fun h1=>?_
 omega
 conv=>cbv
 refine .eql (fun h2=>?_) fun h2=>?_
 omega
 conv=>cbv
 refine .gtr (fun h3=>?_) fun h3=>?_
 omega
 conv=>cbv
 refine .go 65 hP (by kernel_rfl) fun z4 ay=>?_
 conv=>cbv
 generalize ai:Ij=r5
 refine .dd hP (G8 ai) ?_
 cases r5
 cases ai
 conv=>cbv
 refine .go fun v6 az=>?_
 conv=>cbv
 generalize aj:Ng v6=r7
 refine .dd hP (J3 (by rw[az,Fl];rfl) aj) ?_
 conv=>cbv
 refine .go fun v8 a0=>?_
 conv=>cbv
 refine .go fun v9 a1=>?_
 conv=>cbv
 refine .go fun be ak=>?_
 conv=>cbv
 refine .subW fun a2 al=>?_
 conv=>cbv
 refine LoopW.lp (κ:=Int×Int×(List (List D))) Ls hP [] [0,3,4,10,11,12,14,15,16] (fun(i1,aa,ab)=>[(1,.d (.sc (.int .u64 i1))),(13,I aa)]) (fun(i1,aa,ab)=>[(1,.row 1 false ab)])
  (fun(i1,aa,ab)=>∃(w1:List UInt8),w1.map cB=ab∧∃k:Nat,i1=((u.toNat/16^k:Nat):Int)∧aa=65 - (k:Int)∧k≤7∧w1.length=65∧XaJ u.toNat=XaJ (u.toNat/16^k)++w1.drop (65 - k))
  (fun(i1,aa,ab)=>(aa).toNat) (u,65,z4) ⟨(List.replicate 65 (0:UInt8)),ay,0,by simp;omega,rfl,by omega,by simp,by simp⟩ ⟨rfl,rfl,trivial⟩ rfl ?_
 rintro⟨i1,aa,ab⟩ J ⟨w1,am,k,af,ba,hk,hwl,hx⟩ hJ
 have e7:r7=4:=aj.symm
 have e8:v8=4:=by rw[a0,Fl,e7];rfl
 have e9:v9=16:=by rw[a1,Fl];rfl
 have a3:a2=15:=by rw[al,ak,Fl,Fl];rfl
 have hlt:u.toNat/16^k≤u.toNat:=Nat.div_le_self _ _
 have a4:16≤u.toNat/16^k→k<7:=by
  intro h
  rcases Nat.lt_or_ge k 7 with h7|h7
  ·exact h7
  ·obtain rfl:k=7:=by omega
   omega
 have hnx:u.toNat/16^ (k+1)=u.toNat/16^k/16:=by rw[Nat.pow_succ,←Nat.div_div_eq_div_mul]
 generalize hq:u.toNat/16^k=q at*
 conv=>cbv
 refine .geq (fun h12=>?_) fun h12=>?_
 conv=>cbv
 refine .sub fun ag an=>?_
 conv=>cbv
 refine .and fun ac ad=>?_
 conv=>cbv
 have h7:=a4 (by omega)
 have ah:ac=((q% 16:Nat):Int):=by rw[ad,a3,af,Xii (by omega)]
 have bb:q% 16<16:=Nat.mod_lt _ (by omega)
 refine .go ac.toNat (hj:=by show ac.toNat<36;omega) fun hjv15 a5 ao bv15=>?_
 conv=>cbv
 refine .go hP Tryz.underlying283 (by kernel_rfl) fun ap bc=>?_
 conv=>cbv
 have a6:[D.sc (.int .u8 a5)]=cB (dig q):=XfI (by rw[ao,digF _ (by omega),ah,Int.toNat_natCast,XfG])
 refine .all (dig q) am a6 fun a7 aq=>?_
 conv=>cbv
 refine .shrW fun a8 ar=>?_
 conv=>cbv
 exact .go [] (a8,ag,a7) (hJ _ ⟨_,aq,k+1,by rw[ar,e8,af,Int.fdiv_eq_ediv_of_nonneg _ (by decide),hnx];show(q:Int)/16=_;omega,by omega,by omega,by rw[List.length_set];exact hwl,by rw[hx,Xaa (show¬q<16 by omega),List.append_assoc,hnx,show 65 - (k+1)=ap by omega,Xcz (by omega),show ap+1=65 - k by omega];rfl⟩ mlt)
 conv=>cbv
 refine .sub fun ag an=>?_
 conv=>cbv
 refine .go i1.toNat (hj:=by show i1.toNat<36;omega) fun hjv14 ac ad bv14=>?_
 conv=>cbv
 refine .go hP Tryz.underlying283 (by kernel_rfl) fun au bd=>?_
 conv=>cbv
 have ah:[D.sc (.int .u8 ac)]=cB (dig q):=XfI (by rw[ad,digF _ (by omega),af,Int.toNat_natCast])
 refine .all (dig q) am ah fun bf ae=>?_
 conv=>cbv
 refine .lo hP ae Tryz.underlying283 (by kernel_rfl) fun on17 bg hon17 aw=>?_
 conv=>cbv
 refine .off ae fun a9 ax=>?_
 conv=>cbv
 have e:([],a9)=K8 u:=(by unfold K8;rw[ax,hx,Pj (show q<16 by omega),hon17,aw,show ag.toNat=au by omega,Xcz (by omega),show au+1=65 - k by omega,List.take_of_length_le (by simp;omega)];rfl)
 rw[hr]at e
 simp only[Prod.mk.injEq]at e
 obtain⟨rfl,rfl⟩:=e
 refine hQ _ _ ?_
 exact .many (.inl rfl) rfl rfl (.ref rfl rfl (by rw[←hoa];rfl) (.d rfl rfl (.nil)))
theorem Im(hn:0≤n∧n≤1000000000)(hr:Gq n=o):Fn Tryz.prog 314 [I n,I 16] [] ⟨S o,[],[]⟩:=by
 refine Fn.go Ls Tryz.func314 fun P hP Q hQ=>?_
 conv=>cbv
 refine .eql (fun h1=>?_) fun h1=>?_
 omega
 conv=>cbv
 refine .go fun v2 aa=>?_
 conv=>cbv
 refine .lss (fun h3=>?_) fun h3=>?_
 omega
 conv=>cbv
 rcases ab:K8 v2 with⟨ad,ae⟩
 generalize ac:ad.map cB=af
 refine .dd hP (H6 (by rw[aa,Fl];omega) ab ac) ?_
 conv=>cbv
 have e:ae=Gq n:=(by have e2:v2=n:=(by rw[aa,Fl];omega);unfold Gq;rw[←e2];exact(congrArg Prod.snd ab).symm)
 rw[hr]at e
 subst e
 exact hQ _ _ (.s rfl rfl)
theorem Ns(hn:0≤n∧n≤1000000000)(hr:Gq n=o):Fn Tryz.prog 266 [I n,I 16] [] ⟨S o,[],[]⟩:=by
 refine Fn.go Ls Tryz.func266 fun P hP Q hQ=>?_
 conv=>cbv
 generalize aa:Gq n=r1
 refine .dd hP (Im hn aa) ?_
 conv=>cbv
 have e:r1=Gq n:=(by exact aa.symm)
 rw[hr]at e
 subst e
 exact hQ _ _ (.s rfl rfl)
theorem Q6{c:Int}(hc:0≤c∧c≤8)(hr:Ry c=o):Fn Tryz.prog 267 [S (tx [48]),I c] [] ⟨S o,[],[]⟩:=by
 refine⟨D5 Tryz.func267 rfl rfl,CallOk.ofCalls fun E vs hS hA=>?_⟩
 obtain⟨u,v,rfl,h1,h2⟩:=XiB hA
 rw[Nv h1,Nv h2]
 obtain⟨k,rfl⟩:=Int.eq_ofNat_of_zero_le hc.1
 refine(Tryz.strings_Repeat (tx [48]) k E.w (by omega) (by rw[B2];simp;omega)).mono ?_
 rintro e w' ⟨rfl,hb⟩
 refine⟨_,rfl,hb,?_⟩
 have:(⟨(Lib.repeatL (tx [48]).data.toList k).toArray⟩:ByteArray)=o:=by
  rw[←hr]
  unfold Ry tx
  congr 2
  rw[Int.toNat_natCast]
  have key:∀k,Lib.repeatL (tx [48]).data.toList k=List.replicate k 48:=by
   intro k
   induction k with
   |zero=>rfl
   |succ k ih=>show[48]++Lib.repeatL _ k=_;rw[ih];rfl
  exact key k
 rw[this]
 exact .sc _ rfl
theorem Fp(hr:Af n=o):Fn Tryz.prog 203 [I n] [] ⟨S o,[],[]⟩:=by
 refine Fn.go Ls Tryz.func203 fun P hP Q hQ=>?_
 conv=>cbv
 generalize aa:Bi n=r1
 refine .dd hP (Fj aa) ?_
 cases r1
 simp only[Bi,decide_eq_true_eq,decide_eq_false_iff_not]at aa
 conv=>cbv
 have e:(tx [])=Af n:=(by unfold Af;rw[if_neg (by omega)])
 rw[hr]at e
 subst e
 exact hQ _ _ (.s rfl rfl)
 simp only[Bi,decide_eq_true_eq,decide_eq_false_iff_not]at aa
 conv=>cbv
 generalize ab:Gq n=r2
 refine .dd hP (Ns aa ab) ?_
 conv=>cbv
 obtain⟨p1,p2,p3⟩:=Xhe 7 n.toNat (by omega)
 have z2:r2.size=(XaJ n.toNat).length:=by rw[←ab];exact B2
 refine .go fun v3 ag=>?_
 conv=>cbv
 refine .sub fun v4 ah=>?_
 conv=>cbv
 generalize ac:Ry v4=r5
 refine .dd hP (Q6 (by omega) ac) ?_
 conv=>cbv
 have z5:r5.size=v4.toNat:=by rw[←ac];unfold Ry;rw[B2,List.length_replicate]
 refine .litL 1 fun s6 ad ai=>?_
 conv=>cbv
 refine .go fun s7 ae aj=>?_
 conv=>cbv
 refine .litR 4 fun s8 af ak=>?_
 conv=>cbv
 have e:s8=Af n:=(by unfold Af;rw[if_pos (by omega),af,ae,ad,←ac,←ab,p1];unfold Ry Gq;show tx [115]++tx _++tx _++tx [46,115,101,103]=_;rw[Dh,Dh,Dh,show v4.toNat=7+1 - (XaJ n.toNat).length by omega];simp)
 rw[hr]at e
 subst e
 exact hQ _ _ (.s rfl rfl)
end
section
open Go Go.Proofs
set_option maxRecDepth 20000
set_option maxHeartbeats 4000000
open Go.RowKit
theorem CallOk.callsV{P:Program}{f:FuncId}{as0:List AV}{val:Value}(h:CallOk P f as0 [] ⟨.d (.sc val),[],[]⟩){w:World}(hG:Globs.ok w fun b=>b<w.heap.size){vs:Array Value}
  (hA:XaP (Bd w (fun b=>b<w.heap.size) (fun _=>none) [] []) as0 vs):Calls P f vs w fun e w'=>e= .returned val∧Below w.heap.size w w':=by
 have hM:Mem (Ev w (fun b=>b<w.heap.size) (fun _=>none) []) (Bd w (fun b=>b<w.heap.size) (fun _=>none) [] []):={
  os:=rfl
  output:=rfl
  tape:=rfl
  size:=Nat.le_refl _
  keep:=fun _ _ _=>rfl
  shape:=fun _ _ h=>h
  s0:=fun _ h=>h
  slt:=fun _ h=>h
  glob:=hG
  snew:=fun _ h=>.inl h
  blt:=fun r b h=>absurd h (Nat.not_lt_zero r)
  bown:=fun r R b h=>absurd h (Nat.not_lt_zero r)
  bkeep:=fun r R h=>absurd h (Nat.not_lt_zero r)
  inj:=fun r r' R R' b h=>absurd h (Nat.not_lt_zero r)
  roots:=fun r R h=>absurd h (Nat.not_lt_zero r)}
 refine(h _ _ _ _ hM hA).mono ?_
 rintro e w' ⟨v,E',rfl,rfl,o⟩
 refine⟨?_,⟨o.mem.os,o.mem.tape,o.mem.output,o.mem.size,fun b hb=>o.mem.keep b hb (fun hn=>?_)⟩⟩
 ·have:=o.rel
  have h2:=Nv this
  rw[h2]
 ·obtain⟨r,R,h1,-⟩:=hn
  simp at h1
theorem Ha{w w':World}(hG:Globs.ok w fun b=>b<w.heap.size)(hb:Below w.heap.size w w'):Globs.ok w' fun b=>b<w'.heap.size:=
 Globs.step (fun b h=>Nat.lt_of_lt_of_le h hb.size) (fun b h=>hb.block b h) hG
theorem CallOk.ofCallsT{P:Program}{f:FuncId}{as0:List AV}{v1 v2:Value}(o1:v1.oneCell'=true)(o2:v2.oneCell'=true)(h:∀(E:Env) (vs:Array Value),(∀b,E.S b→b<E.w.heap.size)→Globs.ok E.w E.S→XaP E as0 vs→Calls P f vs E.w fun e w'=>e= .returned (.tuple #[v1,v2])∧Below E.w.heap.size E.w w'):CallOk P f as0 [] ⟨.tup [.d (.sc v1),.d (.sc v2)],[],[]⟩:=by
 intro w S β vs hM hA
 refine(h (Bd w S β [] []) vs hM.slt hM.glob hA).mono ?_
 rintro e w' ⟨he,hb⟩
 have hb:Below w.heap.size w w':=hb
 have st:Step (Bd w S β [] []) {Bd w S β [] []with w:=w'}:=⟨fun r R hR=>⟨R,hR,.inr rfl⟩,fun _ h=>h,fun _ _=>rfl,fun _ h=>h,fun b hS=>hb.block b (hM.slt b hS),fun b s hs=>Ks hb hs⟩
 refine⟨.tuple #[v1,v2],{Bd w S β [] []with w:=w'},he,rfl,?_,st,?_,?_,hb.size,.tup _ _ rfl ?_⟩
 ·exact{
   os:=hb.os.trans hM.os
   output:=hb.output.trans hM.output
   tape:=hb.tape.trans hM.tape
   size:=hb.size
   keep:=fun b hlt hn=>hb.block b hlt
   shape:=fun b s hs=>Ks hb hs
   s0:=hM.s0
   slt:=fun b hS=>Nat.lt_of_lt_of_le (hM.slt b hS) hb.size
   glob:=Globs.step st.S st.heap hM.glob
   snew:=hM.snew
   blt:=fun r b hp hβ=>absurd hp (Nat.not_lt_zero r)
   bown:=fun r R b hp=>absurd hp (Nat.not_lt_zero r)
   bkeep:=fun r R hlt hp=>absurd hp (Nat.not_lt_zero r)
   inj:=fun r r' R R' b hp=>absurd hp (Nat.not_lt_zero r)
   roots:=fun r R hp=>absurd hp (Nat.not_lt_zero r)}
 ·rfl
 ·intro r
  constructor
  ·exact fun h=>.inl h
  ·rintro(h|⟨_,h⟩)
   ·exact h
   ·exact absurd h (by simp)
 ·intro j y hy
  match j,hy with
  |0,hy=>cases hy;exact .d _ _ (.sc _ o1)
  |1,hy=>cases hy;exact .d _ _ (.sc _ o2)
end
section
open Go Go.Proofs
set_option maxRecDepth 20000
set_option maxHeartbeats 4000000
open Go.RowKit
theorem Xik{a b:ByteArray}(h:¬a=b):(a.toList==b.toList)=false:=by
 rw[Bool.eq_false_iff]
 exact fun hh=>h ((Lib.bytes_beq_iff _ _).1 hh)
theorem Ti{w:World}(hG:Globs.ok w fun b=>b<w.heap.size){n:Int}{o:Bool}(hr:Bi n=o):Calls Tryz.prog 173 #[.int .i64 n] w fun e w'=>e= .returned (.bool o)∧Below w.heap.size w w':=by
 refine(Fj (n:=n) hr).ok.callsV hG ⟨rfl,?_⟩
 intro j y hy
 match j,hy with
 |0,hy=>cases hy;exact .d _ _ (.sc _ rfl)
end
section
open Go Go.Proofs
set_option maxRecDepth 20000
set_option maxHeartbeats 4000000
def Xb1:List (Nat×TyRow):=[ty3,ty9,Xc3,Xha,XaI,Xc7,XiT,Xgy,Xij]
theorem XbB:By Tryz.prog Xb1:=By.of (by kernel_rfl)
theorem Mi:Setup Tryz.prog Xb1:=⟨XbB,mixed⟩
def Jx(d:Ac)(base:Int):ByteArray:=(Fb d (Af base)).1
def G1(link:Int)(r:ByteArray):Int:=E6 link (Az r.size 4++r)
def Hp(link:Int)(l:List ByteArray):Int:=l.foldl G1 link
def Fo(b:ByteArray):Int:=Hp (Cp b).head_.link_ (Cp b).records_
theorem Vw{d:Ac}{b:Int}{t:ByteArray}(hd:okD d)(e:Jx d b=t):t.size≤1000000000:=by
 rw[←e]
 exact Xbs (ok:=(Fb d (Af b)).2) hd rfl
theorem Xcp:∀(k:Nat) {h:B7} {b:ByteArray} {n:Nat} {p:Int},(b.size - p).toNat≤k→0≤p∧p≤b.size→∀r∈(G6 h b n p).1,r.size≤60
 |k,h,b,n,p,hk,hp=>by
  cases hm:Dl h.version_ (h.base_+n) b p
  ·rcases hf:A4 h.version_ (h.base_+n) b p with⟨r,q,ok⟩
   cases ok
   ·rw[Mx hm hf];simp
   ·have h2:=G2 hf
    rw[Mr hm hf]
    cases k with
    |zero=>omega
    |succ k=>
     have ih:=Xcp k (h:=h) (b:=b) (n:=n+1) (p:=q) (by omega) (by omega)
     intro x hx
     rcases List.mem_cons.1 hx with rfl|hx
     ·omega
     ·exact ih x hx
  ·rw[Mv hm];simp
theorem XcX{b:ByteArray}:∀r∈(Cp b).records_,r.size≤60:=by
 unfold Cp
 split
 ·rename_i h e
  have h2:=Hj e
  exact Xcp _ (h:=h) (b:=b) (n:=0) (p:=24) (Nat.le_refl _) (by omega)
 ·simp
theorem Xf2{α β:Type}{f:α→β}{l:List α}{k:Nat}(h:k<l.length):(l.take (k+1)).map f=(l.take k).map f++[f l[k]]:=by rw[List.take_succ_eq_append_getElem h,List.map_append];rfl
variable {Ah:List Bs} {Bo Bm Bl Bn:List (List D)} {Al Ak:List Aj} {Ai:List ByteArray} {An Am base o link:Int} {r:ByteArray}
theorem Xgl{o:ByteArray}(Aq:Ah.map A5=Bo)(As:Al.map Ae=Bm)(Av:Ak.map Ae=Bl)(At:Ai.map cS=Bn)(hd:okD ⟨Ah,Al,Ak,Ai,An,Am⟩)(hr:Jx (⟨Ah,Al,Ak,Ai,An,Am⟩:Ac) base=o):Fn Tryz.prog 198 [.agg [.d (.row 3 Bo),.d (.row 2 Bm),.d (.row 2 Bl),.d (.row 1 Bn),I An,I Am],I base] [] ⟨S o,[],[]⟩:=by
 refine Fn.go Mi Tryz.func198 fun P hP Q hQ=>?_
 conv=>cbv
 generalize aa:Af base=r1
 refine .dd hP (Fp aa) ?_
 conv=>cbv
 rcases ab:Fb (⟨Ah,Al,Ak,Ai,An,Am⟩:Ac) r1 with⟨ac,ad⟩
 refine .dd hP (Xdb Aq As Av At hd ab) ?_
 conv=>cbv
 have e:ac=Jx (⟨Ah,Al,Ak,Ai,An,Am⟩:Ac) base:=(by unfold Jx;rw[aa,ab])
 rw[hr]at e
 subst e
 exact hQ _ _ (.s rfl rfl)
theorem XgL{o:ByteArray}(Aq:Ah.map A5=Bo)(As:Al.map Ae=Bm)(Av:Ak.map Ae=Bl)(At:Ai.map cS=Bn)(hd:okD ⟨Ah,Al,Ak,Ai,An,Am⟩)(hr:Jx (⟨Ah,Al,Ak,Ai,An,Am⟩:Ac) base=o):Fn Tryz.prog 99 [.agg [.d (.row 3 Bo),.d (.row 2 Bm),.d (.row 2 Bl),.d (.row 1 Bn),I An,I Am],I base] [] ⟨S o,[],[]⟩:=by
 refine Fn.go Mi Tryz.func99 fun P hP Q hQ=>?_
 conv=>cbv
 generalize aa:Af base=r1
 refine .dd hP (Co aa) ?_
 conv=>cbv
 rcases ab:Fb (⟨Ah,Al,Ak,Ai,An,Am⟩:Ac) r1 with⟨ac,ad⟩
 refine .dd hP (Xdg Aq As Av At hd ab) ?_
 conv=>cbv
 have e:ac=Jx (⟨Ah,Al,Ak,Ai,An,Am⟩:Ac) base:=(by unfold Jx;rw[aa,ab])
 rw[hr]at e
 subst e
 exact hQ _ _ (.s rfl rfl)
theorem Xc9(hb:r.size<2^40)(hr:G1 link r=o):Fn Tryz.prog 265 [I link,S r] [] ⟨I o,[],[]⟩:=by
 refine Fn.go Mi Tryz.func265 fun P hP Q hQ=>?_
 conv=>cbv
 refine .go fun v1 ac=>?_
 conv=>cbv
 generalize aa:Az v1 4=r2
 have zr2:=Bu aa
 refine .dd hP (Ek (by omega) aa) ?_
 conv=>cbv
 refine .go fun s3 ad ae=>?_
 conv=>cbv
 generalize ab:E6 link s3=r4
 have zr4:=M3 ab
 refine .dd hP (XaF (by omega) ab) ?_
 conv=>cbv
 have e:r4=G1 link r:=(by subst_vars;rfl)
 rw[hr]at e
 subst e
 exact hQ _ _ (.i rfl rfl)
theorem XdS(hb:r.size<2^40)(hr:G1 link r=o):Fn Tryz.prog 255 [I link,S r] [] ⟨I o,[],[]⟩:=by
 refine Fn.go Mi Tryz.func255 fun P hP Q hQ=>?_
 conv=>cbv
 refine .go fun v1 ac=>?_
 conv=>cbv
 generalize aa:Az v1 4=r2
 have zr2:=Bu aa
 refine .dd hP (D7 (by omega) aa) ?_
 conv=>cbv
 refine .go fun s3 ad ae=>?_
 conv=>cbv
 generalize ab:E6 link s3=r4
 have zr4:=M3 ab
 refine .dd hP (XaB (by omega) ab) ?_
 conv=>cbv
 have e:r4=G1 link r:=(by subst_vars;rfl)
 rw[hr]at e
 subst e
 exact hQ _ _ (.i rfl rfl)
theorem Xee{l:List ByteArray}{xl:List (List D)}(hl:l.map cS=xl)(hn:l.length<2^40)(hb:∀r∈l,r.size≤60)(hr:Hp link l=o):Fn Tryz.prog 201 [I link,.d (.row 1 xl)] [] ⟨I o,[],[]⟩:=by
 refine Fn.go Mi Tryz.func201 fun P hP Q hQ=>?_
 conv=>cbv
 refine .go hl fun v1 ad=>?_
 conv=>cbv
 refine LoopW.lp (κ:=Int×Int) Mi hP [] [7,8] (fun(i0,i9)=>[(0,I i0),(9,I i9)]) (fun(i0,i9)=>[])
  (fun(i0,i9)=>0≤i9∧i9≤l.length∧i0=Hp link (l.take i9.toNat))
  (fun(i0,i9)=>(l.length - i9).toNat) (link,0) ⟨by omega,by omega,rfl⟩ ⟨rfl,rfl,trivial⟩ rfl ?_
 rintro⟨i0,i9⟩ J ⟨h0,h1,hx⟩ hJ
 conv=>cbv
 refine .lss (fun h2=>?_) fun h2=>?_
 conv=>cbv
 refine .go i9.toNat hl fun aa e3 ab=>?_
 conv=>cbv
 have zb:=hb e3 (ab▸List.getElem_mem _)
 generalize ac:G1 i0 e3=r4
 refine .dd hP (Xc9 (by omega) ac) ?_
 conv=>cbv
 refine .add fun v5 ae=>?_
 conv=>cbv
 exact .go [] (r4,v5) (hJ _ ⟨by omega,by omega,by rw[show v5.toNat=i9.toNat+1 by omega,List.take_succ_eq_append_getElem aa,Hp,List.foldl_append,←ab];show r4=G1 (Hp link (l.take i9.toNat)) e3;rw[←hx,ac]⟩ mlt)
 conv=>cbv
 have e:i0=Hp link l:=(by rw[hx,List.take_of_length_le (by omega)])
 rw[hr]at e
 subst e
 exact hQ _ _ (.i rfl rfl)
theorem XbL{b:ByteArray}(hs:b.size<2^40)(hr:Fo b=o):Fn Tryz.prog 185 [S b] [] ⟨I o,[],[]⟩:=by
 refine Fn.go Mi Tryz.func185 fun P hP Q hQ=>?_
 conv=>cbv
 rcases ae:Cp b with⟨aq,⟨ag,ah,ai,aa⟩,ab,af,ao,ap⟩
 generalize ac:ab.map cS=am
 generalize ad:af.map cI=an
 refine .dd hP (Xdm (by omega) ae ac ad) ?_
 conv=>cbv
 refine LoopW.lp (κ:=Int×Int) Mi hP [] [3] (fun(i4,i5)=>[(4,I i4),(5,I i5)]) (fun(i4,i5)=>[])
  (fun(i4,i5)=>0≤i5∧i5≤ab.length∧i4=Hp aa (ab.take i5.toNat))
  (fun(i4,i5)=>(ab.length - i5).toNat) (aa,0) ⟨by omega,by omega,rfl⟩ ⟨rfl,rfl,trivial⟩ rfl ?_
 rintro⟨i4,i5⟩ J ⟨h0,h1,hx⟩ hJ
 have zs:=XcX (b:=b)
 have zl:=Va (b:=b)
 rw[ae]at zs zl
 simp only[]at zs zl
 conv=>cbv
 refine .go ac fun v2 ar=>?_
 conv=>cbv
 refine .lss (fun h3=>?_) fun h3=>?_
 conv=>cbv
 refine .go i5.toNat ac fun aj e4 ak=>?_
 conv=>cbv
 have zb:=zs e4 (ak▸List.getElem_mem _)
 generalize al:G1 i4 e4=r5
 refine .dd hP (XdS (by omega) al) ?_
 conv=>cbv
 refine .add fun v6 au=>?_
 conv=>cbv
 exact .go [] (r5,v6) (hJ _ ⟨by omega,by omega,by rw[show v6.toNat=i5.toNat+1 by omega,List.take_succ_eq_append_getElem aj,Hp,List.foldl_append,←ak];show r5=G1 (Hp aa (ab.take i5.toNat)) e4;rw[←hx,al]⟩ mlt)
 conv=>cbv
 have e:i4=Fo b:=(by unfold Fo;rw[ae,hx,List.take_of_length_le (by omega)])
 rw[hr]at e
 subst e
 exact hQ _ _ (.i rfl rfl)
end
section
open Go Go.Proofs
set_option maxRecDepth 20000
set_option maxHeartbeats 4000000
def Xho{α:Type}(f:α→Int)(l:List α):Int:=(l.map f).foldl (·+·) 0
theorem Za{α:Type}{f:α→Int}{l:List α}{k:Nat}(h:k<l.length):Xho f (l.take (k+1))=Xho f (l.take k)+f l[k]:=by unfold Xho;rw[Xf2 h,List.foldl_append];rfl
def Hz{α:Type}[DecidableEq α](a b:List α):Bool:=decide (a=b)
end
section
open Go Go.Proofs
set_option maxRecDepth 20000
set_option maxHeartbeats 4000000
end
section
open Go Go.Proofs
set_option maxRecDepth 20000
set_option maxHeartbeats 4000000
theorem XhJ{α:Type}{p:α→Bool}{l:List α}{i:Int}(e:Ub p l=i)(h:i≠-1):0≤i∧i<l.length∧l.take i.toNat=(l.take (i+1).toNat).filter (fun x=>!p x):=by
 have hb:=XcB e
 have h0:0≤i:=by omega
 obtain⟨hi,hp⟩:=Ws e h0
 refine⟨h0,hb.2,?_⟩
 rw[show(i+1).toNat=i.toNat+1 by omega,List.take_succ_eq_append_getElem hi,List.filter_append]
 have h1:(l.take i.toNat).filter (fun x=>!p x)=l.take i.toNat:=by
  rw[List.filter_eq_self]
  intro x hx
  obtain⟨j,hj,rfl⟩:=List.getElem_of_mem hx
  have aa:j<i.toNat:=by have:=hj;rw[List.length_take]at this;omega
  rw[List.getElem_take]
  have e2:l.findIdx p=i.toNat:=by
   unfold Ub at e
   split at e<;>omega
  have:=List.not_of_lt_findIdx (p:=p) (xs:=l) (i:=j) (by omega)
  simpa using this
 rw[h1]
 simp[hp]
theorem Xhy{α:Type}{p:α→Bool}{l w:List α}{i j:Nat}(hj:j<l.length)(hij:i<j)(hl:w.length=l.length)(h1:w.take i=(l.take j).filter (fun x=>!p x))(h2:w.drop j=l.drop j)(hp:p l[j]=false):
  (w.set i l[j]).take (i+1)=(l.take (j+1)).filter (fun x=>!p x)∧(w.set i l[j]).drop (j+1)=l.drop (j+1):=by
 constructor
 ·rw[List.take_succ_eq_append_getElem (by rw[List.length_set];omega),List.take_set_of_le (Nat.le_refl i),h1,List.take_succ_eq_append_getElem hj,List.filter_append]
  simp[hp]
 ·rw[List.drop_set_of_lt (by omega),←List.drop_drop,←List.drop_drop,h2]
theorem XhE{α:Type}{p:α→Bool}{l w:List α}{i j:Nat}(hj:j<l.length)(h1:w.take i=(l.take j).filter (fun x=>!p x))(h2:w.drop j=l.drop j)(hp:p l[j]=true):
  w.take i=(l.take (j+1)).filter (fun x=>!p x)∧w.drop (j+1)=l.drop (j+1):=by
 constructor
 ·rw[List.take_succ_eq_append_getElem hj,List.filter_append,h1]
  simp[hp]
 ·rw[←List.drop_drop,←List.drop_drop,h2]
theorem df_at{α:Type}{l w:List α}{j:Nat}(hj:j<w.length)(aa:j<l.length)(h2:w.drop j=l.drop j):w[j]=l[j]:=by
 have:=congrArg (·[0]?) h2
 simpa[hj,aa]using this
theorem XiN{α:Type}{c:α→List D}{w o:List α}{z:α}{i n:Nat}{x:List (List D)}(hn:n=w.length - i)(hi:i≤w.length)(ho:w.take i=o)(h:(w.take i++(List.replicate n z++w.drop (i+n))).map c=x):i=o.length∧(o++List.replicate (w.length - o.length) z).map c=x:=by
 have h1:i=o.length:=by rw[←ho,List.length_take];omega
 refine⟨h1,?_⟩
 rw[←h,ho,List.drop_of_length_le (by omega),List.append_nil,hn,h1]
end
section
open Go Go.Proofs
set_option maxRecDepth 20000
set_option maxHeartbeats 4000000
end
section
open Go Go.Proofs
set_option maxRecDepth 20000
set_option maxHeartbeats 4000000
theorem I7{α:Type}{p:α→Bool}{l:List α}{k:Nat}(h:k<l.length):(l.take (k+1)).filter p=(l.take k).filter p++(if p l[k]then[l[k]]else[]):=by
 rw[List.take_succ_eq_append_getElem h,List.filter_append,List.filter_cons,List.filter_nil]
end
end Go.Proofs.YtgdmjbcllgmepaaGreatDoor.Ab
