/- What functions come to. -/
import Derived.Test.YtjbmpmmffjgedaaGreatDoorCsch01a
import Derived.Shelf.Strings.Builder1
import Derived.Shelf.Strings.Builder2
import Derived.Shelf.Strings.BuilderF
import Derived.Shelf.Strings.BuilderK
import Derived.Shelf.Strings.Builder2Cap
import Derived.Shelf.Strconv.Atoi
import Derived.Shelf.Strconv.Itoa0
import Derived.Shelf.Strconv.Itoa1
import Derived.Shelf.LaysM
import Derived.Shelf.Strconv.Itoa2
import Derived.Shelf.Strconv.Itoa3
import Derived.Shelf.Strconv.Itoa4
import Derived.Shelf.Strconv.AtoiErrFast
import Derived.Shelf.Strconv.ParseIntEmpty
import Derived.Shelf.Strconv.AtoiFail
import Derived.Shelf.Strconv.Clone
import Derived.Shelf.Strconv.SyntaxError
import Derived.Shelf.LaysC
import Derived.Shelf.Strconv.ToError
import Derived.Shelf.Strconv.Lower
import Derived.Shelf.Strconv.ParseUint10
import Derived.Shelf.Strconv.ParseUint10Empty
import Derived.Shelf.Strconv.ParseUint10Any
import Derived.Shelf.Strconv.ParseInt10
import Derived.Shelf.Strconv.AtoiLong
import Derived.Shelf.Strconv.AtoiInnerAll
import Derived.Shelf.Strconv.RangeError
import Derived.Shelf.Strconv.ToErrorRange
import Derived.Shelf.Strconv.AtoiAll
import Derived.Shelf.Strings.Search1
import Derived.Shelf.Strings.Search2
import Derived.Shelf.Strings.Cut
import Derived.Shelf.Strings.Shaped
import Derived.Shelf.Strings.Prefix
import Derived.Shelf.Bits.Mul64
import Derived.Shelf.Strings.Repeat
import Derived.Shelf.Strings.BuilderCap
import Derived.Ground.Names2Prog
import Derived.Shelf.Slices.Clone
import Derived.Test.YtjbmpmmffjgedaaGreatDoorProg
import Derived.Below
import Derived.ProofKit
set_option linter.unusedVariables false
set_option linter.unusedSimpArgs false
set_option maxHeartbeats 4000000
set_option maxRecDepth 20000
namespace Go.Proofs.YtjbmpmmffjgedaaGreatDoor.Ab
section
open Go Go.Proofs
def XeM:List (Nat×TyRow):=[ty3,ty4,ty9,Xcu,XiA,Xjy,ty92]
theorem XcN:B8 Tryz.prog XeM:=B8.of (by kernel_rfl)
theorem Zc:Setup Tryz.prog XeM:=⟨XcN,mixed⟩
def Is(h:Cd)(b:ByteArray)(n:Nat)(p:Int):List ByteArray×List Int×Int×Bool:=
 if Ex h.version_ (h.base_+n) b p=true then([],[],p,true)
 else match Be h.version_ (h.base_+n) b p with
  |(r,q,true)=>if p<q∧q≤b.size then(r::(Is h b (n+1) q).1,p::(Is h b (n+1) q).2.1,(Is h b (n+1) q).2.2)else([],[],p,false)
  |_=>([],[],p,false)
termination_by (b.size - p).toNat
decreasing_by all_goals omega
def Bu(b:ByteArray):P3:=match Ch b with
 |(h,true)=>⟨true,h,(Is h b 0 24).1,(Is h b 0 24).2.1,(Is h b 0 24).2.2.1,(Is h b 0 24).2.2.2⟩
 |_=>⟨false,⟨0,0,0,0⟩,[],[],0,false⟩
theorem Ww{v n:Int}{r t:ByteArray}(e:A1 v n r=t)(h:t≠tx []):5≤t.size:=by
 unfold A1 at e
 split at e
 ·rename_i hh
  have h4:=Vc _ (Ue r)
  have h1:1≤(if v=2 then Ny n r.size else C6 r.size).size:=by
   split
   ·unfold Ny
    rw[ByteArray.size_append,Vc _ (by omega)]
    omega
   ·unfold C6
    rw[if_pos (by omega),B3]
    exact List.length_pos_iff.2 (Xde _)
  rw[←e,ByteArray.size_append,ByteArray.size_append]
  omega
 ·exact absurd e.symm h
theorem Ia{v n p q:Int}{b r:ByteArray}(h:Be v n b p=(r,q,true)):0≤p∧p+5≤q∧q≤b.size∧r.size≤60∧(v=1∨v=2)∧0≤n∧n≤1000000000∧q=p+(A1 v n r).size∧Gu b p (A1 v n r)=true:=by
 have key:∀{x s:Int},0≤s→0≤x→H2 v n b p x s=(r,q,true)→0≤p∧p+5≤q∧q≤b.size∧r.size≤60∧(v=1∨v=2)∧0≤n∧n≤1000000000∧q=p+(A1 v n r).size∧Gu b p (A1 v n r)=true:=by
  intro x s hs hx e
  unfold H2 at e
  split at e
  ·rename_i hh
   obtain⟨h1,h2,h3,h4⟩:=hh
   simp only[Prod.mk.injEq,and_true]at e
   obtain⟨rfl,rfl⟩:=e
   have h5:=Ww rfl h3
   have h6:=of_decide_eq_true h4
   have h7:(b.extract s.toNat (s+x).toNat).size=x.toNat:=by rw[T3 (by omega) (by omega)];omega
   have h8:(v=1∨v=2)∧0≤n∧n≤1000000000:=by
    by_cases hh:(v=1∨v=2)∧0≤n∧n≤1000000000
    ·exact hh
    ·exact absurd (J3 hh) h3
   exact⟨h6.1.1,by omega,by omega,by omega,h8.1,h8.2.1,h8.2.2,rfl,h4⟩
  ·simp at e
 rcases h1:Cg b p 4 with⟨x,ok⟩
 rcases h2:C9 b p with⟨y,s,ok2⟩
 by_cases hv:v=2
 ·rw[Kf hv h1]at h
  cases ok
  ·simp at h
  ·have:=L7 h1
   exact key (by omega) (by omega) h
 ·rw[J5 hv h2]at h
  cases ok2
  ·simp at h
  ·have:=Mp h2
   exact key (by omega) (by omega) h
theorem Oe{h:Cd}{b:ByteArray}{n:Nat}{p:Int}(hm:Ex h.version_ (h.base_+n) b p=true):Is h b n p=([],[],p,true):=by rw[Is,if_pos hm]
theorem Od{h:Cd}{b:ByteArray}{n:Nat}{p:Int}{r:ByteArray}{q:Int}(hm:Ex h.version_ (h.base_+n) b p=false)(hf:Be h.version_ (h.base_+n) b p=(r,q,false)):Is h b n p=([],[],p,false):=by rw[Is,if_neg (by rw[hm];simp),hf]
theorem Oy{h:Cd}{b:ByteArray}{n:Nat}{p:Int}{r:ByteArray}{q:Int}(hm:Ex h.version_ (h.base_+n) b p=false)(hf:Be h.version_ (h.base_+n) b p=(r,q,true)):Is h b n p=(r::(Is h b (n+1) q).1,p::(Is h b (n+1) q).2.1,(Is h b (n+1) q).2.2):=by
 have:=Ia hf
 rw[Is,if_neg (by rw[hm];simp),hf]
 simp only[]
 rw[if_pos (by omega)]
variable {b:ByteArray} {ook omar:Bool} {oheaver oheastr oheabas ohealin oend:Int} {orec:List ByteArray} {xorec xooff:List (List D)} {ooff:List Int}
theorem W2(hs:b.size<2^47)(hr:Bu b=⟨ook,⟨oheaver,oheastr,oheabas,ohealin⟩,orec,ooff,oend,omar⟩)(horec:orec.map cS=xorec)(hooff:ooff.map cI=xooff):Fn Tryz.prog 162 [S b] [] ⟨.agg [B ook,I oheaver,I oheastr,I oheabas,I ohealin,.d (.row 1 xorec),.d (.row 1 xooff),I oend,B omar],[],[]⟩:=by
 refine Fn.go Zc Tryz.func162 fun P hP Q hQ=>?_
 conv=>cbv
 rcases ak:Ch b with⟨⟨aa,ac,ab,ad⟩,ap⟩
 refine .dd hP (Xu (by omega) ak) ?_
 conv=>cbv
 cases ap
 conv=>cbv
 have e:(⟨false,⟨0,0,0,0⟩,[],[],0,false⟩:P3)=Bu b:=(by unfold Bu;rw[ak])
 rw[hr]at e
 simp only[Cd.mk.injEq,P3.mk.injEq]at e
 obtain⟨rfl,⟨rfl,rfl,rfl,rfl⟩,rfl,rfl,rfl,rfl⟩:=e
 exact hQ _ _ (.one (.inl rfl) rfl (.agg (.c (.d rfl rfl (.c (.d rfl rfl (.c (.ref rfl rfl (by rw[←horec];rfl) (.ref rfl rfl (by rw[←hooff];rfl) .d2))))))) .nil))
 conv=>cbv
 refine LoopW.lp (κ:=Int×(List (List D))×Nat×(List (List D))×Nat) Zc hP [4,5] [0,2,3,5] (fun(ae,al,am,af,ag)=>[]) (fun(ae,al,am,af,ag)=>[(8,.box 92 [B true,I aa,I ac,I ab,I ad,.ref 9 0 am,.ref 10 0 ag,I ae,B false]),(9,.row 1 false al),(10,.row 1 false af)])
  (fun(ae,al,am,af,ag)=>∃(w9:List ByteArray) (ai:List Int),w9.map cS=al∧am=w9.length∧ai.map cI=af∧ag=ai.length∧(24≤ae∧ae≤b.size∧w9.length=ai.length∧5*(w9.length:Int)+24≤ae)∧Is ⟨aa,ac,ab,ad⟩ b 0 24=(w9++(Is ⟨aa,ac,ab,ad⟩ b w9.length ae).1,ai++(Is ⟨aa,ac,ab,ad⟩ b w9.length ae).2.1,(Is ⟨aa,ac,ab,ad⟩ b w9.length ae).2.2))
  (fun(ae,al,am,af,ag)=>(b.size - ae).toNat) (24,[],0,[],0) ⟨[],[],rfl,rfl,rfl,rfl,by have:=Hi ak;simp;omega,rfl⟩ trivial rfl ?_
 rintro⟨ae,al,am,af,ag⟩ J ⟨w9,ai,ao,a1,ah,aq,hb,hS⟩ hJ
 have hd:=H5 (Hi ak).2.2
 conv=>cbv
 refine .go fun v2 a4=>?_
 conv=>cbv
 refine .add fun v3 a5=>?_
 conv=>cbv
 have e3:v3=ab+(w9.length:Int):=by omega
 generalize aj:Ex aa v3 b ae=r4
 refine .dd hP (Xjv (by omega) (by omega) aj) ?_
 cases r4
 conv=>cbv
 rcases an:Be aa v3 b ae with⟨ar,au,aw⟩
 refine .dd hP (Xdm (by omega) (by omega) an) ?_
 conv=>cbv
 cases aw
 conv=>cbv
 have e:(⟨true,⟨aa,ac,ab,ad⟩,w9,ai,ae,false⟩:P3)=Bu b:=(by rw[e3]at aj an;unfold Bu;rw[ak];simp only[];rw[hS,Od (h:=⟨aa,ac,ab,ad⟩) aj an];simp)
 rw[hr]at e
 simp only[Cd.mk.injEq,P3.mk.injEq]at e
 obtain⟨rfl,⟨rfl,rfl,rfl,rfl⟩,rfl,rfl,rfl,rfl⟩:=e
 exact hQ _ _ (.one (.inl rfl) rfl (.agg (.c (.d rfl rfl (.c (.d rfl rfl (.c (.ref rfl (by rw[←ao,List.length_map];first|omega|(simp;omega)) (by rw[←ao,←horec]) (.ref rfl (by rw[←ah,List.length_map];first|omega|(simp;omega)) (by rw[←ah,←hooff]) .d2))))))) .nil))
 conv=>cbv
 have hf:=Ia an
 refine .one ar ao rfl fun ax z6 a2 ay=>?_
 conv=>cbv
 refine .one ae ah rfl fun az z7 a3 a0=>?_
 conv=>cbv
 exact .go [12,14] (au,z6,ax,z7,az) (hJ _ ⟨_,_,ay,Lx,a0,Lx,by simp;omega,by rw[e3]at aj an;rw[hS,Oy (h:=⟨aa,ac,ab,ad⟩) aj an];simp[List.append_assoc]⟩ mlt)
 conv=>cbv
 have e:(⟨true,⟨aa,ac,ab,ad⟩,w9,ai,ae,true⟩:P3)=Bu b:=(by rw[e3]at aj;unfold Bu;rw[ak];simp only[];rw[hS,Oe (h:=⟨aa,ac,ab,ad⟩) aj];simp)
 rw[hr]at e
 simp only[Cd.mk.injEq,P3.mk.injEq]at e
 obtain⟨rfl,⟨rfl,rfl,rfl,rfl⟩,rfl,rfl,rfl,rfl⟩:=e
 exact hQ _ _ (.one (.inl rfl) rfl (.agg (.c (.d rfl rfl (.c (.d rfl rfl (.c (.ref rfl (by rw[←ao,List.length_map];first|omega|(simp;omega)) (by rw[←ao,←horec]) (.ref rfl (by rw[←ah,List.length_map];first|omega|(simp;omega)) (by rw[←ah,←hooff]) .d2))))))) .nil))
theorem Sb(hs:b.size<2^47)(hr:Bu b=⟨ook,⟨oheaver,oheastr,oheabas,ohealin⟩,orec,ooff,oend,omar⟩)(horec:orec.map cS=xorec)(hooff:ooff.map cI=xooff):Fn Tryz.prog 74 [S b] [] ⟨.agg [B ook,I oheaver,I oheastr,I oheabas,I ohealin,.d (.row 1 xorec),.d (.row 1 xooff),I oend,B omar],[],[]⟩:=by
 refine Fn.go Zc Tryz.func74 fun P hP Q hQ=>?_
 conv=>cbv
 rcases ak:Ch b with⟨⟨aa,ac,ab,ad⟩,ap⟩
 refine .dd hP (Sd (by omega) ak) ?_
 conv=>cbv
 cases ap
 conv=>cbv
 have e:(⟨false,⟨0,0,0,0⟩,[],[],0,false⟩:P3)=Bu b:=(by unfold Bu;rw[ak])
 rw[hr]at e
 simp only[Cd.mk.injEq,P3.mk.injEq]at e
 obtain⟨rfl,⟨rfl,rfl,rfl,rfl⟩,rfl,rfl,rfl,rfl⟩:=e
 exact hQ _ _ (.one (.inl rfl) rfl (.agg (.c (.d rfl rfl (.c (.d rfl rfl (.c (.ref rfl rfl (by rw[←horec];rfl) (.ref rfl rfl (by rw[←hooff];rfl) .d2))))))) .nil))
 conv=>cbv
 refine LoopW.lp (κ:=Int×(List (List D))×Nat×(List (List D))×Nat) Zc hP [4,5] [0,2,3,5] (fun(ae,al,am,af,ag)=>[]) (fun(ae,al,am,af,ag)=>[(8,.box 92 [B true,I aa,I ac,I ab,I ad,.ref 9 0 am,.ref 10 0 ag,I ae,B false]),(9,.row 1 false al),(10,.row 1 false af)])
  (fun(ae,al,am,af,ag)=>∃(w9:List ByteArray) (ai:List Int),w9.map cS=al∧am=w9.length∧ai.map cI=af∧ag=ai.length∧(24≤ae∧ae≤b.size∧w9.length=ai.length∧5*(w9.length:Int)+24≤ae)∧Is ⟨aa,ac,ab,ad⟩ b 0 24=(w9++(Is ⟨aa,ac,ab,ad⟩ b w9.length ae).1,ai++(Is ⟨aa,ac,ab,ad⟩ b w9.length ae).2.1,(Is ⟨aa,ac,ab,ad⟩ b w9.length ae).2.2))
  (fun(ae,al,am,af,ag)=>(b.size - ae).toNat) (24,[],0,[],0) ⟨[],[],rfl,rfl,rfl,rfl,by have:=Hi ak;simp;omega,rfl⟩ trivial rfl ?_
 rintro⟨ae,al,am,af,ag⟩ J ⟨w9,ai,ao,a1,ah,aq,hb,hS⟩ hJ
 have hd:=H5 (Hi ak).2.2
 conv=>cbv
 refine .go fun v2 a4=>?_
 conv=>cbv
 refine .add fun v3 a5=>?_
 conv=>cbv
 have e3:v3=ab+(w9.length:Int):=by omega
 generalize aj:Ex aa v3 b ae=r4
 refine .dd hP (XjF (by omega) (by omega) aj) ?_
 cases r4
 conv=>cbv
 rcases an:Be aa v3 b ae with⟨ar,au,aw⟩
 refine .dd hP (XdC (by omega) (by omega) an) ?_
 conv=>cbv
 cases aw
 conv=>cbv
 have e:(⟨true,⟨aa,ac,ab,ad⟩,w9,ai,ae,false⟩:P3)=Bu b:=(by rw[e3]at aj an;unfold Bu;rw[ak];simp only[];rw[hS,Od (h:=⟨aa,ac,ab,ad⟩) aj an];simp)
 rw[hr]at e
 simp only[Cd.mk.injEq,P3.mk.injEq]at e
 obtain⟨rfl,⟨rfl,rfl,rfl,rfl⟩,rfl,rfl,rfl,rfl⟩:=e
 exact hQ _ _ (.one (.inl rfl) rfl (.agg (.c (.d rfl rfl (.c (.d rfl rfl (.c (.ref rfl (by rw[←ao,List.length_map];first|omega|(simp;omega)) (by rw[←ao,←horec]) (.ref rfl (by rw[←ah,List.length_map];first|omega|(simp;omega)) (by rw[←ah,←hooff]) .d2))))))) .nil))
 conv=>cbv
 have hf:=Ia an
 refine .one ar ao rfl fun ax z6 a2 ay=>?_
 conv=>cbv
 refine .one ae ah rfl fun az z7 a3 a0=>?_
 conv=>cbv
 exact .go [12,14] (au,z6,ax,z7,az) (hJ _ ⟨_,_,ay,Lx,a0,Lx,by simp;omega,by rw[e3]at aj an;rw[hS,Oy (h:=⟨aa,ac,ab,ad⟩) aj an];simp[List.append_assoc]⟩ mlt)
 conv=>cbv
 have e:(⟨true,⟨aa,ac,ab,ad⟩,w9,ai,ae,true⟩:P3)=Bu b:=(by rw[e3]at aj;unfold Bu;rw[ak];simp only[];rw[hS,Oe (h:=⟨aa,ac,ab,ad⟩) aj];simp)
 rw[hr]at e
 simp only[Cd.mk.injEq,P3.mk.injEq]at e
 obtain⟨rfl,⟨rfl,rfl,rfl,rfl⟩,rfl,rfl,rfl,rfl⟩:=e
 exact hQ _ _ (.one (.inl rfl) rfl (.agg (.c (.d rfl rfl (.c (.d rfl rfl (.c (.ref rfl (by rw[←ao,List.length_map];first|omega|(simp;omega)) (by rw[←ao,←horec]) (.ref rfl (by rw[←ah,List.length_map];first|omega|(simp;omega)) (by rw[←ah,←hooff]) .d2))))))) .nil))
end
section
open Go Go.Proofs
def XeN:List (Nat×TyRow):=[ty3,ty9,XiA,Xkm,Xl8,XlW]
theorem Xc5:B8 Tryz.prog XeN:=B8.of (by kernel_rfl)
theorem Ja:Setup Tryz.prog XeN:=⟨Xc5,mixed⟩
def XfJ(s:Nat)(offs:List Int)(n:Nat):List Hn:=((List.range n).filter (fun i=>i% s=0)).map (fun(i:Nat)=>⟨(i:Int),offs.getD i 0⟩)
def Dm(stride:Int)(offs:List Int):List Hn:=if stride<1 then[]else XfJ stride.toNat offs offs.length
theorem Q2{s n:Nat}{offs:List Int}:XfJ s offs (n+1)=XfJ s offs n++(if n% s=0 then[⟨(n:Int),offs.getD n 0⟩]else[]):=by
 unfold XfJ
 rw[List.range_succ,List.filter_append,List.map_append]
 congr 1
 by_cases h:n% s=0<;>simp[h]
theorem Xao{s n:Nat}{offs:List Int}:(XfJ s offs n).length≤n:=by
 unfold XfJ
 rw[List.length_map]
 exact Nat.le_trans (List.length_filter_le _ _) (by simp)
theorem Xai{s k:Nat}{offs:List Int}(hk:k% s=0):∀(d:Nat),d<s→XfJ s offs (k+1+d)=XfJ s offs k++[⟨(k:Int),offs.getD k 0⟩]
 |0,_=>by rw[Nat.add_zero,Q2,if_pos hk]
 |d+1,h=>by
  rw[←Nat.add_assoc,Q2,Xai hk d (by omega),if_neg,List.append_nil]
  have:k+1+d=k+(d+1):=by omega
  rw[this,Nat.add_mod,hk,Nat.zero_add,Nat.mod_mod,Nat.mod_eq_of_lt h]
  omega
theorem Xdx{l:List Int}{k:Nat}(h:k<l.length):l[k]=l.getD k 0:=by rw[List.getD_eq_getElem?_getD,List.getElem?_eq_getElem h];rfl
def G8(a b:Int):ByteArray:=if b≤a∧a - b≤1000000000 then C6 (a - b)else tx []
theorem Ub{a b:Int}{o:ByteArray}(h:G8 a b=o):o.size≤5:=by
 rw[←h]
 unfold G8
 split
 ·exact Ir _
 ·simp[B3]
def Hz(a b:Int):Int:=if b≤a∧a - b<9223372036854775808 then a - b else -1
theorem W5(a b:Int):C6 (Hz a b)=G8 a b:=by
 unfold Hz G8
 by_cases h:b≤a∧a - b≤1000000000
 ·rw[if_pos h,if_pos (by omega)]
 ·rw[if_neg h]
  unfold C6
  split
  ·rw[if_neg (by omega)]
  ·rfl
def Jd:Int×Int→List Hn→Option ByteArray
 |_,[]=>some (tx [])
 |q,p::l=>if G8 p.count_ q.1=tx []∨G8 p.at_ q.2=tx []then none else(Jd (p.count_,p.at_) l).map fun t=>(G8 p.count_ q.1++G8 p.at_ q.2)++t
def Cn(l:List Hn):ByteArray:=match Jd (0,0) l with
 |some t=>C6 l.length++t
 |none=>tx []
theorem Vy:∀{l:List Hn} {q:Int×Int} {t:ByteArray},Jd q l=some t→t.size≤10*l.length
 |[],q,t,h=>by cases h;simp[B3]
 |p::l,q,t,h=>by
  simp only[Jd]at h
  split at h
  ·cases h
  ·obtain⟨u,hu,rfl⟩:=Option.map_eq_some_iff.1 h
   have:=Vy hu
   have h1:=Ub (rfl:G8 p.count_ q.1=_)
   have h2:=Ub (rfl:G8 p.at_ q.2=_)
   rw[ByteArray.size_append,ByteArray.size_append,List.length_cons]
   omega
theorem Pi(l:List Hn):(Cn l).size≤5+10*l.length:=by
 unfold Cn
 split
 ·rename_i t h
  have h1:=Vy h
  have h2:=Ir l.length
  rw[ByteArray.size_append]
  omega
 ·simp[B3]
theorem Q0{l:List Hn}{o:ByteArray}(h:Cn l=o):o.size≤5+10*l.length:=by rw[←h];exact Pi l
theorem Xg8(s:ByteArray):tx []++s=s:=by rw[←Ui s,D8];rfl
theorem Y1(s:ByteArray):s++tx []=s:=by rw[←Ui s,D8,List.append_nil]
theorem Xds{n w:Int}(h:A5 n w≠tx []):(A5 n w).size=w.toNat:=by
 by_cases hh:0≤n∧1≤w∧w≤8∧n.toNat/2^ (8*w.toNat)=0
 ·exact Qw hh
 ·exact absurd (if_neg hh) h
def wfPl(l:List Hn):Prop:=∀p∈l,wfI p.count_∧wfI p.at_
def Jf(acc:ByteArray):List Int→Option ByteArray
 |[]=>some acc
 |x::l=>if A5 x 4=tx []then none else Jf (acc++A5 x 4) l
def B5(a b c d:Int):ByteArray:=match Jf (tx []) [a,b,c,d]with
 |some t=>t++tx [73,68,88,33]
 |none=>tx []
theorem Vb:∀{l:List Int} {acc t:ByteArray},Jf acc l=some t→t.size≤acc.size+8*l.length
 |[],acc,t,h=>by cases h;simp
 |x::l,acc,t,h=>by
  simp only[Jf]at h
  split at h
  ·cases h
  ·have:=Vb h
   have h1:=@Fk x 4
   rw[ByteArray.size_append]at this
   rw[List.length_cons]
   omega
theorem G7{a b c d:Int}{o:ByteArray}(h:B5 a b c d=o):o.size≤36:=by
 rw[←h]
 unfold B5
 split
 ·rename_i t ht
  have:=Vb ht
  simp only[B3,List.length_cons,List.length_nil]at this
  rw[ByteArray.size_append,B3]
  simp only[List.length_cons,List.length_nil]
  omega
 ·simp[B3]
theorem XaV:∀{l:List Int} {acc t:ByteArray},Jf acc l=some t→t.size=acc.size+4*l.length
 |[],acc,t,h=>by cases h;simp
 |x::l,acc,t,h=>by
  simp only[Jf]at h
  split at h
  ·cases h
  ·rename_i hx
   have:=XaV h
   have h1:=Xds hx
   rw[ByteArray.size_append,h1]at this
   rw[List.length_cons,this]
   simp
   omega
theorem N7{a b c d:Int}(h:B5 a b c d≠tx []):(B5 a b c d).size=20:=by
 unfold B5 at h⊢
 split
 ·rename_i t ht
  have:=XaV ht
  simp only[B3,List.length_cons,List.length_nil]at this
  rw[ByteArray.size_append,B3,this]
  rfl
 ·rename_i ht
  rw[ht]at h
  exact absurd rfl h
def Cr(h:Cd)(offs:List Int)(fin:Int):ByteArray:=
 if Dl h=true∧Da h.version_ (h.base_+offs.length)≠tx []∧Cn (Dm h.stride_ offs)≠tx []∧B5 fin offs.length h.stride_ 0≠tx []then
  (Da h.version_ (h.base_+offs.length)++Cn (Dm h.stride_ offs))++B5 fin offs.length h.stride_ (F9 ((Da h.version_ (h.base_+offs.length)++Cn (Dm h.stride_ offs))++(B5 fin offs.length h.stride_ 0).extract 0 12))else tx []
theorem Mu{s:Int}{offs:List Int}:(Dm s offs).length≤offs.length:=by
 unfold Dm
 split
 ·simp
 ·exact Xao
theorem Tm{s:Int}{offs:List Int}(h:∀x∈offs,wfI x)(hl:offs.length<2^40):wfPl (Dm s offs):=by
 unfold Dm
 split
 ·intro p hp;simp at hp
 ·intro p hp
  unfold XfJ at hp
  obtain⟨i,hi,rfl⟩:=List.mem_map.1 hp
  have aa:=List.mem_range.1 (List.mem_filter.1 hi).1
  refine⟨⟨by show -9223372036854775808≤(i:Int);omega,by show(i:Int)<9223372036854775808;omega⟩,?_⟩
  show wfI (offs.getD i 0)
  rw[←Xdx aa]
  exact h _ (List.getElem_mem aa)
theorem S9(h:Cd)(offs:List Int)(fin:Int):(Cr h offs fin).size≤57+10*offs.length:=by
 unfold Cr
 split
 ·rw[ByteArray.size_append,ByteArray.size_append]
  have h1:=Lw (rfl:Da h.version_ (h.base_+offs.length)=_)
  have h2:=Pi (Dm h.stride_ offs)
  have h3:=@Mu h.stride_ offs
  have h4:=G7 (rfl:B5 fin offs.length h.stride_ (F9 ((Da h.version_ (h.base_+offs.length)++Cn (Dm h.stride_ offs))++(B5 fin offs.length h.stride_ 0).extract 0 12))=_)
  omega
 ·simp[B3]
variable {stride mark count sum a b:Int} {offs:List Int} {xoffs xo:List (List D)} {o:ByteArray}
theorem Xfp{o:List Hn}(hoffs:offs.map cI=xoffs)(hl:offs.length<2^40)(hr:Dm stride offs=o)(ho:o.map S8=xo):Fn Tryz.prog 171 [I stride,.d (.row 1 xoffs)] [] ⟨.d (.row 2 xo),[],[]⟩:=by
 refine Fn.go Ja Tryz.func171 fun P hP Q hQ=>?_
 conv=>cbv
 refine LoopW.lp (κ:=Int×(List (List D))×Nat) Ja hP [1] [0,1] (fun(i6,aa,ab)=>[(5,.ref 2 0 ab),(6,I i6)]) (fun(i6,aa,ab)=>[(2,.row 2 false aa)])
  (fun(i6,aa,ab)=>∃(w2:List Hn),w2.map S8=aa∧ab=w2.length∧∃k:Nat,i6=(k:Int)∧k≤offs.length∧(1≤stride∨k=0)∧w2=XfJ stride.toNat offs k)
  (fun(i6,aa,ab)=>(offs.length - i6).toNat) (0,[],0) ⟨[],rfl,rfl,0,rfl,by omega,by omega,by simp[XfJ]⟩ ⟨rfl,rfl,trivial⟩ rfl ?_
 rintro⟨i6,aa,ab⟩ J ⟨w2,ac,ah,k,hi,hk,hs,hw⟩ hJ
 have hwl:w2.length≤k:=by rw[hw];exact Xao
 conv=>cbv
 refine .go hoffs fun v1 ak=>?_
 conv=>cbv
 refine .lss (fun h2=>?_) fun h2=>?_
 conv=>cbv
 refine .geq (fun h3=>?_) fun h3=>?_
 conv=>cbv
 refine .rem fun v4 ad=>?_
 conv=>cbv
 refine .eql (fun h5=>?_) fun h5=>?_
 conv=>cbv
 refine .go i6.toNat hoffs fun ai e6 ae=>?_
 conv=>cbv
 have em0:((k% stride.toNat:Nat):Int)=0:=by rw[Int.natCast_emod,Int.toNat_of_nonneg (by omega),←hi,←ad];exact h5
 have em:k% stride.toNat=0:=by omega
 have e1:(⟨i6,e6⟩:Hn)=⟨(k:Int),offs.getD k 0⟩:=by rw[ae,Xdx];simp only[hi,Int.toNat_natCast]
 refine .one (⟨i6,e6⟩:Hn) ac rfl fun af z7 aj ag=>?_
 conv=>cbv
 refine .add fun v8 al=>?_
 conv=>cbv
 exact .go [4] (v8,z7,af) (hJ _ ⟨_,ag,Lx,k+1,by omega,by omega,by omega,by rw[Q2,if_pos em,hw,e1]⟩ mlt)
 conv=>cbv
 have em:¬k% stride.toNat=0:=by intro e;refine h5 ?_;rw[ad,hi,show stride=((stride.toNat:Nat):Int)by omega,←Int.natCast_emod,e];rfl
 refine .add fun v6 am=>?_
 conv=>cbv
 exact .go [2] (v6,aa,ab) (hJ _ ⟨_,ac,Lx,k+1,by omega,by omega,by omega,by rw[Q2,if_neg em,hw];simp⟩ mlt)
 conv=>cbv
 have e:w2=Dm stride offs:=(by rw[hw,show k=0 by omega];unfold Dm;rw[if_pos (by omega)];rfl)
 rw[hr]at e
 subst e
 exact hQ _ _ (.r rfl rfl (by rw[←ac,List.length_map];first|omega|(simp;omega)) (by rw[←ac,←ho]))
 conv=>cbv
 have e:w2=Dm stride offs:=(by rw[hw];unfold Dm;split;rw[show k=0 by omega];rfl;rw[show k=offs.length by omega])
 rw[hr]at e
 subst e
 exact hQ _ _ (.r rfl rfl (by rw[←ac,List.length_map];first|omega|(simp;omega)) (by rw[←ac,←ho]))
theorem XfG{o:List Hn}(hoffs:offs.map cI=xoffs)(hl:offs.length<2^40)(hr:Dm stride offs=o)(ho:o.map S8=xo):Fn Tryz.prog 232 [I stride,.d (.row 1 xoffs)] [] ⟨.d (.row 2 xo),[],[]⟩:=by
 refine Fn.go Ja Tryz.func232 fun P hP Q hQ=>?_
 conv=>cbv
 refine .lss (fun h1=>?_) fun h1=>?_
 conv=>cbv
 have e:[]=Dm stride offs:=(by unfold Dm;rw[if_pos (by omega)])
 rw[hr]at e
 subst e
 exact hQ _ _ (.r rfl rfl rfl (by rw[←ho];rfl))
 conv=>cbv
 refine LoopW.lp (κ:=Int×(List (List D))×Nat) Ja hP [1] [0,1] (fun(i6,aa,ab)=>[(5,.ref 2 0 ab),(6,I i6)]) (fun(i6,aa,ab)=>[(2,.row 2 false aa)])
  (fun(i6,aa,ab)=>∃(w2:List Hn),w2.map S8=aa∧ab=w2.length∧∃k:Nat,i6=(k:Int)∧k≤offs.length∧k% stride.toNat=0∧w2=XfJ stride.toNat offs k)
  (fun(i6,aa,ab)=>(offs.length - i6).toNat) (0,[],0) ⟨[],rfl,rfl,0,rfl,by omega,by simp,by simp[XfJ]⟩ ⟨rfl,rfl,trivial⟩ rfl ?_
 rintro⟨i6,aa,ab⟩ J ⟨w2,ac,ag,k,hi,hk,hs,hw⟩ hJ
 have hwl:w2.length≤k:=by rw[hw];exact Xao
 conv=>cbv
 refine .go hoffs fun v2 aj=>?_
 conv=>cbv
 refine .lss (fun h3=>?_) fun h3=>?_
 conv=>cbv
 refine .go i6.toNat hoffs fun ah e4 ae=>?_
 conv=>cbv
 have e1:(⟨i6,e4⟩:Hn)=⟨(k:Int),offs.getD k 0⟩:=by rw[ae,Xdx];simp only[hi,Int.toNat_natCast]
 refine .one (⟨i6,e4⟩:Hn) ac rfl fun af z5 ai ad=>?_
 conv=>cbv
 refine .go hoffs fun v6 ak=>?_
 conv=>cbv
 refine .sub fun v7 al=>?_
 conv=>cbv
 refine .gtr (fun h8=>?_) fun h8=>?_
 conv=>cbv
 have e:(w2++[(⟨i6,e4⟩:Hn)])=Dm stride offs:=(by unfold Dm;rw[if_neg (by omega),show offs.length=k+1+(offs.length - 1 - k)by omega,Xai hs _ (by omega),hw,e1])
 rw[hr]at e
 subst e
 exact hQ _ _ (.r rfl rfl (by rw[←ad,List.length_map];first|omega|(simp;omega)) (by rw[←ad,←ho]))
 conv=>cbv
 refine .add fun v9 am=>?_
 conv=>cbv
 exact .go [4] (v9,z5,af) (hJ _ ⟨_,ad,Lx,k+stride.toNat,by omega,by omega,by rw[Nat.add_mod_right];exact hs,by rw[show k+stride.toNat=k+1+(stride.toNat - 1)by omega,Xai hs _ (by omega),hw,e1]⟩ mlt)
 conv=>cbv
 have e:w2=Dm stride offs:=(by unfold Dm;rw[if_neg (by omega),hw,show k=offs.length by omega])
 rw[hr]at e
 subst e
 exact hQ _ _ (.r rfl rfl (by rw[←ac,List.length_map];first|omega|(simp;omega)) (by rw[←ac,←ho]))
theorem Q9(k1:mark<9223372036854775808)(k2:count<9223372036854775808)(k3:stride<9223372036854775808)(k4:sum<9223372036854775808)(hr:B5 mark count stride sum=o):Fn Tryz.prog 300 [I mark,I count,I stride,I sum] [] ⟨S o,[],[]⟩:=by
 refine Fn.go Ja Tryz.func300 fun P hP Q hQ=>?_
 conv=>cbv
 refine .go fun v1 ah=>?_
 conv=>cbv
 refine LoopW.lp (κ:=ByteArray×Int) Ja hP [] [17,18] (fun(s9,aa)=>[(9,S s9),(19,I aa)]) (fun(s9,aa)=>[])
  (fun(s9,aa)=>∃k:Nat,aa=(k:Int)∧k≤4∧s9.size≤8*k∧Jf (tx []) [mark,count,stride,sum]=Jf s9 ([mark,count,stride,sum].drop k))
  (fun(s9,aa)=>(4 - aa).toNat) (tx [],0) ⟨0,rfl,by omega,by simp[B3],rfl⟩ ⟨rfl,rfl,trivial⟩ rfl ?_
 rintro⟨s9,aa⟩ J ⟨k,hi,hk,hz,hf⟩ hJ
 conv=>cbv
 refine .lss (fun h2=>?_) fun h2=>?_
 conv=>cbv
 refine .go aa.toNat fun p3 ai af=>?_
 conv=>cbv
 refine .go (l:=[mark,count,stride,sum]) (c:=cI) rfl fun ag e4 ac=>?_
 conv=>cbv
 have eE:[mark,count,stride,sum][k]'(by simp;omega)=e4:=by rw[ac];congr 1;omega
 have hE:e4<9223372036854775808:=by
  rw[←eE]
  have aj:k<4:=by omega
  rcases k with _|_|_|_|k
  ·exact k1
  ·exact k2
  ·exact k3
  ·exact k4
  ·omega
 generalize ab:A5 e4 4=r5
 have zr5:=Cl ab
 refine .dd hP (Fo (by omega) ab) ?_
 conv=>cbv
 refine .eql (fun h6=>?_) fun h6=>?_
 conv=>cbv
 have e:(tx [])=B5 mark count stride sum:=(by unfold B5;rw[hf,List.drop_eq_getElem_cons (by simp;omega)];simp only[Jf];rw[eE,if_pos (by rw[ab];exact h6)])
 rw[hr]at e
 subst e
 exact hQ _ _ (.s rfl rfl)
 conv=>cbv
 refine .go fun s7 ad ak=>?_
 conv=>cbv
 refine .add fun v8 al=>?_
 conv=>cbv
 exact .go [] (s7,v8) (hJ _ ⟨k+1,by omega,by omega,by omega,by rw[hf,List.drop_eq_getElem_cons (by simp;omega)];simp only[Jf];rw[eE,if_neg];rw[ad];rw[ab];exact fun e=>h6 (ab.symm.trans e)⟩ mlt)
 conv=>cbv
 refine .litR 4 fun s3 ae am=>?_
 conv=>cbv
 have e:s3=B5 mark count stride sum:=(by unfold B5;rw[hf,List.drop_of_length_le (by simp;omega)];simp only[Jf];exact ae)
 rw[hr]at e
 subst e
 exact hQ _ _ (.s rfl rfl)
theorem Qd(k1:mark<9223372036854775808)(k2:count<9223372036854775808)(k3:stride<9223372036854775808)(k4:sum<9223372036854775808)(hr:B5 mark count stride sum=o):Fn Tryz.prog 172 [I mark,I count,I stride,I sum] [] ⟨S o,[],[]⟩:=by
 refine Fn.go Ja Tryz.func172 fun P hP Q hQ=>?_
 conv=>cbv
 refine LoopW.lp (κ:=ByteArray×Int) Ja hP [] [10] (fun(s9,aa)=>[(9,S s9),(11,I aa)]) (fun(s9,aa)=>[])
  (fun(s9,aa)=>∃k:Nat,aa=(k:Int)∧k≤4∧s9.size≤8*k∧Jf (tx []) [mark,count,stride,sum]=Jf s9 ([mark,count,stride,sum].drop k))
  (fun(s9,aa)=>(4 - aa).toNat) (tx [],0) ⟨0,rfl,by omega,by simp[B3],rfl⟩ ⟨rfl,rfl,trivial⟩ rfl ?_
 rintro⟨s9,aa⟩ J ⟨k,hi,hk,hz,hf⟩ hJ
 conv=>cbv
 refine .lss (fun h1=>?_) fun h1=>?_
 conv=>cbv
 refine .go aa.toNat fun p2 ah af=>?_
 conv=>cbv
 refine .go (l:=[mark,count,stride,sum]) (c:=cI) rfl fun ag e3 ac=>?_
 conv=>cbv
 have eE:[mark,count,stride,sum][k]'(by simp;omega)=e3:=by rw[ac];congr 1;omega
 have hE:e3<9223372036854775808:=by
  rw[←eE]
  have ai:k<4:=by omega
  rcases k with _|_|_|_|k
  ·exact k1
  ·exact k2
  ·exact k3
  ·exact k4
  ·omega
 generalize ab:A5 e3 4=r4
 have zr4:=Cl ab
 refine .dd hP (Fi (by omega) ab) ?_
 conv=>cbv
 refine .eql (fun h5=>?_) fun h5=>?_
 conv=>cbv
 have e:(tx [])=B5 mark count stride sum:=(by unfold B5;rw[hf,List.drop_eq_getElem_cons (by simp;omega)];simp only[Jf];rw[eE,if_pos (by rw[ab];exact h5)])
 rw[hr]at e
 subst e
 exact hQ _ _ (.s rfl rfl)
 conv=>cbv
 refine .go fun s6 ad aj=>?_
 conv=>cbv
 refine .add fun v7 ak=>?_
 conv=>cbv
 exact .go [] (s6,v7) (hJ _ ⟨k+1,by omega,by omega,by omega,by rw[hf,List.drop_eq_getElem_cons (by simp;omega)];simp only[Jf];rw[eE,if_neg];rw[ad];rw[ab];exact fun e=>h5 (ab.symm.trans e)⟩ mlt)
 conv=>cbv
 refine .litR 4 fun s2 ae al=>?_
 conv=>cbv
 have e:s2=B5 mark count stride sum:=(by unfold B5;rw[hf,List.drop_of_length_le (by simp;omega)];simp only[Jf];exact ae)
 rw[hr]at e
 subst e
 exact hQ _ _ (.s rfl rfl)
theorem XaD{o:Int}(ha:wfI a)(hb:wfI b)(hr:Hz a b=o):Fn Tryz.prog 236 [I a,I b] [] ⟨I o,[],[]⟩:=by
 refine Fn.go Ja Tryz.func236 fun P hP Q hQ=>?_
 conv=>cbv
 refine .subW fun v1 aa=>?_
 conv=>cbv
 refine .lss (fun h2=>?_) fun h2=>?_
 conv=>cbv
 have e:(-1)=Hz a b:=(by unfold Hz;rw[Ly]at aa;obtain⟨ab,ac⟩:=ha;obtain⟨ad,hb2⟩:=hb;rw[if_neg (by omega)])
 rw[hr]at e
 subst e
 exact hQ _ _ (.i rfl rfl)
 conv=>cbv
 refine .lss (fun h3=>?_) fun h3=>?_
 conv=>cbv
 have e:(-1)=Hz a b:=(by unfold Hz;rw[Ly]at aa;obtain⟨ab,ac⟩:=ha;obtain⟨ad,hb2⟩:=hb;rw[if_neg (by omega)])
 rw[hr]at e
 subst e
 exact hQ _ _ (.i rfl rfl)
 conv=>cbv
 have e:v1=Hz a b:=(by unfold Hz;rw[Ly]at aa;obtain⟨ab,ac⟩:=ha;obtain⟨ad,hb2⟩:=hb;rw[if_pos (by omega)];omega)
 rw[hr]at e
 subst e
 exact hQ _ _ (.i rfl rfl)
theorem XhO(ha:wfI a)(hb:wfI b)(hr:G8 a b=o):Fn Tryz.prog 326 [I a,I b] [] ⟨S o,[],[]⟩:=by
 refine Fn.go Ja Tryz.func326 fun P hP Q hQ=>?_
 conv=>cbv
 refine .lss (fun h1=>?_) fun h1=>?_
 conv=>cbv
 have e:(tx [])=G8 a b:=(by unfold G8;rw[if_neg (by omega)])
 rw[hr]at e
 subst e
 exact hQ _ _ (.s rfl rfl)
 conv=>cbv
 refine .go fun v2 ab=>?_
 conv=>cbv
 refine .go fun v3 ac=>?_
 conv=>cbv
 refine .subW fun v4 ad=>?_
 conv=>cbv
 have e4:v4=a - b:=by rw[ad,ab,ac,Gv,Gv,Gv];obtain⟨af,ag⟩:=ha;obtain⟨ah,hb2⟩:=hb;omega
 refine .gtr (fun h5=>?_) fun h5=>?_
 conv=>cbv
 have e:(tx [])=G8 a b:=(by unfold G8;rw[if_neg (by omega)])
 rw[hr]at e
 subst e
 exact hQ _ _ (.s rfl rfl)
 conv=>cbv
 refine .sub fun v6 ae=>?_
 conv=>cbv
 generalize aa:C6 v6=r7
 have zr7:=Hv aa
 refine .dd hP (Uq aa) ?_
 conv=>cbv
 have e:r7=G8 a b:=(by unfold G8;rw[if_pos (by omega),←aa,ae])
 rw[hr]at e
 subst e
 exact hQ _ _ (.s rfl rfl)
theorem XbB{l:List Hn}{xl:List (List D)}(hl:l.map S8=xl)(hn:l.length<2^40)(hw:wfPl l)(hr:Cn l=o):Fn Tryz.prog 170 [.d (.row 2 xl)] [] ⟨S o,[],[]⟩:=by
 refine Fn.go Ja Tryz.func170 fun P hP Q hQ=>?_
 conv=>cbv
 refine .go hl fun v1 ao=>?_
 conv=>cbv
 generalize ae:C6 v1=r2
 have zr2:=Hv ae
 refine .dd hP (Nx ae) ?_
 conv=>cbv
 refine LoopW.lp (κ:=ByteArray×Int×Int×Int) Ja hP [] [0,4] (fun(s3,i5,ab,ac)=>[(3,S s3),(5,I i5)]) (fun(s3,i5,ab,ac)=>[(0,.box 162 [I ab,I ac])])
  (fun(s3,i5,ab,ac)=>∃(k:Nat) (pr:ByteArray),i5=(k:Int)∧k≤l.length∧s3=C6 l.length++pr∧pr.size≤10*k∧wfI ab∧wfI ac∧Jd (0,0) l=(Jd (ab,ac) (l.drop k)).map fun t=>pr++t)
  (fun(s3,i5,ab,ac)=>(l.length - i5).toNat) (r2,0,0,0) ⟨0,tx [],rfl,by omega,by rw[←ae,ao,Y1],by simp[B3],by constructor<;>omega,by constructor<;>omega,by simp[Xg8]⟩ ⟨rfl,rfl,trivial⟩ rfl ?_
 rintro⟨s3,i5,ab,ac⟩ J ⟨k,pr,hi,hk,hs,hz,hwa,hwb,hp⟩ hJ
 have ay:s3.size≤5+10*k:=by rw[hs,ByteArray.size_append];have:=Ir l.length;omega
 conv=>cbv
 refine .go hl fun v3 az=>?_
 conv=>cbv
 refine .lss (fun h4=>?_) fun h4=>?_
 conv=>cbv
 refine .go i5.toNat hl fun ar ⟨aa,ad⟩ ah=>?_
 conv=>cbv
 have hkl:k<l.length:=by omega
 have hd:l.drop k=⟨aa,ad⟩::l.drop (k+1):=by rw[List.drop_eq_getElem_cons hkl,ah];congr 2;omega
 obtain⟨ai,aj⟩:=hw ⟨aa,ad⟩ (by rw[ah];exact List.getElem_mem _)
 simp only[]at ai aj
 generalize ak:Hz aa ab=r6
 refine .dd hP (XaD (by assumption) (by assumption) ak) ?_
 conv=>cbv
 generalize af:C6 r6=r7
 have zr7:=Hv af
 refine .dd hP (Nx af) ?_
 conv=>cbv
 generalize al:Hz ad ac=r8
 refine .dd hP (XaD (by assumption) (by assumption) al) ?_
 conv=>cbv
 generalize ag:C6 r8=r9
 have zr9:=Hv ag
 refine .dd hP (Nx ag) ?_
 conv=>cbv
 have ea:G8 aa ab=r7:=by rw[←af,←ak,W5]
 have eb:G8 ad ac=r9:=by rw[←ag,←al,W5]
 refine .eql (fun h10=>?_) fun h10=>?_
 conv=>cbv
 have e:(tx [])=Cn l:=(by unfold Cn;rw[hp,hd];simp only[Jd];rw[ea,eb,if_pos (.inl h10)];rfl)
 rw[hr]at e
 subst e
 exact hQ _ _ (.s rfl rfl)
 conv=>cbv
 refine .eql (fun h11=>?_) fun h11=>?_
 conv=>cbv
 have e:(tx [])=Cn l:=(by unfold Cn;rw[hp,hd];simp only[Jd];rw[ea,eb,if_pos (.inr h11)];rfl)
 rw[hr]at e
 subst e
 exact hQ _ _ (.s rfl rfl)
 conv=>cbv
 refine .go fun a0 am au=>?_
 conv=>cbv
 refine .go fun ap an aw=>?_
 conv=>cbv
 refine .add fun aq ax=>?_
 conv=>cbv
 exact .go [] (ap,aq,aa,ad) (hJ _ ⟨k+1,pr++(r7++r9),by omega,by omega,by rw[an,am,hs];simp only[ByteArray.append_assoc],by rw[ByteArray.size_append,ByteArray.size_append];omega,ai,aj,by rw[hp,hd];simp only[Jd];rw[ea,eb,if_neg (by intro h;rcases h with h|h;exact h10 h;exact h11 h),Option.map_map];congr 1;funext t;simp only[Function.comp,ByteArray.append_assoc]⟩ mlt)
 conv=>cbv
 have e:s3=Cn l:=(by unfold Cn;rw[hp,List.drop_of_length_le (by omega),hs];simp[Jd,Y1])
 rw[hr]at e
 subst e
 exact hQ _ _ (.s rfl rfl)
end
section
open Go Go.Proofs
def Xa2:List (Nat×TyRow):=[ty3,ty9,Xkm,Xl8,XkC]
theorem Xcg:B8 Tryz.prog Xa2:=B8.of (by kernel_rfl)
theorem Xec:Setup Tryz.prog Xa2:=⟨Xcg,mixed⟩
theorem XbG{l:List Hn}{xl:List (List D)}{o:ByteArray}(hl:l.map S8=xl)(hn:l.length≤1000000000)(hw:wfPl l)(hr:Cn l=o):Fn Tryz.prog 299 [.d (.row 2 xl)] [] ⟨S o,[],[]⟩:=by
 refine Fn.go Xec Tryz.func299 fun P hP Q hQ=>?_
 conv=>cbv
 refine .go hl fun v1 az=>?_
 conv=>cbv
 generalize al:C6 v1=r2
 have zr2:=Hv al
 refine .dd hP (Uq al) ?_
 conv=>cbv
 obtain⟨nb3,hnb3⟩:∃m,([]:List UInt8).length+r2.size=m:=⟨_,rfl⟩
 obtain⟨b3,am⟩:∃m,[]++r2.data.toList=m:=⟨_,rfl⟩
 obtain⟨kb3,aq⟩:∃m,(r2.size:Int)=m:=⟨_,rfl⟩
 have lb3:nb3=b3.length:=by rw[←am,List.length_append,Array.length_toList];exact hnb3.symm
 refine .bx [2,0] [0] hP (Xek rfl (by first|omega|(simp;omega)) hnb3 am aq) rfl rfl rfl rfl ?_
 conv=>cbv
 refine .go hl fun v4 a4=>?_
 conv=>cbv
 refine LoopW.lp (κ:=Int×Int×Int×(List UInt8)×Nat) Xec hP [3] [3,4,15,16] (fun(ac,ad,ae,aa,ag)=>[(17,I ac)]) (fun(ac,ad,ae,aa,ag)=>[(2,.box 216 [.ptr 2 0 0,.ref 5 0 ag]),(4,.box 162 [I ad,I ae]),(5,.buf 5 false aa)])
  (fun(ac,ad,ae,aa,ag)=>ag=aa.length∧∃(k:Nat) (pr:ByteArray),ac=(k:Int)∧k≤l.length∧aa=(C6 l.length++pr).data.toList∧pr.size≤10*k∧wfI ad∧wfI ae∧Jd (0,0) l=(Jd (ad,ae) (l.drop k)).map fun t=>pr++t)
  (fun(ac,ad,ae,aa,ag)=>(l.length - ac).toNat) (0,0,0,b3,nb3) ⟨lb3,0,tx [],rfl,by omega,by rw[←am,Y1,←az,al];rfl,by simp[B3],by constructor<;>omega,by constructor<;>omega,by simp[Xg8]⟩ ⟨rfl,trivial⟩ rfl ?_
 rintro⟨ac,ad,ae,aa,ag⟩ J ⟨ak,k,pr,hi,hk,hs,hz,hwa,hwb,hp⟩ hJ
 have z1:1≤(C6 l.length).size:=by unfold C6;rw[if_pos (by omega),B3];exact List.length_pos_iff.2 (Xde _)
 have zv:=Ir l.length
 have zl:aa.length=(C6 l.length).size+pr.size:=by rw[hs,Array.length_toList];exact ByteArray.size_append
 conv=>cbv
 refine .lss (fun h5=>?_) fun h5=>?_
 conv=>cbv
 refine .go ac.toNat hl fun a1 ⟨ab,af⟩ ar=>?_
 conv=>cbv
 have hkl:k<l.length:=by omega
 have hd:l.drop k=⟨ab,af⟩::l.drop (k+1):=by rw[List.drop_eq_getElem_cons hkl,ar];congr 2;omega
 obtain⟨au,aw⟩:=hw ⟨ab,af⟩ (by rw[ar];exact List.getElem_mem _)
 simp only[]at au aw
 generalize ah:G8 ab ad=r7
 have zr7:=Ub ah
 refine .dd hP (XhO (by assumption) (by assumption) ah) ?_
 conv=>cbv
 generalize ai:G8 af ae=r8
 have zr8:=Ub ai
 refine .dd hP (XhO (by assumption) (by assumption) ai) ?_
 conv=>cbv
 refine .eql (fun h9=>?_) fun h9=>?_
 conv=>cbv
 have e:(tx [])=Cn l:=(by unfold Cn;rw[hp,hd];simp only[Jd];rw[ah,ai,if_pos (.inl h9)];rfl)
 rw[hr]at e
 subst e
 exact hQ _ _ (.s rfl rfl)
 conv=>cbv
 refine .eql (fun h10=>?_) fun h10=>?_
 conv=>cbv
 have e:(tx [])=Cn l:=(by unfold Cn;rw[hp,hd];simp only[Jd];rw[ah,ai,if_pos (.inr h10)];rfl)
 rw[hr]at e
 subst e
 exact hQ _ _ (.s rfl rfl)
 conv=>cbv
 refine .go fun an ax a2=>?_
 conv=>cbv
 obtain⟨nb12,hnb12⟩:∃m,(aa:List UInt8).length+an.size=m:=⟨_,rfl⟩
 obtain⟨ay,aj⟩:∃m,aa++an.data.toList=m:=⟨_,rfl⟩
 obtain⟨kb12,ao⟩:∃m,(an.size:Int)=m:=⟨_,rfl⟩
 have lb12:nb12=ay.length:=by rw[←aj,List.length_append,Array.length_toList];exact hnb12.symm
 refine .bx [2,5] [5] hP (XeZ ak (by first|omega|(simp;omega)) hnb12 aj ao) rfl rfl rfl rfl ?_
 conv=>cbv
 refine .add fun a0 a3=>?_
 conv=>cbv
 exact .go [7] (a0,ab,af,ay,nb12) (hJ _ ⟨Lx,k+1,pr++(r7++r8),by omega,by omega,by rw[←aj,hs,ax];simp[ByteArray.data_append,List.append_assoc],by rw[ByteArray.size_append,ByteArray.size_append];omega,au,aw,by rw[hp,hd];simp only[Jd];rw[ah,ai,if_neg (by intro h;rcases h with h|h;exact h9 h;exact h10 h),Option.map_map];congr 1;funext t;simp only[Function.comp,ByteArray.append_assoc]⟩ mlt)
 conv=>cbv
 obtain⟨b6,ap⟩:∃m,tx aa=m:=⟨_,rfl⟩
 have zb6:b6.size=aa.length:=by rw[←ap,B3]
 refine .bx [2,5] [5] hP (Xeg (x:=.ptr 0 0 0) ak (by intro e;rw[e]at zl;simp at zl;omega) (by first|omega|(simp;omega)) ap) rfl rfl rfl rfl ?_
 conv=>cbv
 have e:b6=Cn l:=(by unfold Cn;rw[hp,List.drop_of_length_le (by omega)];simp only[Jd,Option.map_some,Y1];rw[←ap,hs,Ui])
 rw[hr]at e
 subst e
 exact hQ _ _ (.s rfl rfl)
end
section
open Go Go.Proofs
def XaH:List (Nat×TyRow):=[ty3,ty9,XiA,Xjy,Xkm]
theorem XbD:B8 Tryz.prog XaH:=B8.of (by kernel_rfl)
theorem XeQ:Setup Tryz.prog XaH:=⟨XbD,mixed⟩
theorem Wm{h:Cd}{offs:List Int}{fin:Int}{o:ByteArray}(e:Cr h offs fin=o):o.size≤57+10*offs.length:=by rw[←e];exact S9 _ _ _
variable {hver hstr hbas hlin fin:Int} {offs:List Int} {xoffs:List (List D)} {o:ByteArray}
theorem XfZ(hoffs:offs.map cI=xoffs)(hl:offs.length≤1000000000)(hwo:∀x∈offs,wfI x)(hf:fin<9223372036854775808)(hr:Cr (⟨hver,hstr,hbas,hlin⟩:Cd) offs fin=o):Fn Tryz.prog 255 [.agg [I hver,I hstr,I hbas,I hlin],.d (.row 1 xoffs),I fin] [] ⟨S o,[],[]⟩:=by
 refine Fn.go XeQ Tryz.func255 fun P hP Q hQ=>?_
 conv=>cbv
 generalize ag:Dl (⟨hver,hstr,hbas,hlin⟩:Cd)=r1
 refine .dd hP (Xap ag) ?_
 cases r1
 conv=>cbv
 have e:(tx [])=Cr (⟨hver,hstr,hbas,hlin⟩:Cd) offs fin:=(by unfold Cr;rw[if_neg];rintro⟨q1,q2,q3,q4⟩;simp only[]at q1 q2 q3 q4;rw[ag]at q1;cases q1)
 rw[hr]at e
 subst e
 exact hQ _ _ (.s rfl rfl)
 conv=>cbv
 have hh:=H5 ag
 refine .go hoffs fun v2 aj=>?_
 conv=>cbv
 refine .add fun v3 ak=>?_
 conv=>cbv
 generalize ac:Da hver v3=r4
 have zr4:=Lw ac
 refine .dd hP (Xbd ac) ?_
 conv=>cbv
 generalize ab:Dm hstr offs=l5
 generalize al:l5.map S8=a3
 refine .dd hP (XfG hoffs (by omega) ab al) ?_
 conv=>cbv
 have zl5:l5.length≤offs.length:=ab▸Mu
 generalize ad:Cn l5=r6
 have zr6:=Q0 ad
 refine .dd hP (XbG al (by omega) (ab▸Tm hwo (by omega)) ad) ?_
 conv=>cbv
 refine .go hoffs fun v7 am=>?_
 conv=>cbv
 generalize aa:B5 fin v7 hstr 0=r8
 have zr8:=G7 aa
 refine .dd hP (Q9 (by omega) (by omega) (by omega) (by omega) aa) ?_
 conv=>cbv
 refine .eql (fun h9=>?_) fun h9=>?_
 conv=>cbv
 have e:(tx [])=Cr (⟨hver,hstr,hbas,hlin⟩:Cd) offs fin:=(by unfold Cr;rw[if_neg];rintro⟨q1,q2,q3,q4⟩;simp only[]at q1 q2 q3 q4;rw[←aj,←ak,ac]at q2;exact q2 h9)
 rw[hr]at e
 subst e
 exact hQ _ _ (.s rfl rfl)
 conv=>cbv
 refine .eql (fun h10=>?_) fun h10=>?_
 conv=>cbv
 have e:(tx [])=Cr (⟨hver,hstr,hbas,hlin⟩:Cd) offs fin:=(by unfold Cr;rw[if_neg];rintro⟨q1,q2,q3,q4⟩;simp only[]at q1 q2 q3 q4;rw[ab,ad]at q3;exact q3 h10)
 rw[hr]at e
 subst e
 exact hQ _ _ (.s rfl rfl)
 conv=>cbv
 refine .eql (fun h11=>?_) fun h11=>?_
 conv=>cbv
 have e:(tx [])=Cr (⟨hver,hstr,hbas,hlin⟩:Cd) offs fin:=(by unfold Cr;rw[if_neg];rintro⟨q1,q2,q3,q4⟩;simp only[]at q1 q2 q3 q4;rw[←am,aa]at q4;exact q4 h11)
 rw[hr]at e
 subst e
 exact hQ _ _ (.s rfl rfl)
 conv=>cbv
 refine .go fun a4 ah ay=>?_
 conv=>cbv
 have z8:r8.size=20:=by rw[←aa];exact N7 (by rw[aa];exact h11)
 refine .hi fun ar ai=>?_
 conv=>cbv
 have a5:ar.size=12:=by rw[ai,T3 (by omega) (by omega)];rfl
 refine .go fun au an az=>?_
 conv=>cbv
 generalize ae:F9 au=aw
 have zr15:=Iv ae
 refine .dd hP (V5 (by omega) ae) ?_
 conv=>cbv
 refine .go fun a6 ao a0=>?_
 conv=>cbv
 refine .go hoffs fun ap a1=>?_
 conv=>cbv
 generalize af:B5 fin ap hstr aw=a7
 have zr18:=G7 af
 refine .dd hP (Q9 (by omega) (by omega) (by omega) (by omega) af) ?_
 conv=>cbv
 refine .go fun ax aq a2=>?_
 conv=>cbv
 have e:ax=Cr (⟨hver,hstr,hbas,hlin⟩:Cd) offs fin:=(by have q:Cr ⟨hver,hstr,hbas,hlin⟩ offs fin=_:=if_pos ⟨ag,by simp only[];rw[←aj,←ak,ac];exact h9,by simp only[];rw[ab,ad];exact h10,by simp only[];rw[←am,aa];exact h11⟩;rw[q];simp only[];rw[←aj,←ak,ac,ab,ad,show(v2:Int)=v7 by omega,aa,←ah,aq,ao,←ah,←af,←ae,an,ai,show ap=v7 by omega];rfl)
 rw[hr]at e
 subst e
 exact hQ _ _ (.s rfl rfl)
theorem XfT(hoffs:offs.map cI=xoffs)(hl:offs.length≤1000000000)(hwo:∀x∈offs,wfI x)(hf:fin<9223372036854775808)(hr:Cr (⟨hver,hstr,hbas,hlin⟩:Cd) offs fin=o):Fn Tryz.prog 89 [.agg [I hver,I hstr,I hbas,I hlin],.d (.row 1 xoffs),I fin] [] ⟨S o,[],[]⟩:=by
 refine Fn.go XeQ Tryz.func89 fun P hP Q hQ=>?_
 conv=>cbv
 generalize ag:Dl (⟨hver,hstr,hbas,hlin⟩:Cd)=r1
 refine .dd hP (Xad ag) ?_
 cases r1
 conv=>cbv
 have e:(tx [])=Cr (⟨hver,hstr,hbas,hlin⟩:Cd) offs fin:=(by unfold Cr;rw[if_neg];rintro⟨q1,q2,q3,q4⟩;simp only[]at q1 q2 q3 q4;rw[ag]at q1;cases q1)
 rw[hr]at e
 subst e
 exact hQ _ _ (.s rfl rfl)
 conv=>cbv
 have hh:=H5 ag
 refine .go hoffs fun v2 aj=>?_
 conv=>cbv
 refine .add fun v3 ak=>?_
 conv=>cbv
 generalize ac:Da hver v3=r4
 have zr4:=Lw ac
 refine .dd hP (XaT ac) ?_
 conv=>cbv
 generalize ab:Dm hstr offs=l5
 generalize al:l5.map S8=a3
 refine .dd hP (Xfp hoffs (by omega) ab al) ?_
 conv=>cbv
 have zl5:l5.length≤offs.length:=ab▸Mu
 generalize ad:Cn l5=r6
 have zr6:=Q0 ad
 refine .dd hP (XbB al (by omega) (ab▸Tm hwo (by omega)) ad) ?_
 conv=>cbv
 refine .go hoffs fun v7 am=>?_
 conv=>cbv
 generalize aa:B5 fin v7 hstr 0=r8
 have zr8:=G7 aa
 refine .dd hP (Qd (by omega) (by omega) (by omega) (by omega) aa) ?_
 conv=>cbv
 refine .eql (fun h9=>?_) fun h9=>?_
 conv=>cbv
 have e:(tx [])=Cr (⟨hver,hstr,hbas,hlin⟩:Cd) offs fin:=(by unfold Cr;rw[if_neg];rintro⟨q1,q2,q3,q4⟩;simp only[]at q1 q2 q3 q4;rw[←aj,←ak,ac]at q2;exact q2 h9)
 rw[hr]at e
 subst e
 exact hQ _ _ (.s rfl rfl)
 conv=>cbv
 refine .eql (fun h10=>?_) fun h10=>?_
 conv=>cbv
 have e:(tx [])=Cr (⟨hver,hstr,hbas,hlin⟩:Cd) offs fin:=(by unfold Cr;rw[if_neg];rintro⟨q1,q2,q3,q4⟩;simp only[]at q1 q2 q3 q4;rw[ab,ad]at q3;exact q3 h10)
 rw[hr]at e
 subst e
 exact hQ _ _ (.s rfl rfl)
 conv=>cbv
 refine .eql (fun h11=>?_) fun h11=>?_
 conv=>cbv
 have e:(tx [])=Cr (⟨hver,hstr,hbas,hlin⟩:Cd) offs fin:=(by unfold Cr;rw[if_neg];rintro⟨q1,q2,q3,q4⟩;simp only[]at q1 q2 q3 q4;rw[←am,aa]at q4;exact q4 h11)
 rw[hr]at e
 subst e
 exact hQ _ _ (.s rfl rfl)
 conv=>cbv
 refine .go fun a4 ah ay=>?_
 conv=>cbv
 have z8:r8.size=20:=by rw[←aa];exact N7 (by rw[aa];exact h11)
 refine .hi fun ar ai=>?_
 conv=>cbv
 have a5:ar.size=12:=by rw[ai,T3 (by omega) (by omega)];rfl
 refine .go fun au an az=>?_
 conv=>cbv
 generalize ae:F9 au=aw
 have zr15:=Iv ae
 refine .dd hP (Vx (by omega) ae) ?_
 conv=>cbv
 refine .go fun a6 ao a0=>?_
 conv=>cbv
 refine .go hoffs fun ap a1=>?_
 conv=>cbv
 generalize af:B5 fin ap hstr aw=a7
 have zr18:=G7 af
 refine .dd hP (Qd (by omega) (by omega) (by omega) (by omega) af) ?_
 conv=>cbv
 refine .go fun ax aq a2=>?_
 conv=>cbv
 have e:ax=Cr (⟨hver,hstr,hbas,hlin⟩:Cd) offs fin:=(by have q:Cr ⟨hver,hstr,hbas,hlin⟩ offs fin=_:=if_pos ⟨ag,by simp only[];rw[←aj,←ak,ac];exact h9,by simp only[];rw[ab,ad];exact h10,by simp only[];rw[←am,aa];exact h11⟩;rw[q];simp only[];rw[←aj,←ak,ac,ab,ad,show(v2:Int)=v7 by omega,aa,←ah,aq,ao,←ah,←af,←ae,an,ai,show ap=v7 by omega];rfl)
 rw[hr]at e
 subst e
 exact hQ _ _ (.s rfl rfl)
end
section
open Go Go.Proofs
def XeE:List (Nat×TyRow):=[ty3,ty9,Xle,Xcu,XiA,Xjy,XkC]
theorem XcF:B8 Tryz.prog XeE:=B8.of (by kernel_rfl)
theorem Nt:Setup Tryz.prog XeE:=⟨XcF,mixed⟩
def Dv(v:Int):Int→List ByteArray→List UInt8
 |_,[]=>[]
 |p,r::l=>(A1 v p r).data.toList++Dv v (p+1) l
def Gl(v:Int):Int→Int→List ByteArray→List Int
 |_,_,[]=>[]
 |p,k,r::l=>k::Gl v (p+1) (k+(A1 v p r).size) l
def Zf(h:Cd)(l:List ByteArray):List UInt8:=(C2 h).data.toList++Dv h.version_ h.base_ l
def Ck(h:Cd)(l:List ByteArray):ByteArray:=
 if Dl h=true∧l.length≤1000∧h.base_+l.length≤1000000000∧∀r∈l,r.size≤60 then
  tx (Zf h l)++Cr h (Gl h.version_ h.base_ (C2 h).size l) (Zf h l).length
 else tx []
theorem Nf{v:Int}:∀{l:List ByteArray} {p:Int} {r:ByteArray},Dv v p (l++[r])=Dv v p l++(A1 v (p+l.length) r).data.toList
 |[],p,r=>by simp[Dv]
 |x::l,p,r=>by
  rw[List.cons_append,Dv,Dv,Nf,List.append_assoc,List.length_cons,show p+1+(l.length:Int)=p+((l.length+1:Nat):Int)by omega]
theorem Ru{v:Int}:∀{l:List ByteArray} {p k:Int} {r:ByteArray},Gl v p k (l++[r])=Gl v p k l++[k+(Dv v p l).length]
 |[],p,k,r=>by simp[Dv,Gl]
 |x::l,p,k,r=>by
  have e:(A1 v p x).data.toList.length=(A1 v p x).size:=Array.length_toList
  rw[List.cons_append,Gl,Gl,Ru,Dv,List.cons_append,List.length_append,e,show k+((A1 v p x).size:Int)+((Dv v (p+1) l).length:Int)=k+(((A1 v p x).size+(Dv v (p+1) l).length:Nat):Int)by omega]
theorem Oi{v:Int}:∀{l:List ByteArray} {p k:Int},(Gl v p k l).length=l.length
 |[],_,_=>rfl
 |x::l,p,k=>by rw[Gl,List.length_cons,List.length_cons,Oi]
theorem K6{v:Int}:∀{l:List ByteArray} {p:Int},(Dv v p l).length≤84*l.length
 |[],_=>by simp[Dv]
 |x::l,p=>by
  have:=@K6 v l (p+1)
  have h:=Fw (rfl:A1 v p x=_)
  have e:(A1 v p x).data.size=(A1 v p x).size:=rfl
  rw[Dv,List.length_append,Array.length_toList,List.length_cons]
  omega
theorem Vi{v:Int}:∀{l:List ByteArray} {p k:Int},0≤k→∀x∈Gl v p k l,0≤x∧x≤k+84*l.length
 |[],_,_,_,x,hx=>by simp[Gl]at hx
 |y::l,p,k,hk,x,hx=>by
  rw[Gl,List.mem_cons]at hx
  have h:=Fw (rfl:A1 v p y=_)
  rcases hx with rfl|hx
  ·rw[List.length_cons];omega
  ·have:=@Vi v l (p+1) (k+(A1 v p y).size) (by omega) x hx
   rw[List.length_cons];omega
theorem Gr{h:Cd}{l:List ByteArray}{o:ByteArray}(e:Ck h l=o):o.size≤200000:=by
 rw[←e]
 unfold Ck
 split
 ·rename_i hc
  have h1:=S9 h (Gl h.version_ h.base_ (C2 h).size l) (Zf h l).length
  have h2:=J6 (rfl:C2 h=_)
  have h3:=@K6 h.version_ l h.base_
  rw[ByteArray.size_append,B3]
  rw[Oi]at h1
  have e:(C2 h).data.size=(C2 h).size:=rfl
  have h4:(Zf h l).length=(C2 h).size+(Dv h.version_ h.base_ l).length:=by unfold Zf;rw[List.length_append,Array.length_toList];rfl
  omega
 ·simp[B3]
def Df(s:ByteArray):Bool:=decide (60<s.size)
def Cj(l:List ByteArray):Int:=if l.findIdx Df<l.length then(l.findIdx Df:Int)else -1
def Cq(l:List ByteArray):Bool:=l.any Df
theorem Xl4{l:List ByteArray}{i:Int}(h0:0≤i)(hi:i.toNat<l.length)(h:Df l[i.toNat]=true)(hb:∀(j:Nat) (hj:j<l.length),j<i.toNat→Df l[j]=false):i=Cj l:=by
 have e:l.findIdx Df=i.toNat:=(List.findIdx_eq hi).2 ⟨h,fun j hji=>hb j (by omega) hji⟩
 unfold Cj
 rw[e,if_pos hi]
 omega
theorem Xji{l:List ByteArray}(hb:∀(j:Nat) (hj:j<l.length),Df l[j]=false): -1=Cj l:=by
 unfold Cj
 rw[if_neg]
 intro hlt
 have:=List.findIdx_getElem (w:=hlt)
 rw[hb _ hlt]at this
 cases this
theorem Xip{l:List ByteArray}:Cq l=decide (0≤Cj l):=by
 unfold Cq Cj
 by_cases h:l.findIdx Df<l.length
 ·rw[if_pos h]
  have:=List.findIdx_getElem (w:=h)
  rw[List.any_eq_true.2 ⟨_,List.getElem_mem h,this⟩]
  simp
 ·rw[if_neg h]
  have:l.any Df=false:=by
   rw[List.any_eq_false]
   intro x hx hp
   exact h (List.findIdx_lt_length_of_exists ⟨x,hx,hp⟩)
  rw[this]
  rfl
theorem XbO{l:List ByteArray}(h:Cq l=false):∀r∈l,r.size≤60:=by
 intro r hr
 have:=List.any_eq_false.1 h r hr
 simp[Df]at this
 exact this
theorem Xg3{l:List ByteArray}(h:Cq l=true):¬∀r∈l,r.size≤60:=by
 intro hh
 obtain⟨r,hr,h'⟩:=List.any_eq_true.1 h
 have:=hh r hr
 simp[Df]at h'
 omega
variable {o:ByteArray} {l:List ByteArray} {xl:List (List D)} {hver hstr hbas hlin:Int}
theorem Xba{s:ByteArray}{o:Bool}(hr:Df s=o):Fn Tryz.prog 249 [S s] [] ⟨B o,[],[]⟩:=by
 refine Fn.go Nt Tryz.func249 fun P hP Q hQ=>?_
 conv=>cbv
 refine .go fun v1 aa=>?_
 conv=>cbv
 refine .gtr (fun h2=>?_) fun h2=>?_
 conv=>cbv
 have e:true=Df s:=(by unfold Df;rw[eq_comm,decide_eq_true_iff];omega)
 rw[hr]at e
 subst e
 exact hQ _ _ (.b rfl rfl)
 conv=>cbv
 have e:false=Df s:=(by unfold Df;rw[eq_comm,decide_eq_false_iff_not];omega)
 rw[hr]at e
 subst e
 exact hQ _ _ (.b rfl rfl)
theorem M9{o:Int}(hl:l.map cS=xl)(hn:l.length<2^40)(hr:Cj l=o):Fn Tryz.prog 228 [.d (.row 1 xl),.clo 249 []] [] ⟨I o,[],[]⟩:=by
 refine Fn.go Nt Tryz.func228 fun P hP Q hQ=>?_
 conv=>cbv
 refine .go hl fun v1 ad=>?_
 conv=>cbv
 refine LoopW.lp (κ:=Int) Nt hP [] [0,1,7] (fun i8=>[(8,I i8)]) (fun i8=>[])
  (fun i8=>0≤i8∧i8≤l.length∧∀(j:Nat) (hj:j<l.length),j<i8.toNat→Df l[j]=false)
  (fun i8=>(l.length - i8).toNat) (0) ⟨by omega,by omega,fun j _ h=>by simp at h⟩ ⟨rfl,trivial⟩ rfl ?_
 rintro i8 J ⟨h0,h1,hb⟩ hJ
 conv=>cbv
 refine .lss (fun h2=>?_) fun h2=>?_
 conv=>cbv
 refine .go i8.toNat hl fun ac e3 ab=>?_
 conv=>cbv
 generalize aa:Df e3=r4
 refine .dd hP (Xba aa) ?_
 cases r4
 conv=>cbv
 refine .add fun v5 ae=>?_
 conv=>cbv
 exact .go [] (v5) (hJ _ ⟨by omega,by omega,fun j hj h=>if e:j=i8.toNat then by subst e;rw[←ab];exact aa else hb j hj (by omega)⟩ mlt)
 conv=>cbv
 have e:i8=Cj l:=(by exact Xl4 h0 (by omega) (ab▸aa) hb)
 rw[hr]at e
 subst e
 exact hQ _ _ (.i rfl rfl)
 conv=>cbv
 have e:(-1)=Cj l:=(by exact Xji fun j hj=>hb j hj (by omega))
 rw[hr]at e
 subst e
 exact hQ _ _ (.i rfl rfl)
theorem Ld{o:Bool}(hl:l.map cS=xl)(hn:l.length<2^40)(hr:Cq l=o):Fn Tryz.prog 248 [.d (.row 1 xl),.clo 249 []] [] ⟨B o,[],[]⟩:=by
 refine Fn.go Nt Tryz.func248 fun P hP Q hQ=>?_
 conv=>cbv
 generalize aa:Cj l=r1
 refine .dd hP (M9 hl hn aa) ?_
 conv=>cbv
 refine .geq (fun h2=>?_) fun h2=>?_
 conv=>cbv
 have e:true=Cq l:=(by rw[Xip,aa,eq_comm,decide_eq_true_iff];omega)
 rw[hr]at e
 subst e
 exact hQ _ _ (.b rfl rfl)
 conv=>cbv
 have e:false=Cq l:=(by rw[Xip,aa,eq_comm,decide_eq_false_iff_not];omega)
 rw[hr]at e
 subst e
 exact hQ _ _ (.b rfl rfl)
theorem Zh{h:Cd}(hk:Dl h=true):0<(C2 h).size:=by
 unfold C2
 rw[if_pos hk,ByteArray.size_append]
 have:0<(Xcw h).size:=by
  unfold Xcw
  simp only[ByteArray.size_append,B3,List.length_cons]
  omega
 omega
theorem Oh(hl:l.map cS=xl)(hn:l.length<2^40)(hr:Ck (⟨hver,hstr,hbas,hlin⟩:Cd) l=o):Fn Tryz.prog 206 [.agg [I hver,I hstr,I hbas,I hlin],.d (.row 1 xl)] [] ⟨S o,[],[]⟩:=by
 refine Fn.go Nt Tryz.func206 fun P hP Q hQ=>?_
 conv=>cbv
 generalize ag:Dl (⟨hver,hstr,hbas,hlin⟩:Cd)=r1
 refine .dd hP (Xap ag) ?_
 cases r1
 conv=>cbv
 have e:(tx [])=Ck (⟨hver,hstr,hbas,hlin⟩:Cd) l:=(by unfold Ck;rw[if_neg];rintro⟨q,_⟩;rw[ag]at q;cases q)
 rw[hr]at e
 subst e
 exact hQ _ _ (.s rfl rfl)
 conv=>cbv
 refine .go hl fun v2 bf=>?_
 conv=>cbv
 refine .gtr (fun h3=>?_) fun h3=>?_
 conv=>cbv
 have e:(tx [])=Ck (⟨hver,hstr,hbas,hlin⟩:Cd) l:=(by unfold Ck;rw[if_neg];rintro⟨_,q,_⟩;omega)
 rw[hr]at e
 subst e
 exact hQ _ _ (.s rfl rfl)
 conv=>cbv
 refine .go hl fun v4 bg=>?_
 conv=>cbv
 have hh:=H5 ag
 refine .add fun v5 bh=>?_
 conv=>cbv
 generalize aq:Bp v5=r6
 refine .dd hP (Fm aq) ?_
 cases r6
 simp only[Bp,decide_eq_true_eq,decide_eq_false_iff_not]at aq
 conv=>cbv
 have e:(tx [])=Ck (⟨hver,hstr,hbas,hlin⟩:Cd) l:=(by unfold Ck;rw[if_neg];rintro⟨_,_,q,_⟩;simp only[]at q;omega)
 rw[hr]at e
 subst e
 exact hQ _ _ (.s rfl rfl)
 simp only[Bp,decide_eq_true_eq,decide_eq_false_iff_not]at aq
 conv=>cbv
 generalize an:Cq l=r7
 refine .dd hP (Ld hl (by omega) an) ?_
 cases r7
 conv=>cbv
 generalize ah:C2 (⟨hver,hstr,hbas,hlin⟩:Cd)=r8
 have zr8:=J6 ah
 refine .dd hP (X7 ah) ?_
 conv=>cbv
 have zp:=Zh ag;rw[ah]at zp
 obtain⟨nb9,hnb9⟩:∃m,([]:List UInt8).length+r8.size=m:=⟨_,rfl⟩
 obtain⟨b9,ar⟩:∃m,[]++r8.data.toList=m:=⟨_,rfl⟩
 obtain⟨kb9,a0⟩:∃m,(r8.size:Int)=m:=⟨_,rfl⟩
 have lb9:nb9=b9.length:=by rw[←ar,List.length_append,Array.length_toList];exact hnb9.symm
 refine .bx [3,1] [1] hP (Xek rfl (by first|omega|(simp;omega)) hnb9 ar a0) rfl rfl rfl rfl ?_
 conv=>cbv
 refine .go hl fun bi ba=>?_
 conv=>cbv
 refine LoopW.lp (κ:=Int×(List UInt8)×Nat×(List (List D))×Nat) Nt hP [4,5] [2,5,35,36] (fun(aa,ab,ac,ae,af)=>[(6,.ref 7 0 af),(37,I aa)]) (fun(aa,ab,ac,ae,af)=>[(3,.box 216 [.ptr 3 0 0,.ref 6 0 ac]),(6,.buf 5 false ab),(7,.row 1 false ae)])
  (fun(aa,ab,ac,ae,af)=>∃(w7:List Int),ac=ab.length∧w7.map cI=ae∧af=w7.length∧0≤aa∧aa≤l.length∧ab=r8.data.toList++Dv hver hbas (l.take aa.toNat)∧w7=Gl hver hbas r8.size (l.take aa.toNat))
  (fun(aa,ab,ac,ae,af)=>(l.length - aa).toNat) (0,b9,nb9,[],0) ⟨[],lb9,rfl,rfl,by omega,by omega,by rw[←ar];simp[Dv],by simp[Gl]⟩ ⟨rfl,rfl,trivial⟩ rfl ?_
 rintro⟨aa,ab,ac,ae,af⟩ J ⟨w7,ao,au,bb,h0,h1,hz,hw⟩ hJ
 have q1:=@K6 hver (l.take aa.toNat) hbas
 have q2:(l.take aa.toNat).length=aa.toNat:=by rw[List.length_take];omega
 have q4:ab.length=r8.size+(Dv hver hbas (l.take aa.toNat)).length:=by rw[hz,List.length_append,Array.length_toList];rfl
 have q5:w7.length=aa.toNat:=by rw[hw,Oi,q2]
 conv=>cbv
 refine .lss (fun h11=>?_) fun h11=>?_
 conv=>cbv
 refine .go aa.toNat hl fun a5 aw ap=>?_
 conv=>cbv
 obtain⟨kb13,ad⟩:∃m,((ac:Nat):Int)=m:=⟨_,rfl⟩
 refine .bx [3,6] [6] hP (XlE (bs:=ab) ad) rfl rfl rfl rfl ?_
 conv=>cbv
 refine .one kb13 au rfl fun a1 a6 a7 a2=>?_
 conv=>cbv
 have ze:=XbO an aw (ap▸List.getElem_mem _)
 refine .add fun a3 bc=>?_
 conv=>cbv
 generalize ai:A1 hver a3 aw=ax
 have zr16:=Fw ai
 refine .dd hP (Pu (by omega) ai) ?_
 conv=>cbv
 obtain⟨nb17,hnb17⟩:∃m,(ab:List UInt8).length+ax.size=m:=⟨_,rfl⟩
 obtain⟨ay,aj⟩:∃m,ab++ax.data.toList=m:=⟨_,rfl⟩
 obtain⟨kb17,az⟩:∃m,(ax.size:Int)=m:=⟨_,rfl⟩
 have lb17:nb17=ay.length:=by rw[←aj,List.length_append,Array.length_toList];exact hnb17.symm
 refine .bx [3,6] [6] hP (XeZ ao (by first|omega|(simp;omega)) hnb17 aj az) rfl rfl rfl rfl ?_
 conv=>cbv
 refine .add fun ak bd=>?_
 conv=>cbv
 have t1:ak.toNat=aa.toNat+1:=by omega
 have t2:l.take ak.toNat=l.take aa.toNat++[aw]:=by rw[t1,ap,List.take_append_getElem]
 have t4:ay=r8.data.toList++Dv hver hbas (l.take ak.toNat):=by rw[←aj,hz,t2,Nf,q2,List.append_assoc,show hbas+((aa.toNat:Nat):Int)=a3 by omega,ai]
 have t5:w7++[kb13]=Gl hver hbas r8.size (l.take ak.toNat):=by rw[t2,Ru,←hw,show kb13=(r8.size:Int)+((Dv hver hbas (l.take aa.toNat)).length:Int)by omega]
 exact .go [10,9] (ak,ay,nb17,a6,a1) (hJ _ ⟨_,Lx,a2,Lx,by omega,by omega,t4,t5⟩ mlt)
 conv=>cbv
 obtain⟨a8,al⟩:∃m,tx ab=m:=⟨_,rfl⟩
 have zb12:a8.size=ab.length:=by rw[←al,B3]
 refine .bx [3,6] [6] hP (Xeg (x:=.ptr 0 0 0) ao (by intro e;rw[e]at q4;simp at q4;omega) (by first|omega|(simp;omega)) al) rfl rfl rfl rfl ?_
 conv=>cbv
 obtain⟨kb13,ad⟩:∃m,((ac:Nat):Int)=m:=⟨_,rfl⟩
 refine .bx [3,6] [6] hP (XlE (bs:=ab) ad) rfl rfl rfl rfl ?_
 conv=>cbv
 generalize am:Cr (⟨hver,hstr,hbas,hlin⟩:Cd) w7 kb13=bj
 have zr14:=Wm am
 refine .lnt hP (XfZ au (by omega) (fun x hx=>by rw[hw]at hx;have:=Vi (k:=(r8.size:Int)) (by omega) x hx;exact⟨by omega,by omega⟩) (by omega) am) (.agg (.d rfl (.d rfl (.d rfl (.d rfl .nil)))) (.ref rfl (by rw[←au,List.length_map];first|omega|(simp;omega)) (.d rfl .nil))) ?_
 conv=>cbv
 refine .go fun a9 a4 be=>?_
 conv=>cbv
 have t0:l.take aa.toNat=l:=List.take_of_length_le (by omega)
 have e1:Zf ⟨hver,hstr,hbas,hlin⟩ l=ab:=by unfold Zf;rw[ah,hz,t0]
 have e2:Gl hver hbas r8.size l=w7:=by rw[hw,t0]
 have e:a9=Ck (⟨hver,hstr,hbas,hlin⟩:Cd) l:=(by unfold Ck;rw[if_pos ⟨ag,by omega,by simp only[];omega,XbO an⟩,e1,ah,a4,←al,←am,←e2];show _=tx ab++Cr _ (Gl hver hbas r8.size l) ab.length;congr 2;omega)
 rw[hr]at e
 subst e
 exact hQ _ _ (.s rfl rfl)
 conv=>cbv
 have e:(tx [])=Ck (⟨hver,hstr,hbas,hlin⟩:Cd) l:=(by unfold Ck;rw[if_neg];rintro⟨_,_,_,q⟩;exact Xg3 an q)
 rw[hr]at e
 subst e
 exact hQ _ _ (.s rfl rfl)
theorem Xx(hl:l.map cS=xl)(hn:l.length<2^40)(hr:Ck (⟨hver,hstr,hbas,hlin⟩:Cd) l=o):Fn Tryz.prog 28 [.agg [I hver,I hstr,I hbas,I hlin],.d (.row 1 xl)] [] ⟨S o,[],[]⟩:=by
 refine Fn.go Nt Tryz.func28 fun P hP Q hQ=>?_
 conv=>cbv
 generalize aj:Dl (⟨hver,hstr,hbas,hlin⟩:Cd)=r1
 refine .dd hP (Xad aj) ?_
 cases r1
 conv=>cbv
 have e:(tx [])=Ck (⟨hver,hstr,hbas,hlin⟩:Cd) l:=(by unfold Ck;rw[if_neg];rintro⟨q,_⟩;rw[aj]at q;cases q)
 rw[hr]at e
 subst e
 exact hQ _ _ (.s rfl rfl)
 conv=>cbv
 refine .go hl fun v2 bm=>?_
 conv=>cbv
 refine .gtr (fun h3=>?_) fun h3=>?_
 conv=>cbv
 have e:(tx [])=Ck (⟨hver,hstr,hbas,hlin⟩:Cd) l:=(by unfold Ck;rw[if_neg];rintro⟨_,q,_⟩;omega)
 rw[hr]at e
 subst e
 exact hQ _ _ (.s rfl rfl)
 conv=>cbv
 refine .go hl fun v4 bn=>?_
 conv=>cbv
 have hh:=H5 aj
 refine .add fun v5 bo=>?_
 conv=>cbv
 refine .gtr (fun h6=>?_) fun h6=>?_
 conv=>cbv
 have e:(tx [])=Ck (⟨hver,hstr,hbas,hlin⟩:Cd) l:=(by unfold Ck;rw[if_neg];rintro⟨_,_,q,_⟩;simp only[]at q;omega)
 rw[hr]at e
 subst e
 exact hQ _ _ (.s rfl rfl)
 conv=>cbv
 generalize ak:C2 (⟨hver,hstr,hbas,hlin⟩:Cd)=r7
 have zr7:=J6 ak
 refine .dd hP (Yf ak) ?_
 conv=>cbv
 refine .go fun a1 z8 bd a2=>?_
 conv=>cbv
 refine LoopW.lp (κ:=Int×(List (List D))×Nat×(List (List D))×Nat) Nt hP [1,2] [1,2] (fun(i7,aa,ab,ac,ad)=>[(5,.ref 3 0 ab),(6,.ref 4 0 ad),(7,I i7)]) (fun(i7,aa,ab,ac,ad)=>[(3,.row 1 false aa),(4,.row 1 false ac)])
  (fun(i7,aa,ab,ac,ad)=>∃(w3:List UInt8) (w4:List Int),w3.map cB=aa∧ab=w3.length∧w4.map cI=ac∧ad=w4.length∧0≤i7∧i7≤l.length∧w3=r7.data.toList++Dv hver hbas (l.take i7.toNat)∧w4=Gl hver hbas r7.size (l.take i7.toNat)∧∀r∈l.take i7.toNat,r.size≤60)
  (fun(i7,aa,ab,ac,ad)=>(l.length - i7).toNat) (0,z8,a1,[],0) ⟨r7.data.toList,[],a2,(by first|omega|(simp;omega)),rfl,rfl,by omega,by omega,by simp[Dv],by simp[Gl],by simp⟩ ⟨rfl,rfl,rfl,trivial⟩ rfl ?_
 rintro⟨i7,aa,ab,ac,ad⟩ J ⟨w3,w4,aq,be,al,bf,h0,h1,hz,hw,am⟩ hJ
 have q1:=@K6 hver (l.take i7.toNat) hbas
 have q2:(l.take i7.toNat).length=i7.toNat:=by rw[List.length_take];omega
 have q4:w3.length=r7.size+(Dv hver hbas (l.take i7.toNat)).length:=by rw[hz,List.length_append,Array.length_toList];rfl
 have q5:w4.length=i7.toNat:=by rw[hw,Oi,q2]
 conv=>cbv
 refine .go hl fun v9 bp=>?_
 conv=>cbv
 refine .lss (fun h10=>?_) fun h10=>?_
 conv=>cbv
 refine .go i7.toNat hl fun a3 a4 af=>?_
 conv=>cbv
 refine .go fun bq bg=>?_
 conv=>cbv
 refine .gtr (fun h13=>?_) fun h13=>?_
 conv=>cbv
 have e:(tx [])=Ck (⟨hver,hstr,hbas,hlin⟩:Cd) l:=(by unfold Ck;rw[if_neg];rintro⟨_,_,_,q⟩;have:=q a4 (af▸List.getElem_mem _);omega)
 rw[hr]at e
 subst e
 exact hQ _ _ (.s rfl rfl)
 conv=>cbv
 refine .go fun an bh=>?_
 conv=>cbv
 refine .one an al rfl fun ar a5 a6 au=>?_
 conv=>cbv
 refine .add fun aw bi=>?_
 conv=>cbv
 refine .go i7.toNat hl fun a7 ao ag=>?_
 conv=>cbv
 have bt:ao.size≤60:=by rw[ag,←af];omega
 generalize ah:A1 hver aw ao=a8
 have zr18:=Fw ah
 refine .dd hP (Pr (by omega) ah) ?_
 conv=>cbv
 refine .str aq fun ax a9 ba ay=>?_
 conv=>cbv
 refine .add fun ae bj=>?_
 conv=>cbv
 have t1:ae.toNat=i7.toNat+1:=by omega
 have t2:l.take ae.toNat=l.take i7.toNat++[ao]:=by rw[t1,ag,List.take_append_getElem]
 have t4:w3++a8.data.toList=r7.data.toList++Dv hver hbas (l.take ae.toNat):=by rw[hz,t2,Nf,q2,List.append_assoc,show hbas+((i7.toNat:Nat):Int)=aw by omega,ah]
 have t5:w4++[an]=Gl hver hbas r7.size (l.take ae.toNat):=by rw[t2,Ru,←hw,show an=(r7.size:Int)+((Dv hver hbas (l.take i7.toNat)).length:Int)by omega]
 have t6:∀r∈l.take ae.toNat,r.size≤60:=by rw[t2];intro r hr';rcases List.mem_append.1 hr' with h|h;exact am r h;rw[List.mem_singleton.1 h,ag,←af];omega
 exact .go [7,6] (ae,a9,ax,a5,ar) (hJ _ ⟨_,_,ay,Lx,au,Lx,by omega,by omega,t4,t5,t6⟩ mlt)
 conv=>cbv
 refine .go fun bb bk=>?_
 conv=>cbv
 generalize ai:Cr (⟨hver,hstr,hbas,hlin⟩:Cd) w4 bb=bu
 have zr12:=Wm ai
 refine .lnt hP (XfT al (by omega) (fun x hx=>by rw[hw]at hx;have:=Vi (k:=(r7.size:Int)) (by omega) x hx;exact⟨by omega,by omega⟩) (by omega) ai) (.agg (.d rfl (.d rfl (.d rfl (.d rfl .nil)))) (.ref rfl (by rw[←al,List.length_map];first|omega|(simp;omega)) (.d rfl .nil))) ?_
 conv=>cbv
 refine .str aq fun bl bv ap az=>?_
 conv=>cbv
 refine .go az (hn:=by rw[ap,List.length_append,Array.length_toList];rfl) fun bc a0=>?_
 conv=>cbv
 have t0:l.take i7.toNat=l:=List.take_of_length_le (by omega)
 have e1:Zf ⟨hver,hstr,hbas,hlin⟩ l=w3:=by unfold Zf;rw[ak,hz,t0]
 have e2:Gl hver hbas r7.size l=w4:=by rw[hw,t0]
 rw[t0]at am
 have e:bc=Ck (⟨hver,hstr,hbas,hlin⟩:Cd) l:=(by unfold Ck;rw[if_pos ⟨aj,by omega,by simp only[];omega,am⟩,e1,ak,a0,←D8,Ui,←ai,←e2];show _=tx w3++Cr _ (Gl hver hbas r7.size l) w3.length;congr 2;omega)
 rw[hr]at e
 subst e
 exact hQ _ _ (.s rfl rfl)
end
section
open Go Go.Proofs
theorem Yj:∀(k:Nat) {h:Cd} {b:ByteArray} {n:Nat} {p:Int},(b.size - p).toNat≤k→0≤p∧p≤b.size→p+(Is h b n p).1.length≤b.size
 |k,h,b,n,p,hk,hp=>by
  cases hm:Ex h.version_ (h.base_+n) b p
  ·rcases hf:Be h.version_ (h.base_+n) b p with⟨r,q,ok⟩
   cases ok
   ·rw[Od hm hf]
    simpa using hp.2
   ·have h2:=Ia hf
    rw[Oy hm hf]
    cases k with
    |zero=>omega
    |succ k=>
     have ih:=Yj k (h:=h) (b:=b) (n:=n+1) (p:=q) (by omega) (by omega)
     rw[List.length_cons]
     omega
  ·rw[Oe hm]
   simpa using hp.2
theorem Lq{b:ByteArray}:(Bu b).records_.length≤b.size:=by
 unfold Bu
 split
 ·rename_i h e
  have h2:=Hi e
  have:=Yj _ (h:=h) (b:=b) (n:=0) (p:=24) (Nat.le_refl _) (by omega)
  show(Is h b 0 24).1.length≤_
  omega
 ·simp
end
section
open Go Go.Proofs
def Xea:List (Nat×TyRow):=[ty3,ty9,Xgt,XdN,Xal,W0,Zp]
theorem XcP:B8 Tryz.prog Xea:=B8.of (by kernel_rfl)
theorem F5:Setup Tryz.prog Xea:=⟨XcP,mixed⟩
def S1{α:Type}(p:α→Bool)(l:List α):Int:=if l.findIdx p<l.length then(l.findIdx p:Int)else -1
section
variable {α:Type} {p:α→Bool} {l:List α} {i:Int}
theorem Ni(h0:0≤i)(hi:i.toNat<l.length)(h:p l[i.toNat]=true)(hb:∀(j:Nat) (hj:j<l.length),j<i.toNat→p l[j]=false):i=S1 p l:=by
 have e:l.findIdx p=i.toNat:=(List.findIdx_eq hi).2 ⟨h,fun j hji=>hb j (by omega) hji⟩
 unfold S1
 rw[e,if_pos hi]
 omega
theorem I4(hb:∀(j:Nat) (hj:j<l.length),p l[j]=false): -1=S1 p l:=by
 unfold S1
 rw[if_neg]
 intro hlt
 have:=List.findIdx_getElem (w:=hlt)
 rw[hb _ hlt]at this
 cases this
theorem Xd5(e:S1 p l=i): -1≤i∧i<l.length:=by
 rw[←e]
 unfold S1
 split<;>omega
theorem Mn(e:S1 p l=i)(h:0≤i):∃hi:i.toNat<l.length,p l[i.toNat]=true:=by
 unfold S1 at e
 split at e
 ·rename_i hlt
  have e2:i.toNat=l.findIdx p:=by omega
  refine⟨by omega,?_⟩
  have:=List.findIdx_getElem (w:=hlt)
  simpa only[e2]using this
 ·omega
theorem XgT(e:S1 p l=i)(h:i<0):∀x∈l,p x=false:=by
 unfold S1 at e
 split at e
 ·omega
 ·rename_i hlt
  intro x hx
  cases hp:p x
  ·rfl
  ·exact absurd (List.findIdx_lt_length_of_exists ⟨x,hx,hp⟩) hlt
end
def B7(e:Ad)(name:ByteArray):Bool:=decide (e.name_=name)
def Es(l:List Ad)(name:ByteArray):Int:=S1 (fun e=>B7 e name) l
def Ao(l:List Ad)(name:ByteArray):Int:=Es l name
def D4(n:Bg)(id:Int):Bool:=decide (n.id_=id)
def E7(l:List Bg)(id:Int):Int:=S1 (fun n=>D4 n id) l
def E5(d:Aa)(id:Int):Int:=E7 d.nodes_ id
def Hd(d:Aa)(id:Int):Int:=E5 d id
def Cs(l:List Ad)(name:ByteArray):Int:=if Ao l name<0 then 0 else(l.getD (Ao l name).toNat ⟨tx [],0⟩).id_
def Em(l:List Ad)(name:ByteArray):Bool:=decide (0≤Ao l name)
def Cu(d:Aa)(name:ByteArray):Int:=if Ao d.entries_ name<0 then -1 else E5 d (Cs d.entries_ name)
def Ge(d:Aa)(name:ByteArray):Bg×Bool:=if Cu d name<0 then(⟨0,tx [],0⟩,false)else(d.nodes_.getD (Cu d name).toNat ⟨0,tx [],0⟩,true)
def Gb(d:Aa)(name:ByteArray):ByteArray×Bool:=((Ge d name).1.text_,(Ge d name).2)
def okD(d:Aa):Prop:=d.nodes_.length≤1000000000∧(∀n∈d.nodes_,n.text_.size≤1000000000)∧d.entries_.length≤1000000000∧(∀e∈d.entries_,e.name_.size≤1000000000)∧d.old_.length≤1000000000∧d.steps_.length≤1000000000
theorem gD{α:Type}{l:List α}{k:Nat}{d:α}(h:k<l.length):l[k]=l.getD k d:=by rw[List.getD_eq_getElem?_getD,List.getElem?_eq_getElem h];rfl
theorem Gq{l:List Ad}{name:ByteArray}{i:Int}(e:Ao l name=i): -1≤i∧i<l.length:=Xd5 e
theorem Sc{d:Aa}{id i:Int}(e:E5 d id=i): -1≤i∧i<d.nodes_.length:=Xd5 e
theorem Hr{d:Aa}{name:ByteArray}{i:Int}(e:Cu d name=i): -1≤i∧i<d.nodes_.length:=by
 unfold Cu at e
 split at e
 ·omega
 ·exact Sc e
theorem XcX{d:Aa}{name t:ByteArray}{ok:Bool}(hd:okD d)(e:Gb d name=(t,ok)):t.size≤1000000000:=by
 have e1:(Ge d name).1.text_=t:=congrArg Prod.fst e
 rw[←e1]
 unfold Ge
 split
 ·simp[B3]
 ·rename_i h
  have h2:=Hr (rfl:Cu d name=_)
  have h3:(Cu d name).toNat<d.nodes_.length:=by omega
  rw[←gD h3]
  exact hd.2.1 _ (List.getElem_mem h3)
theorem P9{d:Aa}{name:ByteArray}:Ge d name=if Hd d (Cs d.entries_ name)<0∨Em d.entries_ name=false then(⟨0,tx [],0⟩,false)else(d.nodes_.getD (Hd d (Cs d.entries_ name)).toNat ⟨0,tx [],0⟩,true):=by
 unfold Ge Cu Hd Em
 by_cases h:Ao d.entries_ name<0
 ·rw[if_pos h,if_pos (by omega),if_pos (.inr (by simp;omega))]
 ·rw[if_neg h]
  by_cases h2:E5 d (Cs d.entries_ name)<0
  ·rw[if_pos h2,if_pos (.inl h2)]
  ·rw[if_neg h2,if_neg]
   rintro(h3|h3)
   ·exact h2 h3
   ·simp at h3;omega
variable {name oatex oa:ByteArray} {o id At Ap oaid oasur:Int} {l Al Ak:List Ad} {xl Bv Bq Bn Br:List (List D)} {Ae:List Bg} {Ag:List ByteArray} {ob:Bool}
theorem XdG{enam:ByteArray}{eid:Int}{o:Bool}(hr:B7 (⟨enam,eid⟩:Ad) name=o):Fn Tryz.prog 285 [.agg [S enam,I eid],.ptr 0 0 0] [.box 9 [S name]] ⟨B o,[],[]⟩:=by
 refine Fn.goR F5 Tryz.func285 fun P hP Q hQ=>?_
 conv=>cbv
 refine .eql (fun h1=>?_) fun h1=>?_
 conv=>cbv
 have e:true=B7 (⟨enam,eid⟩:Ad) name:=(by unfold B7;symm;rw[decide_eq_true_eq];exact h1)
 rw[hr]at e
 subst e
 exact hQ _ _ (.o [] rfl)
 conv=>cbv
 have e:false=B7 (⟨enam,eid⟩:Ad) name:=(by unfold B7;symm;rw[decide_eq_false_iff_not];exact h1)
 rw[hr]at e
 subst e
 exact hQ _ _ (.o [] rfl)
theorem Wb{nid:Int}{ntex:ByteArray}{nsur:Int}{o:Bool}(hr:D4 (⟨nid,ntex,nsur⟩:Bg) id=o):Fn Tryz.prog 287 [.agg [I nid,S ntex,I nsur],.ptr 0 0 0] [.box 3 [I id]] ⟨B o,[],[]⟩:=by
 refine Fn.goR F5 Tryz.func287 fun P hP Q hQ=>?_
 conv=>cbv
 refine .eql (fun h1=>?_) fun h1=>?_
 conv=>cbv
 have e:true=D4 (⟨nid,ntex,nsur⟩:Bg) id:=(by unfold D4;symm;rw[decide_eq_true_eq];exact h1)
 rw[hr]at e
 subst e
 exact hQ _ _ (.o [] rfl)
 conv=>cbv
 have e:false=D4 (⟨nid,ntex,nsur⟩:Bg) id:=(by unfold D4;symm;rw[decide_eq_false_iff_not];exact h1)
 rw[hr]at e
 subst e
 exact hQ _ _ (.o [] rfl)
theorem Nu(hl:l.map Ac=xl)(hn:l.length<2^40)(hr:Es l name=o):Fn Tryz.prog 284 [.d (.row 2 xl),.clo 285 [.ptr 0 0 0]] [.box 9 [S name]] ⟨I o,[],[]⟩:=by
 refine Fn.goR F5 Tryz.func284 fun P hP Q hQ=>?_
 conv=>cbv
 refine .go hl fun v1 af=>?_
 conv=>cbv
 refine LoopW.lp (κ:=Int) F5 hP [] [0,1,7] (fun i8=>[(8,I i8)]) (fun i8=>[])
  (fun i8=>0≤i8∧i8≤l.length∧∀(j:Nat) (hj:j<l.length),j<i8.toNat→B7 l[j] name=false)
  (fun i8=>(l.length - i8).toNat) (0) ⟨by omega,by omega,fun j _ h=>by simp at h⟩ ⟨rfl,trivial⟩ rfl ?_
 rintro i8 J ⟨h0,h1,hb⟩ hJ
 conv=>cbv
 refine .lss (fun h2=>?_) fun h2=>?_
 conv=>cbv
 refine .go i8.toNat hl fun ae ⟨aa,ac⟩ ad=>?_
 conv=>cbv
 generalize ab:B7 (⟨aa,ac⟩:Ad) name=r4
 refine .bx [0] [] hP (XdG ab) rfl rfl rfl rfl ?_
 cases r4
 conv=>cbv
 refine .add fun v5 ag=>?_
 conv=>cbv
 exact .go [] (v5) (hJ _ ⟨by omega,by omega,fun j hj h=>if e:j=i8.toNat then by subst e;rw[←ad];exact ab else hb j hj (by omega)⟩ mlt)
 conv=>cbv
 have e:i8=Es l name:=(by exact Ni (p:=fun x=>B7 x name) h0 (by omega) (ad▸ab) hb)
 rw[hr]at e
 subst e
 exact hQ _ _ (.o [] rfl)
 conv=>cbv
 have e:(-1)=Es l name:=(by exact I4 (p:=fun x=>B7 x name) fun j hj=>hb j hj (by omega))
 rw[hr]at e
 subst e
 exact hQ _ _ (.o [] rfl)
theorem O5{l:List Bg}(hl:l.map Bi=xl)(hn:l.length<2^40)(hr:E7 l id=o):Fn Tryz.prog 286 [.d (.row 3 xl),.clo 287 [.ptr 0 0 0]] [.box 3 [I id]] ⟨I o,[],[]⟩:=by
 refine Fn.goR F5 Tryz.func286 fun P hP Q hQ=>?_
 conv=>cbv
 refine .go hl fun v1 ag=>?_
 conv=>cbv
 refine LoopW.lp (κ:=Int) F5 hP [] [0,1,7] (fun i8=>[(8,I i8)]) (fun i8=>[])
  (fun i8=>0≤i8∧i8≤l.length∧∀(j:Nat) (hj:j<l.length),j<i8.toNat→D4 l[j] id=false)
  (fun i8=>(l.length - i8).toNat) (0) ⟨by omega,by omega,fun j _ h=>by simp at h⟩ ⟨rfl,trivial⟩ rfl ?_
 rintro i8 J ⟨h0,h1,hb⟩ hJ
 conv=>cbv
 refine .lss (fun h2=>?_) fun h2=>?_
 conv=>cbv
 refine .go i8.toNat hl fun af ⟨ad,aa,ab⟩ ae=>?_
 conv=>cbv
 generalize ac:D4 (⟨ad,aa,ab⟩:Bg) id=r4
 refine .bx [0] [] hP (Wb ac) rfl rfl rfl rfl ?_
 cases r4
 conv=>cbv
 refine .add fun v5 ah=>?_
 conv=>cbv
 exact .go [] (v5) (hJ _ ⟨by omega,by omega,fun j hj h=>if e:j=i8.toNat then by subst e;rw[←ae];exact ac else hb j hj (by omega)⟩ mlt)
 conv=>cbv
 have e:i8=E7 l id:=(by exact Ni (p:=fun x=>D4 x id) h0 (by omega) (ae▸ac) hb)
 rw[hr]at e
 subst e
 exact hQ _ _ (.o [] rfl)
 conv=>cbv
 have e:(-1)=E7 l id:=(by exact I4 (p:=fun x=>D4 x id) fun j hj=>hb j hj (by omega))
 rw[hr]at e
 subst e
 exact hQ _ _ (.o [] rfl)
theorem Kk(hl:l.map Ac=xl)(hn:l.length<2^40)(hr:Ao l name=o):Fn Tryz.prog 240 [.d (.row 2 xl),S name] [] ⟨I o,[],[]⟩:=by
 refine Fn.go F5 Tryz.func240 fun P hP Q hQ=>?_
 conv=>cbv
 generalize aa:Es l name=r1
 refine .bx [0] [] hP (Nu hl (by omega) aa) rfl rfl rfl rfl ?_
 conv=>cbv
 have e:r1=Ao l name:=(by unfold Ao;exact aa.symm)
 rw[hr]at e
 subst e
 exact hQ _ _ (.i rfl rfl)
theorem Md(An:Ae.map Bi=Bv)(Am:Al.map Ac=Bq)(Aq:Ak.map Ac=Bn)(As:Ag.map cS=Br)(hn:Ae.length<2^40)(hr:E5 (⟨Ae,Al,Ak,Ag,At,Ap⟩:Aa) id=o):Fn Tryz.prog 241 [.agg [.d (.row 3 Bv),.d (.row 2 Bq),.d (.row 2 Bn),.d (.row 1 Br),I At,I Ap],I id] [] ⟨I o,[],[]⟩:=by
 refine Fn.go F5 Tryz.func241 fun P hP Q hQ=>?_
 conv=>cbv
 generalize aa:E7 Ae id=r1
 refine .bx [1] [] hP (O5 An (by omega) aa) rfl rfl rfl rfl ?_
 conv=>cbv
 have e:r1=E5 (⟨Ae,Al,Ak,Ag,At,Ap⟩:Aa) id:=(by unfold E5;exact aa.symm)
 rw[hr]at e
 subst e
 exact hQ _ _ (.i rfl rfl)
theorem Me(An:Ae.map Bi=Bv)(Am:Al.map Ac=Bq)(Aq:Ak.map Ac=Bn)(As:Ag.map cS=Br)(hd:okD ⟨Ae,Al,Ak,Ag,At,Ap⟩)(hr:Cu (⟨Ae,Al,Ak,Ag,At,Ap⟩:Aa) name=o):Fn Tryz.prog 177 [.agg [.d (.row 3 Bv),.d (.row 2 Bq),.d (.row 2 Bn),.d (.row 1 Br),I At,I Ap],S name] [] ⟨I o,[],[]⟩:=by
 refine Fn.go F5 Tryz.func177 fun P hP Q hQ=>?_
 conv=>cbv
 obtain⟨d1,d2,d3,d4,d5,d6⟩:=hd
 simp only[]at d1 d2 d3 d4 d5 d6
 generalize aa:Ao Al name=r1
 refine .dd hP (Kk Am (by omega) aa) ?_
 conv=>cbv
 have hb:=Gq aa
 refine .lss (fun h2=>?_) fun h2=>?_
 conv=>cbv
 have e:(-1)=Cu (⟨Ae,Al,Ak,Ag,At,Ap⟩:Aa) name:=(by unfold Cu;rw[if_pos (by simp only[];omega)])
 rw[hr]at e
 subst e
 exact hQ _ _ (.i rfl rfl)
 conv=>cbv
 refine .go r1.toNat Am fun ab ⟨ae,ac⟩ af=>?_
 conv=>cbv
 generalize ad:E5 (⟨Ae,Al,Ak,Ag,At,Ap⟩:Aa) ac=r4
 refine .dd hP (Md An Am Aq As (by omega) ad) ?_
 conv=>cbv
 have e:r4=Cu (⟨Ae,Al,Ak,Ag,At,Ap⟩:Aa) name:=(by unfold Cu Cs;simp only[];rw[aa,if_neg (by omega),if_neg (by omega),←gD ab,←af];exact ad.symm)
 rw[hr]at e
 subst e
 exact hQ _ _ (.i rfl rfl)
theorem XiD(An:Ae.map Bi=Bv)(Am:Al.map Ac=Bq)(Aq:Ak.map Ac=Bn)(As:Ag.map cS=Br)(hd:okD ⟨Ae,Al,Ak,Ag,At,Ap⟩)(hr:Ge (⟨Ae,Al,Ak,Ag,At,Ap⟩:Aa) name=(⟨oaid,oatex,oasur⟩,ob)):Fn Tryz.prog 93 [.agg [.d (.row 3 Bv),.d (.row 2 Bq),.d (.row 2 Bn),.d (.row 1 Br),I At,I Ap],S name] [] ⟨.tup [.agg [I oaid,S oatex,I oasur],B ob],[],[]⟩:=by
 refine Fn.go F5 Tryz.func93 fun P hP Q hQ=>?_
 conv=>cbv
 generalize aa:Cu (⟨Ae,Al,Ak,Ag,At,Ap⟩:Aa) name=r1
 refine .dd hP (Me An Am Aq As hd aa) ?_
 conv=>cbv
 have hb:=Hr aa
 simp only[]at hb
 refine .lss (fun h2=>?_) fun h2=>?_
 conv=>cbv
 have e:((⟨0,tx [],0⟩:Bg),false)=Ge (⟨Ae,Al,Ak,Ag,At,Ap⟩:Aa) name:=(by unfold Ge;rw[if_pos (by rw[aa];omega)])
 rw[hr]at e
 simp only[Prod.mk.injEq,Bg.mk.injEq]at e
 obtain⟨⟨rfl,rfl,rfl⟩,rfl⟩:=e
 refine hQ _ _ ?_
 exact .m rfl (.agg .d3 .d1)
 conv=>cbv
 refine .go r1.toNat An fun af ⟨ad,ab,ac⟩ ae=>?_
 conv=>cbv
 have e:((⟨ad,ab,ac⟩:Bg),true)=Ge (⟨Ae,Al,Ak,Ag,At,Ap⟩:Aa) name:=(by unfold Ge;rw[aa,if_neg (by omega)];simp only[];rw[←gD (show r1.toNat<Ae.length by omega)];rw[←ae])
 rw[hr]at e
 simp only[Prod.mk.injEq,Bg.mk.injEq]at e
 obtain⟨⟨rfl,rfl,rfl⟩,rfl⟩:=e
 refine hQ _ _ ?_
 exact .m rfl (.agg .d3 .d1)
theorem Xfz(An:Ae.map Bi=Bv)(Am:Al.map Ac=Bq)(Aq:Ak.map Ac=Bn)(As:Ag.map cS=Br)(hd:okD ⟨Ae,Al,Ak,Ag,At,Ap⟩)(hr:Gb (⟨Ae,Al,Ak,Ag,At,Ap⟩:Aa) name=(oa,ob)):Fn Tryz.prog 79 [.agg [.d (.row 3 Bv),.d (.row 2 Bq),.d (.row 2 Bn),.d (.row 1 Br),I At,I Ap],S name] [] ⟨.tup [S oa,B ob],[],[]⟩:=by
 refine Fn.go F5 Tryz.func79 fun P hP Q hQ=>?_
 conv=>cbv
 rcases ab:Ge (⟨Ae,Al,Ak,Ag,At,Ap⟩:Aa) name with⟨⟨ad,aa,ac⟩,ae⟩
 refine .dd hP (XiD An Am Aq As hd ab) ?_
 conv=>cbv
 have e:(aa,ae)=Gb (⟨Ae,Al,Ak,Ag,At,Ap⟩:Aa) name:=(by unfold Gb;rw[ab])
 rw[hr]at e
 simp only[Prod.mk.injEq]at e
 obtain⟨rfl,rfl⟩:=e
 refine hQ _ _ ?_
 exact .m rfl .d2
theorem L3(hl:l.map Ac=xl)(hn:l.length<2^40)(hr:Cs l name=o):Fn Tryz.prog 187 [.d (.row 2 xl),S name] [] ⟨I o,[],[]⟩:=by
 refine Fn.go F5 Tryz.func187 fun P hP Q hQ=>?_
 conv=>cbv
 refine LoopW.lp (κ:=Int) F5 hP [] [0,1] (fun i5=>[(5,I i5)]) (fun i5=>[])
  (fun i5=>0≤i5∧i5≤l.length∧∀(j:Nat) (hj:j<l.length),j<i5.toNat→B7 l[j] name=false)
  (fun i5=>(l.length - i5).toNat) (0) ⟨by omega,by omega,fun j _ h=>by simp at h⟩ ⟨rfl,trivial⟩ rfl ?_
 rintro i5 J ⟨h0,h1,hb⟩ hJ
 conv=>cbv
 refine .go hl fun v1 ai=>?_
 conv=>cbv
 refine .lss (fun h2=>?_) fun h2=>?_
 conv=>cbv
 refine .go i5.toNat hl fun ag ⟨ad,ah⟩ aa=>?_
 conv=>cbv
 refine .eql (fun h4=>?_) fun h4=>?_
 conv=>cbv
 refine .go i5.toNat hl fun ab ⟨ae,ac⟩ af=>?_
 conv=>cbv
 have e:ac=Cs l name:=(by have e2:Ao l name=i5:=(Ni (p:=fun x=>B7 x name) (l:=l) h0 (by omega) (by rw[←aa];unfold B7;rw[decide_eq_true_eq];exact h4) hb).symm;unfold Cs;rw[e2,if_neg (by omega),←gD ab,←af])
 rw[hr]at e
 subst e
 exact hQ _ _ (.i rfl rfl)
 conv=>cbv
 refine .add fun v5 aj=>?_
 conv=>cbv
 exact .go [] (v5) (hJ _ ⟨by omega,by omega,fun j hj h=>if e:j=i5.toNat then by subst e;rw[←aa];unfold B7;rw[decide_eq_false_iff_not];exact h4 else hb j hj (by omega)⟩ mlt)
 conv=>cbv
 have e:0=Cs l name:=(by have e2:Ao l name= -1:=(I4 (p:=fun x=>B7 x name) fun j hj=>hb j hj (by omega)).symm;unfold Cs;rw[e2,if_pos (by omega)])
 rw[hr]at e
 subst e
 exact hQ _ _ (.i rfl rfl)
theorem Q3(An:Ae.map Bi=Bv)(Am:Al.map Ac=Bq)(Aq:Ak.map Ac=Bn)(As:Ag.map cS=Br)(hn:Ae.length<2^40)(hr:Hd (⟨Ae,Al,Ak,Ag,At,Ap⟩:Aa) id=o):Fn Tryz.prog 186 [.agg [.d (.row 3 Bv),.d (.row 2 Bq),.d (.row 2 Bn),.d (.row 1 Br),I At,I Ap],I id] [] ⟨I o,[],[]⟩:=by
 refine Fn.go F5 Tryz.func186 fun P hP Q hQ=>?_
 conv=>cbv
 refine LoopW.lp (κ:=Int) F5 hP [] [1,2] (fun i5=>[(5,I i5)]) (fun i5=>[])
  (fun i5=>0≤i5∧i5≤Ae.length∧∀(j:Nat) (hj:j<Ae.length),j<i5.toNat→D4 Ae[j] id=false)
  (fun i5=>(Ae.length - i5).toNat) (0) ⟨by omega,by omega,fun j _ h=>by simp at h⟩ ⟨rfl,trivial⟩ rfl ?_
 rintro i5 J ⟨h0,h1,hb⟩ hJ
 conv=>cbv
 refine .go An fun v1 af=>?_
 conv=>cbv
 refine .lss (fun h2=>?_) fun h2=>?_
 conv=>cbv
 refine .go i5.toNat An fun ad ⟨ae,ab,ac⟩ aa=>?_
 conv=>cbv
 refine .eql (fun h4=>?_) fun h4=>?_
 conv=>cbv
 have e:i5=Hd (⟨Ae,Al,Ak,Ag,At,Ap⟩:Aa) id:=(by exact Ni (p:=fun x=>D4 x id) (l:=Ae) h0 (by omega) (by rw[←aa];unfold D4;rw[decide_eq_true_eq];exact h4) hb)
 rw[hr]at e
 subst e
 exact hQ _ _ (.i rfl rfl)
 conv=>cbv
 refine .add fun v5 ag=>?_
 conv=>cbv
 exact .go [] (v5) (hJ _ ⟨by omega,by omega,fun j hj h=>if e:j=i5.toNat then by subst e;rw[←aa];unfold D4;rw[decide_eq_false_iff_not];exact h4 else hb j hj (by omega)⟩ mlt)
 conv=>cbv
 have e:(-1)=Hd (⟨Ae,Al,Ak,Ag,At,Ap⟩:Aa) id:=(by exact I4 (p:=fun x=>D4 x id) (l:=Ae) fun j hj=>hb j hj (by omega))
 rw[hr]at e
 subst e
 exact hQ _ _ (.i rfl rfl)
theorem Mr{o:Bool}(hl:l.map Ac=xl)(hn:l.length<2^40)(hr:Em l name=o):Fn Tryz.prog 188 [.d (.row 2 xl),S name] [] ⟨B o,[],[]⟩:=by
 refine Fn.go F5 Tryz.func188 fun P hP Q hQ=>?_
 conv=>cbv
 refine LoopW.lp (κ:=Int) F5 hP [] [0,1] (fun i5=>[(5,I i5)]) (fun i5=>[])
  (fun i5=>0≤i5∧i5≤l.length∧∀(j:Nat) (hj:j<l.length),j<i5.toNat→B7 l[j] name=false)
  (fun i5=>(l.length - i5).toNat) (0) ⟨by omega,by omega,fun j _ h=>by simp at h⟩ ⟨rfl,trivial⟩ rfl ?_
 rintro i5 J ⟨h0,h1,hb⟩ hJ
 conv=>cbv
 refine .go hl fun v1 ae=>?_
 conv=>cbv
 refine .lss (fun h2=>?_) fun h2=>?_
 conv=>cbv
 refine .go i5.toNat hl fun ac ⟨ab,ad⟩ aa=>?_
 conv=>cbv
 refine .eql (fun h4=>?_) fun h4=>?_
 conv=>cbv
 have e:true=Em l name:=(by have e2:Ao l name=i5:=(Ni (p:=fun x=>B7 x name) (l:=l) h0 (by omega) (by rw[←aa];unfold B7;rw[decide_eq_true_eq];exact h4) hb).symm;unfold Em;rw[e2];symm;rw[decide_eq_true_eq];omega)
 rw[hr]at e
 subst e
 exact hQ _ _ (.b rfl rfl)
 conv=>cbv
 refine .add fun v5 af=>?_
 conv=>cbv
 exact .go [] (v5) (hJ _ ⟨by omega,by omega,fun j hj h=>if e:j=i5.toNat then by subst e;rw[←aa];unfold B7;rw[decide_eq_false_iff_not];exact h4 else hb j hj (by omega)⟩ mlt)
 conv=>cbv
 have e:false=Em l name:=(by have e2:Ao l name= -1:=(I4 (p:=fun x=>B7 x name) fun j hj=>hb j hj (by omega)).symm;unfold Em;rw[e2];rfl)
 rw[hr]at e
 subst e
 exact hQ _ _ (.b rfl rfl)
theorem Xjs(An:Ae.map Bi=Bv)(Am:Al.map Ac=Bq)(Aq:Ak.map Ac=Bn)(As:Ag.map cS=Br)(hd:okD ⟨Ae,Al,Ak,Ag,At,Ap⟩)(hr:Ge (⟨Ae,Al,Ak,Ag,At,Ap⟩:Aa) name=(⟨oaid,oatex,oasur⟩,ob)):Fn Tryz.prog 100 [.agg [.d (.row 3 Bv),.d (.row 2 Bq),.d (.row 2 Bn),.d (.row 1 Br),I At,I Ap],S name] [] ⟨.tup [.agg [I oaid,S oatex,I oasur],B ob],[],[]⟩:=by
 refine Fn.go F5 Tryz.func100 fun P hP Q hQ=>?_
 conv=>cbv
 obtain⟨d1,d2,d3,d4,d5,d6⟩:=hd
 simp only[]at d1 d2 d3 d4 d5 d6
 generalize ab:Cs Al name=r1
 refine .dd hP (L3 Am (by omega) ab) ?_
 conv=>cbv
 generalize aa:Hd (⟨Ae,Al,Ak,Ag,At,Ap⟩:Aa) r1=r2
 refine .dd hP (Q3 An Am Aq As (by omega) aa) ?_
 conv=>cbv
 have hb:=Sc (d:=⟨Ae,Al,Ak,Ag,At,Ap⟩) (id:=r1) aa
 simp only[]at hb
 refine .lss (fun h3=>?_) fun h3=>?_
 conv=>cbv
 have e:((⟨0,tx [],0⟩:Bg),false)=Ge (⟨Ae,Al,Ak,Ag,At,Ap⟩:Aa) name:=(by rw[P9,if_pos (.inl (by simp only[];rw[ab,aa];omega))])
 rw[hr]at e
 simp only[Prod.mk.injEq,Bg.mk.injEq]at e
 obtain⟨⟨rfl,rfl,rfl⟩,rfl⟩:=e
 refine hQ _ _ ?_
 exact .m rfl (.agg .d3 .d1)
 conv=>cbv
 generalize ac:Em Al name=r4
 refine .dd hP (Mr Am (by omega) ac) ?_
 cases r4
 conv=>cbv
 have e:((⟨0,tx [],0⟩:Bg),false)=Ge (⟨Ae,Al,Ak,Ag,At,Ap⟩:Aa) name:=(by rw[P9,if_pos (.inr ac)])
 rw[hr]at e
 simp only[Prod.mk.injEq,Bg.mk.injEq]at e
 obtain⟨⟨rfl,rfl,rfl⟩,rfl⟩:=e
 refine hQ _ _ ?_
 exact .m rfl (.agg .d3 .d1)
 conv=>cbv
 refine .go r2.toNat An fun ah ⟨af,ad,ae⟩ ag=>?_
 conv=>cbv
 have e:((⟨af,ad,ae⟩:Bg),true)=Ge (⟨Ae,Al,Ak,Ag,At,Ap⟩:Aa) name:=(by rw[P9,if_neg (by simp only[];rw[ab,aa,ac];rintro(h|h);omega;cases h)];simp only[];rw[ab,aa,←gD (show r2.toNat<Ae.length by omega),←ag])
 rw[hr]at e
 simp only[Prod.mk.injEq,Bg.mk.injEq]at e
 obtain⟨⟨rfl,rfl,rfl⟩,rfl⟩:=e
 refine hQ _ _ ?_
 exact .m rfl (.agg .d3 .d1)
theorem Xfm(An:Ae.map Bi=Bv)(Am:Al.map Ac=Bq)(Aq:Ak.map Ac=Bn)(As:Ag.map cS=Br)(hd:okD ⟨Ae,Al,Ak,Ag,At,Ap⟩)(hr:Gb (⟨Ae,Al,Ak,Ag,At,Ap⟩:Aa) name=(oa,ob)):Fn Tryz.prog 68 [.agg [.d (.row 3 Bv),.d (.row 2 Bq),.d (.row 2 Bn),.d (.row 1 Br),I At,I Ap],S name] [] ⟨.tup [S oa,B ob],[],[]⟩:=by
 refine Fn.go F5 Tryz.func68 fun P hP Q hQ=>?_
 conv=>cbv
 rcases ab:Ge (⟨Ae,Al,Ak,Ag,At,Ap⟩:Aa) name with⟨⟨ad,aa,ac⟩,ae⟩
 refine .dd hP (Xjs An Am Aq As hd ab) ?_
 conv=>cbv
 have e:(aa,ae)=Gb (⟨Ae,Al,Ak,Ag,At,Ap⟩:Aa) name:=(by unfold Gb;rw[ab])
 rw[hr]at e
 simp only[Prod.mk.injEq]at e
 obtain⟨rfl,rfl⟩:=e
 refine hQ _ _ ?_
 exact .m rfl .d2
end
section
open Go.Proofs
open Go.Shelf
def Tryz.lays172_ren:Go.Shelf.Ren:=⟨fun|172=>330|244=>343|245=>279|247=>352|279=>312|280=>313|281=>314|282=>315|287=>278|316=>334|171=>242|205=>335|321=>310|322=>311|243=>288|246=>289|283=>316|284=>317|285=>318|286=>319|129=>337|317=>336|318=>338|319=>339|320=>340|337=>346|338=>347|n=>n,fun|9=>9|3=>3|75=>207|76=>217|4=>4|5=>5|167=>247|37=>22|0=>0|85=>285|2=>2|168=>249|53=>205|175=>208|46=>146|210=>271|127=>241|145=>282|143=>280|21=>21|171=>252|173=>255|212=>274|51=>257|20=>20|213=>275|232=>287|233=>288|80=>220|n=>n,fun|15=>0|16=>1|17=>2|18=>4|19=>5|n=>n⟩
def Tryz.laysM246_ren:Go.Shelf.Ren:=⟨fun|246=>289|283=>316|284=>317|285=>318|286=>319|129=>337|317=>336|318=>338|319=>339|320=>340|337=>346|338=>347|n=>n,fun|2=>2|3=>3|9=>9|4=>4|171=>252|0=>0|53=>205|37=>22|5=>5|173=>255|212=>274|51=>257|20=>20|213=>275|46=>146|232=>287|233=>288|n=>n,fun|17=>2|18=>4|19=>5|n=>n⟩
def Tryz.laysM243_ren:Go.Shelf.Ren:=⟨fun|243=>288|246=>289|283=>316|284=>317|285=>318|286=>319|129=>337|317=>336|318=>338|319=>339|320=>340|337=>346|338=>347|n=>n,fun|3=>3|9=>9|2=>2|4=>4|171=>252|0=>0|53=>205|37=>22|5=>5|173=>255|212=>274|51=>257|20=>20|213=>275|46=>146|232=>287|233=>288|n=>n,fun|17=>2|18=>4|19=>5|n=>n⟩
def Tryz.laysM171_ren:Go.Shelf.Ren:=⟨fun|171=>242|243=>288|246=>289|283=>316|284=>317|285=>318|286=>319|129=>337|317=>336|318=>338|319=>339|320=>340|337=>346|338=>347|n=>n,fun|3=>3|9=>9|2=>2|4=>4|171=>252|0=>0|53=>205|37=>22|5=>5|173=>255|212=>274|51=>257|20=>20|213=>275|46=>146|232=>287|233=>288|n=>n,fun|17=>2|18=>4|19=>5|n=>n⟩
theorem Tryz.laysM171:Go.Proofs.LaysM.n171 Tryz.prog Tryz.laysM171_ren:={
 mixed:=by kernel_rfl
 f129:=Tryz.func337.trans (congrArg some (by kernel_rfl))
 f171:=Tryz.func242.trans (congrArg some (by kernel_rfl))
 f243:=Tryz.func288.trans (congrArg some (by kernel_rfl))
 f246:=Tryz.func289.trans (congrArg some (by kernel_rfl))
 f283:=Tryz.func316.trans (congrArg some (by kernel_rfl))
 f284:=Tryz.func317.trans (congrArg some (by kernel_rfl))
 f285:=Tryz.func318.trans (congrArg some (by kernel_rfl))
 f286:=Tryz.func319.trans (congrArg some (by kernel_rfl))
 f317:=Tryz.func336.trans (congrArg some (by kernel_rfl))
 f318:=Tryz.func338.trans (congrArg some (by kernel_rfl))
 f319:=Tryz.func339.trans (congrArg some (by kernel_rfl))
 f320:=Tryz.func340.trans (congrArg some (by kernel_rfl))
 f337:=Tryz.func346.trans (congrArg some (by kernel_rfl))
 f338:=Tryz.func347.trans (congrArg some (by kernel_rfl))
 t0:=Tryz.underlying0
 a0:=Tryz.isAgg0
 z0:=Tryz.sizeOf0
 v0:=Tryz.zeroValue0
 t2:=Tryz.underlying2
 a2:=Tryz.isAgg2
 z2:=Tryz.sizeOf2
 v2:=Tryz.zeroValue2
 t3:=Tryz.underlying3
 a3:=Tryz.isAgg3
 z3:=Tryz.sizeOf3
 v3:=Tryz.zeroValue3
 t4:=Tryz.underlying4
 a4:=Tryz.isAgg4
 z4:=Tryz.sizeOf4
 v4:=Tryz.zeroValue4
 t5:=Tryz.underlying5
 a5:=Tryz.isAgg5
 z5:=Tryz.sizeOf5
 v5:=Tryz.zeroValue5
 t9:=Tryz.underlying9
 a9:=Tryz.isAgg9
 z9:=Tryz.sizeOf9
 v9:=Tryz.zeroValue9
 t20:=Tryz.underlying20
 a20:=Tryz.isAgg20
 z20:=Tryz.sizeOf20
 v20:=Tryz.zeroValue20
 t37:=Tryz.underlying22
 a37:=Tryz.isAgg22
 z37:=Tryz.sizeOf22
 v37:=Tryz.zeroValue22
 t46:=Tryz.underlying146
 a46:=Tryz.isAgg146
 z46:=Tryz.sizeOf146
 v46:=Tryz.zeroValue146
 t51:=Tryz.underlying257
 a51:=Tryz.isAgg257
 z51:=Tryz.sizeOf257
 v51:=Tryz.zeroValue257
 t53:=Tryz.underlying205
 a53:=Tryz.isAgg205
 z53:=Tryz.sizeOf205
 v53:=Tryz.zeroValue205
 t171:=Tryz.underlying252
 a171:=Tryz.isAgg252
 z171:=Tryz.sizeOf252
 v171:=Tryz.zeroValue252
 t173:=Tryz.underlying255
 a173:=Tryz.isAgg255
 z173:=Tryz.sizeOf255
 v173:=Tryz.zeroValue255
 t212:=Tryz.underlying274
 a212:=Tryz.isAgg274
 z212:=Tryz.sizeOf274
 v212:=Tryz.zeroValue274
 t213:=Tryz.underlying275
 a213:=Tryz.isAgg275
 z213:=Tryz.sizeOf275
 t232:=Tryz.underlying287
 a232:=Tryz.isAgg287
 z232:=Tryz.sizeOf287
 v232:=Tryz.zeroValue287
 t233:=Tryz.underlying288
 a233:=Tryz.isAgg288
 z233:=Tryz.sizeOf288
 v233:=Tryz.zeroValue288
 g17:=by kernel_rfl
 g18:=by kernel_rfl
 g19:=by kernel_rfl
 i0:=by kernel_rfl
 i2:=by kernel_rfl
 i3:=by kernel_rfl
 i4:=by kernel_rfl
 i5:=by kernel_rfl
 i9:=by kernel_rfl
 i20:=by kernel_rfl
 i37:=by kernel_rfl
 i46:=by kernel_rfl
 i51:=by kernel_rfl
 i53:=by kernel_rfl
 i171:=by kernel_rfl
 i173:=by kernel_rfl
 i212:=by kernel_rfl
 i232:=by kernel_rfl
 i233:=by kernel_rfl
 m17:=by kernel_rfl
 m18:=by kernel_rfl
 m19:=by kernel_rfl}
open Go.RowKit Go.Sort Go.Lib in
theorem Tryz.strconv_Itoa(n:Int)(h0: -9223372036854775808≤n)(h1:n≤9223372036854775807)(w:World)(htab:Lib.TabIs Tryz.prog w "internal/strconv.uint64pow10" .u64 Lib.pow10Tab):
  Calls Tryz.prog 242 #[.int .i64 n] w fun e w'=>e= .returned (.string ⟨(Lib.itoa n).toArray⟩)∧∃k os,w'=grow (w.drewN k) os:=Any.strconv_Itoa Tryz.laysM171 n h0 h1 w htab
def Tryz.laysC172_ren:Go.Shelf.Ren:=⟨fun|172=>330|244=>343|245=>279|247=>352|279=>312|280=>313|281=>314|282=>315|287=>278|316=>334|171=>242|205=>335|321=>310|322=>311|243=>288|246=>289|283=>316|284=>317|285=>318|286=>319|129=>337|317=>336|318=>338|319=>339|320=>340|337=>346|338=>347|n=>n,fun|9=>9|3=>3|75=>207|76=>217|4=>4|5=>5|167=>247|37=>22|0=>0|85=>285|2=>2|168=>249|53=>205|175=>208|46=>146|210=>271|127=>241|145=>282|143=>280|21=>21|171=>252|173=>255|212=>274|51=>257|20=>20|213=>275|232=>287|233=>288|80=>220|n=>n,fun|15=>0|16=>1|17=>2|18=>4|19=>5|n=>n⟩
theorem Tryz.laysC172:Go.Proofs.LaysC.n172 Tryz.prog Tryz.laysC172_ren:={
 mixed:=by kernel_rfl
 f129:=Tryz.func337.trans (congrArg some (by kernel_rfl))
 f171:=Tryz.func242.trans (congrArg some (by kernel_rfl))
 f172:=Tryz.func330.trans (congrArg some (by kernel_rfl))
 f205:=Tryz.func335.trans (congrArg some (by kernel_rfl))
 f243:=Tryz.func288.trans (congrArg some (by kernel_rfl))
 f244:=Tryz.func343.trans (congrArg some (by kernel_rfl))
 f245:=Tryz.func279.trans (congrArg some (by kernel_rfl))
 f246:=Tryz.func289.trans (congrArg some (by kernel_rfl))
 f247:=Tryz.func352.trans (congrArg some (by kernel_rfl))
 f279:=Tryz.func312.trans (congrArg some (by kernel_rfl))
 f280:=Tryz.func313.trans (congrArg some (by kernel_rfl))
 f281:=Tryz.func314.trans (congrArg some (by kernel_rfl))
 f282:=Tryz.func315.trans (congrArg some (by kernel_rfl))
 f283:=Tryz.func316.trans (congrArg some (by kernel_rfl))
 f284:=Tryz.func317.trans (congrArg some (by kernel_rfl))
 f285:=Tryz.func318.trans (congrArg some (by kernel_rfl))
 f286:=Tryz.func319.trans (congrArg some (by kernel_rfl))
 f287:=Tryz.func278.trans (congrArg some (by kernel_rfl))
 f316:=Tryz.func334.trans (congrArg some (by kernel_rfl))
 f317:=Tryz.func336.trans (congrArg some (by kernel_rfl))
 f318:=Tryz.func338.trans (congrArg some (by kernel_rfl))
 f319:=Tryz.func339.trans (congrArg some (by kernel_rfl))
 f320:=Tryz.func340.trans (congrArg some (by kernel_rfl))
 f321:=Tryz.func310.trans (congrArg some (by kernel_rfl))
 f322:=Tryz.func311.trans (congrArg some (by kernel_rfl))
 f337:=Tryz.func346.trans (congrArg some (by kernel_rfl))
 f338:=Tryz.func347.trans (congrArg some (by kernel_rfl))
 t0:=Tryz.underlying0
 a0:=Tryz.isAgg0
 z0:=Tryz.sizeOf0
 v0:=Tryz.zeroValue0
 t2:=Tryz.underlying2
 a2:=Tryz.isAgg2
 z2:=Tryz.sizeOf2
 v2:=Tryz.zeroValue2
 t3:=Tryz.underlying3
 a3:=Tryz.isAgg3
 z3:=Tryz.sizeOf3
 v3:=Tryz.zeroValue3
 t4:=Tryz.underlying4
 a4:=Tryz.isAgg4
 z4:=Tryz.sizeOf4
 v4:=Tryz.zeroValue4
 t5:=Tryz.underlying5
 a5:=Tryz.isAgg5
 z5:=Tryz.sizeOf5
 v5:=Tryz.zeroValue5
 t9:=Tryz.underlying9
 a9:=Tryz.isAgg9
 z9:=Tryz.sizeOf9
 v9:=Tryz.zeroValue9
 t20:=Tryz.underlying20
 a20:=Tryz.isAgg20
 z20:=Tryz.sizeOf20
 v20:=Tryz.zeroValue20
 t21:=Tryz.underlying21
 a21:=Tryz.isAgg21
 z21:=Tryz.sizeOf21
 v21:=Tryz.zeroValue21
 t37:=Tryz.underlying22
 a37:=Tryz.isAgg22
 z37:=Tryz.sizeOf22
 v37:=Tryz.zeroValue22
 t46:=Tryz.underlying146
 a46:=Tryz.isAgg146
 z46:=Tryz.sizeOf146
 v46:=Tryz.zeroValue146
 t51:=Tryz.underlying257
 a51:=Tryz.isAgg257
 z51:=Tryz.sizeOf257
 v51:=Tryz.zeroValue257
 t53:=Tryz.underlying205
 a53:=Tryz.isAgg205
 z53:=Tryz.sizeOf205
 v53:=Tryz.zeroValue205
 t75:=Tryz.underlying207
 a75:=Tryz.isAgg207
 z75:=Tryz.sizeOf207
 v75:=Tryz.zeroValue207
 t76:=Tryz.underlying217
 a76:=Tryz.isAgg217
 z76:=Tryz.sizeOf217
 v76:=Tryz.zeroValue217
 t85:=Tryz.underlying285
 a85:=Tryz.isAgg285
 z85:=Tryz.sizeOf285
 v85:=Tryz.zeroValue285
 t127:=Tryz.underlying241
 a127:=Tryz.isAgg241
 z127:=Tryz.sizeOf241
 v127:=Tryz.zeroValue241
 t143:=Tryz.underlying280
 a143:=Tryz.isAgg280
 z143:=Tryz.sizeOf280
 v143:=Tryz.zeroValue280
 t145:=Tryz.underlying282
 a145:=Tryz.isAgg282
 z145:=Tryz.sizeOf282
 v145:=Tryz.zeroValue282
 t167:=Tryz.underlying247
 a167:=Tryz.isAgg247
 z167:=Tryz.sizeOf247
 v167:=Tryz.zeroValue247
 t168:=Tryz.underlying249
 a168:=Tryz.isAgg249
 z168:=Tryz.sizeOf249
 v168:=Tryz.zeroValue249
 t171:=Tryz.underlying252
 a171:=Tryz.isAgg252
 z171:=Tryz.sizeOf252
 v171:=Tryz.zeroValue252
 t173:=Tryz.underlying255
 a173:=Tryz.isAgg255
 z173:=Tryz.sizeOf255
 v173:=Tryz.zeroValue255
 t175:=Tryz.underlying208
 a175:=Tryz.isAgg208
 z175:=Tryz.sizeOf208
 v175:=Tryz.zeroValue208
 t210:=Tryz.underlying271
 a210:=Tryz.isAgg271
 z210:=Tryz.sizeOf271
 v210:=Tryz.zeroValue271
 t212:=Tryz.underlying274
 a212:=Tryz.isAgg274
 z212:=Tryz.sizeOf274
 v212:=Tryz.zeroValue274
 t213:=Tryz.underlying275
 a213:=Tryz.isAgg275
 z213:=Tryz.sizeOf275
 t232:=Tryz.underlying287
 a232:=Tryz.isAgg287
 z232:=Tryz.sizeOf287
 v232:=Tryz.zeroValue287
 t233:=Tryz.underlying288
 a233:=Tryz.isAgg288
 z233:=Tryz.sizeOf288
 v233:=Tryz.zeroValue288
 g15:=by kernel_rfl
 g16:=by kernel_rfl
 g17:=by kernel_rfl
 g18:=by kernel_rfl
 g19:=by kernel_rfl
 t80:=Tryz.underlying220
 a80:=Tryz.isAgg220
 z80:=Tryz.sizeOf220
 v80:=Tryz.zeroValue220
 i0:=by kernel_rfl
 i2:=by kernel_rfl
 i3:=by kernel_rfl
 i4:=by kernel_rfl
 i5:=by kernel_rfl
 i9:=by kernel_rfl
 i20:=by kernel_rfl
 i21:=by kernel_rfl
 i37:=by kernel_rfl
 i46:=by kernel_rfl
 i51:=by kernel_rfl
 i53:=by kernel_rfl
 i75:=by kernel_rfl
 i76:=by kernel_rfl
 i80:=by kernel_rfl
 i85:=by kernel_rfl
 i127:=by kernel_rfl
 i143:=by kernel_rfl
 i145:=by kernel_rfl
 i167:=by kernel_rfl
 i168:=by kernel_rfl
 i171:=by kernel_rfl
 i173:=by kernel_rfl
 i175:=by kernel_rfl
 i210:=by kernel_rfl
 i212:=by kernel_rfl
 i232:=by kernel_rfl
 i233:=by kernel_rfl
 m15:=by kernel_rfl
 m16:=by kernel_rfl
 m17:=by kernel_rfl
 m18:=by kernel_rfl
 m19:=by kernel_rfl
 c0:=by kernel_rfl
 c2:=by kernel_rfl
 c3:=by kernel_rfl
 c4:=by kernel_rfl
 c5:=by kernel_rfl
 c9:=by kernel_rfl
 c20:=by kernel_rfl
 c21:=by kernel_rfl
 c37:=by kernel_rfl
 c46:=by kernel_rfl
 c51:=by kernel_rfl
 c53:=by kernel_rfl
 c75:=by kernel_rfl
 c76:=by kernel_rfl
 c80:=by kernel_rfl
 c85:=by kernel_rfl
 c127:=by kernel_rfl
 c143:=by kernel_rfl
 c145:=by kernel_rfl
 c167:=by kernel_rfl
 c168:=by kernel_rfl
 c171:=by kernel_rfl
 c173:=by kernel_rfl
 c175:=by kernel_rfl
 c210:=by kernel_rfl
 c212:=by kernel_rfl
 c213:=by kernel_rfl
 c232:=by kernel_rfl
 c233:=by kernel_rfl}
open Go.RowKit in
theorem Tryz.strconv_Atoi_ok(s:ByteArray)(hmax:s.size≤9223372036854775806)(v:Int)(h:Lib.atoiAll s.data.toList= .ok v)(w:World):
  Calls Tryz.prog 330 #[.string s] w fun e w'=>e= .returned (.tuple #[.int .i64 v,.nilIface])∧(w'=w∨∃t,w'=Lib.bytesWorld w 5 t):=Any.strconv_Atoi_ok Tryz.laysC172 s hmax v h w
open Go.RowKit in
theorem Tryz.strconv_Atoi_syntax(s:ByteArray)(hlim:s.size≤281474976710656)(h:Lib.atoiAll s.data.toList=(Lib.atoiAll []))(ev:Value)(w:World)(hv:w.cell? ⟨0,0,none⟩=some ev)(hev:ev= .nilIface∨∃te pe,ev= .iface te pe):
  Calls Tryz.prog 330 #[.string s] w fun e w'=>∃N,e= .returned (.tuple #[.int .i64 (0),.iface 249 (.pointer (some ⟨N,0,none⟩))])∧w.heap.size≤N∧w'.heap[N]? =some (.cells #[.string ⟨#[65,116,111,105]⟩,.string s,ev] 271 (0,0))∧Below w.heap.size w w':=Any.strconv_Atoi_syntax Tryz.laysC172 s hlim h ev w hv hev
open Go.RowKit in
theorem Tryz.strconv_Atoi_range(s:ByteArray)(hlim:s.size≤281474976710656)(h:Lib.atoiAll s.data.toList= .range)(ev:Value)(w:World)(hv:w.cell? ⟨1,0,none⟩=some ev)(hev:ev= .nilIface∨∃te pe,ev= .iface te pe):
  Calls Tryz.prog 330 #[.string s] w fun e w'=>∃N,e= .returned (.tuple #[.int .i64 (Lib.atoiSat s.data.toList),.iface 249 (.pointer (some ⟨N,0,none⟩))])∧w.heap.size≤N∧w'.heap[N]? =some (.cells #[.string ⟨#[65,116,111,105]⟩,.string s,ev] 271 (0,0))∧Below w.heap.size w w':=Any.strconv_Atoi_range Tryz.laysC172 s hlim h ev w hv hev
def Tryz.lays219_ren:Go.Shelf.Ren:=⟨fun|219=>342|217=>348|225=>349|224=>350|267=>351|266=>354|314=>355|n=>n,fun|9=>9|3=>3|4=>4|5=>5|46=>146|146=>258|51=>257|n=>n,fun|1=>3|n=>n⟩
theorem Tryz.lays219:Go.Proofs.Lays.n219 Tryz.prog Tryz.lays219_ren:={
 mixed:=by kernel_rfl
 f217:=Tryz.func348.trans (congrArg some (by kernel_rfl))
 f219:=Tryz.func342.trans (congrArg some (by kernel_rfl))
 f224:=Tryz.func350.trans (congrArg some (by kernel_rfl))
 f225:=Tryz.func349.trans (congrArg some (by kernel_rfl))
 f266:=Tryz.func354.trans (congrArg some (by kernel_rfl))
 f267:=Tryz.func351.trans (congrArg some (by kernel_rfl))
 f314:=Tryz.func355.trans (congrArg some (by kernel_rfl))
 t3:=Tryz.underlying3
 a3:=Tryz.isAgg3
 z3:=Tryz.sizeOf3
 v3:=Tryz.zeroValue3
 t4:=Tryz.underlying4
 a4:=Tryz.isAgg4
 z4:=Tryz.sizeOf4
 v4:=Tryz.zeroValue4
 t5:=Tryz.underlying5
 a5:=Tryz.isAgg5
 z5:=Tryz.sizeOf5
 v5:=Tryz.zeroValue5
 t9:=Tryz.underlying9
 a9:=Tryz.isAgg9
 z9:=Tryz.sizeOf9
 v9:=Tryz.zeroValue9
 t46:=Tryz.underlying146
 a46:=Tryz.isAgg146
 z46:=Tryz.sizeOf146
 v46:=Tryz.zeroValue146
 t51:=Tryz.underlying257
 a51:=Tryz.isAgg257
 z51:=Tryz.sizeOf257
 v51:=Tryz.zeroValue257
 t146:=Tryz.underlying258
 a146:=Tryz.isAgg258
 z146:=Tryz.sizeOf258
 v146:=Tryz.zeroValue258
 g1:=by kernel_rfl}
open Go.RowKit Go.Lib in
theorem Tryz.stringslite_Index_one(s:ByteArray)(c:UInt8)(w:World):
  Calls Tryz.prog 342 #[.string s,.string ⟨#[c]⟩] w fun e w'=>e= .returned (.int .i64 (Lib.indexByte s.data.toList c))∧w'=w:=Any.stringslite_Index_one Tryz.lays219 s c w
def Tryz.lays105_ren:Go.Shelf.Ren:=⟨fun|105=>244|212=>290|99=>291|165=>292|166=>250|170=>252|169=>254|263=>320|264=>321|206=>322|240=>295|241=>323|276=>325|277=>341|n=>n,fun|9=>9|3=>3|4=>4|20=>20|0=>0|46=>146|109=>237|5=>5|72=>216|76=>217|51=>257|146=>258|53=>205|148=>260|70=>214|37=>22|75=>207|127=>241|164=>263|80=>220|n=>n,fun|n=>n⟩
theorem Tryz.lays105:Go.Proofs.Lays.n105 Tryz.prog Tryz.lays105_ren:={
 mixed:=by kernel_rfl
 f99:=Tryz.func291.trans (congrArg some (by kernel_rfl))
 f105:=Tryz.func244.trans (congrArg some (by kernel_rfl))
 f165:=Tryz.func292.trans (congrArg some (by kernel_rfl))
 f166:=Tryz.func250.trans (congrArg some (by kernel_rfl))
 f169:=Tryz.func254.trans (congrArg some (by kernel_rfl))
 f170:=Tryz.func252.trans (congrArg some (by kernel_rfl))
 f206:=Tryz.func322.trans (congrArg some (by kernel_rfl))
 f212:=Tryz.func290.trans (congrArg some (by kernel_rfl))
 f240:=Tryz.func295.trans (congrArg some (by kernel_rfl))
 f241:=Tryz.func323.trans (congrArg some (by kernel_rfl))
 f263:=Tryz.func320.trans (congrArg some (by kernel_rfl))
 f264:=Tryz.func321.trans (congrArg some (by kernel_rfl))
 f276:=Tryz.func325.trans (congrArg some (by kernel_rfl))
 f277:=Tryz.func341.trans (congrArg some (by kernel_rfl))
 t0:=Tryz.underlying0
 a0:=Tryz.isAgg0
 z0:=Tryz.sizeOf0
 v0:=Tryz.zeroValue0
 t3:=Tryz.underlying3
 a3:=Tryz.isAgg3
 z3:=Tryz.sizeOf3
 v3:=Tryz.zeroValue3
 t4:=Tryz.underlying4
 a4:=Tryz.isAgg4
 z4:=Tryz.sizeOf4
 v4:=Tryz.zeroValue4
 t5:=Tryz.underlying5
 a5:=Tryz.isAgg5
 z5:=Tryz.sizeOf5
 v5:=Tryz.zeroValue5
 t9:=Tryz.underlying9
 a9:=Tryz.isAgg9
 z9:=Tryz.sizeOf9
 v9:=Tryz.zeroValue9
 t20:=Tryz.underlying20
 a20:=Tryz.isAgg20
 z20:=Tryz.sizeOf20
 v20:=Tryz.zeroValue20
 t37:=Tryz.underlying22
 a37:=Tryz.isAgg22
 z37:=Tryz.sizeOf22
 v37:=Tryz.zeroValue22
 t46:=Tryz.underlying146
 a46:=Tryz.isAgg146
 z46:=Tryz.sizeOf146
 v46:=Tryz.zeroValue146
 t51:=Tryz.underlying257
 a51:=Tryz.isAgg257
 z51:=Tryz.sizeOf257
 v51:=Tryz.zeroValue257
 t53:=Tryz.underlying205
 a53:=Tryz.isAgg205
 z53:=Tryz.sizeOf205
 v53:=Tryz.zeroValue205
 t70:=Tryz.underlying214
 a70:=Tryz.isAgg214
 z70:=Tryz.sizeOf214
 v70:=Tryz.zeroValue214
 t72:=Tryz.underlying216
 a72:=Tryz.isAgg216
 z72:=Tryz.sizeOf216
 v72:=Tryz.zeroValue216
 t75:=Tryz.underlying207
 a75:=Tryz.isAgg207
 z75:=Tryz.sizeOf207
 v75:=Tryz.zeroValue207
 t76:=Tryz.underlying217
 a76:=Tryz.isAgg217
 z76:=Tryz.sizeOf217
 v76:=Tryz.zeroValue217
 t109:=Tryz.underlying237
 a109:=Tryz.isAgg237
 z109:=Tryz.sizeOf237
 v109:=Tryz.zeroValue237
 t127:=Tryz.underlying241
 a127:=Tryz.isAgg241
 z127:=Tryz.sizeOf241
 v127:=Tryz.zeroValue241
 t146:=Tryz.underlying258
 a146:=Tryz.isAgg258
 z146:=Tryz.sizeOf258
 v146:=Tryz.zeroValue258
 t148:=Tryz.underlying260
 a148:=Tryz.isAgg260
 z148:=Tryz.sizeOf260
 v148:=Tryz.zeroValue260
 t164:=Tryz.underlying263
 a164:=Tryz.isAgg263
 z164:=Tryz.sizeOf263
 v164:=Tryz.zeroValue263}
theorem Tryz.Builder_Extra_105:Builder.Extra Tryz.prog Tryz.lays105_ren:={
 sizeBuilder:=by kernel_rfl
 liesBuilder:=by kernel_rfl
 t5:=Tryz.underlying5
 a5:=Tryz.isAgg5
 z5:=Tryz.sizeOf5
 v5:=Tryz.zeroValue5
 infoByte:=by kernel_rfl
 cellsByte:=by kernel_rfl
 sizeByte:=by kernel_rfl
 neB5:=by decide}
open Go.RowKit Go.Lib in
theorem Tryz.strings_Repeat(s:ByteArray)(c:Nat)(w:World)(hc:c≤9223372036854775807)(hlen:s.size*c≤140737488355328):
  Calls Tryz.prog 244 #[.string s,.int .i64 c] w fun e w'=>e= .returned (.string ⟨(Lib.repeatL s.data.toList c).toArray⟩)∧Below w.heap.size w w':=Any.strings_Repeat Tryz.lays105 Tryz.Builder_Extra_105 s c w hc hlen
end
section
open Go Go.Proofs
def Xe3:List (Nat×TyRow):=[ty2,ty3,ty4,ty5,ty9,Xle,Xl0,XlW]
theorem XcM:B8 Tryz.prog Xe3:=B8.of (by kernel_rfl)
theorem N6:Setup Tryz.prog Xe3:=⟨XcM,mixed⟩
def dig(n:Nat):UInt8:=if n% 16<10 then UInt8.ofNat (48+n% 16)else UInt8.ofNat (87+n% 16)
def Zt:Nat→Nat→List UInt8
 |0,_=>[]
 |k+1,n=>Zt k (n/16)++[dig n]
def Xcv(n:Nat):List UInt8:=if h:n<16 then[dig n]else Xcv (n/16)++[dig n]
termination_by n
decreasing_by omega
theorem Sz{n:Nat}(h:n<16):Xcv n=[dig n]:=by rw[Xcv,dif_pos h]
theorem XaU{n:Nat}(h:¬n<16):Xcv n=Xcv (n/16)++[dig n]:=by rw[Xcv,dif_neg h]
theorem Xjh:dig 0=48:=rfl
theorem Xbb:∀(k:Nat),Zt k 0=List.replicate k 48
 |0=>rfl
 |k+1=>by rw[Zt,Nat.zero_div,Xbb k,Xjh,List.replicate_succ']
theorem Rf:∀(k n:Nat),(Zt k n).length=k
 |0,_=>rfl
 |k+1,n=>by rw[Zt,List.length_append,Rf];rfl
theorem Xj0:∀(k n:Nat),n<16^ (k+1)→Zt (k+1) n=List.replicate (k+1 - (Xcv n).length) 48++Xcv n∧1≤(Xcv n).length∧(Xcv n).length≤k+1
 |0,n,h=>by
  have h:n<16:=by simpa using h
  rw[Sz h]
  simp[Zt]
 |k+1,n,h=>by
  by_cases hn:n<16
  ·rw[Sz hn,Zt,Nat.div_eq_of_lt hn,Xbb]
   simp
  ·have h2:n/16<16^ (k+1):=by rw[Nat.pow_succ]at h;omega
   obtain⟨i1,i2,i3⟩:=Xj0 k (n/16) h2
   rw[XaU hn,Zt,i1,List.length_append,List.length_singleton,List.append_assoc]
   refine⟨?_,by omega,by omega⟩
   congr 2
   omega
def A0(n:Int):ByteArray:=if 0≤n∧n≤1000000000 then tx (115::(Zt 8 n.toNat++[46,115,101,103]))else tx []
theorem Iw{n:Int}{o:ByteArray}(e:A0 n=o):o.size≤13:=by
 rw[←e]
 unfold A0
 split
 ·rw[B3,List.length_cons,List.length_append,Rf];simp
 ·simp[B3]
theorem digL:∀(j:Nat) (h:j<(⟨⟨[48,49,50,51,52,53,54,55,56,57,97,98,99,100,101,102]⟩⟩:ByteArray).size),(⟨⟨[48,49,50,51,52,53,54,55,56,57,97,98,99,100,101,102]⟩⟩:ByteArray)[j]=dig j:=by
 have key:∀j:Fin 16,(⟨⟨[48,49,50,51,52,53,54,55,56,57,97,98,99,100,101,102]⟩⟩:ByteArray)[j.val]'j.isLt=dig j.val:=by decide
 intro j h
 exact key ⟨j,h⟩
theorem Xcz(n:Nat):dig (n% 16)=dig n:=by unfold dig;rw[Nat.mod_mod]
theorem and15(a:Int):Ro .and .i64 a 15=a% 16:=I7 (k:=4) (by omega)
theorem Xlj{x:Nat}(h:x<18446744073709551616):Ro .and .u64 (x:Int) 15=((x% 16:Nat):Int):=by
 show IntKind.u64.wrap ((BitVec.ofInt 64 (x:Int)&&&BitVec.ofInt 64 ((15:Nat):Int)).toNat:Int)=_
 rw[BitVec.toNat_and,Lb (by omega),Lb (by omega),Gv,show(15:Nat)=2^4 - 1 from rfl,Nat.and_two_pow_sub_one_eq_mod]
 omega
theorem digF:∀(j:Nat) (hj:j<16) (h:j<(⟨⟨[48,49,50,51,52,53,54,55,56,57,97,98,99,100,101,102,103,104,105,106,107,108,109,110,111,112,113,114,115,116,117,118,119,120,121,122]⟩⟩:ByteArray).size),(⟨⟨[48,49,50,51,52,53,54,55,56,57,97,98,99,100,101,102,103,104,105,106,107,108,109,110,111,112,113,114,115,116,117,118,119,120,121,122]⟩⟩:ByteArray)[j]=dig j:=by
 have key:∀j:Fin 16,(⟨⟨[48,49,50,51,52,53,54,55,56,57,97,98,99,100,101,102,103,104,105,106,107,108,109,110,111,112,113,114,115,116,117,118,119,120,121,122]⟩⟩:ByteArray)[j.val]'(Nat.lt_of_lt_of_le j.isLt (by decide))=dig j.val:=by decide
 intro j hj h
 exact key ⟨j,hj⟩
theorem Xg1{v:Int}{n:Nat}(h:v=((dig n).toNat:Int)):[D.sc (.int .u8 v)]=cB (dig n):=by rw[h];rfl
theorem Xff{α:Type}{l:List α}{p:Nat}{x:α}(h:p<l.length):(l.set p x).drop p=x::l.drop (p+1):=by
 rw[List.drop_eq_getElem_cons (by rw[List.length_set];exact h),List.getElem_set_self]
 congr 1
 rw[List.drop_set_of_lt (by omega)]
def Jn:Bool:=true
def Pe(_:Int):Int:=4
def Ml(u:Int):List UInt8×ByteArray:=([],tx (Xcv u.toNat))
def Hm(n:Int):ByteArray:=tx (Xcv n.toNat)
def V0(n:Int):ByteArray:=tx (List.replicate n.toNat 48)
theorem tz64{w:World}(h:Lib.TabIs Tryz.prog w "math/bits.deBruijn64tab" .u8 Th):Calls Tryz.prog 347 #[.int .u64 16] w fun e w'=>e= .returned (.int .i64 4)∧w'=w:=by
 have hq:IntKind.u64.wrap (bits BinOp.and IntKind.u64 16 (IntKind.u64.wrap (-16))*285870213051353865)/288230376151711744=15:=by decide+kernel
 have hc:w.cell? ⟨5,15,none⟩=some (.int .u8 4):=h.cell gn5 15 (by decide)
 go_enter Tryz.func347,Tryz.ntmps347
 go_wp2
 go_ret
 exact⟨rfl,rfl⟩
theorem tz{w:World}(h:Lib.TabIs Tryz.prog w "math/bits.deBruijn64tab" .u8 Th):Calls Tryz.prog 340 #[.int .u64 16] w fun e w'=>e= .returned (.int .i64 4)∧w'=w:=by
 go_enter Tryz.func340,Tryz.ntmps340
 go_wp2_with (first
  |(go_at_call 347;refine(tz64 h).mono ?_;rintro e w' ⟨rfl,rfl⟩)
  |go_in)
 go_ret
 exact⟨rfl,rfl⟩
variable {o:ByteArray} {n:Int}
theorem Lp{x o:Int}(hx:x=16)(hr:Pe x=o):Fn Tryz.prog 340 [.d (.sc (.int .u64 x))] [] ⟨I o,[],[]⟩:=by
 refine⟨Fg Tryz.func340 rfl rfl,CallOk.ofCallsG fun E vs hS hG hA=>?_⟩
 obtain⟨u,rfl,h1⟩:=XkK hA
 rw[P1 h1,hx]
 refine(tz (XkO hG)).mono ?_
 rintro e w' ⟨rfl,rfl⟩
 exact⟨_,rfl,⟨rfl,rfl,rfl,Nat.le_refl _,fun _ _=>rfl⟩,by rw[←hr];exact .sc _ rfl⟩
theorem Mw(hr:A0 n=o):Fn Tryz.prog 69 [I n] [] ⟨S o,[],[]⟩:=by
 refine Fn.go N6 Tryz.func69 fun P hP Q hQ=>?_
 conv=>cbv
 generalize ac:Bm n 0 1000000000=r1
 refine .dd hP (Ec ac) ?_
 cases r1
 simp only[Bm,decide_eq_true_eq,decide_eq_false_iff_not]at ac
 conv=>cbv
 have e:(tx [])=A0 n:=(by unfold A0;rw[if_neg (by omega)])
 rw[hr]at e
 subst e
 exact hQ _ _ (.s rfl rfl)
 simp only[Bm,decide_eq_true_eq,decide_eq_false_iff_not]at ac
 conv=>cbv
 refine LoopW.lp (κ:=Int×(List (List D))×Nat) N6 hP [0] [0] (fun(i4,aa,ab)=>[(3,.ref 1 0 ab),(4,I i4)]) (fun(i4,aa,ab)=>[(1,.row 1 false aa)])
  (fun(i4,aa,ab)=>∃(w1:List UInt8),w1.map cB=aa∧ab=w1.length∧-1≤i4∧i4≤7∧w1=Zt (7 - i4).toNat (n.toNat/16^ (i4+1).toNat))
  (fun(i4,aa,ab)=>(i4+1).toNat) (7,[],0) ⟨[],rfl,rfl,by omega,by omega,rfl⟩ ⟨rfl,rfl,trivial⟩ rfl ?_
 rintro⟨i4,aa,ab⟩ J ⟨w1,ad,an,h0,h1,hw⟩ hJ
 have hwl:w1.length=(7 - i4).toNat:=by rw[hw,Rf]
 have hsz:(⟨⟨[48,49,50,51,52,53,54,55,56,57,97,98,99,100,101,102]⟩⟩:ByteArray).size=16:=rfl
 conv=>cbv
 refine .geq (fun h2=>?_) fun h2=>?_
 conv=>cbv
 refine .mul fun v3 ap=>?_
 conv=>cbv
 refine .go fun v4 af=>?_
 conv=>cbv
 have e4:v4=v3:=by rw[af,Gv];omega
 refine .shr fun v5 ag=>?_
 conv=>cbv
 refine .and fun v6 ah=>?_
 conv=>cbv
 have e5:v5=((n.toNat/16^i4.toNat:Nat):Int):=by
  have e2:(2:Int)^v4.toNat=((16^i4.toNat:Nat):Int):=by
   rw[show v4.toNat=4*i4.toNat by omega,Int.pow_mul,Int.natCast_pow]
   rfl
  rw[ag,e2,Int.natCast_ediv,Int.toNat_of_nonneg (by omega)]
 have e6:v6=((n.toNat/16^i4.toNat% 16:Nat):Int):=by rw[ah,and15,e5];omega
 have aq:n.toNat/16^i4.toNat% 16<16:=Nat.mod_lt _ (by omega)
 refine .go v6.toNat fun hjv7 v7 ai bv7=>?_
 conv=>cbv
 have e7:[D.sc (.int .u8 v7)]=cB (dig (n.toNat/16^i4.toNat)):=Xg1 (by rw[ai,digL,e6,Int.toNat_natCast,Xcz])
 refine .one (dig (n.toNat/16^i4.toNat)) ad e7 fun aj z8 ao ak=>?_
 conv=>cbv
 refine .sub fun v9 ar=>?_
 conv=>cbv
 exact .go [3] (v9,z8,aj) (hJ _ ⟨_,ak,Lx,by omega,by omega,by rw[hw,show(7 - v9).toNat=(7 - i4).toNat+1 by omega,Zt,show(v9+1).toNat=i4.toNat by omega,Nat.div_div_eq_div_mul,←Nat.pow_succ,show(i4+1).toNat=i4.toNat+1 by omega]⟩ mlt)
 conv=>cbv
 refine .go ad fun s3 ae=>?_
 conv=>cbv
 have au:s3.size=w1.length:=by rw[ae,B3]
 refine .litL 1 fun s4 al aw=>?_
 conv=>cbv
 refine .litR 4 fun s5 am ax=>?_
 conv=>cbv
 have e:s5=A0 n:=(by unfold A0;rw[if_pos (by omega),am,al,ae,hw,show i4= -1 by omega];show tx [115]++tx _++tx [46,115,101,103]=_;rw[D8,D8];simp)
 rw[hr]at e
 subst e
 exact hQ _ _ (.s rfl rfl)
theorem Ip{o:Bool}(hr:Jn=o):Fn Tryz.prog 339 [I 16] [] ⟨B o,[],[]⟩:=by
 refine Fn.go N6 Tryz.func339 fun P hP Q hQ=>?_
 conv=>cbv
 refine .sub fun v1 aa=>?_
 conv=>cbv
 refine .and fun v2 ab=>?_
 conv=>cbv
 refine .eql (fun h3=>?_) fun h3=>?_
 conv=>cbv
 have e:true=Jn:=(by rfl)
 rw[hr]at e
 subst e
 exact hQ _ _ (.b rfl rfl)
 conv=>cbv
 have e:false=Jn:=(by exfalso;apply h3;rw[ab,aa];rfl)
 rw[hr]at e
 subst e
 exact hQ _ _ (.b rfl rfl)
theorem Jb{u:Int}{oa:List UInt8}{xoa:List (List D)}{ob:ByteArray}(hu:0≤u∧u<4294967296)(hr:Ml u=(oa,ob))(hoa:oa.map cB=xoa):Fn Tryz.prog 319 [.d (.row 1 []),.d (.sc (.int .u64 u)),I 16,B false,B false] [] ⟨.tup [.d (.row 1 xoa),S ob],[],[]⟩:=by
 refine Fn.go N6 Tryz.func319 fun P hP Q hQ=>?_
 conv=>cbv
 refine .lss (fun h1=>?_) fun h1=>?_
 omega
 conv=>cbv
 refine .eql (fun h2=>?_) fun h2=>?_
 omega
 conv=>cbv
 refine .gtr (fun h3=>?_) fun h3=>?_
 omega
 conv=>cbv
 refine .go 65 hP (by kernel_rfl) fun z4 ay=>?_
 conv=>cbv
 generalize ai:Jn=r5
 refine .dd hP (Ip ai) ?_
 cases r5
 cases ai
 conv=>cbv
 refine .go fun v6 az=>?_
 conv=>cbv
 generalize aj:Pe v6=r7
 refine .dd hP (Lp (by rw[az,Gv];rfl) aj) ?_
 conv=>cbv
 refine .go fun v8 a0=>?_
 conv=>cbv
 refine .go fun v9 a1=>?_
 conv=>cbv
 refine .go fun be ak=>?_
 conv=>cbv
 refine .subW fun a2 al=>?_
 conv=>cbv
 refine LoopW.lp (κ:=Int×Int×(List (List D))) N6 hP [] [0,3,4,10,11,12,14,15,16] (fun(i1,aa,ab)=>[(1,.d (.sc (.int .u64 i1))),(13,I aa)]) (fun(i1,aa,ab)=>[(1,.row 1 false ab)])
  (fun(i1,aa,ab)=>∃(w1:List UInt8),w1.map cB=ab∧∃k:Nat,i1=((u.toNat/16^k:Nat):Int)∧aa=65 - (k:Int)∧k≤7∧w1.length=65∧Xcv u.toNat=Xcv (u.toNat/16^k)++w1.drop (65 - k))
  (fun(i1,aa,ab)=>(aa).toNat) (u,65,z4) ⟨(List.replicate 65 (0:UInt8)),ay,0,by simp;omega,rfl,by omega,by simp,by simp⟩ ⟨rfl,rfl,trivial⟩ rfl ?_
 rintro⟨i1,aa,ab⟩ J ⟨w1,am,k,af,ba,hk,hwl,hx⟩ hJ
 have e7:r7=4:=aj.symm
 have e8:v8=4:=by rw[a0,Gv,e7];rfl
 have e9:v9=16:=by rw[a1,Gv];rfl
 have a3:a2=15:=by rw[al,ak,Gv,Gv];rfl
 have hlt:u.toNat/16^k≤u.toNat:=Nat.div_le_self _ _
 have a4:16≤u.toNat/16^k→k<7:=by
  intro h
  rcases Nat.lt_or_ge k 7 with h7|h7
  ·exact h7
  ·obtain rfl:k=7:=by omega
   omega
 have hnx:u.toNat/16^ (k+1)=u.toNat/16^k/16:=by rw[Nat.pow_succ,←Nat.div_div_eq_div_mul]
 generalize hq:u.toNat/16^k=q at*
 conv=>cbv
 refine .geq (fun h12=>?_) fun h12=>?_
 conv=>cbv
 refine .sub fun ag an=>?_
 conv=>cbv
 refine .and fun ac ad=>?_
 conv=>cbv
 have h7:=a4 (by omega)
 have ah:ac=((q% 16:Nat):Int):=by rw[ad,a3,af,Xlj (by omega)]
 have bb:q% 16<16:=Nat.mod_lt _ (by omega)
 refine .go ac.toNat (hj:=by show ac.toNat<36;omega) fun hjv15 a5 ao bv15=>?_
 conv=>cbv
 refine .go hP Tryz.underlying275 (by kernel_rfl) fun ap bc=>?_
 conv=>cbv
 have a6:[D.sc (.int .u8 a5)]=cB (dig q):=Xg1 (by rw[ao,digF _ (by omega),ah,Int.toNat_natCast,Xcz])
 refine .all (dig q) am a6 fun a7 aq=>?_
 conv=>cbv
 refine .shrW fun a8 ar=>?_
 conv=>cbv
 exact .go [] (a8,ag,a7) (hJ _ ⟨_,aq,k+1,by rw[ar,e8,af,Int.fdiv_eq_ediv_of_nonneg _ (by decide),hnx];show(q:Int)/16=_;omega,by omega,by omega,by rw[List.length_set];exact hwl,by rw[hx,XaU (show¬q<16 by omega),List.append_assoc,hnx,show 65 - (k+1)=ap by omega,Xff (by omega),show ap+1=65 - k by omega];rfl⟩ mlt)
 conv=>cbv
 refine .sub fun ag an=>?_
 conv=>cbv
 refine .go i1.toNat (hj:=by show i1.toNat<36;omega) fun hjv14 ac ad bv14=>?_
 conv=>cbv
 refine .go hP Tryz.underlying275 (by kernel_rfl) fun au bd=>?_
 conv=>cbv
 have ah:[D.sc (.int .u8 ac)]=cB (dig q):=Xg1 (by rw[ad,digF _ (by omega),af,Int.toNat_natCast])
 refine .all (dig q) am ah fun bf ae=>?_
 conv=>cbv
 refine .lo hP ae Tryz.underlying275 (by kernel_rfl) fun on17 bg hon17 aw=>?_
 conv=>cbv
 refine .off ae fun a9 ax=>?_
 conv=>cbv
 have e:([],a9)=Ml u:=(by unfold Ml;rw[ax,hx,Sz (show q<16 by omega),hon17,aw,show ag.toNat=au by omega,Xff (by omega),show au+1=65 - k by omega,List.take_of_length_le (by simp;omega)];rfl)
 rw[hr]at e
 simp only[Prod.mk.injEq]at e
 obtain⟨rfl,rfl⟩:=e
 refine hQ _ _ ?_
 exact .m rfl (.ref rfl rfl (by rw[←hoa];rfl) .d1)
theorem Jt(hn:0≤n∧n≤1000000000)(hr:Hm n=o):Fn Tryz.prog 289 [I n,I 16] [] ⟨S o,[],[]⟩:=by
 refine Fn.go N6 Tryz.func289 fun P hP Q hQ=>?_
 conv=>cbv
 refine .eql (fun h1=>?_) fun h1=>?_
 omega
 conv=>cbv
 refine .go fun v2 aa=>?_
 conv=>cbv
 refine .lss (fun h3=>?_) fun h3=>?_
 omega
 conv=>cbv
 rcases ab:Ml v2 with⟨ad,ae⟩
 generalize ac:ad.map cB=af
 refine .dd hP (Jb (by rw[aa,Gv];omega) ab ac) ?_
 conv=>cbv
 have e:ae=Hm n:=(by have e2:v2=n:=(by rw[aa,Gv];omega);unfold Hm;rw[←e2];exact(congrArg Prod.snd ab).symm)
 rw[hr]at e
 subst e
 exact hQ _ _ (.s rfl rfl)
theorem P7(hn:0≤n∧n≤1000000000)(hr:Hm n=o):Fn Tryz.prog 243 [I n,I 16] [] ⟨S o,[],[]⟩:=by
 refine Fn.go N6 Tryz.func243 fun P hP Q hQ=>?_
 conv=>cbv
 generalize aa:Hm n=r1
 refine .dd hP (Jt hn aa) ?_
 conv=>cbv
 have e:r1=Hm n:=(by exact aa.symm)
 rw[hr]at e
 subst e
 exact hQ _ _ (.s rfl rfl)
theorem Ts{c:Int}(hc:0≤c∧c≤8)(hr:V0 c=o):Fn Tryz.prog 244 [S (tx [48]),I c] [] ⟨S o,[],[]⟩:=by
 refine⟨Fg Tryz.func244 rfl rfl,CallOk.ofCalls fun E vs hS hA=>?_⟩
 obtain⟨u,v,rfl,h1,h2⟩:=Xl3 hA
 rw[P1 h1,P1 h2]
 obtain⟨k,rfl⟩:=Int.eq_ofNat_of_zero_le hc.1
 refine(Tryz.strings_Repeat (tx [48]) k E.w (by omega) (by rw[B3];simp;omega)).mono ?_
 rintro e w' ⟨rfl,hb⟩
 refine⟨_,rfl,hb,?_⟩
 have:(⟨(Lib.repeatL (tx [48]).data.toList k).toArray⟩:ByteArray)=o:=by
  rw[←hr]
  unfold V0 tx
  congr 2
  rw[Int.toNat_natCast]
  have key:∀k,Lib.repeatL (tx [48]).data.toList k=List.replicate k 48:=by
   intro k
   induction k with
   |zero=>rfl
   |succ k ih=>show[48]++Lib.repeatL _ k=_;rw[ih];rfl
  exact key k
 rw[this]
 exact .sc _ rfl
theorem Mc(hr:A0 n=o):Fn Tryz.prog 182 [I n] [] ⟨S o,[],[]⟩:=by
 refine Fn.go N6 Tryz.func182 fun P hP Q hQ=>?_
 conv=>cbv
 generalize aa:Bp n=r1
 refine .dd hP (Fm aa) ?_
 cases r1
 simp only[Bp,decide_eq_true_eq,decide_eq_false_iff_not]at aa
 conv=>cbv
 have e:(tx [])=A0 n:=(by unfold A0;rw[if_neg (by omega)])
 rw[hr]at e
 subst e
 exact hQ _ _ (.s rfl rfl)
 simp only[Bp,decide_eq_true_eq,decide_eq_false_iff_not]at aa
 conv=>cbv
 generalize ab:Hm n=r2
 refine .dd hP (P7 aa ab) ?_
 conv=>cbv
 obtain⟨p1,p2,p3⟩:=Xj0 7 n.toNat (by omega)
 have z2:r2.size=(Xcv n.toNat).length:=by rw[←ab];exact B3
 refine .go fun v3 ag=>?_
 conv=>cbv
 refine .sub fun v4 ah=>?_
 conv=>cbv
 generalize ac:V0 v4=r5
 refine .dd hP (Ts (by omega) ac) ?_
 conv=>cbv
 have z5:r5.size=v4.toNat:=by rw[←ac];unfold V0;rw[B3,List.length_replicate]
 refine .litL 1 fun s6 ad ai=>?_
 conv=>cbv
 refine .go fun s7 ae aj=>?_
 conv=>cbv
 refine .litR 4 fun s8 af ak=>?_
 conv=>cbv
 have e:s8=A0 n:=(by unfold A0;rw[if_pos (by omega),af,ae,ad,←ac,←ab,p1];unfold V0 Hm;show tx [115]++tx _++tx _++tx [46,115,101,103]=_;rw[D8,D8,D8,show v4.toNat=7+1 - (Xcv n.toNat).length by omega];simp)
 rw[hr]at e
 subst e
 exact hQ _ _ (.s rfl rfl)
end
end Go.Proofs.YtjbmpmmffjgedaaGreatDoor.Ab
