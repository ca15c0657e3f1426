/- What functions of the program come to, for all arguments in the given bounds. -/
import Derived.Test.YtgdmjbcllgmepaaGreatDoorFrch01a
import Derived.Shelf.Strings.Builder1
import Derived.Shelf.Strings.Builder2
import Derived.Shelf.Strings.BuilderF
import Derived.Shelf.Strings.BuilderK
import Derived.Shelf.Strings.Builder2Cap
import Derived.Shelf.Strconv.Atoi
import Derived.Shelf.Strconv.Itoa0
import Derived.Shelf.Strconv.Itoa1
import Derived.Shelf.LaysM
import Derived.Shelf.Strconv.Itoa2
import Derived.Shelf.Strconv.Itoa3
import Derived.Shelf.Strconv.Itoa4
import Derived.Shelf.Strconv.AtoiErrFast
import Derived.Shelf.Strconv.ParseIntEmpty
import Derived.Shelf.Strconv.AtoiFail
import Derived.Shelf.Strconv.Clone
import Derived.Shelf.Strconv.SyntaxError
import Derived.Shelf.LaysC
import Derived.Shelf.Strconv.ToError
import Derived.Shelf.Strconv.Lower
import Derived.Shelf.Strconv.ParseUint10
import Derived.Shelf.Strconv.ParseUint10Empty
import Derived.Shelf.Strconv.ParseUint10Any
import Derived.Shelf.Strconv.ParseInt10
import Derived.Shelf.Strconv.AtoiLong
import Derived.Shelf.Strconv.AtoiInnerAll
import Derived.Shelf.Strconv.RangeError
import Derived.Shelf.Strconv.ToErrorRange
import Derived.Shelf.Strconv.AtoiAll
import Derived.Shelf.Strings.Search1
import Derived.Shelf.Strings.Search2
import Derived.Shelf.Strings.Cut
import Derived.Shelf.Strings.Shaped
import Derived.Shelf.Strings.Prefix
import Derived.Shelf.Bits.Mul64
import Derived.Shelf.Strings.Repeat
import Derived.Shelf.Strings.BuilderCap
import Derived.Shelf.Slices.Equal
import Derived.Ground.Names2Prog
import Derived.Shelf.Slices.Clone
import Derived.Test.YtgdmjbcllgmepaaGreatDoorProg
import Derived.Below
import Derived.ProofKit
import Derived.Test.YtgdmjbcllgmepaaGreatDoorFrZ9
import Derived.Lib.AtoiErrMem
import Derived.Lib.SlicesS
set_option linter.unusedVariables false
set_option linter.unusedSimpArgs false
namespace Go.Proofs.YtgdmjbcllgmepaaGreatDoor.Ab
section
open Go Go.Proofs
set_option maxRecDepth 20000
set_option maxHeartbeats 4000000
def Xdr:List (Nat×TyRow):=[ty3,ty4,ty9,Xdq,XhQ,Xeh,XhA]
theorem XbO:B1 Tryz.prog Xdr:=B1.of (by kernel_rfl)
theorem X9:Setup Tryz.prog Xdr:=⟨XbO,mixed⟩
def G5(h:Ca)(b:ByteArray)(n:Nat)(p:Int):List ByteArray×List Int×Int×Bool:=
 if Dx h.version_ (h.base_+n) b p=true then([],[],p,true)
 else match A4 h.version_ (h.base_+n) b p with
  |(r,q,true)=>if p<q∧q≤b.size then(r::(G5 h b (n+1) q).1,p::(G5 h b (n+1) q).2.1,(G5 h b (n+1) q).2.2)else([],[],p,false)
  |_=>([],[],p,false)
termination_by (b.size - p).toNat
decreasing_by all_goals omega
def Bq(b:ByteArray):Oc:=match B0 b with
 |(h,true)=>⟨true,h,(G5 h b 0 24).1,(G5 h b 0 24).2.1,(G5 h b 0 24).2.2.1,(G5 h b 0 24).2.2.2⟩
 |_=>⟨false,⟨0,0,0,0⟩,[],[],0,false⟩
theorem U2{v n:Int}{r t:ByteArray}(e:Aw v n r=t)(h:t≠tx []):5≤t.size:=by
 unfold Aw at e
 split at e
 ·rename_i hh
  have h4:=P1 _ (O8 r)
  have h1:1≤(if v=2 then Mk n r.size else Cg r.size).size:=by
   split
   ·unfold Mk
    rw[ByteArray.size_append,P1 _ (by omega)]
    omega
   ·unfold Cg
    rw[if_pos (by omega),Bw]
    exact List.length_pos_iff.2 (XbP _)
  rw[←e,ByteArray.size_append,ByteArray.size_append]
  omega
 ·exact absurd e.symm h
theorem F3{v n p q:Int}{b r:ByteArray}(h:A4 v n b p=(r,q,true)):0≤p∧p+5≤q∧q≤b.size∧r.size≤60∧(v=1∨v=2)∧0≤n∧n≤1000000000∧q=p+(Aw v n r).size∧Ft b p (Aw v n r)=true:=by
 have key:∀{x s:Int},0≤s→0≤x→Hb v n b p x s=(r,q,true)→0≤p∧p+5≤q∧q≤b.size∧r.size≤60∧(v=1∨v=2)∧0≤n∧n≤1000000000∧q=p+(Aw v n r).size∧Ft b p (Aw v n r)=true:=by
  intro x s hs hx e
  unfold Hb at e
  split at e
  ·rename_i hh
   obtain⟨h1,h2,h3,h4⟩:=hh
   simp only[Prod.mk.injEq,and_true]at e
   obtain⟨rfl,rfl⟩:=e
   have h5:=U2 rfl h3
   have h6:=of_decide_eq_true h4
   have h7:(b.extract s.toNat (s+x).toNat).size=x.toNat:=by rw[Sa (by omega) (by omega)];omega
   have h8:(v=1∨v=2)∧0≤n∧n≤1000000000:=by
    by_cases hh:(v=1∨v=2)∧0≤n∧n≤1000000000
    ·exact hh
    ·exact absurd (Jg hh) h3
   exact⟨h6.1.1,by omega,by omega,by omega,h8.1,h8.2.1,h8.2.2,rfl,h4⟩
  ·simp at e
 rcases h1:Bt b p 4 with⟨x,ok⟩
 rcases h2:Cl b p with⟨y,s,ok2⟩
 by_cases hv:v=2
 ·rw[I9 hv h1]at h
  cases ok
  ·simp at h
  ·have:=K6 h1
   exact key (by omega) (by omega) h
 ·rw[Jc hv h2]at h
  cases ok2
  ·simp at h
  ·have:=K3 h2
   exact key (by omega) (by omega) h
theorem Kt{h:Ca}{b:ByteArray}{n:Nat}{p:Int}(hm:Dx h.version_ (h.base_+n) b p=true):G5 h b n p=([],[],p,true):=by rw[G5,if_pos hm]
theorem Kj{h:Ca}{b:ByteArray}{n:Nat}{p:Int}{r:ByteArray}{q:Int}(hm:Dx h.version_ (h.base_+n) b p=false)(hf:A4 h.version_ (h.base_+n) b p=(r,q,false)):G5 h b n p=([],[],p,false):=by rw[G5,if_neg (by rw[hm];simp),hf]
theorem Kp{h:Ca}{b:ByteArray}{n:Nat}{p:Int}{r:ByteArray}{q:Int}(hm:Dx h.version_ (h.base_+n) b p=false)(hf:A4 h.version_ (h.base_+n) b p=(r,q,true)):G5 h b n p=(r::(G5 h b (n+1) q).1,p::(G5 h b (n+1) q).2.1,(G5 h b (n+1) q).2.2):=by
 have:=F3 hf
 rw[G5,if_neg (by rw[hm];simp),hf]
 simp only[]
 rw[if_pos (by omega)]
variable {b:ByteArray} {ook omar:Bool} {oheaver oheastr oheabas ohealin oend:Int} {orec:List ByteArray} {xorec xooff:List (List D)} {ooff:List Int}
theorem Wt(hs:b.size<2^47)(hr:Bq b=⟨ook,⟨oheaver,oheastr,oheabas,ohealin⟩,orec,ooff,oend,omar⟩)(horec:orec.map cS=xorec)(hooff:ooff.map cI=xooff):Fn Tryz.prog 199 [S b] [] ⟨.agg [B ook,I oheaver,I oheastr,I oheabas,I ohealin,.d (.row 1 xorec),.d (.row 1 xooff),I oend,B omar],[],[]⟩:=by
 refine Fn.go X9 Tryz.func199 fun P hP Q hQ=>?_
 conv=>cbv
 rcases ak:B0 b with⟨⟨aa,ac,ab,ad⟩,ap⟩
 refine .dd hP (Ww (by omega) ak) ?_
 conv=>cbv
 cases ap
 conv=>cbv
 have e:(⟨false,⟨0,0,0,0⟩,[],[],0,false⟩:Oc)=Bq b:=(by unfold Bq;rw[ak])
 rw[hr]at e
 simp only[Ca.mk.injEq,Oc.mk.injEq]at e
 obtain⟨rfl,⟨rfl,rfl,rfl,rfl⟩,rfl,rfl,rfl,rfl⟩:=e
 exact hQ _ _ (.one (.inl rfl) rfl (.agg (.d rfl rfl (.d rfl rfl (.d rfl rfl (.d rfl rfl (.d rfl rfl (.ref rfl rfl (by rw[←horec];rfl) (.ref rfl rfl (by rw[←hooff];rfl) (.d rfl rfl (.d rfl rfl (.nil)))))))))) .nil))
 conv=>cbv
 refine LoopW.lp (κ:=Int×(List (List D))×Nat×(List (List D))×Nat) X9 hP [4,5] [0,2,3,5] (fun(ae,al,am,af,ag)=>[]) (fun(ae,al,am,af,ag)=>[(8,.box 115 [B true,I aa,I ac,I ab,I ad,.ref 9 0 am,.ref 10 0 ag,I ae,B false]),(9,.row 1 false al),(10,.row 1 false af)])
  (fun(ae,al,am,af,ag)=>∃(w9:List ByteArray) (ai:List Int),w9.map cS=al∧am=w9.length∧ai.map cI=af∧ag=ai.length∧(24≤ae∧ae≤b.size∧w9.length=ai.length∧5*(w9.length:Int)+24≤ae)∧G5 ⟨aa,ac,ab,ad⟩ b 0 24=(w9++(G5 ⟨aa,ac,ab,ad⟩ b w9.length ae).1,ai++(G5 ⟨aa,ac,ab,ad⟩ b w9.length ae).2.1,(G5 ⟨aa,ac,ab,ad⟩ b w9.length ae).2.2))
  (fun(ae,al,am,af,ag)=>(b.size - ae).toNat) (24,[],0,[],0) ⟨[],[],rfl,rfl,rfl,rfl,by have:=Fw ak;simp;omega,rfl⟩ trivial rfl ?_
 rintro⟨ae,al,am,af,ag⟩ J ⟨w9,ai,ao,a1,ah,aq,hb,hS⟩ hJ
 have hd:=I6 (Fw ak).2.2
 conv=>cbv
 refine .go fun v2 a4=>?_
 conv=>cbv
 refine .add fun v3 a5=>?_
 conv=>cbv
 have e3:v3=ab+(w9.length:Int):=by omega
 generalize aj:Dx aa v3 b ae=r4
 refine .dd hP (Xhj (by omega) (by omega) aj) ?_
 cases r4
 conv=>cbv
 rcases an:A4 aa v3 b ae with⟨ar,au,aw⟩
 refine .dd hP (Xcb (by omega) (by omega) an) ?_
 conv=>cbv
 cases aw
 conv=>cbv
 have e:(⟨true,⟨aa,ac,ab,ad⟩,w9,ai,ae,false⟩:Oc)=Bq b:=(by rw[e3]at aj an;unfold Bq;rw[ak];simp only[];rw[hS,Kj (h:=⟨aa,ac,ab,ad⟩) aj an];simp)
 rw[hr]at e
 simp only[Ca.mk.injEq,Oc.mk.injEq]at e
 obtain⟨rfl,⟨rfl,rfl,rfl,rfl⟩,rfl,rfl,rfl,rfl⟩:=e
 exact hQ _ _ (.one (.inl rfl) rfl (.agg (.d rfl rfl (.d rfl rfl (.d rfl rfl (.d rfl rfl (.d rfl rfl (.ref rfl (by rw[←ao,List.length_map];first|omega|(simp;omega)) (by rw[←ao,←horec]) (.ref rfl (by rw[←ah,List.length_map];first|omega|(simp;omega)) (by rw[←ah,←hooff]) (.d rfl rfl (.d rfl rfl (.nil)))))))))) .nil))
 conv=>cbv
 have hf:=F3 an
 refine .one ar ao rfl fun ax z6 a2 ay=>?_
 conv=>cbv
 refine .one ae ah rfl fun az z7 a3 a0=>?_
 conv=>cbv
 exact .go [12,14] (au,z6,ax,z7,az) (hJ _ ⟨_,_,ay,Ot,a0,Ot,by simp;omega,by rw[e3]at aj an;rw[hS,Kp (h:=⟨aa,ac,ab,ad⟩) aj an];simp[List.append_assoc]⟩ mlt)
 conv=>cbv
 have e:(⟨true,⟨aa,ac,ab,ad⟩,w9,ai,ae,true⟩:Oc)=Bq b:=(by rw[e3]at aj;unfold Bq;rw[ak];simp only[];rw[hS,Kt (h:=⟨aa,ac,ab,ad⟩) aj];simp)
 rw[hr]at e
 simp only[Ca.mk.injEq,Oc.mk.injEq]at e
 obtain⟨rfl,⟨rfl,rfl,rfl,rfl⟩,rfl,rfl,rfl,rfl⟩:=e
 exact hQ _ _ (.one (.inl rfl) rfl (.agg (.d rfl rfl (.d rfl rfl (.d rfl rfl (.d rfl rfl (.d rfl rfl (.ref rfl (by rw[←ao,List.length_map];first|omega|(simp;omega)) (by rw[←ao,←horec]) (.ref rfl (by rw[←ah,List.length_map];first|omega|(simp;omega)) (by rw[←ah,←hooff]) (.d rfl rfl (.d rfl rfl (.nil)))))))))) .nil))
theorem Vr(hs:b.size<2^47)(hr:Bq b=⟨ook,⟨oheaver,oheastr,oheabas,ohealin⟩,orec,ooff,oend,omar⟩)(horec:orec.map cS=xorec)(hooff:ooff.map cI=xooff):Fn Tryz.prog 190 [S b] [] ⟨.agg [B ook,I oheaver,I oheastr,I oheabas,I ohealin,.d (.row 1 xorec),.d (.row 1 xooff),I oend,B omar],[],[]⟩:=by
 refine Fn.go X9 Tryz.func190 fun P hP Q hQ=>?_
 conv=>cbv
 rcases ak:B0 b with⟨⟨aa,ac,ab,ad⟩,ap⟩
 refine .dd hP (Wc (by omega) ak) ?_
 conv=>cbv
 cases ap
 conv=>cbv
 have e:(⟨false,⟨0,0,0,0⟩,[],[],0,false⟩:Oc)=Bq b:=(by unfold Bq;rw[ak])
 rw[hr]at e
 simp only[Ca.mk.injEq,Oc.mk.injEq]at e
 obtain⟨rfl,⟨rfl,rfl,rfl,rfl⟩,rfl,rfl,rfl,rfl⟩:=e
 exact hQ _ _ (.one (.inl rfl) rfl (.agg (.d rfl rfl (.d rfl rfl (.d rfl rfl (.d rfl rfl (.d rfl rfl (.ref rfl rfl (by rw[←horec];rfl) (.ref rfl rfl (by rw[←hooff];rfl) (.d rfl rfl (.d rfl rfl (.nil)))))))))) .nil))
 conv=>cbv
 refine LoopW.lp (κ:=Int×(List (List D))×Nat×(List (List D))×Nat) X9 hP [4,5] [0,2,3,5] (fun(ae,al,am,af,ag)=>[]) (fun(ae,al,am,af,ag)=>[(8,.box 115 [B true,I aa,I ac,I ab,I ad,.ref 9 0 am,.ref 10 0 ag,I ae,B false]),(9,.row 1 false al),(10,.row 1 false af)])
  (fun(ae,al,am,af,ag)=>∃(w9:List ByteArray) (ai:List Int),w9.map cS=al∧am=w9.length∧ai.map cI=af∧ag=ai.length∧(24≤ae∧ae≤b.size∧w9.length=ai.length∧5*(w9.length:Int)+24≤ae)∧G5 ⟨aa,ac,ab,ad⟩ b 0 24=(w9++(G5 ⟨aa,ac,ab,ad⟩ b w9.length ae).1,ai++(G5 ⟨aa,ac,ab,ad⟩ b w9.length ae).2.1,(G5 ⟨aa,ac,ab,ad⟩ b w9.length ae).2.2))
  (fun(ae,al,am,af,ag)=>(b.size - ae).toNat) (24,[],0,[],0) ⟨[],[],rfl,rfl,rfl,rfl,by have:=Fw ak;simp;omega,rfl⟩ trivial rfl ?_
 rintro⟨ae,al,am,af,ag⟩ J ⟨w9,ai,ao,a1,ah,aq,hb,hS⟩ hJ
 have hd:=I6 (Fw ak).2.2
 conv=>cbv
 refine .go fun v2 a4=>?_
 conv=>cbv
 refine .add fun v3 a5=>?_
 conv=>cbv
 have e3:v3=ab+(w9.length:Int):=by omega
 generalize aj:Dx aa v3 b ae=r4
 refine .dd hP (Xhy (by omega) (by omega) aj) ?_
 cases r4
 conv=>cbv
 rcases an:A4 aa v3 b ae with⟨ar,au,aw⟩
 refine .dd hP (XbU (by omega) (by omega) an) ?_
 conv=>cbv
 cases aw
 conv=>cbv
 have e:(⟨true,⟨aa,ac,ab,ad⟩,w9,ai,ae,false⟩:Oc)=Bq b:=(by rw[e3]at aj an;unfold Bq;rw[ak];simp only[];rw[hS,Kj (h:=⟨aa,ac,ab,ad⟩) aj an];simp)
 rw[hr]at e
 simp only[Ca.mk.injEq,Oc.mk.injEq]at e
 obtain⟨rfl,⟨rfl,rfl,rfl,rfl⟩,rfl,rfl,rfl,rfl⟩:=e
 exact hQ _ _ (.one (.inl rfl) rfl (.agg (.d rfl rfl (.d rfl rfl (.d rfl rfl (.d rfl rfl (.d rfl rfl (.ref rfl (by rw[←ao,List.length_map];first|omega|(simp;omega)) (by rw[←ao,←horec]) (.ref rfl (by rw[←ah,List.length_map];first|omega|(simp;omega)) (by rw[←ah,←hooff]) (.d rfl rfl (.d rfl rfl (.nil)))))))))) .nil))
 conv=>cbv
 have hf:=F3 an
 refine .one ar ao rfl fun ax z6 a2 ay=>?_
 conv=>cbv
 refine .one ae ah rfl fun az z7 a3 a0=>?_
 conv=>cbv
 exact .go [12,14] (au,z6,ax,z7,az) (hJ _ ⟨_,_,ay,Ot,a0,Ot,by simp;omega,by rw[e3]at aj an;rw[hS,Kp (h:=⟨aa,ac,ab,ad⟩) aj an];simp[List.append_assoc]⟩ mlt)
 conv=>cbv
 have e:(⟨true,⟨aa,ac,ab,ad⟩,w9,ai,ae,true⟩:Oc)=Bq b:=(by rw[e3]at aj;unfold Bq;rw[ak];simp only[];rw[hS,Kt (h:=⟨aa,ac,ab,ad⟩) aj];simp)
 rw[hr]at e
 simp only[Ca.mk.injEq,Oc.mk.injEq]at e
 obtain⟨rfl,⟨rfl,rfl,rfl,rfl⟩,rfl,rfl,rfl,rfl⟩:=e
 exact hQ _ _ (.one (.inl rfl) rfl (.agg (.d rfl rfl (.d rfl rfl (.d rfl rfl (.d rfl rfl (.d rfl rfl (.ref rfl (by rw[←ao,List.length_map];first|omega|(simp;omega)) (by rw[←ao,←horec]) (.ref rfl (by rw[←ah,List.length_map];first|omega|(simp;omega)) (by rw[←ah,←hooff]) (.d rfl rfl (.d rfl rfl (.nil)))))))))) .nil))
end
section
open Go Go.Proofs
set_option maxRecDepth 20000
set_option maxHeartbeats 4000000
def Xdb:List (Nat×TyRow):=[ty3,ty9,XhQ,Xjv,XiK,XjN]
theorem XbX:B1 Tryz.prog Xdb:=B1.of (by kernel_rfl)
theorem Ic:Setup Tryz.prog Xdb:=⟨XbX,mixed⟩
def XdJ(s:Nat)(offs:List Int)(n:Nat):List Gy:=((List.range n).filter (fun i=>i% s=0)).map (fun(i:Nat)=>⟨(i:Int),offs.getD i 0⟩)
def Cw(stride:Int)(offs:List Int):List Gy:=if stride<1 then[]else XdJ stride.toNat offs offs.length
theorem O4{s n:Nat}{offs:List Int}:XdJ s offs (n+1)=XdJ s offs n++(if n% s=0 then[⟨(n:Int),offs.getD n 0⟩]else[]):=by
 unfold XdJ
 rw[List.range_succ,List.filter_append,List.map_append]
 congr 1
 by_cases h:n% s=0<;>simp[h]
theorem Xl{s n:Nat}{offs:List Int}:(XdJ s offs n).length≤n:=by
 unfold XdJ
 rw[List.length_map]
 exact Nat.le_trans (List.length_filter_le _ _) (by simp)
theorem Yj{s k:Nat}{offs:List Int}(hk:k% s=0):∀(d:Nat),d<s→XdJ s offs (k+1+d)=XdJ s offs k++[⟨(k:Int),offs.getD k 0⟩]
 |0,_=>by rw[Nat.add_zero,O4,if_pos hk]
 |d+1,h=>by
  rw[←Nat.add_assoc,O4,Yj hk d (by omega),if_neg,List.append_nil]
  have:k+1+d=k+(d+1):=by omega
  rw[this,Nat.add_mod,hk,Nat.zero_add,Nat.mod_mod,Nat.mod_eq_of_lt h]
  omega
theorem Xb8{l:List Int}{k:Nat}(h:k<l.length):l[k]=l.getD k 0:=by rw[List.getD_eq_getElem?_getD,List.getElem?_eq_getElem h];rfl
def Gg(a b:Int):ByteArray:=if b≤a∧a - b≤1000000000 then Cg (a - b)else tx []
theorem R4{a b:Int}{o:ByteArray}(h:Gg a b=o):o.size≤5:=by
 rw[←h]
 unfold Gg
 split
 ·exact Hs _
 ·simp[Bw]
def Ha(a b:Int):Int:=if b≤a∧a - b<9223372036854775808 then a - b else -1
theorem Vz(a b:Int):Cg (Ha a b)=Gg a b:=by
 unfold Ha Gg
 by_cases h:b≤a∧a - b≤1000000000
 ·rw[if_pos h,if_pos (by omega)]
 ·rw[if_neg h]
  unfold Cg
  split
  ·rw[if_neg (by omega)]
  ·rfl
def In:Int×Int→List Gy→Option ByteArray
 |_,[]=>some (tx [])
 |q,p::l=>if Gg p.count_ q.1=tx []∨Gg p.at_ q.2=tx []then none else(In (p.count_,p.at_) l).map fun t=>(Gg p.count_ q.1++Gg p.at_ q.2)++t
def Bz(l:List Gy):ByteArray:=match In (0,0) l with
 |some t=>Cg l.length++t
 |none=>tx []
theorem Ul:∀{l:List Gy} {q:Int×Int} {t:ByteArray},In q l=some t→t.size≤10*l.length
 |[],q,t,h=>by cases h;simp[Bw]
 |p::l,q,t,h=>by
  simp only[In]at h
  split at h
  ·cases h
  ·obtain⟨u,hu,rfl⟩:=Option.map_eq_some_iff.1 h
   have:=Ul hu
   have h1:=R4 (rfl:Gg p.count_ q.1=_)
   have h2:=R4 (rfl:Gg p.at_ q.2=_)
   rw[ByteArray.size_append,ByteArray.size_append,List.length_cons]
   omega
theorem Nx(l:List Gy):(Bz l).size≤5+10*l.length:=by
 unfold Bz
 split
 ·rename_i t h
  have h1:=Ul h
  have h2:=Hs l.length
  rw[ByteArray.size_append]
  omega
 ·simp[Bw]
theorem Pa{l:List Gy}{o:ByteArray}(h:Bz l=o):o.size≤5+10*l.length:=by rw[←h];exact Nx l
theorem Xe8(s:ByteArray):tx []++s=s:=by rw[←Xj s,Du];rfl
theorem W3(s:ByteArray):s++tx []=s:=by rw[←Xj s,Du,List.append_nil]
theorem XbV{n w:Int}(h:Az n w≠tx []):(Az n w).size=w.toNat:=by
 by_cases hh:0≤n∧1≤w∧w≤8∧n.toNat/2^ (8*w.toNat)=0
 ·exact P3 hh
 ·exact absurd (if_neg hh) h
def wfPl(l:List Gy):Prop:=∀p∈l,wfI p.count_∧wfI p.at_
def Io(acc:ByteArray):List Int→Option ByteArray
 |[]=>some acc
 |x::l=>if Az x 4=tx []then none else Io (acc++Az x 4) l
def Bo(a b c d:Int):ByteArray:=match Io (tx []) [a,b,c,d]with
 |some t=>t++tx [73,68,88,33]
 |none=>tx []
theorem Ts:∀{l:List Int} {acc t:ByteArray},Io acc l=some t→t.size≤acc.size+8*l.length
 |[],acc,t,h=>by cases h;simp
 |x::l,acc,t,h=>by
  simp only[Io]at h
  split at h
  ·cases h
  ·have:=Ts h
   have h1:=@Ev x 4
   rw[ByteArray.size_append]at this
   rw[List.length_cons]
   omega
theorem Gm{a b c d:Int}{o:ByteArray}(h:Bo a b c d=o):o.size≤36:=by
 rw[←h]
 unfold Bo
 split
 ·rename_i t ht
  have:=Ts ht
  simp only[Bw,List.length_cons,List.length_nil]at this
  rw[ByteArray.size_append,Bw]
  simp only[List.length_cons,List.length_nil]
  omega
 ·simp[Bw]
theorem Zr:∀{l:List Int} {acc t:ByteArray},Io acc l=some t→t.size=acc.size+4*l.length
 |[],acc,t,h=>by cases h;simp
 |x::l,acc,t,h=>by
  simp only[Io]at h
  split at h
  ·cases h
  ·rename_i hx
   have:=Zr h
   have h1:=XbV hx
   rw[ByteArray.size_append,h1]at this
   rw[List.length_cons,this]
   simp
   omega
theorem Mg{a b c d:Int}(h:Bo a b c d≠tx []):(Bo a b c d).size=20:=by
 unfold Bo at h⊢
 split
 ·rename_i t ht
  have:=Zr ht
  simp only[Bw,List.length_cons,List.length_nil]at this
  rw[ByteArray.size_append,Bw,this]
  rfl
 ·rename_i ht
  rw[ht]at h
  exact absurd rfl h
def Bu(h:Ca)(offs:List Int)(fin:Int):ByteArray:=
 if C8 h=true∧Ck h.version_ (h.base_+offs.length)≠tx []∧Bz (Cw h.stride_ offs)≠tx []∧Bo fin offs.length h.stride_ 0≠tx []then
  (Ck h.version_ (h.base_+offs.length)++Bz (Cw h.stride_ offs))++Bo fin offs.length h.stride_ (Ff ((Ck h.version_ (h.base_+offs.length)++Bz (Cw h.stride_ offs))++(Bo fin offs.length h.stride_ 0).extract 0 12))else tx []
theorem Lc{s:Int}{offs:List Int}:(Cw s offs).length≤offs.length:=by
 unfold Cw
 split
 ·simp
 ·exact Xl
theorem Re{s:Int}{offs:List Int}(h:∀x∈offs,wfI x)(hl:offs.length<2^40):wfPl (Cw s offs):=by
 unfold Cw
 split
 ·intro p hp;simp at hp
 ·intro p hp
  unfold XdJ at hp
  obtain⟨i,hi,rfl⟩:=List.mem_map.1 hp
  have aa:=List.mem_range.1 (List.mem_filter.1 hi).1
  refine⟨⟨by show -9223372036854775808≤(i:Int);omega,by show(i:Int)<9223372036854775808;omega⟩,?_⟩
  show wfI (offs.getD i 0)
  rw[←Xb8 aa]
  exact h _ (List.getElem_mem aa)
theorem XaC(h:Ca)(offs:List Int)(fin:Int):(Bu h offs fin).size≤57+10*offs.length:=by
 unfold Bu
 split
 ·rw[ByteArray.size_append,ByteArray.size_append]
  have h1:=Km (rfl:Ck h.version_ (h.base_+offs.length)=_)
  have h2:=Nx (Cw h.stride_ offs)
  have h3:=@Lc h.stride_ offs
  have h4:=Gm (rfl:Bo fin offs.length h.stride_ (Ff ((Ck h.version_ (h.base_+offs.length)++Bz (Cw h.stride_ offs))++(Bo fin offs.length h.stride_ 0).extract 0 12))=_)
  omega
 ·simp[Bw]
variable {stride mark count sum a b:Int} {offs:List Int} {xoffs xo:List (List D)} {o:ByteArray}
theorem Xel{o:List Gy}(hoffs:offs.map cI=xoffs)(hl:offs.length<2^40)(hr:Cw stride offs=o)(ho:o.map Rb=xo):Fn Tryz.prog 287 [I stride,.d (.row 1 xoffs)] [] ⟨.d (.row 2 xo),[],[]⟩:=by
 refine Fn.go Ic Tryz.func287 fun P hP Q hQ=>?_
 conv=>cbv
 refine LoopW.lp (κ:=Int×(List (List D))×Nat) Ic hP [1] [0,1] (fun(i6,aa,ab)=>[(5,.ref 2 0 ab),(6,I i6)]) (fun(i6,aa,ab)=>[(2,.row 2 false aa)])
  (fun(i6,aa,ab)=>∃(w2:List Gy),w2.map Rb=aa∧ab=w2.length∧∃k:Nat,i6=(k:Int)∧k≤offs.length∧(1≤stride∨k=0)∧w2=XdJ stride.toNat offs k)
  (fun(i6,aa,ab)=>(offs.length - i6).toNat) (0,[],0) ⟨[],rfl,rfl,0,rfl,by omega,by omega,by simp[XdJ]⟩ ⟨rfl,rfl,trivial⟩ rfl ?_
 rintro⟨i6,aa,ab⟩ J ⟨w2,ac,ah,k,hi,hk,hs,hw⟩ hJ
 have hwl:w2.length≤k:=by rw[hw];exact Xl
 conv=>cbv
 refine .go hoffs fun v1 ak=>?_
 conv=>cbv
 refine .lss (fun h2=>?_) fun h2=>?_
 conv=>cbv
 refine .geq (fun h3=>?_) fun h3=>?_
 conv=>cbv
 refine .rem fun v4 ad=>?_
 conv=>cbv
 refine .eql (fun h5=>?_) fun h5=>?_
 conv=>cbv
 refine .go i6.toNat hoffs fun ai e6 ae=>?_
 conv=>cbv
 have em0:((k% stride.toNat:Nat):Int)=0:=by rw[Int.natCast_emod,Int.toNat_of_nonneg (by omega),←hi,←ad];exact h5
 have em:k% stride.toNat=0:=by omega
 have e1:(⟨i6,e6⟩:Gy)=⟨(k:Int),offs.getD k 0⟩:=by rw[ae,Xb8];simp only[hi,Int.toNat_natCast]
 refine .one (⟨i6,e6⟩:Gy) ac rfl fun af z7 aj ag=>?_
 conv=>cbv
 refine .add fun v8 al=>?_
 conv=>cbv
 exact .go [4] (v8,z7,af) (hJ _ ⟨_,ag,Ot,k+1,by omega,by omega,by omega,by rw[O4,if_pos em,hw,e1]⟩ mlt)
 conv=>cbv
 have em:¬k% stride.toNat=0:=by intro e;refine h5 ?_;rw[ad,hi,show stride=((stride.toNat:Nat):Int)by omega,←Int.natCast_emod,e];rfl
 refine .add fun v6 am=>?_
 conv=>cbv
 exact .go [2] (v6,aa,ab) (hJ _ ⟨_,ac,Ot,k+1,by omega,by omega,by omega,by rw[O4,if_neg em,hw];simp⟩ mlt)
 conv=>cbv
 have e:w2=Cw stride offs:=(by rw[hw,show k=0 by omega];unfold Cw;rw[if_pos (by omega)];rfl)
 rw[hr]at e
 subst e
 exact hQ _ _ (.r rfl rfl (by rw[←ac,List.length_map];first|omega|(simp;omega)) (by rw[←ac,←ho]))
 conv=>cbv
 have e:w2=Cw stride offs:=(by rw[hw];unfold Cw;split;rw[show k=0 by omega];rfl;rw[show k=offs.length by omega])
 rw[hr]at e
 subst e
 exact hQ _ _ (.r rfl rfl (by rw[←ac,List.length_map];first|omega|(simp;omega)) (by rw[←ac,←ho]))
theorem XdL{o:List Gy}(hoffs:offs.map cI=xoffs)(hl:offs.length<2^40)(hr:Cw stride offs=o)(ho:o.map Rb=xo):Fn Tryz.prog 292 [I stride,.d (.row 1 xoffs)] [] ⟨.d (.row 2 xo),[],[]⟩:=by
 refine Fn.go Ic Tryz.func292 fun P hP Q hQ=>?_
 conv=>cbv
 refine .lss (fun h1=>?_) fun h1=>?_
 conv=>cbv
 have e:[]=Cw stride offs:=(by unfold Cw;rw[if_pos (by omega)])
 rw[hr]at e
 subst e
 exact hQ _ _ (.r rfl rfl rfl (by rw[←ho];rfl))
 conv=>cbv
 refine LoopW.lp (κ:=Int×(List (List D))×Nat) Ic hP [1] [0,1] (fun(i6,aa,ab)=>[(5,.ref 2 0 ab),(6,I i6)]) (fun(i6,aa,ab)=>[(2,.row 2 false aa)])
  (fun(i6,aa,ab)=>∃(w2:List Gy),w2.map Rb=aa∧ab=w2.length∧∃k:Nat,i6=(k:Int)∧k≤offs.length∧k% stride.toNat=0∧w2=XdJ stride.toNat offs k)
  (fun(i6,aa,ab)=>(offs.length - i6).toNat) (0,[],0) ⟨[],rfl,rfl,0,rfl,by omega,by simp,by simp[XdJ]⟩ ⟨rfl,rfl,trivial⟩ rfl ?_
 rintro⟨i6,aa,ab⟩ J ⟨w2,ac,ag,k,hi,hk,hs,hw⟩ hJ
 have hwl:w2.length≤k:=by rw[hw];exact Xl
 conv=>cbv
 refine .go hoffs fun v2 aj=>?_
 conv=>cbv
 refine .lss (fun h3=>?_) fun h3=>?_
 conv=>cbv
 refine .go i6.toNat hoffs fun ah e4 ae=>?_
 conv=>cbv
 have e1:(⟨i6,e4⟩:Gy)=⟨(k:Int),offs.getD k 0⟩:=by rw[ae,Xb8];simp only[hi,Int.toNat_natCast]
 refine .one (⟨i6,e4⟩:Gy) ac rfl fun af z5 ai ad=>?_
 conv=>cbv
 refine .go hoffs fun v6 ak=>?_
 conv=>cbv
 refine .sub fun v7 al=>?_
 conv=>cbv
 refine .gtr (fun h8=>?_) fun h8=>?_
 conv=>cbv
 have e:(w2++[(⟨i6,e4⟩:Gy)])=Cw stride offs:=(by unfold Cw;rw[if_neg (by omega),show offs.length=k+1+(offs.length - 1 - k)by omega,Yj hs _ (by omega),hw,e1])
 rw[hr]at e
 subst e
 exact hQ _ _ (.r rfl rfl (by rw[←ad,List.length_map];first|omega|(simp;omega)) (by rw[←ad,←ho]))
 conv=>cbv
 refine .add fun v9 am=>?_
 conv=>cbv
 exact .go [4] (v9,z5,af) (hJ _ ⟨_,ad,Ot,k+stride.toNat,by omega,by omega,by rw[Nat.add_mod_right];exact hs,by rw[show k+stride.toNat=k+1+(stride.toNat - 1)by omega,Yj hs _ (by omega),hw,e1]⟩ mlt)
 conv=>cbv
 have e:w2=Cw stride offs:=(by unfold Cw;rw[if_neg (by omega),hw,show k=offs.length by omega])
 rw[hr]at e
 subst e
 exact hQ _ _ (.r rfl rfl (by rw[←ac,List.length_map];first|omega|(simp;omega)) (by rw[←ac,←ho]))
theorem Pi(k1:mark<9223372036854775808)(k2:count<9223372036854775808)(k3:stride<9223372036854775808)(k4:sum<9223372036854775808)(hr:Bo mark count stride sum=o):Fn Tryz.prog 293 [I mark,I count,I stride,I sum] [] ⟨S o,[],[]⟩:=by
 refine Fn.go Ic Tryz.func293 fun P hP Q hQ=>?_
 conv=>cbv
 refine .go fun v1 ah=>?_
 conv=>cbv
 refine LoopW.lp (κ:=ByteArray×Int) Ic hP [] [17,18] (fun(s9,aa)=>[(9,S s9),(19,I aa)]) (fun(s9,aa)=>[])
  (fun(s9,aa)=>∃k:Nat,aa=(k:Int)∧k≤4∧s9.size≤8*k∧Io (tx []) [mark,count,stride,sum]=Io s9 ([mark,count,stride,sum].drop k))
  (fun(s9,aa)=>(4 - aa).toNat) (tx [],0) ⟨0,rfl,by omega,by simp[Bw],rfl⟩ ⟨rfl,rfl,trivial⟩ rfl ?_
 rintro⟨s9,aa⟩ J ⟨k,hi,hk,hz,hf⟩ hJ
 conv=>cbv
 refine .lss (fun h2=>?_) fun h2=>?_
 conv=>cbv
 refine .go aa.toNat fun p3 ai af=>?_
 conv=>cbv
 refine .go (l:=[mark,count,stride,sum]) (c:=cI) rfl fun ag e4 ac=>?_
 conv=>cbv
 have eE:[mark,count,stride,sum][k]'(by simp;omega)=e4:=by rw[ac];congr 1;omega
 have hE:e4<9223372036854775808:=by
  rw[←eE]
  have aj:k<4:=by omega
  rcases k with _|_|_|_|k
  ·exact k1
  ·exact k2
  ·exact k3
  ·exact k4
  ·omega
 generalize ab:Az e4 4=r5
 have zr5:=Bv ab
 refine .dd hP (E3 (by omega) ab) ?_
 conv=>cbv
 refine .eql (fun h6=>?_) fun h6=>?_
 conv=>cbv
 have e:(tx [])=Bo mark count stride sum:=(by unfold Bo;rw[hf,List.drop_eq_getElem_cons (by simp;omega)];simp only[Io];rw[eE,if_pos (by rw[ab];exact h6)])
 rw[hr]at e
 subst e
 exact hQ _ _ (.s rfl rfl)
 conv=>cbv
 refine .go fun s7 ad ak=>?_
 conv=>cbv
 refine .add fun v8 al=>?_
 conv=>cbv
 exact .go [] (s7,v8) (hJ _ ⟨k+1,by omega,by omega,by omega,by rw[hf,List.drop_eq_getElem_cons (by simp;omega)];simp only[Io];rw[eE,if_neg];rw[ad];rw[ab];exact fun e=>h6 (ab.symm.trans e)⟩ mlt)
 conv=>cbv
 refine .litR 4 fun s3 ae am=>?_
 conv=>cbv
 have e:s3=Bo mark count stride sum:=(by unfold Bo;rw[hf,List.drop_of_length_le (by simp;omega)];simp only[Io];exact ae)
 rw[hr]at e
 subst e
 exact hQ _ _ (.s rfl rfl)
theorem Pp(k1:mark<9223372036854775808)(k2:count<9223372036854775808)(k3:stride<9223372036854775808)(k4:sum<9223372036854775808)(hr:Bo mark count stride sum=o):Fn Tryz.prog 288 [I mark,I count,I stride,I sum] [] ⟨S o,[],[]⟩:=by
 refine Fn.go Ic Tryz.func288 fun P hP Q hQ=>?_
 conv=>cbv
 refine LoopW.lp (κ:=ByteArray×Int) Ic hP [] [10] (fun(s9,aa)=>[(9,S s9),(11,I aa)]) (fun(s9,aa)=>[])
  (fun(s9,aa)=>∃k:Nat,aa=(k:Int)∧k≤4∧s9.size≤8*k∧Io (tx []) [mark,count,stride,sum]=Io s9 ([mark,count,stride,sum].drop k))
  (fun(s9,aa)=>(4 - aa).toNat) (tx [],0) ⟨0,rfl,by omega,by simp[Bw],rfl⟩ ⟨rfl,rfl,trivial⟩ rfl ?_
 rintro⟨s9,aa⟩ J ⟨k,hi,hk,hz,hf⟩ hJ
 conv=>cbv
 refine .lss (fun h1=>?_) fun h1=>?_
 conv=>cbv
 refine .go aa.toNat fun p2 ah af=>?_
 conv=>cbv
 refine .go (l:=[mark,count,stride,sum]) (c:=cI) rfl fun ag e3 ac=>?_
 conv=>cbv
 have eE:[mark,count,stride,sum][k]'(by simp;omega)=e3:=by rw[ac];congr 1;omega
 have hE:e3<9223372036854775808:=by
  rw[←eE]
  have ai:k<4:=by omega
  rcases k with _|_|_|_|k
  ·exact k1
  ·exact k2
  ·exact k3
  ·exact k4
  ·omega
 generalize ab:Az e3 4=r4
 have zr4:=Bv ab
 refine .dd hP (Er (by omega) ab) ?_
 conv=>cbv
 refine .eql (fun h5=>?_) fun h5=>?_
 conv=>cbv
 have e:(tx [])=Bo mark count stride sum:=(by unfold Bo;rw[hf,List.drop_eq_getElem_cons (by simp;omega)];simp only[Io];rw[eE,if_pos (by rw[ab];exact h5)])
 rw[hr]at e
 subst e
 exact hQ _ _ (.s rfl rfl)
 conv=>cbv
 refine .go fun s6 ad aj=>?_
 conv=>cbv
 refine .add fun v7 ak=>?_
 conv=>cbv
 exact .go [] (s6,v7) (hJ _ ⟨k+1,by omega,by omega,by omega,by rw[hf,List.drop_eq_getElem_cons (by simp;omega)];simp only[Io];rw[eE,if_neg];rw[ad];rw[ab];exact fun e=>h5 (ab.symm.trans e)⟩ mlt)
 conv=>cbv
 refine .litR 4 fun s2 ae al=>?_
 conv=>cbv
 have e:s2=Bo mark count stride sum:=(by unfold Bo;rw[hf,List.drop_of_length_le (by simp;omega)];simp only[Io];exact ae)
 rw[hr]at e
 subst e
 exact hQ _ _ (.s rfl rfl)
theorem Yv{o:Int}(ha:wfI a)(hb:wfI b)(hr:Ha a b=o):Fn Tryz.prog 325 [I a,I b] [] ⟨I o,[],[]⟩:=by
 refine Fn.go Ic Tryz.func325 fun P hP Q hQ=>?_
 conv=>cbv
 refine .subW fun v1 aa=>?_
 conv=>cbv
 refine .lss (fun h2=>?_) fun h2=>?_
 conv=>cbv
 have e:(-1)=Ha a b:=(by unfold Ha;rw[Kx]at aa;obtain⟨ab,ac⟩:=ha;obtain⟨ad,hb2⟩:=hb;rw[if_neg (by omega)])
 rw[hr]at e
 subst e
 exact hQ _ _ (.i rfl rfl)
 conv=>cbv
 refine .lss (fun h3=>?_) fun h3=>?_
 conv=>cbv
 have e:(-1)=Ha a b:=(by unfold Ha;rw[Kx]at aa;obtain⟨ab,ac⟩:=ha;obtain⟨ad,hb2⟩:=hb;rw[if_neg (by omega)])
 rw[hr]at e
 subst e
 exact hQ _ _ (.i rfl rfl)
 conv=>cbv
 have e:v1=Ha a b:=(by unfold Ha;rw[Kx]at aa;obtain⟨ab,ac⟩:=ha;obtain⟨ad,hb2⟩:=hb;rw[if_pos (by omega)];omega)
 rw[hr]at e
 subst e
 exact hQ _ _ (.i rfl rfl)
theorem XfE(ha:wfI a)(hb:wfI b)(hr:Gg a b=o):Fn Tryz.prog 327 [I a,I b] [] ⟨S o,[],[]⟩:=by
 refine Fn.go Ic Tryz.func327 fun P hP Q hQ=>?_
 conv=>cbv
 refine .lss (fun h1=>?_) fun h1=>?_
 conv=>cbv
 have e:(tx [])=Gg a b:=(by unfold Gg;rw[if_neg (by omega)])
 rw[hr]at e
 subst e
 exact hQ _ _ (.s rfl rfl)
 conv=>cbv
 refine .go fun v2 ab=>?_
 conv=>cbv
 refine .go fun v3 ac=>?_
 conv=>cbv
 refine .subW fun v4 ad=>?_
 conv=>cbv
 have e4:v4=a - b:=by rw[ad,ab,ac,Fz,Fz,Fz];obtain⟨af,ag⟩:=ha;obtain⟨ah,hb2⟩:=hb;omega
 refine .gtr (fun h5=>?_) fun h5=>?_
 conv=>cbv
 have e:(tx [])=Gg a b:=(by unfold Gg;rw[if_neg (by omega)])
 rw[hr]at e
 subst e
 exact hQ _ _ (.s rfl rfl)
 conv=>cbv
 refine .sub fun v6 ae=>?_
 conv=>cbv
 generalize aa:Cg v6=r7
 have zr7:=Gx aa
 refine .dd hP (T0 aa) ?_
 conv=>cbv
 have e:r7=Gg a b:=(by unfold Gg;rw[if_pos (by omega),←aa,ae])
 rw[hr]at e
 subst e
 exact hQ _ _ (.s rfl rfl)
theorem Zb{l:List Gy}{xl:List (List D)}(hl:l.map Rb=xl)(hn:l.length<2^40)(hw:wfPl l)(hr:Bz l=o):Fn Tryz.prog 286 [.d (.row 2 xl)] [] ⟨S o,[],[]⟩:=by
 refine Fn.go Ic Tryz.func286 fun P hP Q hQ=>?_
 conv=>cbv
 refine .go hl fun v1 ao=>?_
 conv=>cbv
 generalize ae:Cg v1=r2
 have zr2:=Gx ae
 refine .dd hP (Mh ae) ?_
 conv=>cbv
 refine LoopW.lp (κ:=ByteArray×Int×Int×Int) Ic hP [] [0,4] (fun(s3,i5,ab,ac)=>[(3,S s3),(5,I i5)]) (fun(s3,i5,ab,ac)=>[(0,.box 253 [I ab,I ac])])
  (fun(s3,i5,ab,ac)=>∃(k:Nat) (pr:ByteArray),i5=(k:Int)∧k≤l.length∧s3=Cg l.length++pr∧pr.size≤10*k∧wfI ab∧wfI ac∧In (0,0) l=(In (ab,ac) (l.drop k)).map fun t=>pr++t)
  (fun(s3,i5,ab,ac)=>(l.length - i5).toNat) (r2,0,0,0) ⟨0,tx [],rfl,by omega,by rw[←ae,ao,W3],by simp[Bw],by constructor<;>omega,by constructor<;>omega,by simp[Xe8]⟩ ⟨rfl,rfl,trivial⟩ rfl ?_
 rintro⟨s3,i5,ab,ac⟩ J ⟨k,pr,hi,hk,hs,hz,hwa,hwb,hp⟩ hJ
 have ay:s3.size≤5+10*k:=by rw[hs,ByteArray.size_append];have:=Hs l.length;omega
 conv=>cbv
 refine .go hl fun v3 az=>?_
 conv=>cbv
 refine .lss (fun h4=>?_) fun h4=>?_
 conv=>cbv
 refine .go i5.toNat hl fun ar ⟨aa,ad⟩ ah=>?_
 conv=>cbv
 have hkl:k<l.length:=by omega
 have hd:l.drop k=⟨aa,ad⟩::l.drop (k+1):=by rw[List.drop_eq_getElem_cons hkl,ah];congr 2;omega
 obtain⟨ai,aj⟩:=hw ⟨aa,ad⟩ (by rw[ah];exact List.getElem_mem _)
 simp only[]at ai aj
 generalize ak:Ha aa ab=r6
 refine .dd hP (Yv (by assumption) (by assumption) ak) ?_
 conv=>cbv
 generalize af:Cg r6=r7
 have zr7:=Gx af
 refine .dd hP (Mh af) ?_
 conv=>cbv
 generalize al:Ha ad ac=r8
 refine .dd hP (Yv (by assumption) (by assumption) al) ?_
 conv=>cbv
 generalize ag:Cg r8=r9
 have zr9:=Gx ag
 refine .dd hP (Mh ag) ?_
 conv=>cbv
 have ea:Gg aa ab=r7:=by rw[←af,←ak,Vz]
 have eb:Gg ad ac=r9:=by rw[←ag,←al,Vz]
 refine .eql (fun h10=>?_) fun h10=>?_
 conv=>cbv
 have e:(tx [])=Bz l:=(by unfold Bz;rw[hp,hd];simp only[In];rw[ea,eb,if_pos (.inl h10)];rfl)
 rw[hr]at e
 subst e
 exact hQ _ _ (.s rfl rfl)
 conv=>cbv
 refine .eql (fun h11=>?_) fun h11=>?_
 conv=>cbv
 have e:(tx [])=Bz l:=(by unfold Bz;rw[hp,hd];simp only[In];rw[ea,eb,if_pos (.inr h11)];rfl)
 rw[hr]at e
 subst e
 exact hQ _ _ (.s rfl rfl)
 conv=>cbv
 refine .go fun a0 am au=>?_
 conv=>cbv
 refine .go fun ap an aw=>?_
 conv=>cbv
 refine .add fun aq ax=>?_
 conv=>cbv
 exact .go [] (ap,aq,aa,ad) (hJ _ ⟨k+1,pr++(r7++r9),by omega,by omega,by rw[an,am,hs];simp only[ByteArray.append_assoc],by rw[ByteArray.size_append,ByteArray.size_append];omega,ai,aj,by rw[hp,hd];simp only[In];rw[ea,eb,if_neg (by intro h;rcases h with h|h;exact h10 h;exact h11 h),Option.map_map];congr 1;funext t;simp only[Function.comp,ByteArray.append_assoc]⟩ mlt)
 conv=>cbv
 have e:s3=Bz l:=(by unfold Bz;rw[hp,List.drop_of_length_le (by omega),hs];simp[In,W3])
 rw[hr]at e
 subst e
 exact hQ _ _ (.s rfl rfl)
end
section
open Go Go.Proofs
set_option maxRecDepth 20000
set_option maxHeartbeats 4000000
def Z6:List (Nat×TyRow):=[ty3,ty9,Xjx,XiK,XjN]
theorem Xa2:B1 Tryz.prog Z6:=B1.of (by kernel_rfl)
theorem Xc1:Setup Tryz.prog Z6:=⟨Xa2,mixed⟩
theorem Zk{l:List Gy}{xl:List (List D)}{o:ByteArray}(hl:l.map Rb=xl)(hn:l.length≤1000000000)(hw:wfPl l)(hr:Bz l=o):Fn Tryz.prog 291 [.d (.row 2 xl)] [] ⟨S o,[],[]⟩:=by
 refine Fn.go Xc1 Tryz.func291 fun P hP Q hQ=>?_
 conv=>cbv
 refine .go hl fun v1 az=>?_
 conv=>cbv
 generalize al:Cg v1=r2
 have zr2:=Gx al
 refine .dd hP (T0 al) ?_
 conv=>cbv
 obtain⟨nb3,hnb3⟩:∃m,([]:List UInt8).length+r2.size=m:=⟨_,rfl⟩
 obtain⟨b3,am⟩:∃m,[]++r2.data.toList=m:=⟨_,rfl⟩
 obtain⟨kb3,aq⟩:∃m,(r2.size:Int)=m:=⟨_,rfl⟩
 have lb3:nb3=b3.length:=by rw[←am,List.length_append,Array.length_toList];exact hnb3.symm
 refine .bx [2,0] [0] hP (XhD rfl (by first|omega|(simp;omega)) hnb3 am aq) rfl rfl rfl rfl ?_
 conv=>cbv
 refine .go hl fun v4 a4=>?_
 conv=>cbv
 refine LoopW.lp (κ:=Int×Int×Int×(List UInt8)×Nat) Xc1 hP [3] [3,4,15,16] (fun(ac,ad,ae,aa,ag)=>[(17,I ac)]) (fun(ac,ad,ae,aa,ag)=>[(2,.box 219 [.ptr 2 0 0,.ref 5 0 ag]),(4,.box 253 [I ad,I ae]),(5,.buf 5 false aa)])
  (fun(ac,ad,ae,aa,ag)=>ag=aa.length∧∃(k:Nat) (pr:ByteArray),ac=(k:Int)∧k≤l.length∧aa=(Cg l.length++pr).data.toList∧pr.size≤10*k∧wfI ad∧wfI ae∧In (0,0) l=(In (ad,ae) (l.drop k)).map fun t=>pr++t)
  (fun(ac,ad,ae,aa,ag)=>(l.length - ac).toNat) (0,0,0,b3,nb3) ⟨lb3,0,tx [],rfl,by omega,by rw[←am,W3,←az,al];rfl,by simp[Bw],by constructor<;>omega,by constructor<;>omega,by simp[Xe8]⟩ ⟨rfl,trivial⟩ rfl ?_
 rintro⟨ac,ad,ae,aa,ag⟩ J ⟨ak,k,pr,hi,hk,hs,hz,hwa,hwb,hp⟩ hJ
 have z1:1≤(Cg l.length).size:=by unfold Cg;rw[if_pos (by omega),Bw];exact List.length_pos_iff.2 (XbP _)
 have zv:=Hs l.length
 have zl:aa.length=(Cg l.length).size+pr.size:=by rw[hs,Array.length_toList];exact ByteArray.size_append
 conv=>cbv
 refine .lss (fun h5=>?_) fun h5=>?_
 conv=>cbv
 refine .go ac.toNat hl fun a1 ⟨ab,af⟩ ar=>?_
 conv=>cbv
 have hkl:k<l.length:=by omega
 have hd:l.drop k=⟨ab,af⟩::l.drop (k+1):=by rw[List.drop_eq_getElem_cons hkl,ar];congr 2;omega
 obtain⟨au,aw⟩:=hw ⟨ab,af⟩ (by rw[ar];exact List.getElem_mem _)
 simp only[]at au aw
 generalize ah:Gg ab ad=r7
 have zr7:=R4 ah
 refine .dd hP (XfE (by assumption) (by assumption) ah) ?_
 conv=>cbv
 generalize ai:Gg af ae=r8
 have zr8:=R4 ai
 refine .dd hP (XfE (by assumption) (by assumption) ai) ?_
 conv=>cbv
 refine .eql (fun h9=>?_) fun h9=>?_
 conv=>cbv
 have e:(tx [])=Bz l:=(by unfold Bz;rw[hp,hd];simp only[In];rw[ah,ai,if_pos (.inl h9)];rfl)
 rw[hr]at e
 subst e
 exact hQ _ _ (.s rfl rfl)
 conv=>cbv
 refine .eql (fun h10=>?_) fun h10=>?_
 conv=>cbv
 have e:(tx [])=Bz l:=(by unfold Bz;rw[hp,hd];simp only[In];rw[ah,ai,if_pos (.inr h10)];rfl)
 rw[hr]at e
 subst e
 exact hQ _ _ (.s rfl rfl)
 conv=>cbv
 refine .go fun an ax a2=>?_
 conv=>cbv
 obtain⟨nb12,hnb12⟩:∃m,(aa:List UInt8).length+an.size=m:=⟨_,rfl⟩
 obtain⟨ay,aj⟩:∃m,aa++an.data.toList=m:=⟨_,rfl⟩
 obtain⟨kb12,ao⟩:∃m,(an.size:Int)=m:=⟨_,rfl⟩
 have lb12:nb12=ay.length:=by rw[←aj,List.length_append,Array.length_toList];exact hnb12.symm
 refine .bx [2,5] [5] hP (XhC ak (by first|omega|(simp;omega)) hnb12 aj ao) rfl rfl rfl rfl ?_
 conv=>cbv
 refine .add fun a0 a3=>?_
 conv=>cbv
 exact .go [7] (a0,ab,af,ay,nb12) (hJ _ ⟨Ot,k+1,pr++(r7++r8),by omega,by omega,by rw[←aj,hs,ax];simp[ByteArray.data_append,List.append_assoc],by rw[ByteArray.size_append,ByteArray.size_append];omega,au,aw,by rw[hp,hd];simp only[In];rw[ah,ai,if_neg (by intro h;rcases h with h|h;exact h9 h;exact h10 h),Option.map_map];congr 1;funext t;simp only[Function.comp,ByteArray.append_assoc]⟩ mlt)
 conv=>cbv
 obtain⟨b6,ap⟩:∃m,tx aa=m:=⟨_,rfl⟩
 have zb6:b6.size=aa.length:=by rw[←ap,Bw]
 refine .bx [2,5] [5] hP (XgL (x:=.ptr 0 0 0) ak (by intro e;rw[e]at zl;simp at zl;omega) (by first|omega|(simp;omega)) ap) rfl rfl rfl rfl ?_
 conv=>cbv
 have e:b6=Bz l:=(by unfold Bz;rw[hp,List.drop_of_length_le (by omega)];simp only[In,Option.map_some,W3];rw[←ap,hs,Xj])
 rw[hr]at e
 subst e
 exact hQ _ _ (.s rfl rfl)
end
section
open Go Go.Proofs
set_option maxRecDepth 20000
set_option maxHeartbeats 4000000
def XaV:List (Nat×TyRow):=[ty3,ty9,XhQ,Xeh,XiK]
theorem Z8:B1 Tryz.prog XaV:=B1.of (by kernel_rfl)
theorem XcV:Setup Tryz.prog XaV:=⟨Z8,mixed⟩
theorem Tm{h:Ca}{offs:List Int}{fin:Int}{o:ByteArray}(e:Bu h offs fin=o):o.size≤57+10*offs.length:=by rw[←e];exact XaC _ _ _
variable {hver hstr hbas hlin fin:Int} {offs:List Int} {xoffs:List (List D)} {o:ByteArray}
theorem XdU(hoffs:offs.map cI=xoffs)(hl:offs.length≤1000000000)(hwo:∀x∈offs,wfI x)(hf:fin<9223372036854775808)(hr:Bu (⟨hver,hstr,hbas,hlin⟩:Ca) offs fin=o):Fn Tryz.prog 234 [.agg [I hver,I hstr,I hbas,I hlin],.d (.row 1 xoffs),I fin] [] ⟨S o,[],[]⟩:=by
 refine Fn.go XcV Tryz.func234 fun P hP Q hQ=>?_
 conv=>cbv
 generalize ag:C8 (⟨hver,hstr,hbas,hlin⟩:Ca)=r1
 refine .dd hP (Xcm ag) ?_
 cases r1
 conv=>cbv
 have e:(tx [])=Bu (⟨hver,hstr,hbas,hlin⟩:Ca) offs fin:=(by unfold Bu;rw[if_neg];rintro⟨q1,q2,q3,q4⟩;simp only[]at q1 q2 q3 q4;rw[ag]at q1;cases q1)
 rw[hr]at e
 subst e
 exact hQ _ _ (.s rfl rfl)
 conv=>cbv
 have hh:=I6 ag
 refine .go hoffs fun v2 aj=>?_
 conv=>cbv
 refine .add fun v3 ak=>?_
 conv=>cbv
 generalize ac:Ck hver v3=r4
 have zr4:=Km ac
 refine .dd hP (Z3 ac) ?_
 conv=>cbv
 generalize ab:Cw hstr offs=l5
 generalize al:l5.map Rb=a3
 refine .dd hP (XdL hoffs (by omega) ab al) ?_
 conv=>cbv
 have zl5:l5.length≤offs.length:=ab▸Lc
 generalize ad:Bz l5=r6
 have zr6:=Pa ad
 refine .dd hP (Zk al (by omega) (ab▸Re hwo (by omega)) ad) ?_
 conv=>cbv
 refine .go hoffs fun v7 am=>?_
 conv=>cbv
 generalize aa:Bo fin v7 hstr 0=r8
 have zr8:=Gm aa
 refine .dd hP (Pi (by omega) (by omega) (by omega) (by omega) aa) ?_
 conv=>cbv
 refine .eql (fun h9=>?_) fun h9=>?_
 conv=>cbv
 have e:(tx [])=Bu (⟨hver,hstr,hbas,hlin⟩:Ca) offs fin:=(by unfold Bu;rw[if_neg];rintro⟨q1,q2,q3,q4⟩;simp only[]at q1 q2 q3 q4;rw[←aj,←ak,ac]at q2;exact q2 h9)
 rw[hr]at e
 subst e
 exact hQ _ _ (.s rfl rfl)
 conv=>cbv
 refine .eql (fun h10=>?_) fun h10=>?_
 conv=>cbv
 have e:(tx [])=Bu (⟨hver,hstr,hbas,hlin⟩:Ca) offs fin:=(by unfold Bu;rw[if_neg];rintro⟨q1,q2,q3,q4⟩;simp only[]at q1 q2 q3 q4;rw[ab,ad]at q3;exact q3 h10)
 rw[hr]at e
 subst e
 exact hQ _ _ (.s rfl rfl)
 conv=>cbv
 refine .eql (fun h11=>?_) fun h11=>?_
 conv=>cbv
 have e:(tx [])=Bu (⟨hver,hstr,hbas,hlin⟩:Ca) offs fin:=(by unfold Bu;rw[if_neg];rintro⟨q1,q2,q3,q4⟩;simp only[]at q1 q2 q3 q4;rw[←am,aa]at q4;exact q4 h11)
 rw[hr]at e
 subst e
 exact hQ _ _ (.s rfl rfl)
 conv=>cbv
 refine .go fun a4 ah ay=>?_
 conv=>cbv
 have z8:r8.size=20:=by rw[←aa];exact Mg (by rw[aa];exact h11)
 refine .hi fun ar ai=>?_
 conv=>cbv
 have a5:ar.size=12:=by rw[ai,Sa (by omega) (by omega)];rfl
 refine .go fun au an az=>?_
 conv=>cbv
 generalize ae:Ff au=aw
 have zr15:=Hy ae
 refine .dd hP (Tb (by omega) ae) ?_
 conv=>cbv
 refine .go fun a6 ao a0=>?_
 conv=>cbv
 refine .go hoffs fun ap a1=>?_
 conv=>cbv
 generalize af:Bo fin ap hstr aw=a7
 have zr18:=Gm af
 refine .dd hP (Pi (by omega) (by omega) (by omega) (by omega) af) ?_
 conv=>cbv
 refine .go fun ax aq a2=>?_
 conv=>cbv
 have e:ax=Bu (⟨hver,hstr,hbas,hlin⟩:Ca) offs fin:=(by have q:Bu ⟨hver,hstr,hbas,hlin⟩ offs fin=_:=if_pos ⟨ag,by simp only[];rw[←aj,←ak,ac];exact h9,by simp only[];rw[ab,ad];exact h10,by simp only[];rw[←am,aa];exact h11⟩;rw[q];simp only[];rw[←aj,←ak,ac,ab,ad,show(v2:Int)=v7 by omega,aa,←ah,aq,ao,←ah,←af,←ae,an,ai,show ap=v7 by omega];rfl)
 rw[hr]at e
 subst e
 exact hQ _ _ (.s rfl rfl)
theorem Xeo(hoffs:offs.map cI=xoffs)(hl:offs.length≤1000000000)(hwo:∀x∈offs,wfI x)(hf:fin<9223372036854775808)(hr:Bu (⟨hver,hstr,hbas,hlin⟩:Ca) offs fin=o):Fn Tryz.prog 223 [.agg [I hver,I hstr,I hbas,I hlin],.d (.row 1 xoffs),I fin] [] ⟨S o,[],[]⟩:=by
 refine Fn.go XcV Tryz.func223 fun P hP Q hQ=>?_
 conv=>cbv
 generalize ag:C8 (⟨hver,hstr,hbas,hlin⟩:Ca)=r1
 refine .dd hP (XcN ag) ?_
 cases r1
 conv=>cbv
 have e:(tx [])=Bu (⟨hver,hstr,hbas,hlin⟩:Ca) offs fin:=(by unfold Bu;rw[if_neg];rintro⟨q1,q2,q3,q4⟩;simp only[]at q1 q2 q3 q4;rw[ag]at q1;cases q1)
 rw[hr]at e
 subst e
 exact hQ _ _ (.s rfl rfl)
 conv=>cbv
 have hh:=I6 ag
 refine .go hoffs fun v2 aj=>?_
 conv=>cbv
 refine .add fun v3 ak=>?_
 conv=>cbv
 generalize ac:Ck hver v3=r4
 have zr4:=Km ac
 refine .dd hP (Xad ac) ?_
 conv=>cbv
 generalize ab:Cw hstr offs=l5
 generalize al:l5.map Rb=a3
 refine .dd hP (Xel hoffs (by omega) ab al) ?_
 conv=>cbv
 have zl5:l5.length≤offs.length:=ab▸Lc
 generalize ad:Bz l5=r6
 have zr6:=Pa ad
 refine .dd hP (Zb al (by omega) (ab▸Re hwo (by omega)) ad) ?_
 conv=>cbv
 refine .go hoffs fun v7 am=>?_
 conv=>cbv
 generalize aa:Bo fin v7 hstr 0=r8
 have zr8:=Gm aa
 refine .dd hP (Pp (by omega) (by omega) (by omega) (by omega) aa) ?_
 conv=>cbv
 refine .eql (fun h9=>?_) fun h9=>?_
 conv=>cbv
 have e:(tx [])=Bu (⟨hver,hstr,hbas,hlin⟩:Ca) offs fin:=(by unfold Bu;rw[if_neg];rintro⟨q1,q2,q3,q4⟩;simp only[]at q1 q2 q3 q4;rw[←aj,←ak,ac]at q2;exact q2 h9)
 rw[hr]at e
 subst e
 exact hQ _ _ (.s rfl rfl)
 conv=>cbv
 refine .eql (fun h10=>?_) fun h10=>?_
 conv=>cbv
 have e:(tx [])=Bu (⟨hver,hstr,hbas,hlin⟩:Ca) offs fin:=(by unfold Bu;rw[if_neg];rintro⟨q1,q2,q3,q4⟩;simp only[]at q1 q2 q3 q4;rw[ab,ad]at q3;exact q3 h10)
 rw[hr]at e
 subst e
 exact hQ _ _ (.s rfl rfl)
 conv=>cbv
 refine .eql (fun h11=>?_) fun h11=>?_
 conv=>cbv
 have e:(tx [])=Bu (⟨hver,hstr,hbas,hlin⟩:Ca) offs fin:=(by unfold Bu;rw[if_neg];rintro⟨q1,q2,q3,q4⟩;simp only[]at q1 q2 q3 q4;rw[←am,aa]at q4;exact q4 h11)
 rw[hr]at e
 subst e
 exact hQ _ _ (.s rfl rfl)
 conv=>cbv
 refine .go fun a4 ah ay=>?_
 conv=>cbv
 have z8:r8.size=20:=by rw[←aa];exact Mg (by rw[aa];exact h11)
 refine .hi fun ar ai=>?_
 conv=>cbv
 have a5:ar.size=12:=by rw[ai,Sa (by omega) (by omega)];rfl
 refine .go fun au an az=>?_
 conv=>cbv
 generalize ae:Ff au=aw
 have zr15:=Hy ae
 refine .dd hP (Uf (by omega) ae) ?_
 conv=>cbv
 refine .go fun a6 ao a0=>?_
 conv=>cbv
 refine .go hoffs fun ap a1=>?_
 conv=>cbv
 generalize af:Bo fin ap hstr aw=a7
 have zr18:=Gm af
 refine .dd hP (Pp (by omega) (by omega) (by omega) (by omega) af) ?_
 conv=>cbv
 refine .go fun ax aq a2=>?_
 conv=>cbv
 have e:ax=Bu (⟨hver,hstr,hbas,hlin⟩:Ca) offs fin:=(by have q:Bu ⟨hver,hstr,hbas,hlin⟩ offs fin=_:=if_pos ⟨ag,by simp only[];rw[←aj,←ak,ac];exact h9,by simp only[];rw[ab,ad];exact h10,by simp only[];rw[←am,aa];exact h11⟩;rw[q];simp only[];rw[←aj,←ak,ac,ab,ad,show(v2:Int)=v7 by omega,aa,←ah,aq,ao,←ah,←af,←ae,an,ai,show ap=v7 by omega];rfl)
 rw[hr]at e
 subst e
 exact hQ _ _ (.s rfl rfl)
end
section
open Go Go.Proofs
set_option maxRecDepth 20000
set_option maxHeartbeats 4000000
end
section
open Go Go.Proofs
set_option maxRecDepth 20000
set_option maxHeartbeats 4000000
theorem Wm:∀(k:Nat) {h:Ca} {b:ByteArray} {n:Nat} {p:Int},(b.size - p).toNat≤k→0≤p∧p≤b.size→p+(G5 h b n p).1.length≤b.size
 |k,h,b,n,p,hk,hp=>by
  cases hm:Dx h.version_ (h.base_+n) b p
  ·rcases hf:A4 h.version_ (h.base_+n) b p with⟨r,q,ok⟩
   cases ok
   ·rw[Kj hm hf]
    simpa using hp.2
   ·have h2:=F3 hf
    rw[Kp hm hf]
    cases k with
    |zero=>omega
    |succ k=>
     have ih:=Wm k (h:=h) (b:=b) (n:=n+1) (p:=q) (by omega) (by omega)
     rw[List.length_cons]
     omega
  ·rw[Kt hm]
   simpa using hp.2
theorem I4{b:ByteArray}:(Bq b).records_.length≤b.size:=by
 unfold Bq
 split
 ·rename_i h e
  have h2:=Fw e
  have:=Wm _ (h:=h) (b:=b) (n:=0) (p:=24) (Nat.le_refl _) (by omega)
  show(G5 h b 0 24).1.length≤_
  omega
 ·simp
end
section
open Go Go.Proofs
set_option maxRecDepth 20000
set_option maxHeartbeats 4000000
def Xds:List (Nat×TyRow):=[ty3,ty9,XeB,XdK,Xbd,Zu,Xbh]
theorem Xbv:B1 Tryz.prog Xds:=B1.of (by kernel_rfl)
theorem Fc:Setup Tryz.prog Xds:=⟨Xbv,mixed⟩
def U7{α:Type}(p:α→Bool)(l:List α):Int:=if l.findIdx p<l.length then(l.findIdx p:Int)else -1
section
variable {α:Type} {p:α→Bool} {l:List α} {i:Int}
theorem Ob(h0:0≤i)(hi:i.toNat<l.length)(h:p l[i.toNat]=true)(hb:∀(j:Nat) (hj:j<l.length),j<i.toNat→p l[j]=false):i=U7 p l:=by
 have e:l.findIdx p=i.toNat:=(List.findIdx_eq hi).2 ⟨h,fun j hji=>hb j (by omega) hji⟩
 unfold U7
 rw[e,if_pos hi]
 omega
theorem Jk(hb:∀(j:Nat) (hj:j<l.length),p l[j]=false): -1=U7 p l:=by
 unfold U7
 rw[if_neg]
 intro hlt
 have:=List.findIdx_getElem (w:=hlt)
 rw[hb _ hlt]at this
 cases this
theorem Xdf(e:U7 p l=i): -1≤i∧i<l.length:=by
 rw[←e]
 unfold U7
 split<;>omega
theorem Xc(e:U7 p l=i)(h:0≤i):∃hi:i.toNat<l.length,p l[i.toNat]=true:=by
 unfold U7 at e
 split at e
 ·rename_i hlt
  have e2:i.toNat=l.findIdx p:=by omega
  refine⟨by omega,?_⟩
  have:=List.findIdx_getElem (w:=hlt)
  simpa only[e2]using this
 ·omega
theorem XiZ(e:U7 p l=i)(h:i<0):∀x∈l,p x=false:=by
 unfold U7 at e
 split at e
 ·omega
 ·rename_i hlt
  intro x hx
  cases hp:p x
  ·rfl
  ·exact absurd (List.findIdx_lt_length_of_exists ⟨x,hx,hp⟩) hlt
end
def B2(e:Al)(name:ByteArray):Bool:=decide (e.name_=name)
def Dy(l:List Al)(name:ByteArray):Int:=U7 (fun e=>B2 e name) l
def A7(l:List Al)(name:ByteArray):Int:=Dy l name
def Eh(n:Bs)(id:Int):Bool:=decide (n.id_=id)
def Ed(l:List Bs)(id:Int):Int:=U7 (fun n=>Eh n id) l
def Hh(d:Ac)(id:Int):Int:=Ed d.nodes_ id
def Gp(d:Ac)(id:Int):Int:=Hh d id
def Cp(l:List Al)(name:ByteArray):Int:=if A7 l name<0 then 0 else(l.getD (A7 l name).toNat ⟨tx [],0⟩).id_
def D6(l:List Al)(name:ByteArray):Bool:=decide (0≤A7 l name)
def Cm(d:Ac)(name:ByteArray):Int:=if A7 d.entries_ name<0 then -1 else Hh d (Cp d.entries_ name)
def Fr(d:Ac)(name:ByteArray):Bs×Bool:=if Cm d name<0 then(⟨0,tx [],0⟩,false)else(d.nodes_.getD (Cm d name).toNat ⟨0,tx [],0⟩,true)
def Fm(d:Ac)(name:ByteArray):ByteArray×Bool:=((Fr d name).1.text_,(Fr d name).2)
def okD(d:Ac):Prop:=d.nodes_.length≤1000000000∧(∀n∈d.nodes_,n.text_.size≤1000000000)∧d.entries_.length≤1000000000∧(∀e∈d.entries_,e.name_.size≤1000000000)∧d.old_.length≤1000000000∧d.steps_.length≤1000000000
theorem gD{α:Type}{l:List α}{k:Nat}{d:α}(h:k<l.length):l[k]=l.getD k d:=by rw[List.getD_eq_getElem?_getD,List.getElem?_eq_getElem h];rfl
theorem Hm{l:List Al}{name:ByteArray}{i:Int}(e:A7 l name=i): -1≤i∧i<l.length:=Xdf e
theorem Wr{d:Ac}{id i:Int}(e:Hh d id=i): -1≤i∧i<d.nodes_.length:=Xdf e
theorem G1{d:Ac}{name:ByteArray}{i:Int}(e:Cm d name=i): -1≤i∧i<d.nodes_.length:=by
 unfold Cm at e
 split at e
 ·omega
 ·exact Wr e
theorem Xbr{d:Ac}{name t:ByteArray}{ok:Bool}(hd:okD d)(e:Fm d name=(t,ok)):t.size≤1000000000:=by
 have e1:(Fr d name).1.text_=t:=congrArg Prod.fst e
 rw[←e1]
 unfold Fr
 split
 ·simp[Bw]
 ·rename_i h
  have h2:=G1 (rfl:Cm d name=_)
  have h3:(Cm d name).toNat<d.nodes_.length:=by omega
  rw[←gD h3]
  exact hd.2.1 _ (List.getElem_mem h3)
theorem Od{d:Ac}{name:ByteArray}:Fr d name=if Gp d (Cp d.entries_ name)<0∨D6 d.entries_ name=false then(⟨0,tx [],0⟩,false)else(d.nodes_.getD (Gp d (Cp d.entries_ name)).toNat ⟨0,tx [],0⟩,true):=by
 unfold Fr Cm Gp D6
 by_cases h:A7 d.entries_ name<0
 ·rw[if_pos h,if_pos (by omega),if_pos (.inr (by simp;omega))]
 ·rw[if_neg h]
  by_cases h2:Hh d (Cp d.entries_ name)<0
  ·rw[if_pos h2,if_pos (.inl h2)]
  ·rw[if_neg h2,if_neg]
   rintro(h3|h3)
   ·exact h2 h3
   ·simp at h3;omega
variable {name oatex oa:ByteArray} {o id An Am oaid oasur:Int} {l Ak Aj:List Al} {xl Bk Bh Bf Bl:List (List D)} {Ah:List Bs} {Ai:List ByteArray} {ob:Bool}
theorem Xbm{enam:ByteArray}{eid:Int}{o:Bool}(hr:B2 (⟨enam,eid⟩:Al) name=o):Fn Tryz.prog 322 [.agg [S enam,I eid],.ptr 0 0 0] [.box 9 [S name]] ⟨B o,[],[]⟩:=by
 refine Fn.goR Fc Tryz.func322 fun P hP Q hQ=>?_
 conv=>cbv
 refine .eql (fun h1=>?_) fun h1=>?_
 conv=>cbv
 have e:true=B2 (⟨enam,eid⟩:Al) name:=(by unfold B2;symm;rw[decide_eq_true_eq];exact h1)
 rw[hr]at e
 subst e
 exact hQ _ _ (.of [] (.inl rfl) rfl rfl rfl rfl)
 conv=>cbv
 have e:false=B2 (⟨enam,eid⟩:Al) name:=(by unfold B2;symm;rw[decide_eq_false_iff_not];exact h1)
 rw[hr]at e
 subst e
 exact hQ _ _ (.of [] (.inl rfl) rfl rfl rfl rfl)
theorem S6{nid:Int}{ntex:ByteArray}{nsur:Int}{o:Bool}(hr:Eh (⟨nid,ntex,nsur⟩:Bs) id=o):Fn Tryz.prog 303 [.agg [I nid,S ntex,I nsur],.ptr 0 0 0] [.box 3 [I id]] ⟨B o,[],[]⟩:=by
 refine Fn.goR Fc Tryz.func303 fun P hP Q hQ=>?_
 conv=>cbv
 refine .eql (fun h1=>?_) fun h1=>?_
 conv=>cbv
 have e:true=Eh (⟨nid,ntex,nsur⟩:Bs) id:=(by unfold Eh;symm;rw[decide_eq_true_eq];exact h1)
 rw[hr]at e
 subst e
 exact hQ _ _ (.of [] (.inl rfl) rfl rfl rfl rfl)
 conv=>cbv
 have e:false=Eh (⟨nid,ntex,nsur⟩:Bs) id:=(by unfold Eh;symm;rw[decide_eq_false_iff_not];exact h1)
 rw[hr]at e
 subst e
 exact hQ _ _ (.of [] (.inl rfl) rfl rfl rfl rfl)
theorem Me(hl:l.map Ae=xl)(hn:l.length<2^40)(hr:Dy l name=o):Fn Tryz.prog 301 [.d (.row 2 xl),.clo 322 [.ptr 0 0 0]] [.box 9 [S name]] ⟨I o,[],[]⟩:=by
 refine Fn.goR Fc Tryz.func301 fun P hP Q hQ=>?_
 conv=>cbv
 refine .go hl fun v1 af=>?_
 conv=>cbv
 refine LoopW.lp (κ:=Int) Fc hP [] [0,1,7] (fun i8=>[(8,I i8)]) (fun i8=>[])
  (fun i8=>0≤i8∧i8≤l.length∧∀(j:Nat) (hj:j<l.length),j<i8.toNat→B2 l[j] name=false)
  (fun i8=>(l.length - i8).toNat) (0) ⟨by omega,by omega,fun j _ h=>by simp at h⟩ ⟨rfl,trivial⟩ rfl ?_
 rintro i8 J ⟨h0,h1,hb⟩ hJ
 conv=>cbv
 refine .lss (fun h2=>?_) fun h2=>?_
 conv=>cbv
 refine .go i8.toNat hl fun ae ⟨aa,ac⟩ ad=>?_
 conv=>cbv
 generalize ab:B2 (⟨aa,ac⟩:Al) name=r4
 refine .bx [0] [] hP (Xbm ab) rfl rfl rfl rfl ?_
 cases r4
 conv=>cbv
 refine .add fun v5 ag=>?_
 conv=>cbv
 exact .go [] (v5) (hJ _ ⟨by omega,by omega,fun j hj h=>if e:j=i8.toNat then by subst e;rw[←ad];exact ab else hb j hj (by omega)⟩ mlt)
 conv=>cbv
 have e:i8=Dy l name:=(by exact Ob (p:=fun x=>B2 x name) h0 (by omega) (ad▸ab) hb)
 rw[hr]at e
 subst e
 exact hQ _ _ (.of [] (.inl rfl) rfl rfl rfl rfl)
 conv=>cbv
 have e:(-1)=Dy l name:=(by exact Jk (p:=fun x=>B2 x name) fun j hj=>hb j hj (by omega))
 rw[hr]at e
 subst e
 exact hQ _ _ (.of [] (.inl rfl) rfl rfl rfl rfl)
theorem Ns{l:List Bs}(hl:l.map A5=xl)(hn:l.length<2^40)(hr:Ed l id=o):Fn Tryz.prog 302 [.d (.row 3 xl),.clo 303 [.ptr 0 0 0]] [.box 3 [I id]] ⟨I o,[],[]⟩:=by
 refine Fn.goR Fc Tryz.func302 fun P hP Q hQ=>?_
 conv=>cbv
 refine .go hl fun v1 ag=>?_
 conv=>cbv
 refine LoopW.lp (κ:=Int) Fc hP [] [0,1,7] (fun i8=>[(8,I i8)]) (fun i8=>[])
  (fun i8=>0≤i8∧i8≤l.length∧∀(j:Nat) (hj:j<l.length),j<i8.toNat→Eh l[j] id=false)
  (fun i8=>(l.length - i8).toNat) (0) ⟨by omega,by omega,fun j _ h=>by simp at h⟩ ⟨rfl,trivial⟩ rfl ?_
 rintro i8 J ⟨h0,h1,hb⟩ hJ
 conv=>cbv
 refine .lss (fun h2=>?_) fun h2=>?_
 conv=>cbv
 refine .go i8.toNat hl fun af ⟨ad,aa,ab⟩ ae=>?_
 conv=>cbv
 generalize ac:Eh (⟨ad,aa,ab⟩:Bs) id=r4
 refine .bx [0] [] hP (S6 ac) rfl rfl rfl rfl ?_
 cases r4
 conv=>cbv
 refine .add fun v5 ah=>?_
 conv=>cbv
 exact .go [] (v5) (hJ _ ⟨by omega,by omega,fun j hj h=>if e:j=i8.toNat then by subst e;rw[←ae];exact ac else hb j hj (by omega)⟩ mlt)
 conv=>cbv
 have e:i8=Ed l id:=(by exact Ob (p:=fun x=>Eh x id) h0 (by omega) (ae▸ac) hb)
 rw[hr]at e
 subst e
 exact hQ _ _ (.of [] (.inl rfl) rfl rfl rfl rfl)
 conv=>cbv
 have e:(-1)=Ed l id:=(by exact Jk (p:=fun x=>Eh x id) fun j hj=>hb j hj (by omega))
 rw[hr]at e
 subst e
 exact hQ _ _ (.of [] (.inl rfl) rfl rfl rfl rfl)
theorem My(hl:l.map Ae=xl)(hn:l.length<2^40)(hr:A7 l name=o):Fn Tryz.prog 280 [.d (.row 2 xl),S name] [] ⟨I o,[],[]⟩:=by
 refine Fn.go Fc Tryz.func280 fun P hP Q hQ=>?_
 conv=>cbv
 generalize aa:Dy l name=r1
 refine .bx [0] [] hP (Me hl (by omega) aa) rfl rfl rfl rfl ?_
 conv=>cbv
 have e:r1=A7 l name:=(by unfold A7;exact aa.symm)
 rw[hr]at e
 subst e
 exact hQ _ _ (.i rfl rfl)
theorem K2(Ap:Ah.map A5=Bk)(As:Ak.map Ae=Bh)(Au:Aj.map Ae=Bf)(At:Ai.map cS=Bl)(hn:Ah.length<2^40)(hr:Hh (⟨Ah,Ak,Aj,Ai,An,Am⟩:Ac) id=o):Fn Tryz.prog 249 [.agg [.d (.row 3 Bk),.d (.row 2 Bh),.d (.row 2 Bf),.d (.row 1 Bl),I An,I Am],I id] [] ⟨I o,[],[]⟩:=by
 refine Fn.go Fc Tryz.func249 fun P hP Q hQ=>?_
 conv=>cbv
 generalize aa:Ed Ah id=r1
 refine .bx [1] [] hP (Ns Ap (by omega) aa) rfl rfl rfl rfl ?_
 conv=>cbv
 have e:r1=Hh (⟨Ah,Ak,Aj,Ai,An,Am⟩:Ac) id:=(by unfold Hh;exact aa.symm)
 rw[hr]at e
 subst e
 exact hQ _ _ (.i rfl rfl)
theorem Lp(Ap:Ah.map A5=Bk)(As:Ak.map Ae=Bh)(Au:Aj.map Ae=Bf)(At:Ai.map cS=Bl)(hd:okD ⟨Ah,Ak,Aj,Ai,An,Am⟩)(hr:Cm (⟨Ah,Ak,Aj,Ai,An,Am⟩:Ac) name=o):Fn Tryz.prog 217 [.agg [.d (.row 3 Bk),.d (.row 2 Bh),.d (.row 2 Bf),.d (.row 1 Bl),I An,I Am],S name] [] ⟨I o,[],[]⟩:=by
 refine Fn.go Fc Tryz.func217 fun P hP Q hQ=>?_
 conv=>cbv
 obtain⟨d1,d2,d3,d4,d5,d6⟩:=hd
 simp only[]at d1 d2 d3 d4 d5 d6
 generalize aa:A7 Ak name=r1
 refine .dd hP (My As (by omega) aa) ?_
 conv=>cbv
 have hb:=Hm aa
 refine .lss (fun h2=>?_) fun h2=>?_
 conv=>cbv
 have e:(-1)=Cm (⟨Ah,Ak,Aj,Ai,An,Am⟩:Ac) name:=(by unfold Cm;rw[if_pos (by simp only[];omega)])
 rw[hr]at e
 subst e
 exact hQ _ _ (.i rfl rfl)
 conv=>cbv
 refine .go r1.toNat As fun ab ⟨ae,ac⟩ af=>?_
 conv=>cbv
 generalize ad:Hh (⟨Ah,Ak,Aj,Ai,An,Am⟩:Ac) ac=r4
 refine .dd hP (K2 Ap As Au At (by omega) ad) ?_
 conv=>cbv
 have e:r4=Cm (⟨Ah,Ak,Aj,Ai,An,Am⟩:Ac) name:=(by unfold Cm Cp;simp only[];rw[aa,if_neg (by omega),if_neg (by omega),←gD ab,←af];exact ad.symm)
 rw[hr]at e
 subst e
 exact hQ _ _ (.i rfl rfl)
theorem Xgt(Ap:Ah.map A5=Bk)(As:Ak.map Ae=Bh)(Au:Aj.map Ae=Bf)(At:Ai.map cS=Bl)(hd:okD ⟨Ah,Ak,Aj,Ai,An,Am⟩)(hr:Fr (⟨Ah,Ak,Aj,Ai,An,Am⟩:Ac) name=(⟨oaid,oatex,oasur⟩,ob)):Fn Tryz.prog 147 [.agg [.d (.row 3 Bk),.d (.row 2 Bh),.d (.row 2 Bf),.d (.row 1 Bl),I An,I Am],S name] [] ⟨.tup [.agg [I oaid,S oatex,I oasur],B ob],[],[]⟩:=by
 refine Fn.go Fc Tryz.func147 fun P hP Q hQ=>?_
 conv=>cbv
 generalize aa:Cm (⟨Ah,Ak,Aj,Ai,An,Am⟩:Ac) name=r1
 refine .dd hP (Lp Ap As Au At hd aa) ?_
 conv=>cbv
 have hb:=G1 aa
 simp only[]at hb
 refine .lss (fun h2=>?_) fun h2=>?_
 conv=>cbv
 have e:((⟨0,tx [],0⟩:Bs),false)=Fr (⟨Ah,Ak,Aj,Ai,An,Am⟩:Ac) name:=(by unfold Fr;rw[if_pos (by rw[aa];omega)])
 rw[hr]at e
 simp only[Prod.mk.injEq,Bs.mk.injEq]at e
 obtain⟨⟨rfl,rfl,rfl⟩,rfl⟩:=e
 refine hQ _ _ ?_
 exact .many (.inl rfl) rfl rfl (.agg (.d rfl rfl (.d rfl rfl (.d rfl rfl (.nil)))) (.d rfl rfl (.nil)))
 conv=>cbv
 refine .go r1.toNat Ap fun af ⟨ad,ab,ac⟩ ae=>?_
 conv=>cbv
 have e:((⟨ad,ab,ac⟩:Bs),true)=Fr (⟨Ah,Ak,Aj,Ai,An,Am⟩:Ac) name:=(by unfold Fr;rw[aa,if_neg (by omega)];simp only[];rw[←gD (show r1.toNat<Ah.length by omega)];rw[←ae])
 rw[hr]at e
 simp only[Prod.mk.injEq,Bs.mk.injEq]at e
 obtain⟨⟨rfl,rfl,rfl⟩,rfl⟩:=e
 refine hQ _ _ ?_
 exact .many (.inl rfl) rfl rfl (.agg (.d rfl rfl (.d rfl rfl (.d rfl rfl (.nil)))) (.d rfl rfl (.nil)))
theorem Xeu(Ap:Ah.map A5=Bk)(As:Ak.map Ae=Bh)(Au:Aj.map Ae=Bf)(At:Ai.map cS=Bl)(hd:okD ⟨Ah,Ak,Aj,Ai,An,Am⟩)(hr:Fm (⟨Ah,Ak,Aj,Ai,An,Am⟩:Ac) name=(oa,ob)):Fn Tryz.prog 261 [.agg [.d (.row 3 Bk),.d (.row 2 Bh),.d (.row 2 Bf),.d (.row 1 Bl),I An,I Am],S name] [] ⟨.tup [S oa,B ob],[],[]⟩:=by
 refine Fn.go Fc Tryz.func261 fun P hP Q hQ=>?_
 conv=>cbv
 rcases ab:Fr (⟨Ah,Ak,Aj,Ai,An,Am⟩:Ac) name with⟨⟨ad,aa,ac⟩,ae⟩
 refine .dd hP (Xgt Ap As Au At hd ab) ?_
 conv=>cbv
 have e:(aa,ae)=Fm (⟨Ah,Ak,Aj,Ai,An,Am⟩:Ac) name:=(by unfold Fm;rw[ab])
 rw[hr]at e
 simp only[Prod.mk.injEq]at e
 obtain⟨rfl,rfl⟩:=e
 refine hQ _ _ ?_
 exact .many (.inl rfl) rfl rfl (.d rfl rfl (.d rfl rfl (.nil)))
theorem Mu(hl:l.map Ae=xl)(hn:l.length<2^40)(hr:Cp l name=o):Fn Tryz.prog 213 [.d (.row 2 xl),S name] [] ⟨I o,[],[]⟩:=by
 refine Fn.go Fc Tryz.func213 fun P hP Q hQ=>?_
 conv=>cbv
 refine LoopW.lp (κ:=Int) Fc hP [] [0,1] (fun i5=>[(5,I i5)]) (fun i5=>[])
  (fun i5=>0≤i5∧i5≤l.length∧∀(j:Nat) (hj:j<l.length),j<i5.toNat→B2 l[j] name=false)
  (fun i5=>(l.length - i5).toNat) (0) ⟨by omega,by omega,fun j _ h=>by simp at h⟩ ⟨rfl,trivial⟩ rfl ?_
 rintro i5 J ⟨h0,h1,hb⟩ hJ
 conv=>cbv
 refine .go hl fun v1 ai=>?_
 conv=>cbv
 refine .lss (fun h2=>?_) fun h2=>?_
 conv=>cbv
 refine .go i5.toNat hl fun ag ⟨ad,ah⟩ aa=>?_
 conv=>cbv
 refine .eql (fun h4=>?_) fun h4=>?_
 conv=>cbv
 refine .go i5.toNat hl fun ab ⟨ae,ac⟩ af=>?_
 conv=>cbv
 have e:ac=Cp l name:=(by have e2:A7 l name=i5:=(Ob (p:=fun x=>B2 x name) (l:=l) h0 (by omega) (by rw[←aa];unfold B2;rw[decide_eq_true_eq];exact h4) hb).symm;unfold Cp;rw[e2,if_neg (by omega),←gD ab,←af])
 rw[hr]at e
 subst e
 exact hQ _ _ (.i rfl rfl)
 conv=>cbv
 refine .add fun v5 aj=>?_
 conv=>cbv
 exact .go [] (v5) (hJ _ ⟨by omega,by omega,fun j hj h=>if e:j=i5.toNat then by subst e;rw[←aa];unfold B2;rw[decide_eq_false_iff_not];exact h4 else hb j hj (by omega)⟩ mlt)
 conv=>cbv
 have e:0=Cp l name:=(by have e2:A7 l name= -1:=(Jk (p:=fun x=>B2 x name) fun j hj=>hb j hj (by omega)).symm;unfold Cp;rw[e2,if_pos (by omega)])
 rw[hr]at e
 subst e
 exact hQ _ _ (.i rfl rfl)
theorem Pw(Ap:Ah.map A5=Bk)(As:Ak.map Ae=Bh)(Au:Aj.map Ae=Bf)(At:Ai.map cS=Bl)(hn:Ah.length<2^40)(hr:Gp (⟨Ah,Ak,Aj,Ai,An,Am⟩:Ac) id=o):Fn Tryz.prog 212 [.agg [.d (.row 3 Bk),.d (.row 2 Bh),.d (.row 2 Bf),.d (.row 1 Bl),I An,I Am],I id] [] ⟨I o,[],[]⟩:=by
 refine Fn.go Fc Tryz.func212 fun P hP Q hQ=>?_
 conv=>cbv
 refine LoopW.lp (κ:=Int) Fc hP [] [1,2] (fun i5=>[(5,I i5)]) (fun i5=>[])
  (fun i5=>0≤i5∧i5≤Ah.length∧∀(j:Nat) (hj:j<Ah.length),j<i5.toNat→Eh Ah[j] id=false)
  (fun i5=>(Ah.length - i5).toNat) (0) ⟨by omega,by omega,fun j _ h=>by simp at h⟩ ⟨rfl,trivial⟩ rfl ?_
 rintro i5 J ⟨h0,h1,hb⟩ hJ
 conv=>cbv
 refine .go Ap fun v1 af=>?_
 conv=>cbv
 refine .lss (fun h2=>?_) fun h2=>?_
 conv=>cbv
 refine .go i5.toNat Ap fun ad ⟨ae,ab,ac⟩ aa=>?_
 conv=>cbv
 refine .eql (fun h4=>?_) fun h4=>?_
 conv=>cbv
 have e:i5=Gp (⟨Ah,Ak,Aj,Ai,An,Am⟩:Ac) id:=(by exact Ob (p:=fun x=>Eh x id) (l:=Ah) h0 (by omega) (by rw[←aa];unfold Eh;rw[decide_eq_true_eq];exact h4) hb)
 rw[hr]at e
 subst e
 exact hQ _ _ (.i rfl rfl)
 conv=>cbv
 refine .add fun v5 ag=>?_
 conv=>cbv
 exact .go [] (v5) (hJ _ ⟨by omega,by omega,fun j hj h=>if e:j=i5.toNat then by subst e;rw[←aa];unfold Eh;rw[decide_eq_false_iff_not];exact h4 else hb j hj (by omega)⟩ mlt)
 conv=>cbv
 have e:(-1)=Gp (⟨Ah,Ak,Aj,Ai,An,Am⟩:Ac) id:=(by exact Jk (p:=fun x=>Eh x id) (l:=Ah) fun j hj=>hb j hj (by omega))
 rw[hr]at e
 subst e
 exact hQ _ _ (.i rfl rfl)
theorem Ox{o:Bool}(hl:l.map Ae=xl)(hn:l.length<2^40)(hr:D6 l name=o):Fn Tryz.prog 214 [.d (.row 2 xl),S name] [] ⟨B o,[],[]⟩:=by
 refine Fn.go Fc Tryz.func214 fun P hP Q hQ=>?_
 conv=>cbv
 refine LoopW.lp (κ:=Int) Fc hP [] [0,1] (fun i5=>[(5,I i5)]) (fun i5=>[])
  (fun i5=>0≤i5∧i5≤l.length∧∀(j:Nat) (hj:j<l.length),j<i5.toNat→B2 l[j] name=false)
  (fun i5=>(l.length - i5).toNat) (0) ⟨by omega,by omega,fun j _ h=>by simp at h⟩ ⟨rfl,trivial⟩ rfl ?_
 rintro i5 J ⟨h0,h1,hb⟩ hJ
 conv=>cbv
 refine .go hl fun v1 ae=>?_
 conv=>cbv
 refine .lss (fun h2=>?_) fun h2=>?_
 conv=>cbv
 refine .go i5.toNat hl fun ac ⟨ab,ad⟩ aa=>?_
 conv=>cbv
 refine .eql (fun h4=>?_) fun h4=>?_
 conv=>cbv
 have e:true=D6 l name:=(by have e2:A7 l name=i5:=(Ob (p:=fun x=>B2 x name) (l:=l) h0 (by omega) (by rw[←aa];unfold B2;rw[decide_eq_true_eq];exact h4) hb).symm;unfold D6;rw[e2];symm;rw[decide_eq_true_eq];omega)
 rw[hr]at e
 subst e
 exact hQ _ _ (.b rfl rfl)
 conv=>cbv
 refine .add fun v5 af=>?_
 conv=>cbv
 exact .go [] (v5) (hJ _ ⟨by omega,by omega,fun j hj h=>if e:j=i5.toNat then by subst e;rw[←aa];unfold B2;rw[decide_eq_false_iff_not];exact h4 else hb j hj (by omega)⟩ mlt)
 conv=>cbv
 have e:false=D6 l name:=(by have e2:A7 l name= -1:=(Jk (p:=fun x=>B2 x name) fun j hj=>hb j hj (by omega)).symm;unfold D6;rw[e2];rfl)
 rw[hr]at e
 subst e
 exact hQ _ _ (.b rfl rfl)
theorem XhF(Ap:Ah.map A5=Bk)(As:Ak.map Ae=Bh)(Au:Aj.map Ae=Bf)(At:Ai.map cS=Bl)(hd:okD ⟨Ah,Ak,Aj,Ai,An,Am⟩)(hr:Fr (⟨Ah,Ak,Aj,Ai,An,Am⟩:Ac) name=(⟨oaid,oatex,oasur⟩,ob)):Fn Tryz.prog 135 [.agg [.d (.row 3 Bk),.d (.row 2 Bh),.d (.row 2 Bf),.d (.row 1 Bl),I An,I Am],S name] [] ⟨.tup [.agg [I oaid,S oatex,I oasur],B ob],[],[]⟩:=by
 refine Fn.go Fc Tryz.func135 fun P hP Q hQ=>?_
 conv=>cbv
 obtain⟨d1,d2,d3,d4,d5,d6⟩:=hd
 simp only[]at d1 d2 d3 d4 d5 d6
 generalize ab:Cp Ak name=r1
 refine .dd hP (Mu As (by omega) ab) ?_
 conv=>cbv
 generalize aa:Gp (⟨Ah,Ak,Aj,Ai,An,Am⟩:Ac) r1=r2
 refine .dd hP (Pw Ap As Au At (by omega) aa) ?_
 conv=>cbv
 have hb:=Wr (d:=⟨Ah,Ak,Aj,Ai,An,Am⟩) (id:=r1) aa
 simp only[]at hb
 refine .lss (fun h3=>?_) fun h3=>?_
 conv=>cbv
 have e:((⟨0,tx [],0⟩:Bs),false)=Fr (⟨Ah,Ak,Aj,Ai,An,Am⟩:Ac) name:=(by rw[Od,if_pos (.inl (by simp only[];rw[ab,aa];omega))])
 rw[hr]at e
 simp only[Prod.mk.injEq,Bs.mk.injEq]at e
 obtain⟨⟨rfl,rfl,rfl⟩,rfl⟩:=e
 refine hQ _ _ ?_
 exact .many (.inl rfl) rfl rfl (.agg (.d rfl rfl (.d rfl rfl (.d rfl rfl (.nil)))) (.d rfl rfl (.nil)))
 conv=>cbv
 generalize ac:D6 Ak name=r4
 refine .dd hP (Ox As (by omega) ac) ?_
 cases r4
 conv=>cbv
 have e:((⟨0,tx [],0⟩:Bs),false)=Fr (⟨Ah,Ak,Aj,Ai,An,Am⟩:Ac) name:=(by rw[Od,if_pos (.inr ac)])
 rw[hr]at e
 simp only[Prod.mk.injEq,Bs.mk.injEq]at e
 obtain⟨⟨rfl,rfl,rfl⟩,rfl⟩:=e
 refine hQ _ _ ?_
 exact .many (.inl rfl) rfl rfl (.agg (.d rfl rfl (.d rfl rfl (.d rfl rfl (.nil)))) (.d rfl rfl (.nil)))
 conv=>cbv
 refine .go r2.toNat Ap fun ah ⟨af,ad,ae⟩ ag=>?_
 conv=>cbv
 have e:((⟨af,ad,ae⟩:Bs),true)=Fr (⟨Ah,Ak,Aj,Ai,An,Am⟩:Ac) name:=(by rw[Od,if_neg (by simp only[];rw[ab,aa,ac];rintro(h|h);omega;cases h)];simp only[];rw[ab,aa,←gD (show r2.toNat<Ah.length by omega),←ag])
 rw[hr]at e
 simp only[Prod.mk.injEq,Bs.mk.injEq]at e
 obtain⟨⟨rfl,rfl,rfl⟩,rfl⟩:=e
 refine hQ _ _ ?_
 exact .many (.inl rfl) rfl rfl (.agg (.d rfl rfl (.d rfl rfl (.d rfl rfl (.nil)))) (.d rfl rfl (.nil)))
theorem Xej(Ap:Ah.map A5=Bk)(As:Ak.map Ae=Bh)(Au:Aj.map Ae=Bf)(At:Ai.map cS=Bl)(hd:okD ⟨Ah,Ak,Aj,Ai,An,Am⟩)(hr:Fm (⟨Ah,Ak,Aj,Ai,An,Am⟩:Ac) name=(oa,ob)):Fn Tryz.prog 186 [.agg [.d (.row 3 Bk),.d (.row 2 Bh),.d (.row 2 Bf),.d (.row 1 Bl),I An,I Am],S name] [] ⟨.tup [S oa,B ob],[],[]⟩:=by
 refine Fn.go Fc Tryz.func186 fun P hP Q hQ=>?_
 conv=>cbv
 rcases ab:Fr (⟨Ah,Ak,Aj,Ai,An,Am⟩:Ac) name with⟨⟨ad,aa,ac⟩,ae⟩
 refine .dd hP (XhF Ap As Au At hd ab) ?_
 conv=>cbv
 have e:(aa,ae)=Fm (⟨Ah,Ak,Aj,Ai,An,Am⟩:Ac) name:=(by unfold Fm;rw[ab])
 rw[hr]at e
 simp only[Prod.mk.injEq]at e
 obtain⟨rfl,rfl⟩:=e
 refine hQ _ _ ?_
 exact .many (.inl rfl) rfl rfl (.d rfl rfl (.d rfl rfl (.nil)))
end
section
open Go.Proofs
open Go.Shelf
def Tryz.lays172_ren:Go.Shelf.Ren:=⟨fun|172=>305|244=>331|245=>324|247=>354|279=>346|280=>347|281=>348|282=>349|287=>323|316=>362|171=>216|205=>363|321=>344|322=>345|243=>279|246=>314|283=>335|284=>336|285=>337|286=>338|129=>357|317=>356|318=>358|319=>359|320=>360|337=>367|338=>368|n=>n,fun|9=>9|3=>3|75=>221|76=>222|4=>4|5=>5|167=>273|37=>135|0=>0|85=>279|2=>2|168=>275|53=>228|175=>229|46=>196|210=>287|127=>249|145=>294|143=>292|21=>21|171=>262|173=>265|212=>282|51=>260|20=>20|213=>283|232=>295|233=>296|80=>225|n=>n,fun|15=>2|16=>3|17=>1|18=>4|19=>5|n=>n⟩
def Tryz.laysM246_ren:Go.Shelf.Ren:=⟨fun|246=>314|283=>335|284=>336|285=>337|286=>338|129=>357|317=>356|318=>358|319=>359|320=>360|337=>367|338=>368|n=>n,fun|2=>2|3=>3|9=>9|4=>4|171=>262|0=>0|53=>228|37=>135|5=>5|173=>265|212=>282|51=>260|20=>20|213=>283|46=>196|232=>295|233=>296|n=>n,fun|17=>1|18=>4|19=>5|n=>n⟩
def Tryz.laysM243_ren:Go.Shelf.Ren:=⟨fun|243=>279|246=>314|283=>335|284=>336|285=>337|286=>338|129=>357|317=>356|318=>358|319=>359|320=>360|337=>367|338=>368|n=>n,fun|3=>3|9=>9|2=>2|4=>4|171=>262|0=>0|53=>228|37=>135|5=>5|173=>265|212=>282|51=>260|20=>20|213=>283|46=>196|232=>295|233=>296|n=>n,fun|17=>1|18=>4|19=>5|n=>n⟩
def Tryz.laysM171_ren:Go.Shelf.Ren:=⟨fun|171=>216|243=>279|246=>314|283=>335|284=>336|285=>337|286=>338|129=>357|317=>356|318=>358|319=>359|320=>360|337=>367|338=>368|n=>n,fun|3=>3|9=>9|2=>2|4=>4|171=>262|0=>0|53=>228|37=>135|5=>5|173=>265|212=>282|51=>260|20=>20|213=>283|46=>196|232=>295|233=>296|n=>n,fun|17=>1|18=>4|19=>5|n=>n⟩
theorem Tryz.laysM171:Go.Proofs.LaysM.n171 Tryz.prog Tryz.laysM171_ren:={
 mixed:=by kernel_rfl
 f129:=Tryz.func357.trans (congrArg some (by kernel_rfl))
 f171:=Tryz.func216.trans (congrArg some (by kernel_rfl))
 f243:=Tryz.func279.trans (congrArg some (by kernel_rfl))
 f246:=Tryz.func314.trans (congrArg some (by kernel_rfl))
 f283:=Tryz.func335.trans (congrArg some (by kernel_rfl))
 f284:=Tryz.func336.trans (congrArg some (by kernel_rfl))
 f285:=Tryz.func337.trans (congrArg some (by kernel_rfl))
 f286:=Tryz.func338.trans (congrArg some (by kernel_rfl))
 f317:=Tryz.func356.trans (congrArg some (by kernel_rfl))
 f318:=Tryz.func358.trans (congrArg some (by kernel_rfl))
 f319:=Tryz.func359.trans (congrArg some (by kernel_rfl))
 f320:=Tryz.func360.trans (congrArg some (by kernel_rfl))
 f337:=Tryz.func367.trans (congrArg some (by kernel_rfl))
 f338:=Tryz.func368.trans (congrArg some (by kernel_rfl))
 t0:=Tryz.underlying0
 a0:=Tryz.isAgg0
 z0:=Tryz.sizeOf0
 v0:=Tryz.zeroValue0
 t2:=Tryz.underlying2
 a2:=Tryz.isAgg2
 z2:=Tryz.sizeOf2
 v2:=Tryz.zeroValue2
 t3:=Tryz.underlying3
 a3:=Tryz.isAgg3
 z3:=Tryz.sizeOf3
 v3:=Tryz.zeroValue3
 t4:=Tryz.underlying4
 a4:=Tryz.isAgg4
 z4:=Tryz.sizeOf4
 v4:=Tryz.zeroValue4
 t5:=Tryz.underlying5
 a5:=Tryz.isAgg5
 z5:=Tryz.sizeOf5
 v5:=Tryz.zeroValue5
 t9:=Tryz.underlying9
 a9:=Tryz.isAgg9
 z9:=Tryz.sizeOf9
 v9:=Tryz.zeroValue9
 t20:=Tryz.underlying20
 a20:=Tryz.isAgg20
 z20:=Tryz.sizeOf20
 v20:=Tryz.zeroValue20
 t37:=Tryz.underlying135
 a37:=Tryz.isAgg135
 z37:=Tryz.sizeOf135
 v37:=Tryz.zeroValue135
 t46:=Tryz.underlying196
 a46:=Tryz.isAgg196
 z46:=Tryz.sizeOf196
 v46:=Tryz.zeroValue196
 t51:=Tryz.underlying260
 a51:=Tryz.isAgg260
 z51:=Tryz.sizeOf260
 v51:=Tryz.zeroValue260
 t53:=Tryz.underlying228
 a53:=Tryz.isAgg228
 z53:=Tryz.sizeOf228
 v53:=Tryz.zeroValue228
 t171:=Tryz.underlying262
 a171:=Tryz.isAgg262
 z171:=Tryz.sizeOf262
 v171:=Tryz.zeroValue262
 t173:=Tryz.underlying265
 a173:=Tryz.isAgg265
 z173:=Tryz.sizeOf265
 v173:=Tryz.zeroValue265
 t212:=Tryz.underlying282
 a212:=Tryz.isAgg282
 z212:=Tryz.sizeOf282
 v212:=Tryz.zeroValue282
 t213:=Tryz.underlying283
 a213:=Tryz.isAgg283
 z213:=Tryz.sizeOf283
 t232:=Tryz.underlying295
 a232:=Tryz.isAgg295
 z232:=Tryz.sizeOf295
 v232:=Tryz.zeroValue295
 t233:=Tryz.underlying296
 a233:=Tryz.isAgg296
 z233:=Tryz.sizeOf296
 v233:=Tryz.zeroValue296
 g17:=by kernel_rfl
 g18:=by kernel_rfl
 g19:=by kernel_rfl
 i0:=by kernel_rfl
 i2:=by kernel_rfl
 i3:=by kernel_rfl
 i4:=by kernel_rfl
 i5:=by kernel_rfl
 i9:=by kernel_rfl
 i20:=by kernel_rfl
 i37:=by kernel_rfl
 i46:=by kernel_rfl
 i51:=by kernel_rfl
 i53:=by kernel_rfl
 i171:=by kernel_rfl
 i173:=by kernel_rfl
 i212:=by kernel_rfl
 i232:=by kernel_rfl
 i233:=by kernel_rfl
 m17:=by kernel_rfl
 m18:=by kernel_rfl
 m19:=by kernel_rfl}
open Go.RowKit Go.Sort Go.Lib in
theorem Tryz.strconv_Itoa(n:Int)(h0: -9223372036854775808≤n)(h1:n≤9223372036854775807)(w:World)(htab:Lib.TabIs Tryz.prog w "internal/strconv.uint64pow10" .u64 Lib.pow10Tab):
  Calls Tryz.prog 216 #[.int .i64 n] w fun e w'=>e= .returned (.string ⟨(Lib.itoa n).toArray⟩)∧∃k os,w'=grow (w.drewN k) os:=Any.strconv_Itoa Tryz.laysM171 n h0 h1 w htab
def Tryz.laysC172_ren:Go.Shelf.Ren:=⟨fun|172=>305|244=>331|245=>324|247=>354|279=>346|280=>347|281=>348|282=>349|287=>323|316=>362|171=>216|205=>363|321=>344|322=>345|243=>279|246=>314|283=>335|284=>336|285=>337|286=>338|129=>357|317=>356|318=>358|319=>359|320=>360|337=>367|338=>368|n=>n,fun|9=>9|3=>3|75=>221|76=>222|4=>4|5=>5|167=>273|37=>135|0=>0|85=>279|2=>2|168=>275|53=>228|175=>229|46=>196|210=>287|127=>249|145=>294|143=>292|21=>21|171=>262|173=>265|212=>282|51=>260|20=>20|213=>283|232=>295|233=>296|80=>225|n=>n,fun|15=>2|16=>3|17=>1|18=>4|19=>5|n=>n⟩
theorem Tryz.laysC172:Go.Proofs.LaysC.n172 Tryz.prog Tryz.laysC172_ren:={
 mixed:=by kernel_rfl
 f129:=Tryz.func357.trans (congrArg some (by kernel_rfl))
 f171:=Tryz.func216.trans (congrArg some (by kernel_rfl))
 f172:=Tryz.func305.trans (congrArg some (by kernel_rfl))
 f205:=Tryz.func363.trans (congrArg some (by kernel_rfl))
 f243:=Tryz.func279.trans (congrArg some (by kernel_rfl))
 f244:=Tryz.func331.trans (congrArg some (by kernel_rfl))
 f245:=Tryz.func324.trans (congrArg some (by kernel_rfl))
 f246:=Tryz.func314.trans (congrArg some (by kernel_rfl))
 f247:=Tryz.func354.trans (congrArg some (by kernel_rfl))
 f279:=Tryz.func346.trans (congrArg some (by kernel_rfl))
 f280:=Tryz.func347.trans (congrArg some (by kernel_rfl))
 f281:=Tryz.func348.trans (congrArg some (by kernel_rfl))
 f282:=Tryz.func349.trans (congrArg some (by kernel_rfl))
 f283:=Tryz.func335.trans (congrArg some (by kernel_rfl))
 f284:=Tryz.func336.trans (congrArg some (by kernel_rfl))
 f285:=Tryz.func337.trans (congrArg some (by kernel_rfl))
 f286:=Tryz.func338.trans (congrArg some (by kernel_rfl))
 f287:=Tryz.func323.trans (congrArg some (by kernel_rfl))
 f316:=Tryz.func362.trans (congrArg some (by kernel_rfl))
 f317:=Tryz.func356.trans (congrArg some (by kernel_rfl))
 f318:=Tryz.func358.trans (congrArg some (by kernel_rfl))
 f319:=Tryz.func359.trans (congrArg some (by kernel_rfl))
 f320:=Tryz.func360.trans (congrArg some (by kernel_rfl))
 f321:=Tryz.func344.trans (congrArg some (by kernel_rfl))
 f322:=Tryz.func345.trans (congrArg some (by kernel_rfl))
 f337:=Tryz.func367.trans (congrArg some (by kernel_rfl))
 f338:=Tryz.func368.trans (congrArg some (by kernel_rfl))
 t0:=Tryz.underlying0
 a0:=Tryz.isAgg0
 z0:=Tryz.sizeOf0
 v0:=Tryz.zeroValue0
 t2:=Tryz.underlying2
 a2:=Tryz.isAgg2
 z2:=Tryz.sizeOf2
 v2:=Tryz.zeroValue2
 t3:=Tryz.underlying3
 a3:=Tryz.isAgg3
 z3:=Tryz.sizeOf3
 v3:=Tryz.zeroValue3
 t4:=Tryz.underlying4
 a4:=Tryz.isAgg4
 z4:=Tryz.sizeOf4
 v4:=Tryz.zeroValue4
 t5:=Tryz.underlying5
 a5:=Tryz.isAgg5
 z5:=Tryz.sizeOf5
 v5:=Tryz.zeroValue5
 t9:=Tryz.underlying9
 a9:=Tryz.isAgg9
 z9:=Tryz.sizeOf9
 v9:=Tryz.zeroValue9
 t20:=Tryz.underlying20
 a20:=Tryz.isAgg20
 z20:=Tryz.sizeOf20
 v20:=Tryz.zeroValue20
 t21:=Tryz.underlying21
 a21:=Tryz.isAgg21
 z21:=Tryz.sizeOf21
 v21:=Tryz.zeroValue21
 t37:=Tryz.underlying135
 a37:=Tryz.isAgg135
 z37:=Tryz.sizeOf135
 v37:=Tryz.zeroValue135
 t46:=Tryz.underlying196
 a46:=Tryz.isAgg196
 z46:=Tryz.sizeOf196
 v46:=Tryz.zeroValue196
 t51:=Tryz.underlying260
 a51:=Tryz.isAgg260
 z51:=Tryz.sizeOf260
 v51:=Tryz.zeroValue260
 t53:=Tryz.underlying228
 a53:=Tryz.isAgg228
 z53:=Tryz.sizeOf228
 v53:=Tryz.zeroValue228
 t75:=Tryz.underlying221
 a75:=Tryz.isAgg221
 z75:=Tryz.sizeOf221
 v75:=Tryz.zeroValue221
 t76:=Tryz.underlying222
 a76:=Tryz.isAgg222
 z76:=Tryz.sizeOf222
 v76:=Tryz.zeroValue222
 t85:=Tryz.underlying279
 a85:=Tryz.isAgg279
 z85:=Tryz.sizeOf279
 v85:=Tryz.zeroValue279
 t127:=Tryz.underlying249
 a127:=Tryz.isAgg249
 z127:=Tryz.sizeOf249
 v127:=Tryz.zeroValue249
 t143:=Tryz.underlying292
 a143:=Tryz.isAgg292
 z143:=Tryz.sizeOf292
 v143:=Tryz.zeroValue292
 t145:=Tryz.underlying294
 a145:=Tryz.isAgg294
 z145:=Tryz.sizeOf294
 v145:=Tryz.zeroValue294
 t167:=Tryz.underlying273
 a167:=Tryz.isAgg273
 z167:=Tryz.sizeOf273
 v167:=Tryz.zeroValue273
 t168:=Tryz.underlying275
 a168:=Tryz.isAgg275
 z168:=Tryz.sizeOf275
 v168:=Tryz.zeroValue275
 t171:=Tryz.underlying262
 a171:=Tryz.isAgg262
 z171:=Tryz.sizeOf262
 v171:=Tryz.zeroValue262
 t173:=Tryz.underlying265
 a173:=Tryz.isAgg265
 z173:=Tryz.sizeOf265
 v173:=Tryz.zeroValue265
 t175:=Tryz.underlying229
 a175:=Tryz.isAgg229
 z175:=Tryz.sizeOf229
 v175:=Tryz.zeroValue229
 t210:=Tryz.underlying287
 a210:=Tryz.isAgg287
 z210:=Tryz.sizeOf287
 v210:=Tryz.zeroValue287
 t212:=Tryz.underlying282
 a212:=Tryz.isAgg282
 z212:=Tryz.sizeOf282
 v212:=Tryz.zeroValue282
 t213:=Tryz.underlying283
 a213:=Tryz.isAgg283
 z213:=Tryz.sizeOf283
 t232:=Tryz.underlying295
 a232:=Tryz.isAgg295
 z232:=Tryz.sizeOf295
 v232:=Tryz.zeroValue295
 t233:=Tryz.underlying296
 a233:=Tryz.isAgg296
 z233:=Tryz.sizeOf296
 v233:=Tryz.zeroValue296
 g15:=by kernel_rfl
 g16:=by kernel_rfl
 g17:=by kernel_rfl
 g18:=by kernel_rfl
 g19:=by kernel_rfl
 t80:=Tryz.underlying225
 a80:=Tryz.isAgg225
 z80:=Tryz.sizeOf225
 v80:=Tryz.zeroValue225
 i0:=by kernel_rfl
 i2:=by kernel_rfl
 i3:=by kernel_rfl
 i4:=by kernel_rfl
 i5:=by kernel_rfl
 i9:=by kernel_rfl
 i20:=by kernel_rfl
 i21:=by kernel_rfl
 i37:=by kernel_rfl
 i46:=by kernel_rfl
 i51:=by kernel_rfl
 i53:=by kernel_rfl
 i75:=by kernel_rfl
 i76:=by kernel_rfl
 i80:=by kernel_rfl
 i85:=by kernel_rfl
 i127:=by kernel_rfl
 i143:=by kernel_rfl
 i145:=by kernel_rfl
 i167:=by kernel_rfl
 i168:=by kernel_rfl
 i171:=by kernel_rfl
 i173:=by kernel_rfl
 i175:=by kernel_rfl
 i210:=by kernel_rfl
 i212:=by kernel_rfl
 i232:=by kernel_rfl
 i233:=by kernel_rfl
 m15:=by kernel_rfl
 m16:=by kernel_rfl
 m17:=by kernel_rfl
 m18:=by kernel_rfl
 m19:=by kernel_rfl
 c0:=by kernel_rfl
 c2:=by kernel_rfl
 c3:=by kernel_rfl
 c4:=by kernel_rfl
 c5:=by kernel_rfl
 c9:=by kernel_rfl
 c20:=by kernel_rfl
 c21:=by kernel_rfl
 c37:=by kernel_rfl
 c46:=by kernel_rfl
 c51:=by kernel_rfl
 c53:=by kernel_rfl
 c75:=by kernel_rfl
 c76:=by kernel_rfl
 c80:=by kernel_rfl
 c85:=by kernel_rfl
 c127:=by kernel_rfl
 c143:=by kernel_rfl
 c145:=by kernel_rfl
 c167:=by kernel_rfl
 c168:=by kernel_rfl
 c171:=by kernel_rfl
 c173:=by kernel_rfl
 c175:=by kernel_rfl
 c210:=by kernel_rfl
 c212:=by kernel_rfl
 c213:=by kernel_rfl
 c232:=by kernel_rfl
 c233:=by kernel_rfl}
open Go.RowKit in
theorem Tryz.strconv_Atoi_ok(s:ByteArray)(hmax:s.size≤9223372036854775806)(v:Int)(h:Lib.atoiAll s.data.toList= .ok v)(w:World):
  Calls Tryz.prog 305 #[.string s] w fun e w'=>e= .returned (.tuple #[.int .i64 v,.nilIface])∧(w'=w∨∃t,w'=Lib.bytesWorld w 5 t):=Any.strconv_Atoi_ok Tryz.laysC172 s hmax v h w
open Go.RowKit in
theorem Tryz.strconv_Atoi_syntax(s:ByteArray)(hlim:s.size≤281474976710656)(h:Lib.atoiAll s.data.toList=(Lib.atoiAll []))(ev:Value)(w:World)(hv:w.cell? ⟨2,0,none⟩=some ev)(hev:ev= .nilIface∨∃te pe,ev= .iface te pe):
  Calls Tryz.prog 305 #[.string s] w fun e w'=>∃N,e= .returned (.tuple #[.int .i64 (0),.iface 275 (.pointer (some ⟨N,0,none⟩))])∧w.heap.size≤N∧w'.heap[N]? =some (.cells #[.string ⟨#[65,116,111,105]⟩,.string s,ev] 287 (0,0))∧Below w.heap.size w w':=Any.strconv_Atoi_syntax Tryz.laysC172 s hlim h ev w hv hev
open Go.RowKit in
theorem Tryz.strconv_Atoi_range(s:ByteArray)(hlim:s.size≤281474976710656)(h:Lib.atoiAll s.data.toList= .range)(ev:Value)(w:World)(hv:w.cell? ⟨3,0,none⟩=some ev)(hev:ev= .nilIface∨∃te pe,ev= .iface te pe):
  Calls Tryz.prog 305 #[.string s] w fun e w'=>∃N,e= .returned (.tuple #[.int .i64 (Lib.atoiSat s.data.toList),.iface 275 (.pointer (some ⟨N,0,none⟩))])∧w.heap.size≤N∧w'.heap[N]? =some (.cells #[.string ⟨#[65,116,111,105]⟩,.string s,ev] 287 (0,0))∧Below w.heap.size w w':=Any.strconv_Atoi_range Tryz.laysC172 s hlim h ev w hv hev
def Tryz.lays219_ren:Go.Shelf.Ren:=⟨fun|219=>330|217=>350|225=>351|224=>352|267=>353|266=>364|314=>365|n=>n,fun|9=>9|3=>3|4=>4|5=>5|46=>196|146=>267|51=>260|n=>n,fun|1=>0|n=>n⟩
theorem Tryz.lays219:Go.Proofs.Lays.n219 Tryz.prog Tryz.lays219_ren:={
 mixed:=by kernel_rfl
 f217:=Tryz.func350.trans (congrArg some (by kernel_rfl))
 f219:=Tryz.func330.trans (congrArg some (by kernel_rfl))
 f224:=Tryz.func352.trans (congrArg some (by kernel_rfl))
 f225:=Tryz.func351.trans (congrArg some (by kernel_rfl))
 f266:=Tryz.func364.trans (congrArg some (by kernel_rfl))
 f267:=Tryz.func353.trans (congrArg some (by kernel_rfl))
 f314:=Tryz.func365.trans (congrArg some (by kernel_rfl))
 t3:=Tryz.underlying3
 a3:=Tryz.isAgg3
 z3:=Tryz.sizeOf3
 v3:=Tryz.zeroValue3
 t4:=Tryz.underlying4
 a4:=Tryz.isAgg4
 z4:=Tryz.sizeOf4
 v4:=Tryz.zeroValue4
 t5:=Tryz.underlying5
 a5:=Tryz.isAgg5
 z5:=Tryz.sizeOf5
 v5:=Tryz.zeroValue5
 t9:=Tryz.underlying9
 a9:=Tryz.isAgg9
 z9:=Tryz.sizeOf9
 v9:=Tryz.zeroValue9
 t46:=Tryz.underlying196
 a46:=Tryz.isAgg196
 z46:=Tryz.sizeOf196
 v46:=Tryz.zeroValue196
 t51:=Tryz.underlying260
 a51:=Tryz.isAgg260
 z51:=Tryz.sizeOf260
 v51:=Tryz.zeroValue260
 t146:=Tryz.underlying267
 a146:=Tryz.isAgg267
 z146:=Tryz.sizeOf267
 v146:=Tryz.zeroValue267
 g1:=by kernel_rfl}
open Go.RowKit Go.Lib in
theorem Tryz.stringslite_Index_one(s:ByteArray)(c:UInt8)(w:World):
  Calls Tryz.prog 330 #[.string s,.string ⟨#[c]⟩] w fun e w'=>e= .returned (.int .i64 (Lib.indexByte s.data.toList c))∧w'=w:=Any.stringslite_Index_one Tryz.lays219 s c w
def Tryz.lays105_ren:Go.Shelf.Ren:=⟨fun|105=>267|212=>315|99=>316|165=>317|166=>271|170=>272|169=>273|263=>339|264=>340|206=>341|240=>319|241=>342|276=>343|277=>361|n=>n,fun|9=>9|3=>3|4=>4|20=>20|0=>0|46=>196|109=>244|5=>5|72=>219|76=>222|51=>260|146=>267|53=>228|148=>269|70=>217|37=>135|75=>221|127=>249|164=>271|80=>225|n=>n,fun|n=>n⟩
theorem Tryz.lays105:Go.Proofs.Lays.n105 Tryz.prog Tryz.lays105_ren:={
 mixed:=by kernel_rfl
 f99:=Tryz.func316.trans (congrArg some (by kernel_rfl))
 f105:=Tryz.func267.trans (congrArg some (by kernel_rfl))
 f165:=Tryz.func317.trans (congrArg some (by kernel_rfl))
 f166:=Tryz.func271.trans (congrArg some (by kernel_rfl))
 f169:=Tryz.func273.trans (congrArg some (by kernel_rfl))
 f170:=Tryz.func272.trans (congrArg some (by kernel_rfl))
 f206:=Tryz.func341.trans (congrArg some (by kernel_rfl))
 f212:=Tryz.func315.trans (congrArg some (by kernel_rfl))
 f240:=Tryz.func319.trans (congrArg some (by kernel_rfl))
 f241:=Tryz.func342.trans (congrArg some (by kernel_rfl))
 f263:=Tryz.func339.trans (congrArg some (by kernel_rfl))
 f264:=Tryz.func340.trans (congrArg some (by kernel_rfl))
 f276:=Tryz.func343.trans (congrArg some (by kernel_rfl))
 f277:=Tryz.func361.trans (congrArg some (by kernel_rfl))
 t0:=Tryz.underlying0
 a0:=Tryz.isAgg0
 z0:=Tryz.sizeOf0
 v0:=Tryz.zeroValue0
 t3:=Tryz.underlying3
 a3:=Tryz.isAgg3
 z3:=Tryz.sizeOf3
 v3:=Tryz.zeroValue3
 t4:=Tryz.underlying4
 a4:=Tryz.isAgg4
 z4:=Tryz.sizeOf4
 v4:=Tryz.zeroValue4
 t5:=Tryz.underlying5
 a5:=Tryz.isAgg5
 z5:=Tryz.sizeOf5
 v5:=Tryz.zeroValue5
 t9:=Tryz.underlying9
 a9:=Tryz.isAgg9
 z9:=Tryz.sizeOf9
 v9:=Tryz.zeroValue9
 t20:=Tryz.underlying20
 a20:=Tryz.isAgg20
 z20:=Tryz.sizeOf20
 v20:=Tryz.zeroValue20
 t37:=Tryz.underlying135
 a37:=Tryz.isAgg135
 z37:=Tryz.sizeOf135
 v37:=Tryz.zeroValue135
 t46:=Tryz.underlying196
 a46:=Tryz.isAgg196
 z46:=Tryz.sizeOf196
 v46:=Tryz.zeroValue196
 t51:=Tryz.underlying260
 a51:=Tryz.isAgg260
 z51:=Tryz.sizeOf260
 v51:=Tryz.zeroValue260
 t53:=Tryz.underlying228
 a53:=Tryz.isAgg228
 z53:=Tryz.sizeOf228
 v53:=Tryz.zeroValue228
 t70:=Tryz.underlying217
 a70:=Tryz.isAgg217
 z70:=Tryz.sizeOf217
 v70:=Tryz.zeroValue217
 t72:=Tryz.underlying219
 a72:=Tryz.isAgg219
 z72:=Tryz.sizeOf219
 v72:=Tryz.zeroValue219
 t75:=Tryz.underlying221
 a75:=Tryz.isAgg221
 z75:=Tryz.sizeOf221
 v75:=Tryz.zeroValue221
 t76:=Tryz.underlying222
 a76:=Tryz.isAgg222
 z76:=Tryz.sizeOf222
 v76:=Tryz.zeroValue222
 t109:=Tryz.underlying244
 a109:=Tryz.isAgg244
 z109:=Tryz.sizeOf244
 v109:=Tryz.zeroValue244
 t127:=Tryz.underlying249
 a127:=Tryz.isAgg249
 z127:=Tryz.sizeOf249
 v127:=Tryz.zeroValue249
 t146:=Tryz.underlying267
 a146:=Tryz.isAgg267
 z146:=Tryz.sizeOf267
 v146:=Tryz.zeroValue267
 t148:=Tryz.underlying269
 a148:=Tryz.isAgg269
 z148:=Tryz.sizeOf269
 v148:=Tryz.zeroValue269
 t164:=Tryz.underlying271
 a164:=Tryz.isAgg271
 z164:=Tryz.sizeOf271
 v164:=Tryz.zeroValue271}
theorem Tryz.Builder_Extra_105:Builder.Extra Tryz.prog Tryz.lays105_ren:={
 sizeBuilder:=by kernel_rfl
 liesBuilder:=by kernel_rfl
 t5:=Tryz.underlying5
 a5:=Tryz.isAgg5
 z5:=Tryz.sizeOf5
 v5:=Tryz.zeroValue5
 infoByte:=by kernel_rfl
 cellsByte:=by kernel_rfl
 sizeByte:=by kernel_rfl
 neB5:=by decide}
open Go.RowKit Go.Lib in
theorem Tryz.strings_Repeat(s:ByteArray)(c:Nat)(w:World)(hc:c≤9223372036854775807)(hlen:s.size*c≤140737488355328):
  Calls Tryz.prog 267 #[.string s,.int .i64 c] w fun e w'=>e= .returned (.string ⟨(Lib.repeatL s.data.toList c).toArray⟩)∧Below w.heap.size w w':=Any.strings_Repeat Tryz.lays105 Tryz.Builder_Extra_105 s c w hc hlen
end
section
open Go Go.Proofs
set_option maxRecDepth 20000
set_option maxHeartbeats 4000000
def Xdl:List (Nat×TyRow):=[ty2,ty3,ty4,ty5,ty9,XeJ,Xjc,Xjv]
theorem XbC:B1 Tryz.prog Xdl:=B1.of (by kernel_rfl)
theorem Mp:Setup Tryz.prog Xdl:=⟨XbC,mixed⟩
def dig(n:Nat):UInt8:=if n% 16<10 then UInt8.ofNat (48+n% 16)else UInt8.ofNat (87+n% 16)
def Xev:Nat→Nat→List UInt8
 |0,_=>[]
 |k+1,n=>Xev k (n/16)++[dig n]
def Xbc(n:Nat):List UInt8:=if h:n<16 then[dig n]else Xbc (n/16)++[dig n]
termination_by n
decreasing_by omega
theorem Ql{n:Nat}(h:n<16):Xbc n=[dig n]:=by rw[Xbc,dif_pos h]
theorem Xa4{n:Nat}(h:¬n<16):Xbc n=Xbc (n/16)++[dig n]:=by rw[Xbc,dif_neg h]
theorem Xhr:dig 0=48:=rfl
theorem Xae:∀(k:Nat),Xev k 0=List.replicate k 48
 |0=>rfl
 |k+1=>by rw[Xev,Nat.zero_div,Xae k,Xhr,List.replicate_succ']
theorem Ym:∀(k n:Nat),(Xev k n).length=k
 |0,_=>rfl
 |k+1,n=>by rw[Xev,List.length_append,Ym];rfl
theorem XhK:∀(k n:Nat),n<16^ (k+1)→Xev (k+1) n=List.replicate (k+1 - (Xbc n).length) 48++Xbc n∧1≤(Xbc n).length∧(Xbc n).length≤k+1
 |0,n,h=>by
  have h:n<16:=by simpa using h
  rw[Ql h]
  simp[Xev]
 |k+1,n,h=>by
  by_cases hn:n<16
  ·rw[Ql hn,Xev,Nat.div_eq_of_lt hn,Xae]
   simp
  ·have h2:n/16<16^ (k+1):=by rw[Nat.pow_succ]at h;omega
   obtain⟨i1,i2,i3⟩:=XhK k (n/16) h2
   rw[Xa4 hn,Xev,i1,List.length_append,List.length_singleton,List.append_assoc]
   refine⟨?_,by omega,by omega⟩
   congr 2
   omega
def Af(n:Int):ByteArray:=if 0≤n∧n≤1000000000 then tx (115::(Xev 8 n.toNat++[46,115,101,103]))else tx []
theorem U6{n:Int}{o:ByteArray}(e:Af n=o):o.size≤13:=by
 rw[←e]
 unfold Af
 split
 ·rw[Bw,List.length_cons,List.length_append,Ym];simp
 ·simp[Bw]
theorem digL:∀(j:Nat) (h:j<(⟨⟨[48,49,50,51,52,53,54,55,56,57,97,98,99,100,101,102]⟩⟩:ByteArray).size),(⟨⟨[48,49,50,51,52,53,54,55,56,57,97,98,99,100,101,102]⟩⟩:ByteArray)[j]=dig j:=by
 have key:∀j:Fin 16,(⟨⟨[48,49,50,51,52,53,54,55,56,57,97,98,99,100,101,102]⟩⟩:ByteArray)[j.val]'j.isLt=dig j.val:=by decide
 intro j h
 exact key ⟨j,h⟩
theorem Xfi(n:Nat):dig (n% 16)=dig n:=by unfold dig;rw[Nat.mod_mod]
theorem and15(a:Int):P4 .and .i64 a 15=a% 16:=H9 (k:=4) (by omega)
theorem Xjs{x:Nat}(h:x<18446744073709551616):P4 .and .u64 (x:Int) 15=((x% 16:Nat):Int):=by
 show IntKind.u64.wrap ((BitVec.ofInt 64 (x:Int)&&&BitVec.ofInt 64 ((15:Nat):Int)).toNat:Int)=_
 rw[BitVec.toNat_and,Jt (by omega),Jt (by omega),Fz,show(15:Nat)=2^4 - 1 from rfl,Nat.and_two_pow_sub_one_eq_mod]
 omega
theorem digF:∀(j:Nat) (hj:j<16) (h:j<(⟨⟨[48,49,50,51,52,53,54,55,56,57,97,98,99,100,101,102,103,104,105,106,107,108,109,110,111,112,113,114,115,116,117,118,119,120,121,122]⟩⟩:ByteArray).size),(⟨⟨[48,49,50,51,52,53,54,55,56,57,97,98,99,100,101,102,103,104,105,106,107,108,109,110,111,112,113,114,115,116,117,118,119,120,121,122]⟩⟩:ByteArray)[j]=dig j:=by
 have key:∀j:Fin 16,(⟨⟨[48,49,50,51,52,53,54,55,56,57,97,98,99,100,101,102,103,104,105,106,107,108,109,110,111,112,113,114,115,116,117,118,119,120,121,122]⟩⟩:ByteArray)[j.val]'(Nat.lt_of_lt_of_le j.isLt (by decide))=dig j.val:=by decide
 intro j hj h
 exact key ⟨j,hj⟩
theorem Xfg{v:Int}{n:Nat}(h:v=((dig n).toNat:Int)):[D.sc (.int .u8 v)]=cB (dig n):=by rw[h];rfl
theorem Xcl{α:Type}{l:List α}{p:Nat}{x:α}(h:p<l.length):(l.set p x).drop p=x::l.drop (p+1):=by
 rw[List.drop_eq_getElem_cons (by rw[List.length_set];exact h),List.getElem_set_self]
 congr 1
 rw[List.drop_set_of_lt (by omega)]
def It:Bool:=true
def Nw(_:Int):Int:=4
def Lb(u:Int):List UInt8×ByteArray:=([],tx (Xbc u.toNat))
def Gw(n:Int):ByteArray:=tx (Xbc n.toNat)
def Uw(n:Int):ByteArray:=tx (List.replicate n.toNat 48)
theorem tz64{w:World}(h:Lib.TabIs Tryz.prog w "math/bits.deBruijn64tab" .u8 Q9):Calls Tryz.prog 368 #[.int .u64 16] w fun e w'=>e= .returned (.int .i64 4)∧w'=w:=by
 have hq:IntKind.u64.wrap (bits BinOp.and IntKind.u64 16 (IntKind.u64.wrap (-16))*285870213051353865)/288230376151711744=15:=by decide+kernel
 have hc:w.cell? ⟨5,15,none⟩=some (.int .u8 4):=h.cell gn5 15 (by decide)
 go_enter Tryz.func368,Tryz.ntmps368
 go_wp2
 go_ret
 exact⟨rfl,rfl⟩
theorem tz{w:World}(h:Lib.TabIs Tryz.prog w "math/bits.deBruijn64tab" .u8 Q9):Calls Tryz.prog 360 #[.int .u64 16] w fun e w'=>e= .returned (.int .i64 4)∧w'=w:=by
 go_enter Tryz.func360,Tryz.ntmps360
 go_wp2_with (first
  |(go_at_call 368;refine(tz64 h).mono ?_;rintro e w' ⟨rfl,rfl⟩)
  |go_in)
 go_ret
 exact⟨rfl,rfl⟩
variable {o:ByteArray} {n:Int}
theorem J9{x o:Int}(hx:x=16)(hr:Nw x=o):Fn Tryz.prog 360 [.d (.sc (.int .u64 x))] [] ⟨I o,[],[]⟩:=by
 refine⟨Ep Tryz.func360 rfl rfl,CallOk.ofCallsG fun E vs hS hG hA=>?_⟩
 obtain⟨u,rfl,h1⟩:=Xil hA
 rw[N6 h1,hx]
 refine(tz (Xib hG)).mono ?_
 rintro e w' ⟨rfl,rfl⟩
 exact⟨_,rfl,⟨rfl,rfl,rfl,Nat.le_refl _,fun _ _=>rfl⟩,by rw[←hr];exact .sc _ rfl⟩
theorem Cy(hr:Af n=o):Fn Tryz.prog 157 [I n] [] ⟨S o,[],[]⟩:=by
 refine Fn.go Mp Tryz.func157 fun P hP Q hQ=>?_
 conv=>cbv
 generalize ac:A8 n 0 1000000000=r1
 refine .dd hP (Dk ac) ?_
 cases r1
 simp only[A8,decide_eq_true_eq,decide_eq_false_iff_not]at ac
 conv=>cbv
 have e:(tx [])=Af n:=(by unfold Af;rw[if_neg (by omega)])
 rw[hr]at e
 subst e
 exact hQ _ _ (.s rfl rfl)
 simp only[A8,decide_eq_true_eq,decide_eq_false_iff_not]at ac
 conv=>cbv
 refine LoopW.lp (κ:=Int×(List (List D))×Nat) Mp hP [0] [0] (fun(i4,aa,ab)=>[(3,.ref 1 0 ab),(4,I i4)]) (fun(i4,aa,ab)=>[(1,.row 1 false aa)])
  (fun(i4,aa,ab)=>∃(w1:List UInt8),w1.map cB=aa∧ab=w1.length∧-1≤i4∧i4≤7∧w1=Xev (7 - i4).toNat (n.toNat/16^ (i4+1).toNat))
  (fun(i4,aa,ab)=>(i4+1).toNat) (7,[],0) ⟨[],rfl,rfl,by omega,by omega,rfl⟩ ⟨rfl,rfl,trivial⟩ rfl ?_
 rintro⟨i4,aa,ab⟩ J ⟨w1,ad,an,h0,h1,hw⟩ hJ
 have hwl:w1.length=(7 - i4).toNat:=by rw[hw,Ym]
 have hsz:(⟨⟨[48,49,50,51,52,53,54,55,56,57,97,98,99,100,101,102]⟩⟩:ByteArray).size=16:=rfl
 conv=>cbv
 refine .geq (fun h2=>?_) fun h2=>?_
 conv=>cbv
 refine .mul fun v3 ap=>?_
 conv=>cbv
 refine .go fun v4 af=>?_
 conv=>cbv
 have e4:v4=v3:=by rw[af,Fz];omega
 refine .shr fun v5 ag=>?_
 conv=>cbv
 refine .and fun v6 ah=>?_
 conv=>cbv
 have e5:v5=((n.toNat/16^i4.toNat:Nat):Int):=by
  have e2:(2:Int)^v4.toNat=((16^i4.toNat:Nat):Int):=by
   rw[show v4.toNat=4*i4.toNat by omega,Int.pow_mul,Int.natCast_pow]
   rfl
  rw[ag,e2,Int.natCast_ediv,Int.toNat_of_nonneg (by omega)]
 have e6:v6=((n.toNat/16^i4.toNat% 16:Nat):Int):=by rw[ah,and15,e5];omega
 have aq:n.toNat/16^i4.toNat% 16<16:=Nat.mod_lt _ (by omega)
 refine .go v6.toNat fun hjv7 v7 ai bv7=>?_
 conv=>cbv
 have e7:[D.sc (.int .u8 v7)]=cB (dig (n.toNat/16^i4.toNat)):=Xfg (by rw[ai,digL,e6,Int.toNat_natCast,Xfi])
 refine .one (dig (n.toNat/16^i4.toNat)) ad e7 fun aj z8 ao ak=>?_
 conv=>cbv
 refine .sub fun v9 ar=>?_
 conv=>cbv
 exact .go [3] (v9,z8,aj) (hJ _ ⟨_,ak,Ot,by omega,by omega,by rw[hw,show(7 - v9).toNat=(7 - i4).toNat+1 by omega,Xev,show(v9+1).toNat=i4.toNat by omega,Nat.div_div_eq_div_mul,←Nat.pow_succ,show(i4+1).toNat=i4.toNat+1 by omega]⟩ mlt)
 conv=>cbv
 refine .go ad fun s3 ae=>?_
 conv=>cbv
 have au:s3.size=w1.length:=by rw[ae,Bw]
 refine .litL 1 fun s4 al aw=>?_
 conv=>cbv
 refine .litR 4 fun s5 am ax=>?_
 conv=>cbv
 have e:s5=Af n:=(by unfold Af;rw[if_pos (by omega),am,al,ae,hw,show i4= -1 by omega];show tx [115]++tx _++tx [46,115,101,103]=_;rw[Du,Du];simp)
 rw[hr]at e
 subst e
 exact hQ _ _ (.s rfl rfl)
theorem Hp{o:Bool}(hr:It=o):Fn Tryz.prog 359 [I 16] [] ⟨B o,[],[]⟩:=by
 refine Fn.go Mp Tryz.func359 fun P hP Q hQ=>?_
 conv=>cbv
 refine .sub fun v1 aa=>?_
 conv=>cbv
 refine .and fun v2 ab=>?_
 conv=>cbv
 refine .eql (fun h3=>?_) fun h3=>?_
 conv=>cbv
 have e:true=It:=(by rfl)
 rw[hr]at e
 subst e
 exact hQ _ _ (.b rfl rfl)
 conv=>cbv
 have e:false=It:=(by exfalso;apply h3;rw[ab,aa];rfl)
 rw[hr]at e
 subst e
 exact hQ _ _ (.b rfl rfl)
theorem Ih{u:Int}{oa:List UInt8}{xoa:List (List D)}{ob:ByteArray}(hu:0≤u∧u<4294967296)(hr:Lb u=(oa,ob))(hoa:oa.map cB=xoa):Fn Tryz.prog 338 [.d (.row 1 []),.d (.sc (.int .u64 u)),I 16,B false,B false] [] ⟨.tup [.d (.row 1 xoa),S ob],[],[]⟩:=by
 refine Fn.go Mp Tryz.func338 fun P hP Q hQ=>?_
 conv=>cbv
 refine .lss (fun h1=>?_) fun h1=>?_
 omega
 conv=>cbv
 refine .eql (fun h2=>?_) fun h2=>?_
 omega
 conv=>cbv
 refine .gtr (fun h3=>?_) fun h3=>?_
 omega
 conv=>cbv
 refine .go 65 hP (by kernel_rfl) fun z4 ay=>?_
 conv=>cbv
 generalize ai:It=r5
 refine .dd hP (Hp ai) ?_
 cases r5
 cases ai
 conv=>cbv
 refine .go fun v6 az=>?_
 conv=>cbv
 generalize aj:Nw v6=r7
 refine .dd hP (J9 (by rw[az,Fz];rfl) aj) ?_
 conv=>cbv
 refine .go fun v8 a0=>?_
 conv=>cbv
 refine .go fun v9 a1=>?_
 conv=>cbv
 refine .go fun be ak=>?_
 conv=>cbv
 refine .subW fun a2 al=>?_
 conv=>cbv
 refine LoopW.lp (κ:=Int×Int×(List (List D))) Mp hP [] [0,3,4,10,11,12,14,15,16] (fun(i1,aa,ab)=>[(1,.d (.sc (.int .u64 i1))),(13,I aa)]) (fun(i1,aa,ab)=>[(1,.row 1 false ab)])
  (fun(i1,aa,ab)=>∃(w1:List UInt8),w1.map cB=ab∧∃k:Nat,i1=((u.toNat/16^k:Nat):Int)∧aa=65 - (k:Int)∧k≤7∧w1.length=65∧Xbc u.toNat=Xbc (u.toNat/16^k)++w1.drop (65 - k))
  (fun(i1,aa,ab)=>(aa).toNat) (u,65,z4) ⟨(List.replicate 65 (0:UInt8)),ay,0,by simp;omega,rfl,by omega,by simp,by simp⟩ ⟨rfl,rfl,trivial⟩ rfl ?_
 rintro⟨i1,aa,ab⟩ J ⟨w1,am,k,af,ba,hk,hwl,hx⟩ hJ
 have e7:r7=4:=aj.symm
 have e8:v8=4:=by rw[a0,Fz,e7];rfl
 have e9:v9=16:=by rw[a1,Fz];rfl
 have a3:a2=15:=by rw[al,ak,Fz,Fz];rfl
 have hlt:u.toNat/16^k≤u.toNat:=Nat.div_le_self _ _
 have a4:16≤u.toNat/16^k→k<7:=by
  intro h
  rcases Nat.lt_or_ge k 7 with h7|h7
  ·exact h7
  ·obtain rfl:k=7:=by omega
   omega
 have hnx:u.toNat/16^ (k+1)=u.toNat/16^k/16:=by rw[Nat.pow_succ,←Nat.div_div_eq_div_mul]
 generalize hq:u.toNat/16^k=q at*
 conv=>cbv
 refine .geq (fun h12=>?_) fun h12=>?_
 conv=>cbv
 refine .sub fun ag an=>?_
 conv=>cbv
 refine .and fun ac ad=>?_
 conv=>cbv
 have h7:=a4 (by omega)
 have ah:ac=((q% 16:Nat):Int):=by rw[ad,a3,af,Xjs (by omega)]
 have bb:q% 16<16:=Nat.mod_lt _ (by omega)
 refine .go ac.toNat (hj:=by show ac.toNat<36;omega) fun hjv15 a5 ao bv15=>?_
 conv=>cbv
 refine .go hP Tryz.underlying283 (by kernel_rfl) fun ap bc=>?_
 conv=>cbv
 have a6:[D.sc (.int .u8 a5)]=cB (dig q):=Xfg (by rw[ao,digF _ (by omega),ah,Int.toNat_natCast,Xfi])
 refine .all (dig q) am a6 fun a7 aq=>?_
 conv=>cbv
 refine .shrW fun a8 ar=>?_
 conv=>cbv
 exact .go [] (a8,ag,a7) (hJ _ ⟨_,aq,k+1,by rw[ar,e8,af,Int.fdiv_eq_ediv_of_nonneg _ (by decide),hnx];show(q:Int)/16=_;omega,by omega,by omega,by rw[List.length_set];exact hwl,by rw[hx,Xa4 (show¬q<16 by omega),List.append_assoc,hnx,show 65 - (k+1)=ap by omega,Xcl (by omega),show ap+1=65 - k by omega];rfl⟩ mlt)
 conv=>cbv
 refine .sub fun ag an=>?_
 conv=>cbv
 refine .go i1.toNat (hj:=by show i1.toNat<36;omega) fun hjv14 ac ad bv14=>?_
 conv=>cbv
 refine .go hP Tryz.underlying283 (by kernel_rfl) fun au bd=>?_
 conv=>cbv
 have ah:[D.sc (.int .u8 ac)]=cB (dig q):=Xfg (by rw[ad,digF _ (by omega),af,Int.toNat_natCast])
 refine .all (dig q) am ah fun bf ae=>?_
 conv=>cbv
 refine .lo hP ae Tryz.underlying283 (by kernel_rfl) fun on17 bg hon17 aw=>?_
 conv=>cbv
 refine .off ae fun a9 ax=>?_
 conv=>cbv
 have e:([],a9)=Lb u:=(by unfold Lb;rw[ax,hx,Ql (show q<16 by omega),hon17,aw,show ag.toNat=au by omega,Xcl (by omega),show au+1=65 - k by omega,List.take_of_length_le (by simp;omega)];rfl)
 rw[hr]at e
 simp only[Prod.mk.injEq]at e
 obtain⟨rfl,rfl⟩:=e
 refine hQ _ _ ?_
 exact .many (.inl rfl) rfl rfl (.ref rfl rfl (by rw[←hoa];rfl) (.d rfl rfl (.nil)))
theorem I1(hn:0≤n∧n≤1000000000)(hr:Gw n=o):Fn Tryz.prog 314 [I n,I 16] [] ⟨S o,[],[]⟩:=by
 refine Fn.go Mp Tryz.func314 fun P hP Q hQ=>?_
 conv=>cbv
 refine .eql (fun h1=>?_) fun h1=>?_
 omega
 conv=>cbv
 refine .go fun v2 aa=>?_
 conv=>cbv
 refine .lss (fun h3=>?_) fun h3=>?_
 omega
 conv=>cbv
 rcases ab:Lb v2 with⟨ad,ae⟩
 generalize ac:ad.map cB=af
 refine .dd hP (Ih (by rw[aa,Fz];omega) ab ac) ?_
 conv=>cbv
 have e:ae=Gw n:=(by have e2:v2=n:=(by rw[aa,Fz];omega);unfold Gw;rw[←e2];exact(congrArg Prod.snd ab).symm)
 rw[hr]at e
 subst e
 exact hQ _ _ (.s rfl rfl)
theorem N9(hn:0≤n∧n≤1000000000)(hr:Gw n=o):Fn Tryz.prog 266 [I n,I 16] [] ⟨S o,[],[]⟩:=by
 refine Fn.go Mp Tryz.func266 fun P hP Q hQ=>?_
 conv=>cbv
 generalize aa:Gw n=r1
 refine .dd hP (I1 hn aa) ?_
 conv=>cbv
 have e:r1=Gw n:=(by exact aa.symm)
 rw[hr]at e
 subst e
 exact hQ _ _ (.s rfl rfl)
theorem Rr{c:Int}(hc:0≤c∧c≤8)(hr:Uw c=o):Fn Tryz.prog 267 [S (tx [48]),I c] [] ⟨S o,[],[]⟩:=by
 refine⟨Ep Tryz.func267 rfl rfl,CallOk.ofCalls fun E vs hS hA=>?_⟩
 obtain⟨u,v,rfl,h1,h2⟩:=XjX hA
 rw[N6 h1,N6 h2]
 obtain⟨k,rfl⟩:=Int.eq_ofNat_of_zero_le hc.1
 refine(Tryz.strings_Repeat (tx [48]) k E.w (by omega) (by rw[Bw];simp;omega)).mono ?_
 rintro e w' ⟨rfl,hb⟩
 refine⟨_,rfl,hb,?_⟩
 have:(⟨(Lib.repeatL (tx [48]).data.toList k).toArray⟩:ByteArray)=o:=by
  rw[←hr]
  unfold Uw tx
  congr 2
  rw[Int.toNat_natCast]
  have key:∀k,Lib.repeatL (tx [48]).data.toList k=List.replicate k 48:=by
   intro k
   induction k with
   |zero=>rfl
   |succ k ih=>show[48]++Lib.repeatL _ k=_;rw[ih];rfl
  exact key k
 rw[this]
 exact .sc _ rfl
theorem F1(hr:Af n=o):Fn Tryz.prog 203 [I n] [] ⟨S o,[],[]⟩:=by
 refine Fn.go Mp Tryz.func203 fun P hP Q hQ=>?_
 conv=>cbv
 generalize aa:Bn n=r1
 refine .dd hP (F0 aa) ?_
 cases r1
 simp only[Bn,decide_eq_true_eq,decide_eq_false_iff_not]at aa
 conv=>cbv
 have e:(tx [])=Af n:=(by unfold Af;rw[if_neg (by omega)])
 rw[hr]at e
 subst e
 exact hQ _ _ (.s rfl rfl)
 simp only[Bn,decide_eq_true_eq,decide_eq_false_iff_not]at aa
 conv=>cbv
 generalize ab:Gw n=r2
 refine .dd hP (N9 aa ab) ?_
 conv=>cbv
 obtain⟨p1,p2,p3⟩:=XhK 7 n.toNat (by omega)
 have z2:r2.size=(Xbc n.toNat).length:=by rw[←ab];exact Bw
 refine .go fun v3 ag=>?_
 conv=>cbv
 refine .sub fun v4 ah=>?_
 conv=>cbv
 generalize ac:Uw v4=r5
 refine .dd hP (Rr (by omega) ac) ?_
 conv=>cbv
 have z5:r5.size=v4.toNat:=by rw[←ac];unfold Uw;rw[Bw,List.length_replicate]
 refine .litL 1 fun s6 ad ai=>?_
 conv=>cbv
 refine .go fun s7 ae aj=>?_
 conv=>cbv
 refine .litR 4 fun s8 af ak=>?_
 conv=>cbv
 have e:s8=Af n:=(by unfold Af;rw[if_pos (by omega),af,ae,ad,←ac,←ab,p1];unfold Uw Gw;show tx [115]++tx _++tx _++tx [46,115,101,103]=_;rw[Du,Du,Du,show v4.toNat=7+1 - (Xbc n.toNat).length by omega];simp)
 rw[hr]at e
 subst e
 exact hQ _ _ (.s rfl rfl)
end
section
open Go Go.Proofs
set_option maxRecDepth 20000
set_option maxHeartbeats 4000000
open Go.RowKit
theorem CallOk.callsV{P:Program}{f:FuncId}{as0:List AV}{val:Value}(h:CallOk P f as0 [] ⟨.d (.sc val),[],[]⟩){w:World}(hG:Globs.ok w fun b=>b<w.heap.size){vs:Array Value}
  (hA:XbK (Be w (fun b=>b<w.heap.size) (fun _=>none) [] []) as0 vs):Calls P f vs w fun e w'=>e= .returned val∧Below w.heap.size w w':=by
 have hM:Mem (Fb w (fun b=>b<w.heap.size) (fun _=>none) []) (Be w (fun b=>b<w.heap.size) (fun _=>none) [] []):={
  os:=rfl
  output:=rfl
  tape:=rfl
  size:=Nat.le_refl _
  keep:=fun _ _ _=>rfl
  shape:=fun _ _ h=>h
  s0:=fun _ h=>h
  slt:=fun _ h=>h
  glob:=hG
  snew:=fun _ h=>.inl h
  blt:=fun r b h=>absurd h (Nat.not_lt_zero r)
  bown:=fun r R b h=>absurd h (Nat.not_lt_zero r)
  bkeep:=fun r R h=>absurd h (Nat.not_lt_zero r)
  inj:=fun r r' R R' b h=>absurd h (Nat.not_lt_zero r)
  roots:=fun r R h=>absurd h (Nat.not_lt_zero r)}
 refine(h _ _ _ _ hM hA).mono ?_
 rintro e w' ⟨v,E',rfl,rfl,o⟩
 refine⟨?_,⟨o.mem.os,o.mem.tape,o.mem.output,o.mem.size,fun b hb=>o.mem.keep b hb (fun hn=>?_)⟩⟩
 ·have:=o.rel
  have h2:=N6 this
  rw[h2]
 ·obtain⟨r,R,h1,-⟩:=hn
  simp at h1
theorem Hg{w w':World}(hG:Globs.ok w fun b=>b<w.heap.size)(hb:Below w.heap.size w w'):Globs.ok w' fun b=>b<w'.heap.size:=
 Globs.step (fun b h=>Nat.lt_of_lt_of_le h hb.size) (fun b h=>hb.block b h) hG
theorem CallOk.ofCallsT{P:Program}{f:FuncId}{as0:List AV}{v1 v2:Value}(o1:v1.oneCell'=true)(o2:v2.oneCell'=true)(h:∀(E:Env) (vs:Array Value),(∀b,E.S b→b<E.w.heap.size)→Globs.ok E.w E.S→XbK E as0 vs→Calls P f vs E.w fun e w'=>e= .returned (.tuple #[v1,v2])∧Below E.w.heap.size E.w w'):CallOk P f as0 [] ⟨.tup [.d (.sc v1),.d (.sc v2)],[],[]⟩:=by
 intro w S β vs hM hA
 refine(h (Be w S β [] []) vs hM.slt hM.glob hA).mono ?_
 rintro e w' ⟨he,hb⟩
 have hb:Below w.heap.size w w':=hb
 have st:Step (Be w S β [] []) {Be w S β [] []with w:=w'}:=⟨fun r R hR=>⟨R,hR,.inr rfl⟩,fun _ h=>h,fun _ _=>rfl,fun _ h=>h,fun b hS=>hb.block b (hM.slt b hS),fun b s hs=>K5 hb hs⟩
 refine⟨.tuple #[v1,v2],{Be w S β [] []with w:=w'},he,rfl,?_,st,?_,?_,hb.size,.tup _ _ rfl ?_⟩
 ·exact{
   os:=hb.os.trans hM.os
   output:=hb.output.trans hM.output
   tape:=hb.tape.trans hM.tape
   size:=hb.size
   keep:=fun b hlt hn=>hb.block b hlt
   shape:=fun b s hs=>K5 hb hs
   s0:=hM.s0
   slt:=fun b hS=>Nat.lt_of_lt_of_le (hM.slt b hS) hb.size
   glob:=Globs.step st.S st.heap hM.glob
   snew:=hM.snew
   blt:=fun r b hp hβ=>absurd hp (Nat.not_lt_zero r)
   bown:=fun r R b hp=>absurd hp (Nat.not_lt_zero r)
   bkeep:=fun r R hlt hp=>absurd hp (Nat.not_lt_zero r)
   inj:=fun r r' R R' b hp=>absurd hp (Nat.not_lt_zero r)
   roots:=fun r R hp=>absurd hp (Nat.not_lt_zero r)}
 ·rfl
 ·intro r
  constructor
  ·exact fun h=>.inl h
  ·rintro(h|⟨_,h⟩)
   ·exact h
   ·exact absurd h (by simp)
 ·intro j y hy
  match j,hy with
  |0,hy=>cases hy;exact .d _ _ (.sc _ o1)
  |1,hy=>cases hy;exact .d _ _ (.sc _ o2)
end
section
open Go Go.Proofs
set_option maxRecDepth 20000
set_option maxHeartbeats 4000000
open Go.RowKit
theorem XjL{a b:ByteArray}(h:¬a=b):(a.toList==b.toList)=false:=by
 rw[Bool.eq_false_iff]
 exact fun hh=>h ((Lib.bytes_beq_iff _ _).1 hh)
theorem Us{w:World}(hG:Globs.ok w fun b=>b<w.heap.size){n:Int}{o:Bool}(hr:Bn n=o):Calls Tryz.prog 173 #[.int .i64 n] w fun e w'=>e= .returned (.bool o)∧Below w.heap.size w w':=by
 refine(F0 (n:=n) hr).ok.callsV hG ⟨rfl,?_⟩
 intro j y hy
 match j,hy with
 |0,hy=>cases hy;exact .d _ _ (.sc _ rfl)
end
end Go.Proofs.YtgdmjbcllgmepaaGreatDoor.Ab
