/- What functions come to. -/
import Derived.Test.YtjbmpmmffjgedaaGreatDoorFmch01a
import Derived.Shelf.Strings.Builder1
import Derived.Shelf.Strings.Builder2
import Derived.Shelf.Strings.BuilderF
import Derived.Shelf.Strings.BuilderK
import Derived.Shelf.Strings.Builder2Cap
import Derived.Shelf.Strconv.Atoi
import Derived.Shelf.Strconv.Itoa0
import Derived.Shelf.Strconv.Itoa1
import Derived.Shelf.LaysM
import Derived.Shelf.Strconv.Itoa2
import Derived.Shelf.Strconv.Itoa3
import Derived.Shelf.Strconv.Itoa4
import Derived.Shelf.Strconv.AtoiErrFast
import Derived.Shelf.Strconv.ParseIntEmpty
import Derived.Shelf.Strconv.AtoiFail
import Derived.Shelf.Strconv.Clone
import Derived.Shelf.Strconv.SyntaxError
import Derived.Shelf.LaysC
import Derived.Shelf.Strconv.ToError
import Derived.Shelf.Strconv.Lower
import Derived.Shelf.Strconv.ParseUint10
import Derived.Shelf.Strconv.ParseUint10Empty
import Derived.Shelf.Strconv.ParseUint10Any
import Derived.Shelf.Strconv.ParseInt10
import Derived.Shelf.Strconv.AtoiLong
import Derived.Shelf.Strconv.AtoiInnerAll
import Derived.Shelf.Strconv.RangeError
import Derived.Shelf.Strconv.ToErrorRange
import Derived.Shelf.Strconv.AtoiAll
import Derived.Shelf.Strings.Search1
import Derived.Shelf.Strings.Search2
import Derived.Shelf.Strings.Cut
import Derived.Shelf.Strings.Shaped
import Derived.Shelf.Strings.Prefix
import Derived.Shelf.Bits.Mul64
import Derived.Shelf.Strings.Repeat
import Derived.Shelf.Strings.BuilderCap
import Derived.Ground.Names2Prog
import Derived.Shelf.Slices.Clone
import Derived.Test.YtjbmpmmffjgedaaGreatDoorProg
set_option linter.unusedVariables false
set_option linter.unusedSimpArgs false
set_option maxHeartbeats 4000000
set_option maxRecDepth 20000
namespace Go.Proofs.YtjbmpmmffjgedaaGreatDoor.Ab
section
open Go Go.Proofs
def Xfo:List (Nat×TyRow):=[ty3,ty4,ty9,XaC,Xgj,Xmd,ty92]
theorem XeV:B1 Tryz.prog Xfo:=B1.of (by kernel_rfl)
theorem XaT:Setup Tryz.prog Xfo:=⟨XeV,mixed⟩
def Jn(h:B9)(b:ByteArray)(n:Nat)(p:Int):List ByteArray×List Int×Int×Bool:=
 if Ez h.version_ (h.base_+n) b p=true then([],[],p,true)
 else match Bg h.version_ (h.base_+n) b p with
  |(r,q,true)=>if p<q∧q≤b.size then(r::(Jn h b (n+1) q).1,p::(Jn h b (n+1) q).2.1,(Jn h b (n+1) q).2.2)else([],[],p,false)
  |_=>([],[],p,false)
termination_by (b.size - p).toNat
decreasing_by all_goals omega
def Bu(b:ByteArray):Rc:=match Ck b with
 |(h,true)=>⟨true,h,(Jn h b 0 24).1,(Jn h b 0 24).2.1,(Jn h b 0 24).2.2.1,(Jn h b 0 24).2.2.2⟩
 |_=>⟨false,⟨0,0,0,0⟩,[],[],0,false⟩
theorem Yp{v n:Int}{r t:ByteArray}(e:A3 v n r=t)(h:t≠tx []):5≤t.size:=by
 unfold A3 at e
 split at e
 ·rename_i hh
  have h4:=Xa _ (Wh r)
  have h1:1≤(if v=2 then O8 n r.size else C2 r.size).size:=by
   split
   ·unfold O8
    rw[ByteArray.size_append,Xa _ (by omega)]
    omega
   ·unfold C2
    rw[if_pos (by omega),Bz]
    exact List.length_pos_iff.2 (XdY _)
  rw[←e,ByteArray.size_append,ByteArray.size_append]
  omega
 ·exact absurd e.symm h
theorem Iy{v n p q:Int}{b r:ByteArray}(h:Bg v n b p=(r,q,true)):0≤p∧p+5≤q∧q≤b.size∧r.size≤60∧(v=1∨v=2)∧0≤n∧n≤1000000000∧q=p+(A3 v n r).size∧Gw b p (A3 v n r)=true:=by
 have key:∀{x s:Int},0≤s→0≤x→Iw v n b p x s=(r,q,true)→0≤p∧p+5≤q∧q≤b.size∧r.size≤60∧(v=1∨v=2)∧0≤n∧n≤1000000000∧q=p+(A3 v n r).size∧Gw b p (A3 v n r)=true:=by
  intro x s hs hx e
  unfold Iw at e
  split at e
  ·rename_i hh
   obtain⟨h1,h2,h3,h4⟩:=hh
   simp only[Prod.mk.injEq,and_true]at e
   obtain⟨rfl,rfl⟩:=e
   have h5:=Yp rfl h3
   have h6:=of_decide_eq_true h4
   have h7:(b.extract s.toNat (s+x).toNat).size=x.toNat:=by rw[Vf (by omega) (by omega)];omega
   have h8:(v=1∨v=2)∧0≤n∧n≤1000000000:=by
    by_cases hh:(v=1∨v=2)∧0≤n∧n≤1000000000
    ·exact hh
    ·exact absurd (Lh hh) h3
   exact⟨h6.1.1,by omega,by omega,by omega,h8.1,h8.2.1,h8.2.2,rfl,h4⟩
  ·simp at e
 rcases h1:Cb b p 4 with⟨x,ok⟩
 rcases h2:C9 b p with⟨y,s,ok2⟩
 by_cases hv:v=2
 ·rw[Ln hv h1]at h
  cases ok
  ·simp at h
  ·have:=Ng h1
   exact key (by omega) (by omega) h
 ·rw[K7 hv h2]at h
  cases ok2
  ·simp at h
  ·have:=Nv h2
   exact key (by omega) (by omega) h
theorem P1{h:B9}{b:ByteArray}{n:Nat}{p:Int}(hm:Ez h.version_ (h.base_+n) b p=true):Jn h b n p=([],[],p,true):=by rw[Jn,if_pos hm]
theorem P7{h:B9}{b:ByteArray}{n:Nat}{p:Int}{r:ByteArray}{q:Int}(hm:Ez h.version_ (h.base_+n) b p=false)(hf:Bg h.version_ (h.base_+n) b p=(r,q,false)):Jn h b n p=([],[],p,false):=by rw[Jn,if_neg (by rw[hm];simp),hf]
theorem Qe{h:B9}{b:ByteArray}{n:Nat}{p:Int}{r:ByteArray}{q:Int}(hm:Ez h.version_ (h.base_+n) b p=false)(hf:Bg h.version_ (h.base_+n) b p=(r,q,true)):Jn h b n p=(r::(Jn h b (n+1) q).1,p::(Jn h b (n+1) q).2.1,(Jn h b (n+1) q).2.2):=by
 have:=Iy hf
 rw[Jn,if_neg (by rw[hm];simp),hf]
 simp only[]
 rw[if_pos (by omega)]
variable {b:ByteArray} {ook omar:Bool} {oheaver oheastr oheabas ohealin oend:Int} {orec:List ByteArray} {xorec xooff:List (List D)} {ooff:List Int}
theorem Zf(hs:b.size<2^47)(hr:Bu b=⟨ook,⟨oheaver,oheastr,oheabas,ohealin⟩,orec,ooff,oend,omar⟩)(horec:orec.map cS=xorec)(hooff:ooff.map cI=xooff):Fn Tryz.prog 162 [S b] [] ⟨.agg [B ook,I oheaver,I oheastr,I oheabas,I ohealin,.d (.row 1 xorec),.d (.row 1 xooff),I oend,B omar],[],[]⟩:=by
 refine Fn.go XaT Tryz.func162 fun P hP Q hQ=>?_
 conv=>cbv
 rcases ak:Ck b with⟨⟨aa,ac,ab,ad⟩,ap⟩
 refine .dd hP (Z9 (by omega) ak) ?_
 conv=>cbv
 cases ap
 conv=>cbv
 have e:(⟨false,⟨0,0,0,0⟩,[],[],0,false⟩:Rc)=Bu b:=(by unfold Bu;rw[ak])
 rw[hr]at e
 simp only[B9.mk.injEq,Rc.mk.injEq]at e
 obtain⟨rfl,⟨rfl,rfl,rfl,rfl⟩,rfl,rfl,rfl,rfl⟩:=e
 exact hQ _ _ (.one (.inl rfl) rfl (.agg (.c (.d rfl rfl (.c (.d rfl rfl (.c (.ref rfl rfl (by rw[←horec];rfl) (.ref rfl rfl (by rw[←hooff];rfl) .d2))))))) .nil))
 conv=>cbv
 refine LoopW.lp (κ:=Int×(List (List D))×Nat×(List (List D))×Nat) XaT hP [4,5] [0,2,3,5] (fun(ae,al,am,af,ag)=>[]) (fun(ae,al,am,af,ag)=>[(8,.box 92 [B true,I aa,I ac,I ab,I ad,.ref 9 0 am,.ref 10 0 ag,I ae,B false]),(9,.row 1 false al),(10,.row 1 false af)])
  (fun(ae,al,am,af,ag)=>∃(w9:List ByteArray) (ai:List Int),w9.map cS=al∧am=w9.length∧ai.map cI=af∧ag=ai.length∧(24≤ae∧ae≤b.size∧w9.length=ai.length∧5*(w9.length:Int)+24≤ae)∧Jn ⟨aa,ac,ab,ad⟩ b 0 24=(w9++(Jn ⟨aa,ac,ab,ad⟩ b w9.length ae).1,ai++(Jn ⟨aa,ac,ab,ad⟩ b w9.length ae).2.1,(Jn ⟨aa,ac,ab,ad⟩ b w9.length ae).2.2))
  (fun(ae,al,am,af,ag)=>(b.size - ae).toNat) (24,[],0,[],0) ⟨[],[],rfl,rfl,rfl,rfl,by have:=H7 ak;simp;omega,rfl⟩ trivial rfl ?_
 rintro⟨ae,al,am,af,ag⟩ J ⟨w9,ai,ao,a2,ah,aq,hb,hS⟩ hJ
 have hd:=Is (H7 ak).2.2
 conv=>cbv
 refine .go fun v2 a8=>?_
 conv=>cbv
 refine .add fun v3 ba=>?_
 conv=>cbv
 have e3:v3=ab+(w9.length:Int):=by omega
 generalize aj:Ez aa v3 b ae=r4
 refine .dd hP (XkD (by omega) (by omega) aj) ?_
 cases r4
 conv=>cbv
 rcases an:Bg aa v3 b ae with⟨ar,au,aw⟩
 refine .dd hP (Xei (by omega) (by omega) an) ?_
 conv=>cbv
 cases aw
 conv=>cbv
 have e:(⟨true,⟨aa,ac,ab,ad⟩,w9,ai,ae,false⟩:Rc)=Bu b:=(by rw[e3]at aj an;unfold Bu;rw[ak];simp only[];rw[hS,P7 (h:=⟨aa,ac,ab,ad⟩) aj an];simp)
 rw[hr]at e
 simp only[B9.mk.injEq,Rc.mk.injEq]at e
 obtain⟨rfl,⟨rfl,rfl,rfl,rfl⟩,rfl,rfl,rfl,rfl⟩:=e
 exact hQ _ _ (.one (.inl rfl) rfl (.agg (.c (.d rfl rfl (.c (.d rfl rfl (.c (.ref rfl (by rw[←ao,List.length_map];first|omega|(simp;omega)) (by rw[←ao,←horec]) (.ref rfl (by rw[←ah,List.length_map];first|omega|(simp;omega)) (by rw[←ah,←hooff]) .d2))))))) .nil))
 conv=>cbv
 have hf:=Iy an
 refine .one ar ao rfl fun ax z6 a6 ay=>?_
 conv=>cbv
 refine .one ae ah rfl fun az z7 a7 a1=>?_
 conv=>cbv
 exact .go [12,14] (au,z6,ax,z7,az) (hJ _ ⟨_,_,ay,Ic,a1,Ic,by simp;omega,by rw[e3]at aj an;rw[hS,Qe (h:=⟨aa,ac,ab,ad⟩) aj an];simp[List.append_assoc]⟩ mlt)
 conv=>cbv
 have e:(⟨true,⟨aa,ac,ab,ad⟩,w9,ai,ae,true⟩:Rc)=Bu b:=(by rw[e3]at aj;unfold Bu;rw[ak];simp only[];rw[hS,P1 (h:=⟨aa,ac,ab,ad⟩) aj];simp)
 rw[hr]at e
 simp only[B9.mk.injEq,Rc.mk.injEq]at e
 obtain⟨rfl,⟨rfl,rfl,rfl,rfl⟩,rfl,rfl,rfl,rfl⟩:=e
 exact hQ _ _ (.one (.inl rfl) rfl (.agg (.c (.d rfl rfl (.c (.d rfl rfl (.c (.ref rfl (by rw[←ao,List.length_map];first|omega|(simp;omega)) (by rw[←ao,←horec]) (.ref rfl (by rw[←ah,List.length_map];first|omega|(simp;omega)) (by rw[←ah,←hooff]) .d2))))))) .nil))
theorem Ue(hs:b.size<2^47)(hr:Bu b=⟨ook,⟨oheaver,oheastr,oheabas,ohealin⟩,orec,ooff,oend,omar⟩)(horec:orec.map cS=xorec)(hooff:ooff.map cI=xooff):Fn Tryz.prog 74 [S b] [] ⟨.agg [B ook,I oheaver,I oheastr,I oheabas,I ohealin,.d (.row 1 xorec),.d (.row 1 xooff),I oend,B omar],[],[]⟩:=by
 refine Fn.go XaT Tryz.func74 fun P hP Q hQ=>?_
 conv=>cbv
 rcases ak:Ck b with⟨⟨aa,ac,ab,ad⟩,ap⟩
 refine .dd hP (Zv (by omega) ak) ?_
 conv=>cbv
 cases ap
 conv=>cbv
 have e:(⟨false,⟨0,0,0,0⟩,[],[],0,false⟩:Rc)=Bu b:=(by unfold Bu;rw[ak])
 rw[hr]at e
 simp only[B9.mk.injEq,Rc.mk.injEq]at e
 obtain⟨rfl,⟨rfl,rfl,rfl,rfl⟩,rfl,rfl,rfl,rfl⟩:=e
 exact hQ _ _ (.one (.inl rfl) rfl (.agg (.c (.d rfl rfl (.c (.d rfl rfl (.c (.ref rfl rfl (by rw[←horec];rfl) (.ref rfl rfl (by rw[←hooff];rfl) .d2))))))) .nil))
 conv=>cbv
 refine LoopW.lp (κ:=Int×(List (List D))×Nat×(List (List D))×Nat) XaT hP [4,5] [0,2,3,5] (fun(ae,al,am,af,ag)=>[]) (fun(ae,al,am,af,ag)=>[(8,.box 92 [B true,I aa,I ac,I ab,I ad,.ref 9 0 am,.ref 10 0 ag,I ae,B false]),(9,.row 1 false al),(10,.row 1 false af)])
  (fun(ae,al,am,af,ag)=>∃(w9:List ByteArray) (ai:List Int),w9.map cS=al∧am=w9.length∧ai.map cI=af∧ag=ai.length∧(24≤ae∧ae≤b.size∧w9.length=ai.length∧5*(w9.length:Int)+24≤ae)∧Jn ⟨aa,ac,ab,ad⟩ b 0 24=(w9++(Jn ⟨aa,ac,ab,ad⟩ b w9.length ae).1,ai++(Jn ⟨aa,ac,ab,ad⟩ b w9.length ae).2.1,(Jn ⟨aa,ac,ab,ad⟩ b w9.length ae).2.2))
  (fun(ae,al,am,af,ag)=>(b.size - ae).toNat) (24,[],0,[],0) ⟨[],[],rfl,rfl,rfl,rfl,by have:=H7 ak;simp;omega,rfl⟩ trivial rfl ?_
 rintro⟨ae,al,am,af,ag⟩ J ⟨w9,ai,ao,a2,ah,aq,hb,hS⟩ hJ
 have hd:=Is (H7 ak).2.2
 conv=>cbv
 refine .go fun v2 a8=>?_
 conv=>cbv
 refine .add fun v3 ba=>?_
 conv=>cbv
 have e3:v3=ab+(w9.length:Int):=by omega
 generalize aj:Ez aa v3 b ae=r4
 refine .dd hP (Xk4 (by omega) (by omega) aj) ?_
 cases r4
 conv=>cbv
 rcases an:Bg aa v3 b ae with⟨ar,au,aw⟩
 refine .dd hP (Xd8 (by omega) (by omega) an) ?_
 conv=>cbv
 cases aw
 conv=>cbv
 have e:(⟨true,⟨aa,ac,ab,ad⟩,w9,ai,ae,false⟩:Rc)=Bu b:=(by rw[e3]at aj an;unfold Bu;rw[ak];simp only[];rw[hS,P7 (h:=⟨aa,ac,ab,ad⟩) aj an];simp)
 rw[hr]at e
 simp only[B9.mk.injEq,Rc.mk.injEq]at e
 obtain⟨rfl,⟨rfl,rfl,rfl,rfl⟩,rfl,rfl,rfl,rfl⟩:=e
 exact hQ _ _ (.one (.inl rfl) rfl (.agg (.c (.d rfl rfl (.c (.d rfl rfl (.c (.ref rfl (by rw[←ao,List.length_map];first|omega|(simp;omega)) (by rw[←ao,←horec]) (.ref rfl (by rw[←ah,List.length_map];first|omega|(simp;omega)) (by rw[←ah,←hooff]) .d2))))))) .nil))
 conv=>cbv
 have hf:=Iy an
 refine .one ar ao rfl fun ax z6 a6 ay=>?_
 conv=>cbv
 refine .one ae ah rfl fun az z7 a7 a1=>?_
 conv=>cbv
 exact .go [12,14] (au,z6,ax,z7,az) (hJ _ ⟨_,_,ay,Ic,a1,Ic,by simp;omega,by rw[e3]at aj an;rw[hS,Qe (h:=⟨aa,ac,ab,ad⟩) aj an];simp[List.append_assoc]⟩ mlt)
 conv=>cbv
 have e:(⟨true,⟨aa,ac,ab,ad⟩,w9,ai,ae,true⟩:Rc)=Bu b:=(by rw[e3]at aj;unfold Bu;rw[ak];simp only[];rw[hS,P1 (h:=⟨aa,ac,ab,ad⟩) aj];simp)
 rw[hr]at e
 simp only[B9.mk.injEq,Rc.mk.injEq]at e
 obtain⟨rfl,⟨rfl,rfl,rfl,rfl⟩,rfl,rfl,rfl,rfl⟩:=e
 exact hQ _ _ (.one (.inl rfl) rfl (.agg (.c (.d rfl rfl (.c (.d rfl rfl (.c (.ref rfl (by rw[←ao,List.length_map];first|omega|(simp;omega)) (by rw[←ao,←horec]) (.ref rfl (by rw[←ah,List.length_map];first|omega|(simp;omega)) (by rw[←ah,←hooff]) .d2))))))) .nil))
end
section
open Go Go.Proofs
def Xgs:List (Nat×TyRow):=[ty3,ty9,Xgj,XmC,XmZ,XnK]
theorem Xd0:B1 Tryz.prog Xgs:=B1.of (by kernel_rfl)
theorem Kd:Setup Tryz.prog Xgs:=⟨Xd0,mixed⟩
def Xhd(s:Nat)(offs:List Int)(n:Nat):List Io:=((List.range n).filter (fun i=>i% s=0)).map (fun(i:Nat)=>⟨(i:Int),offs.getD i 0⟩)
def Dl(stride:Int)(offs:List Int):List Io:=if stride<1 then[]else Xhd stride.toNat offs offs.length
theorem S3{s n:Nat}{offs:List Int}:Xhd s offs (n+1)=Xhd s offs n++(if n% s=0 then[⟨(n:Int),offs.getD n 0⟩]else[]):=by
 unfold Xhd
 rw[List.range_succ,List.filter_append,List.map_append]
 congr 1
 by_cases h:n% s=0<;>simp[h]
theorem Xaz{s n:Nat}{offs:List Int}:(Xhd s offs n).length≤n:=by
 unfold Xhd
 rw[List.length_map]
 exact Nat.le_trans (List.length_filter_le _ _) (by simp)
theorem XaD{s k:Nat}{offs:List Int}(hk:k% s=0):∀(d:Nat),d<s→Xhd s offs (k+1+d)=Xhd s offs k++[⟨(k:Int),offs.getD k 0⟩]
 |0,_=>by rw[Nat.add_zero,S3,if_pos hk]
 |d+1,h=>by
  rw[←Nat.add_assoc,S3,XaD hk d (by omega),if_neg,List.append_nil]
  have:k+1+d=k+(d+1):=by omega
  rw[this,Nat.add_mod,hk,Nat.zero_add,Nat.mod_mod,Nat.mod_eq_of_lt h]
  omega
theorem Xee{l:List Int}{k:Nat}(h:k<l.length):l[k]=l.getD k 0:=by rw[List.getD_eq_getElem?_getD,List.getElem?_eq_getElem h];rfl
def Hq(a b:Int):ByteArray:=if b≤a∧a - b≤1000000000 then C2 (a - b)else tx []
theorem Vj{a b:Int}{o:ByteArray}(h:Hq a b=o):o.size≤5:=by
 rw[←h]
 unfold Hq
 split
 ·exact Je _
 ·simp[Bz]
def I4(a b:Int):Int:=if b≤a∧a - b<9223372036854775808 then a - b else -1
theorem Zg(a b:Int):C2 (I4 a b)=Hq a b:=by
 unfold I4 Hq
 by_cases h:b≤a∧a - b≤1000000000
 ·rw[if_pos h,if_pos (by omega)]
 ·rw[if_neg h]
  unfold C2
  split
  ·rw[if_neg (by omega)]
  ·rfl
def Kk:Int×Int→List Io→Option ByteArray
 |_,[]=>some (tx [])
 |q,p::l=>if Hq p.count_ q.1=tx []∨Hq p.at_ q.2=tx []then none else(Kk (p.count_,p.at_) l).map fun t=>(Hq p.count_ q.1++Hq p.at_ q.2)++t
def Cj(l:List Io):ByteArray:=match Kk (0,0) l with
 |some t=>C2 l.length++t
 |none=>tx []
theorem Xm:∀{l:List Io} {q:Int×Int} {t:ByteArray},Kk q l=some t→t.size≤10*l.length
 |[],q,t,h=>by cases h;simp[Bz]
 |p::l,q,t,h=>by
  simp only[Kk]at h
  split at h
  ·cases h
  ·obtain⟨u,hu,rfl⟩:=Option.map_eq_some_iff.1 h
   have:=Xm hu
   have h1:=Vj (rfl:Hq p.count_ q.1=_)
   have h2:=Vj (rfl:Hq p.at_ q.2=_)
   rw[ByteArray.size_append,ByteArray.size_append,List.length_cons]
   omega
theorem Qu(l:List Io):(Cj l).size≤5+10*l.length:=by
 unfold Cj
 split
 ·rename_i t h
  have h1:=Xm h
  have h2:=Je l.length
  rw[ByteArray.size_append]
  omega
 ·simp[Bz]
theorem R6{l:List Io}{o:ByteArray}(h:Cj l=o):o.size≤5+10*l.length:=by rw[←h];exact Qu l
theorem XjM(s:ByteArray):tx []++s=s:=by rw[←Wf s,D1];rfl
theorem Xa3(s:ByteArray):s++tx []=s:=by rw[←Wf s,D1,List.append_nil]
theorem Xe0{n w:Int}(h:Be n w≠tx []):(Be n w).size=w.toNat:=by
 by_cases hh:0≤n∧1≤w∧w≤8∧n.toNat/2^ (8*w.toNat)=0
 ·exact Sj hh
 ·exact absurd (if_neg hh) h
def wfPl(l:List Io):Prop:=∀p∈l,wfI p.count_∧wfI p.at_
def Kl(acc:ByteArray):List Int→Option ByteArray
 |[]=>some acc
 |x::l=>if Be x 4=tx []then none else Kl (acc++Be x 4) l
def B6(a b c d:Int):ByteArray:=match Kl (tx []) [a,b,c,d]with
 |some t=>t++tx [73,68,88,33]
 |none=>tx []
theorem Yc:∀{l:List Int} {acc t:ByteArray},Kl acc l=some t→t.size≤acc.size+8*l.length
 |[],acc,t,h=>by cases h;simp
 |x::l,acc,t,h=>by
  simp only[Kl]at h
  split at h
  ·cases h
  ·have:=Yc h
   have h1:=@Fq x 4
   rw[ByteArray.size_append]at this
   rw[List.length_cons]
   omega
theorem Hl{a b c d:Int}{o:ByteArray}(h:B6 a b c d=o):o.size≤36:=by
 rw[←h]
 unfold B6
 split
 ·rename_i t ht
  have:=Yc ht
  simp only[Bz,List.length_cons,List.length_nil]at this
  rw[ByteArray.size_append,Bz]
  simp only[List.length_cons,List.length_nil]
  omega
 ·simp[Bz]
theorem Xb1:∀{l:List Int} {acc t:ByteArray},Kl acc l=some t→t.size=acc.size+4*l.length
 |[],acc,t,h=>by cases h;simp
 |x::l,acc,t,h=>by
  simp only[Kl]at h
  split at h
  ·cases h
  ·rename_i hx
   have:=Xb1 h
   have h1:=Xe0 hx
   rw[ByteArray.size_append,h1]at this
   rw[List.length_cons,this]
   simp
   omega
theorem O5{a b c d:Int}(h:B6 a b c d≠tx []):(B6 a b c d).size=20:=by
 unfold B6 at h⊢
 split
 ·rename_i t ht
  have:=Xb1 ht
  simp only[Bz,List.length_cons,List.length_nil]at this
  rw[ByteArray.size_append,Bz,this]
  rfl
 ·rename_i ht
  rw[ht]at h
  exact absurd rfl h
def Co(h:B9)(offs:List Int)(fin:Int):ByteArray:=
 if Dk h=true∧C6 h.version_ (h.base_+offs.length)≠tx []∧Cj (Dl h.stride_ offs)≠tx []∧B6 fin offs.length h.stride_ 0≠tx []then
  (C6 h.version_ (h.base_+offs.length)++Cj (Dl h.stride_ offs))++B6 fin offs.length h.stride_ (Gg ((C6 h.version_ (h.base_+offs.length)++Cj (Dl h.stride_ offs))++(B6 fin offs.length h.stride_ 0).extract 0 12))else tx []
theorem Nu{s:Int}{offs:List Int}:(Dl s offs).length≤offs.length:=by
 unfold Dl
 split
 ·simp
 ·exact Xaz
theorem Uy{s:Int}{offs:List Int}(h:∀x∈offs,wfI x)(hl:offs.length<2^40):wfPl (Dl s offs):=by
 unfold Dl
 split
 ·intro p hp;simp at hp
 ·intro p hp
  unfold Xhd at hp
  obtain⟨i,hi,rfl⟩:=List.mem_map.1 hp
  have aa:=List.mem_range.1 (List.mem_filter.1 hi).1
  refine⟨⟨by show -9223372036854775808≤(i:Int);omega,by show(i:Int)<9223372036854775808;omega⟩,?_⟩
  show wfI (offs.getD i 0)
  rw[←Xee aa]
  exact h _ (List.getElem_mem aa)
theorem Uu(h:B9)(offs:List Int)(fin:Int):(Co h offs fin).size≤57+10*offs.length:=by
 unfold Co
 split
 ·rw[ByteArray.size_append,ByteArray.size_append]
  have h1:=M3 (rfl:C6 h.version_ (h.base_+offs.length)=_)
  have h2:=Qu (Dl h.stride_ offs)
  have h3:=@Nu h.stride_ offs
  have h4:=Hl (rfl:B6 fin offs.length h.stride_ (Gg ((C6 h.version_ (h.base_+offs.length)++Cj (Dl h.stride_ offs))++(B6 fin offs.length h.stride_ 0).extract 0 12))=_)
  omega
 ·simp[Bz]
variable {stride mark count sum a b:Int} {offs:List Int} {xoffs xo:List (List D)} {o:ByteArray}
theorem XhB{o:List Io}(hoffs:offs.map cI=xoffs)(hl:offs.length<2^40)(hr:Dl stride offs=o)(ho:o.map Um=xo):Fn Tryz.prog 171 [I stride,.d (.row 1 xoffs)] [] ⟨.d (.row 2 xo),[],[]⟩:=by
 refine Fn.go Kd Tryz.func171 fun P hP Q hQ=>?_
 conv=>cbv
 refine LoopW.lp (κ:=Int×(List (List D))×Nat) Kd hP [1] [0,1] (fun(i6,aa,ab)=>[(5,.ref 2 0 ab),(6,I i6)]) (fun(i6,aa,ab)=>[(2,.row 2 false aa)])
  (fun(i6,aa,ab)=>∃(w2:List Io),w2.map Um=aa∧ab=w2.length∧∃k:Nat,i6=(k:Int)∧k≤offs.length∧(1≤stride∨k=0)∧w2=Xhd stride.toNat offs k)
  (fun(i6,aa,ab)=>(offs.length - i6).toNat) (0,[],0) ⟨[],rfl,rfl,0,rfl,by omega,by omega,by simp[Xhd]⟩ ⟨rfl,rfl,trivial⟩ rfl ?_
 rintro⟨i6,aa,ab⟩ J ⟨w2,ac,ah,k,hi,hk,hs,hw⟩ hJ
 have hwl:w2.length≤k:=by rw[hw];exact Xaz
 conv=>cbv
 refine .go hoffs fun v1 ak=>?_
 conv=>cbv
 refine .lss (fun h2=>?_) fun h2=>?_
 conv=>cbv
 refine .geq (fun h3=>?_) fun h3=>?_
 conv=>cbv
 refine .rem fun v4 ad=>?_
 conv=>cbv
 refine .eql (fun h5=>?_) fun h5=>?_
 conv=>cbv
 refine .go i6.toNat hoffs fun ai e6 ae=>?_
 conv=>cbv
 have em0:((k% stride.toNat:Nat):Int)=0:=by rw[Int.natCast_emod,Int.toNat_of_nonneg (by omega),←hi,←ad];exact h5
 have em:k% stride.toNat=0:=by omega
 have e1:(⟨i6,e6⟩:Io)=⟨(k:Int),offs.getD k 0⟩:=by rw[ae,Xee];simp only[hi,Int.toNat_natCast]
 refine .one (⟨i6,e6⟩:Io) ac rfl fun af z7 aj ag=>?_
 conv=>cbv
 refine .add fun v8 al=>?_
 conv=>cbv
 exact .go [4] (v8,z7,af) (hJ _ ⟨_,ag,Ic,k+1,by omega,by omega,by omega,by rw[S3,if_pos em,hw,e1]⟩ mlt)
 conv=>cbv
 have em:¬k% stride.toNat=0:=by intro e;refine h5 ?_;rw[ad,hi,show stride=((stride.toNat:Nat):Int)by omega,←Int.natCast_emod,e];rfl
 refine .add fun v6 am=>?_
 conv=>cbv
 exact .go [2] (v6,aa,ab) (hJ _ ⟨_,ac,Ic,k+1,by omega,by omega,by omega,by rw[S3,if_neg em,hw];simp⟩ mlt)
 conv=>cbv
 have e:w2=Dl stride offs:=(by rw[hw,show k=0 by omega];unfold Dl;rw[if_pos (by omega)];rfl)
 rw[hr]at e
 subst e
 exact hQ _ _ (.r rfl rfl (by rw[←ac,List.length_map];first|omega|(simp;omega)) (by rw[←ac,←ho]))
 conv=>cbv
 have e:w2=Dl stride offs:=(by rw[hw];unfold Dl;split;rw[show k=0 by omega];rfl;rw[show k=offs.length by omega])
 rw[hr]at e
 subst e
 exact hQ _ _ (.r rfl rfl (by rw[←ac,List.length_map];first|omega|(simp;omega)) (by rw[←ac,←ho]))
theorem XgR{o:List Io}(hoffs:offs.map cI=xoffs)(hl:offs.length<2^40)(hr:Dl stride offs=o)(ho:o.map Um=xo):Fn Tryz.prog 232 [I stride,.d (.row 1 xoffs)] [] ⟨.d (.row 2 xo),[],[]⟩:=by
 refine Fn.go Kd Tryz.func232 fun P hP Q hQ=>?_
 conv=>cbv
 refine .lss (fun h1=>?_) fun h1=>?_
 conv=>cbv
 have e:[]=Dl stride offs:=(by unfold Dl;rw[if_pos (by omega)])
 rw[hr]at e
 subst e
 exact hQ _ _ (.r rfl rfl rfl (by rw[←ho];rfl))
 conv=>cbv
 refine LoopW.lp (κ:=Int×(List (List D))×Nat) Kd hP [1] [0,1] (fun(i6,aa,ab)=>[(5,.ref 2 0 ab),(6,I i6)]) (fun(i6,aa,ab)=>[(2,.row 2 false aa)])
  (fun(i6,aa,ab)=>∃(w2:List Io),w2.map Um=aa∧ab=w2.length∧∃k:Nat,i6=(k:Int)∧k≤offs.length∧k% stride.toNat=0∧w2=Xhd stride.toNat offs k)
  (fun(i6,aa,ab)=>(offs.length - i6).toNat) (0,[],0) ⟨[],rfl,rfl,0,rfl,by omega,by simp,by simp[Xhd]⟩ ⟨rfl,rfl,trivial⟩ rfl ?_
 rintro⟨i6,aa,ab⟩ J ⟨w2,ac,ag,k,hi,hk,hs,hw⟩ hJ
 have hwl:w2.length≤k:=by rw[hw];exact Xaz
 conv=>cbv
 refine .go hoffs fun v2 aj=>?_
 conv=>cbv
 refine .lss (fun h3=>?_) fun h3=>?_
 conv=>cbv
 refine .go i6.toNat hoffs fun ah e4 ae=>?_
 conv=>cbv
 have e1:(⟨i6,e4⟩:Io)=⟨(k:Int),offs.getD k 0⟩:=by rw[ae,Xee];simp only[hi,Int.toNat_natCast]
 refine .one (⟨i6,e4⟩:Io) ac rfl fun af z5 ai ad=>?_
 conv=>cbv
 refine .go hoffs fun v6 ak=>?_
 conv=>cbv
 refine .sub fun v7 al=>?_
 conv=>cbv
 refine .gtr (fun h8=>?_) fun h8=>?_
 conv=>cbv
 have e:(w2++[(⟨i6,e4⟩:Io)])=Dl stride offs:=(by unfold Dl;rw[if_neg (by omega),show offs.length=k+1+(offs.length - 1 - k)by omega,XaD hs _ (by omega),hw,e1])
 rw[hr]at e
 subst e
 exact hQ _ _ (.r rfl rfl (by rw[←ad,List.length_map];first|omega|(simp;omega)) (by rw[←ad,←ho]))
 conv=>cbv
 refine .add fun v9 am=>?_
 conv=>cbv
 exact .go [4] (v9,z5,af) (hJ _ ⟨_,ad,Ic,k+stride.toNat,by omega,by omega,by rw[Nat.add_mod_right];exact hs,by rw[show k+stride.toNat=k+1+(stride.toNat - 1)by omega,XaD hs _ (by omega),hw,e1]⟩ mlt)
 conv=>cbv
 have e:w2=Dl stride offs:=(by unfold Dl;rw[if_neg (by omega),hw,show k=offs.length by omega])
 rw[hr]at e
 subst e
 exact hQ _ _ (.r rfl rfl (by rw[←ac,List.length_map];first|omega|(simp;omega)) (by rw[←ac,←ho]))
theorem Sr(k1:mark<9223372036854775808)(k2:count<9223372036854775808)(k3:stride<9223372036854775808)(k4:sum<9223372036854775808)(hr:B6 mark count stride sum=o):Fn Tryz.prog 300 [I mark,I count,I stride,I sum] [] ⟨S o,[],[]⟩:=by
 refine Fn.go Kd Tryz.func300 fun P hP Q hQ=>?_
 conv=>cbv
 refine .go fun v1 ah=>?_
 conv=>cbv
 refine LoopW.lp (κ:=ByteArray×Int) Kd hP [] [17,18] (fun(s9,aa)=>[(9,S s9),(19,I aa)]) (fun(s9,aa)=>[])
  (fun(s9,aa)=>∃k:Nat,aa=(k:Int)∧k≤4∧s9.size≤8*k∧Kl (tx []) [mark,count,stride,sum]=Kl s9 ([mark,count,stride,sum].drop k))
  (fun(s9,aa)=>(4 - aa).toNat) (tx [],0) ⟨0,rfl,by omega,by simp[Bz],rfl⟩ ⟨rfl,rfl,trivial⟩ rfl ?_
 rintro⟨s9,aa⟩ J ⟨k,hi,hk,hz,hf⟩ hJ
 conv=>cbv
 refine .lss (fun h2=>?_) fun h2=>?_
 conv=>cbv
 refine .go aa.toNat fun p3 ai af=>?_
 conv=>cbv
 refine .go (l:=[mark,count,stride,sum]) (c:=cI) rfl fun ag e4 ac=>?_
 conv=>cbv
 have eE:[mark,count,stride,sum][k]'(by simp;omega)=e4:=by rw[ac];congr 1;omega
 have hE:e4<9223372036854775808:=by
  rw[←eE]
  have aj:k<4:=by omega
  rcases k with _|_|_|_|k
  ·exact k1
  ·exact k2
  ·exact k3
  ·exact k4
  ·omega
 generalize ab:Be e4 4=r5
 have zr5:=Cg ab
 refine .dd hP (Fw (by omega) ab) ?_
 conv=>cbv
 refine .eql (fun h6=>?_) fun h6=>?_
 conv=>cbv
 have e:(tx [])=B6 mark count stride sum:=(by unfold B6;rw[hf,List.drop_eq_getElem_cons (by simp;omega)];simp only[Kl];rw[eE,if_pos (by rw[ab];exact h6)])
 rw[hr]at e
 subst e
 exact hQ _ _ (.s rfl rfl)
 conv=>cbv
 refine .go fun s7 ad ak=>?_
 conv=>cbv
 refine .add fun v8 al=>?_
 conv=>cbv
 exact .go [] (s7,v8) (hJ _ ⟨k+1,by omega,by omega,by omega,by rw[hf,List.drop_eq_getElem_cons (by simp;omega)];simp only[Kl];rw[eE,if_neg];rw[ad];rw[ab];exact fun e=>h6 (ab.symm.trans e)⟩ mlt)
 conv=>cbv
 refine .litR 4 fun s3 ae am=>?_
 conv=>cbv
 have e:s3=B6 mark count stride sum:=(by unfold B6;rw[hf,List.drop_of_length_le (by simp;omega)];simp only[Kl];exact ae)
 rw[hr]at e
 subst e
 exact hQ _ _ (.s rfl rfl)
theorem S1(k1:mark<9223372036854775808)(k2:count<9223372036854775808)(k3:stride<9223372036854775808)(k4:sum<9223372036854775808)(hr:B6 mark count stride sum=o):Fn Tryz.prog 172 [I mark,I count,I stride,I sum] [] ⟨S o,[],[]⟩:=by
 refine Fn.go Kd Tryz.func172 fun P hP Q hQ=>?_
 conv=>cbv
 refine LoopW.lp (κ:=ByteArray×Int) Kd hP [] [10] (fun(s9,aa)=>[(9,S s9),(11,I aa)]) (fun(s9,aa)=>[])
  (fun(s9,aa)=>∃k:Nat,aa=(k:Int)∧k≤4∧s9.size≤8*k∧Kl (tx []) [mark,count,stride,sum]=Kl s9 ([mark,count,stride,sum].drop k))
  (fun(s9,aa)=>(4 - aa).toNat) (tx [],0) ⟨0,rfl,by omega,by simp[Bz],rfl⟩ ⟨rfl,rfl,trivial⟩ rfl ?_
 rintro⟨s9,aa⟩ J ⟨k,hi,hk,hz,hf⟩ hJ
 conv=>cbv
 refine .lss (fun h1=>?_) fun h1=>?_
 conv=>cbv
 refine .go aa.toNat fun p2 ah af=>?_
 conv=>cbv
 refine .go (l:=[mark,count,stride,sum]) (c:=cI) rfl fun ag e3 ac=>?_
 conv=>cbv
 have eE:[mark,count,stride,sum][k]'(by simp;omega)=e3:=by rw[ac];congr 1;omega
 have hE:e3<9223372036854775808:=by
  rw[←eE]
  have ai:k<4:=by omega
  rcases k with _|_|_|_|k
  ·exact k1
  ·exact k2
  ·exact k3
  ·exact k4
  ·omega
 generalize ab:Be e3 4=r4
 have zr4:=Cg ab
 refine .dd hP (Fp (by omega) ab) ?_
 conv=>cbv
 refine .eql (fun h5=>?_) fun h5=>?_
 conv=>cbv
 have e:(tx [])=B6 mark count stride sum:=(by unfold B6;rw[hf,List.drop_eq_getElem_cons (by simp;omega)];simp only[Kl];rw[eE,if_pos (by rw[ab];exact h5)])
 rw[hr]at e
 subst e
 exact hQ _ _ (.s rfl rfl)
 conv=>cbv
 refine .go fun s6 ad aj=>?_
 conv=>cbv
 refine .add fun v7 ak=>?_
 conv=>cbv
 exact .go [] (s6,v7) (hJ _ ⟨k+1,by omega,by omega,by omega,by rw[hf,List.drop_eq_getElem_cons (by simp;omega)];simp only[Kl];rw[eE,if_neg];rw[ad];rw[ab];exact fun e=>h5 (ab.symm.trans e)⟩ mlt)
 conv=>cbv
 refine .litR 4 fun s2 ae al=>?_
 conv=>cbv
 have e:s2=B6 mark count stride sum:=(by unfold B6;rw[hf,List.drop_of_length_le (by simp;omega)];simp only[Kl];exact ae)
 rw[hr]at e
 subst e
 exact hQ _ _ (.s rfl rfl)
theorem Xcl{o:Int}(ha:wfI a)(hb:wfI b)(hr:I4 a b=o):Fn Tryz.prog 236 [I a,I b] [] ⟨I o,[],[]⟩:=by
 refine Fn.go Kd Tryz.func236 fun P hP Q hQ=>?_
 conv=>cbv
 refine .subW fun v1 aa=>?_
 conv=>cbv
 refine .lss (fun h2=>?_) fun h2=>?_
 conv=>cbv
 have e:(-1)=I4 a b:=(by unfold I4;rw[M8]at aa;obtain⟨ab,ac⟩:=ha;obtain⟨ad,hb2⟩:=hb;rw[if_neg (by omega)])
 rw[hr]at e
 subst e
 exact hQ _ _ (.i rfl rfl)
 conv=>cbv
 refine .lss (fun h3=>?_) fun h3=>?_
 conv=>cbv
 have e:(-1)=I4 a b:=(by unfold I4;rw[M8]at aa;obtain⟨ab,ac⟩:=ha;obtain⟨ad,hb2⟩:=hb;rw[if_neg (by omega)])
 rw[hr]at e
 subst e
 exact hQ _ _ (.i rfl rfl)
 conv=>cbv
 have e:v1=I4 a b:=(by unfold I4;rw[M8]at aa;obtain⟨ab,ac⟩:=ha;obtain⟨ad,hb2⟩:=hb;rw[if_pos (by omega)];omega)
 rw[hr]at e
 subst e
 exact hQ _ _ (.i rfl rfl)
theorem XjN(ha:wfI a)(hb:wfI b)(hr:Hq a b=o):Fn Tryz.prog 326 [I a,I b] [] ⟨S o,[],[]⟩:=by
 refine Fn.go Kd Tryz.func326 fun P hP Q hQ=>?_
 conv=>cbv
 refine .lss (fun h1=>?_) fun h1=>?_
 conv=>cbv
 have e:(tx [])=Hq a b:=(by unfold Hq;rw[if_neg (by omega)])
 rw[hr]at e
 subst e
 exact hQ _ _ (.s rfl rfl)
 conv=>cbv
 refine .go fun v2 ab=>?_
 conv=>cbv
 refine .go fun v3 ac=>?_
 conv=>cbv
 refine .subW fun v4 ad=>?_
 conv=>cbv
 have e4:v4=a - b:=by rw[ad,ab,ac,G4,G4,G4];obtain⟨af,ag⟩:=ha;obtain⟨ah,hb2⟩:=hb;omega
 refine .gtr (fun h5=>?_) fun h5=>?_
 conv=>cbv
 have e:(tx [])=Hq a b:=(by unfold Hq;rw[if_neg (by omega)])
 rw[hr]at e
 subst e
 exact hQ _ _ (.s rfl rfl)
 conv=>cbv
 refine .sub fun v6 ae=>?_
 conv=>cbv
 generalize aa:C2 v6=r7
 have zr7:=Ig aa
 refine .dd hP (V5 aa) ?_
 conv=>cbv
 have e:r7=Hq a b:=(by unfold Hq;rw[if_pos (by omega),←aa,ae])
 rw[hr]at e
 subst e
 exact hQ _ _ (.s rfl rfl)
theorem XdH{l:List Io}{xl:List (List D)}(hl:l.map Um=xl)(hn:l.length<2^40)(hw:wfPl l)(hr:Cj l=o):Fn Tryz.prog 170 [.d (.row 2 xl)] [] ⟨S o,[],[]⟩:=by
 refine Fn.go Kd Tryz.func170 fun P hP Q hQ=>?_
 conv=>cbv
 refine .go hl fun v1 ao=>?_
 conv=>cbv
 generalize ae:C2 v1=r2
 have zr2:=Ig ae
 refine .dd hP (O2 ae) ?_
 conv=>cbv
 refine LoopW.lp (κ:=ByteArray×Int×Int×Int) Kd hP [] [0,4] (fun(s3,i5,ab,ac)=>[(3,S s3),(5,I i5)]) (fun(s3,i5,ab,ac)=>[(0,.box 162 [I ab,I ac])])
  (fun(s3,i5,ab,ac)=>∃(k:Nat) (pr:ByteArray),i5=(k:Int)∧k≤l.length∧s3=C2 l.length++pr∧pr.size≤10*k∧wfI ab∧wfI ac∧Kk (0,0) l=(Kk (ab,ac) (l.drop k)).map fun t=>pr++t)
  (fun(s3,i5,ab,ac)=>(l.length - i5).toNat) (r2,0,0,0) ⟨0,tx [],rfl,by omega,by rw[←ae,ao,Xa3],by simp[Bz],by constructor<;>omega,by constructor<;>omega,by simp[XjM]⟩ ⟨rfl,rfl,trivial⟩ rfl ?_
 rintro⟨s3,i5,ab,ac⟩ J ⟨k,pr,hi,hk,hs,hz,hwa,hwb,hp⟩ hJ
 have ay:s3.size≤5+10*k:=by rw[hs,ByteArray.size_append];have:=Je l.length;omega
 conv=>cbv
 refine .go hl fun v3 az=>?_
 conv=>cbv
 refine .lss (fun h4=>?_) fun h4=>?_
 conv=>cbv
 refine .go i5.toNat hl fun ar ⟨aa,ad⟩ ah=>?_
 conv=>cbv
 have hkl:k<l.length:=by omega
 have hd:l.drop k=⟨aa,ad⟩::l.drop (k+1):=by rw[List.drop_eq_getElem_cons hkl,ah];congr 2;omega
 obtain⟨ai,aj⟩:=hw ⟨aa,ad⟩ (by rw[ah];exact List.getElem_mem _)
 simp only[]at ai aj
 generalize ak:I4 aa ab=r6
 refine .dd hP (Xcl (by assumption) (by assumption) ak) ?_
 conv=>cbv
 generalize af:C2 r6=r7
 have zr7:=Ig af
 refine .dd hP (O2 af) ?_
 conv=>cbv
 generalize al:I4 ad ac=r8
 refine .dd hP (Xcl (by assumption) (by assumption) al) ?_
 conv=>cbv
 generalize ag:C2 r8=r9
 have zr9:=Ig ag
 refine .dd hP (O2 ag) ?_
 conv=>cbv
 have ea:Hq aa ab=r7:=by rw[←af,←ak,Zg]
 have eb:Hq ad ac=r9:=by rw[←ag,←al,Zg]
 refine .eql (fun h10=>?_) fun h10=>?_
 conv=>cbv
 have e:(tx [])=Cj l:=(by unfold Cj;rw[hp,hd];simp only[Kk];rw[ea,eb,if_pos (.inl h10)];rfl)
 rw[hr]at e
 subst e
 exact hQ _ _ (.s rfl rfl)
 conv=>cbv
 refine .eql (fun h11=>?_) fun h11=>?_
 conv=>cbv
 have e:(tx [])=Cj l:=(by unfold Cj;rw[hp,hd];simp only[Kk];rw[ea,eb,if_pos (.inr h11)];rfl)
 rw[hr]at e
 subst e
 exact hQ _ _ (.s rfl rfl)
 conv=>cbv
 refine .go fun a1 am au=>?_
 conv=>cbv
 refine .go fun ap an aw=>?_
 conv=>cbv
 refine .add fun aq ax=>?_
 conv=>cbv
 exact .go [] (ap,aq,aa,ad) (hJ _ ⟨k+1,pr++(r7++r9),by omega,by omega,by rw[an,am,hs];simp only[ByteArray.append_assoc],by rw[ByteArray.size_append,ByteArray.size_append];omega,ai,aj,by rw[hp,hd];simp only[Kk];rw[ea,eb,if_neg (by intro h;rcases h with h|h;exact h10 h;exact h11 h),Option.map_map];congr 1;funext t;simp only[Function.comp,ByteArray.append_assoc]⟩ mlt)
 conv=>cbv
 have e:s3=Cj l:=(by unfold Cj;rw[hp,List.drop_of_length_le (by omega),hs];simp[Kk,Xa3])
 rw[hr]at e
 subst e
 exact hQ _ _ (.s rfl rfl)
end
section
open Go Go.Proofs
def Xdu:List (Nat×TyRow):=[ty3,ty9,XmC,XmZ,Xmn]
theorem XcR:B1 Tryz.prog Xdu:=B1.of (by kernel_rfl)
theorem Xf3:Setup Tryz.prog Xdu:=⟨XcR,mixed⟩
theorem Xcx{l:List Io}{xl:List (List D)}{o:ByteArray}(hl:l.map Um=xl)(hn:l.length≤1000000000)(hw:wfPl l)(hr:Cj l=o):Fn Tryz.prog 299 [.d (.row 2 xl)] [] ⟨S o,[],[]⟩:=by
 refine Fn.go Xf3 Tryz.func299 fun P hP Q hQ=>?_
 conv=>cbv
 refine .go hl fun v1 az=>?_
 conv=>cbv
 generalize al:C2 v1=r2
 have zr2:=Ig al
 refine .dd hP (V5 al) ?_
 conv=>cbv
 obtain⟨nb3,hnb3⟩:∃m,([]:List UInt8).length+r2.size=m:=⟨_,rfl⟩
 obtain⟨b3,am⟩:∃m,[]++r2.data.toList=m:=⟨_,rfl⟩
 obtain⟨kb3,aq⟩:∃m,(r2.size:Int)=m:=⟨_,rfl⟩
 have lb3:nb3=b3.length:=by rw[←am,List.length_append,Array.length_toList];exact hnb3.symm
 refine .bx [2,0] [0] hP (Xfx rfl (by first|omega|(simp;omega)) hnb3 am aq) rfl rfl rfl rfl ?_
 conv=>cbv
 refine .go hl fun v4 a8=>?_
 conv=>cbv
 refine LoopW.lp (κ:=Int×Int×Int×(List UInt8)×Nat) Xf3 hP [3] [3,4,15,16] (fun(ac,ad,ae,aa,ag)=>[(17,I ac)]) (fun(ac,ad,ae,aa,ag)=>[(2,.box 216 [.ptr 2 0 0,.ref 5 0 ag]),(4,.box 162 [I ad,I ae]),(5,.buf 5 false aa)])
  (fun(ac,ad,ae,aa,ag)=>ag=aa.length∧∃(k:Nat) (pr:ByteArray),ac=(k:Int)∧k≤l.length∧aa=(C2 l.length++pr).data.toList∧pr.size≤10*k∧wfI ad∧wfI ae∧Kk (0,0) l=(Kk (ad,ae) (l.drop k)).map fun t=>pr++t)
  (fun(ac,ad,ae,aa,ag)=>(l.length - ac).toNat) (0,0,0,b3,nb3) ⟨lb3,0,tx [],rfl,by omega,by rw[←am,Xa3,←az,al];rfl,by simp[Bz],by constructor<;>omega,by constructor<;>omega,by simp[XjM]⟩ ⟨rfl,trivial⟩ rfl ?_
 rintro⟨ac,ad,ae,aa,ag⟩ J ⟨ak,k,pr,hi,hk,hs,hz,hwa,hwb,hp⟩ hJ
 have z1:1≤(C2 l.length).size:=by unfold C2;rw[if_pos (by omega),Bz];exact List.length_pos_iff.2 (XdY _)
 have zv:=Je l.length
 have zl:aa.length=(C2 l.length).size+pr.size:=by rw[hs,Array.length_toList];exact ByteArray.size_append
 conv=>cbv
 refine .lss (fun h5=>?_) fun h5=>?_
 conv=>cbv
 refine .go ac.toNat hl fun a2 ⟨ab,af⟩ ar=>?_
 conv=>cbv
 have hkl:k<l.length:=by omega
 have hd:l.drop k=⟨ab,af⟩::l.drop (k+1):=by rw[List.drop_eq_getElem_cons hkl,ar];congr 2;omega
 obtain⟨au,aw⟩:=hw ⟨ab,af⟩ (by rw[ar];exact List.getElem_mem _)
 simp only[]at au aw
 generalize ah:Hq ab ad=r7
 have zr7:=Vj ah
 refine .dd hP (XjN (by assumption) (by assumption) ah) ?_
 conv=>cbv
 generalize ai:Hq af ae=r8
 have zr8:=Vj ai
 refine .dd hP (XjN (by assumption) (by assumption) ai) ?_
 conv=>cbv
 refine .eql (fun h9=>?_) fun h9=>?_
 conv=>cbv
 have e:(tx [])=Cj l:=(by unfold Cj;rw[hp,hd];simp only[Kk];rw[ah,ai,if_pos (.inl h9)];rfl)
 rw[hr]at e
 subst e
 exact hQ _ _ (.s rfl rfl)
 conv=>cbv
 refine .eql (fun h10=>?_) fun h10=>?_
 conv=>cbv
 have e:(tx [])=Cj l:=(by unfold Cj;rw[hp,hd];simp only[Kk];rw[ah,ai,if_pos (.inr h10)];rfl)
 rw[hr]at e
 subst e
 exact hQ _ _ (.s rfl rfl)
 conv=>cbv
 refine .go fun an ax a6=>?_
 conv=>cbv
 obtain⟨nb12,hnb12⟩:∃m,(aa:List UInt8).length+an.size=m:=⟨_,rfl⟩
 obtain⟨ay,aj⟩:∃m,aa++an.data.toList=m:=⟨_,rfl⟩
 obtain⟨kb12,ao⟩:∃m,(an.size:Int)=m:=⟨_,rfl⟩
 have lb12:nb12=ay.length:=by rw[←aj,List.length_append,Array.length_toList];exact hnb12.symm
 refine .bx [2,5] [5] hP (XfM ak (by first|omega|(simp;omega)) hnb12 aj ao) rfl rfl rfl rfl ?_
 conv=>cbv
 refine .add fun a1 a7=>?_
 conv=>cbv
 exact .go [7] (a1,ab,af,ay,nb12) (hJ _ ⟨Ic,k+1,pr++(r7++r8),by omega,by omega,by rw[←aj,hs,ax];simp[ByteArray.data_append,List.append_assoc],by rw[ByteArray.size_append,ByteArray.size_append];omega,au,aw,by rw[hp,hd];simp only[Kk];rw[ah,ai,if_neg (by intro h;rcases h with h|h;exact h9 h;exact h10 h),Option.map_map];congr 1;funext t;simp only[Function.comp,ByteArray.append_assoc]⟩ mlt)
 conv=>cbv
 obtain⟨b6,ap⟩:∃m,tx aa=m:=⟨_,rfl⟩
 have zb6:b6.size=aa.length:=by rw[←ap,Bz]
 refine .bx [2,5] [5] hP (Xgw (x:=.ptr 0 0 0) ak (by intro e;rw[e]at zl;simp at zl;omega) (by first|omega|(simp;omega)) ap) rfl rfl rfl rfl ?_
 conv=>cbv
 have e:b6=Cj l:=(by unfold Cj;rw[hp,List.drop_of_length_le (by omega)];simp only[Kk,Option.map_some,Xa3];rw[←ap,hs,Wf])
 rw[hr]at e
 subst e
 exact hQ _ _ (.s rfl rfl)
end
section
open Go Go.Proofs
def XcX:List (Nat×TyRow):=[ty3,ty9,Xgj,Xmd,XmC]
theorem Xdw:B1 Tryz.prog XcX:=B1.of (by kernel_rfl)
theorem XgA:Setup Tryz.prog XcX:=⟨Xdw,mixed⟩
theorem W6{h:B9}{offs:List Int}{fin:Int}{o:ByteArray}(e:Co h offs fin=o):o.size≤57+10*offs.length:=by rw[←e];exact Uu _ _ _
variable {hver hstr hbas hlin fin:Int} {offs:List Int} {xoffs:List (List D)} {o:ByteArray}
theorem XgE(hoffs:offs.map cI=xoffs)(hl:offs.length≤1000000000)(hwo:∀x∈offs,wfI x)(hf:fin<9223372036854775808)(hr:Co (⟨hver,hstr,hbas,hlin⟩:B9) offs fin=o):Fn Tryz.prog 255 [.agg [I hver,I hstr,I hbas,I hlin],.d (.row 1 xoffs),I fin] [] ⟨S o,[],[]⟩:=by
 refine Fn.go XgA Tryz.func255 fun P hP Q hQ=>?_
 conv=>cbv
 generalize ag:Dk (⟨hver,hstr,hbas,hlin⟩:B9)=r1
 refine .dd hP (Xbt ag) ?_
 cases r1
 conv=>cbv
 have e:(tx [])=Co (⟨hver,hstr,hbas,hlin⟩:B9) offs fin:=(by unfold Co;rw[if_neg];rintro⟨q1,q2,q3,q4⟩;simp only[]at q1 q2 q3 q4;rw[ag]at q1;cases q1)
 rw[hr]at e
 subst e
 exact hQ _ _ (.s rfl rfl)
 conv=>cbv
 have hh:=Is ag
 refine .go hoffs fun v2 aj=>?_
 conv=>cbv
 refine .add fun v3 ak=>?_
 conv=>cbv
 generalize ac:C6 hver v3=r4
 have zr4:=M3 ac
 refine .dd hP (XbT ac) ?_
 conv=>cbv
 generalize ab:Dl hstr offs=l5
 generalize al:l5.map Um=a7
 refine .dd hP (XgR hoffs (by omega) ab al) ?_
 conv=>cbv
 have zl5:l5.length≤offs.length:=ab▸Nu
 generalize ad:Cj l5=r6
 have zr6:=R6 ad
 refine .dd hP (Xcx al (by omega) (ab▸Uy hwo (by omega)) ad) ?_
 conv=>cbv
 refine .go hoffs fun v7 am=>?_
 conv=>cbv
 generalize aa:B6 fin v7 hstr 0=r8
 have zr8:=Hl aa
 refine .dd hP (Sr (by omega) (by omega) (by omega) (by omega) aa) ?_
 conv=>cbv
 refine .eql (fun h9=>?_) fun h9=>?_
 conv=>cbv
 have e:(tx [])=Co (⟨hver,hstr,hbas,hlin⟩:B9) offs fin:=(by unfold Co;rw[if_neg];rintro⟨q1,q2,q3,q4⟩;simp only[]at q1 q2 q3 q4;rw[←aj,←ak,ac]at q2;exact q2 h9)
 rw[hr]at e
 subst e
 exact hQ _ _ (.s rfl rfl)
 conv=>cbv
 refine .eql (fun h10=>?_) fun h10=>?_
 conv=>cbv
 have e:(tx [])=Co (⟨hver,hstr,hbas,hlin⟩:B9) offs fin:=(by unfold Co;rw[if_neg];rintro⟨q1,q2,q3,q4⟩;simp only[]at q1 q2 q3 q4;rw[ab,ad]at q3;exact q3 h10)
 rw[hr]at e
 subst e
 exact hQ _ _ (.s rfl rfl)
 conv=>cbv
 refine .eql (fun h11=>?_) fun h11=>?_
 conv=>cbv
 have e:(tx [])=Co (⟨hver,hstr,hbas,hlin⟩:B9) offs fin:=(by unfold Co;rw[if_neg];rintro⟨q1,q2,q3,q4⟩;simp only[]at q1 q2 q3 q4;rw[←am,aa]at q4;exact q4 h11)
 rw[hr]at e
 subst e
 exact hQ _ _ (.s rfl rfl)
 conv=>cbv
 refine .go fun a8 ah ay=>?_
 conv=>cbv
 have z8:r8.size=20:=by rw[←aa];exact O5 (by rw[aa];exact h11)
 refine .hi fun ar ai=>?_
 conv=>cbv
 have ba:ar.size=12:=by rw[ai,Vf (by omega) (by omega)];rfl
 refine .go fun au an az=>?_
 conv=>cbv
 generalize ae:Gg au=aw
 have zr15:=Jt ae
 refine .dd hP (Ww (by omega) ae) ?_
 conv=>cbv
 refine .go fun bb ao a1=>?_
 conv=>cbv
 refine .go hoffs fun ap a2=>?_
 conv=>cbv
 generalize af:B6 fin ap hstr aw=bc
 have zr18:=Hl af
 refine .dd hP (Sr (by omega) (by omega) (by omega) (by omega) af) ?_
 conv=>cbv
 refine .go fun ax aq a6=>?_
 conv=>cbv
 have e:ax=Co (⟨hver,hstr,hbas,hlin⟩:B9) offs fin:=(by have q:Co ⟨hver,hstr,hbas,hlin⟩ offs fin=_:=if_pos ⟨ag,by simp only[];rw[←aj,←ak,ac];exact h9,by simp only[];rw[ab,ad];exact h10,by simp only[];rw[←am,aa];exact h11⟩;rw[q];simp only[];rw[←aj,←ak,ac,ab,ad,show(v2:Int)=v7 by omega,aa,←ah,aq,ao,←ah,←af,←ae,an,ai,show ap=v7 by omega];rfl)
 rw[hr]at e
 subst e
 exact hQ _ _ (.s rfl rfl)
theorem Xhc(hoffs:offs.map cI=xoffs)(hl:offs.length≤1000000000)(hwo:∀x∈offs,wfI x)(hf:fin<9223372036854775808)(hr:Co (⟨hver,hstr,hbas,hlin⟩:B9) offs fin=o):Fn Tryz.prog 89 [.agg [I hver,I hstr,I hbas,I hlin],.d (.row 1 xoffs),I fin] [] ⟨S o,[],[]⟩:=by
 refine Fn.go XgA Tryz.func89 fun P hP Q hQ=>?_
 conv=>cbv
 generalize ag:Dk (⟨hver,hstr,hbas,hlin⟩:B9)=r1
 refine .dd hP (Xa9 ag) ?_
 cases r1
 conv=>cbv
 have e:(tx [])=Co (⟨hver,hstr,hbas,hlin⟩:B9) offs fin:=(by unfold Co;rw[if_neg];rintro⟨q1,q2,q3,q4⟩;simp only[]at q1 q2 q3 q4;rw[ag]at q1;cases q1)
 rw[hr]at e
 subst e
 exact hQ _ _ (.s rfl rfl)
 conv=>cbv
 have hh:=Is ag
 refine .go hoffs fun v2 aj=>?_
 conv=>cbv
 refine .add fun v3 ak=>?_
 conv=>cbv
 generalize ac:C6 hver v3=r4
 have zr4:=M3 ac
 refine .dd hP (XdD ac) ?_
 conv=>cbv
 generalize ab:Dl hstr offs=l5
 generalize al:l5.map Um=a7
 refine .dd hP (XhB hoffs (by omega) ab al) ?_
 conv=>cbv
 have zl5:l5.length≤offs.length:=ab▸Nu
 generalize ad:Cj l5=r6
 have zr6:=R6 ad
 refine .dd hP (XdH al (by omega) (ab▸Uy hwo (by omega)) ad) ?_
 conv=>cbv
 refine .go hoffs fun v7 am=>?_
 conv=>cbv
 generalize aa:B6 fin v7 hstr 0=r8
 have zr8:=Hl aa
 refine .dd hP (S1 (by omega) (by omega) (by omega) (by omega) aa) ?_
 conv=>cbv
 refine .eql (fun h9=>?_) fun h9=>?_
 conv=>cbv
 have e:(tx [])=Co (⟨hver,hstr,hbas,hlin⟩:B9) offs fin:=(by unfold Co;rw[if_neg];rintro⟨q1,q2,q3,q4⟩;simp only[]at q1 q2 q3 q4;rw[←aj,←ak,ac]at q2;exact q2 h9)
 rw[hr]at e
 subst e
 exact hQ _ _ (.s rfl rfl)
 conv=>cbv
 refine .eql (fun h10=>?_) fun h10=>?_
 conv=>cbv
 have e:(tx [])=Co (⟨hver,hstr,hbas,hlin⟩:B9) offs fin:=(by unfold Co;rw[if_neg];rintro⟨q1,q2,q3,q4⟩;simp only[]at q1 q2 q3 q4;rw[ab,ad]at q3;exact q3 h10)
 rw[hr]at e
 subst e
 exact hQ _ _ (.s rfl rfl)
 conv=>cbv
 refine .eql (fun h11=>?_) fun h11=>?_
 conv=>cbv
 have e:(tx [])=Co (⟨hver,hstr,hbas,hlin⟩:B9) offs fin:=(by unfold Co;rw[if_neg];rintro⟨q1,q2,q3,q4⟩;simp only[]at q1 q2 q3 q4;rw[←am,aa]at q4;exact q4 h11)
 rw[hr]at e
 subst e
 exact hQ _ _ (.s rfl rfl)
 conv=>cbv
 refine .go fun a8 ah ay=>?_
 conv=>cbv
 have z8:r8.size=20:=by rw[←aa];exact O5 (by rw[aa];exact h11)
 refine .hi fun ar ai=>?_
 conv=>cbv
 have ba:ar.size=12:=by rw[ai,Vf (by omega) (by omega)];rfl
 refine .go fun au an az=>?_
 conv=>cbv
 generalize ae:Gg au=aw
 have zr15:=Jt ae
 refine .dd hP (Xo (by omega) ae) ?_
 conv=>cbv
 refine .go fun bb ao a1=>?_
 conv=>cbv
 refine .go hoffs fun ap a2=>?_
 conv=>cbv
 generalize af:B6 fin ap hstr aw=bc
 have zr18:=Hl af
 refine .dd hP (S1 (by omega) (by omega) (by omega) (by omega) af) ?_
 conv=>cbv
 refine .go fun ax aq a6=>?_
 conv=>cbv
 have e:ax=Co (⟨hver,hstr,hbas,hlin⟩:B9) offs fin:=(by have q:Co ⟨hver,hstr,hbas,hlin⟩ offs fin=_:=if_pos ⟨ag,by simp only[];rw[←aj,←ak,ac];exact h9,by simp only[];rw[ab,ad];exact h10,by simp only[];rw[←am,aa];exact h11⟩;rw[q];simp only[];rw[←aj,←ak,ac,ab,ad,show(v2:Int)=v7 by omega,aa,←ah,aq,ao,←ah,←af,←ae,an,ai,show ap=v7 by omega];rfl)
 rw[hr]at e
 subst e
 exact hQ _ _ (.s rfl rfl)
end
section
open Go Go.Proofs
def XfT:List (Nat×TyRow):=[ty3,ty9,XmM,XaC,Xgj,Xmd,Xmn]
theorem Xeb:B1 Tryz.prog XfT:=B1.of (by kernel_rfl)
theorem Pc:Setup Tryz.prog XfT:=⟨Xeb,mixed⟩
def Dr(v:Int):Int→List ByteArray→List UInt8
 |_,[]=>[]
 |p,r::l=>(A3 v p r).data.toList++Dr v (p+1) l
def Gt(v:Int):Int→Int→List ByteArray→List Int
 |_,_,[]=>[]
 |p,k,r::l=>k::Gt v (p+1) (k+(A3 v p r).size) l
def Xa2(h:B9)(l:List ByteArray):List UInt8:=(Cx h).data.toList++Dr h.version_ h.base_ l
def Cd(h:B9)(l:List ByteArray):ByteArray:=
 if Dk h=true∧l.length≤1000∧h.base_+l.length≤1000000000∧∀r∈l,r.size≤60 then
  tx (Xa2 h l)++Co h (Gt h.version_ h.base_ (Cx h).size l) (Xa2 h l).length
 else tx []
theorem Pj{v:Int}:∀{l:List ByteArray} {p:Int} {r:ByteArray},Dr v p (l++[r])=Dr v p l++(A3 v (p+l.length) r).data.toList
 |[],p,r=>by simp[Dr]
 |x::l,p,r=>by
  rw[List.cons_append,Dr,Dr,Pj,List.append_assoc,List.length_cons,show p+1+(l.length:Int)=p+((l.length+1:Nat):Int)by omega]
theorem Tk{v:Int}:∀{l:List ByteArray} {p k:Int} {r:ByteArray},Gt v p k (l++[r])=Gt v p k l++[k+(Dr v p l).length]
 |[],p,k,r=>by simp[Dr,Gt]
 |x::l,p,k,r=>by
  have e:(A3 v p x).data.toList.length=(A3 v p x).size:=Array.length_toList
  rw[List.cons_append,Gt,Gt,Tk,Dr,List.cons_append,List.length_append,e,show k+((A3 v p x).size:Int)+((Dr v (p+1) l).length:Int)=k+(((A3 v p x).size+(Dr v (p+1) l).length:Nat):Int)by omega]
theorem Qf{v:Int}:∀{l:List ByteArray} {p k:Int},(Gt v p k l).length=l.length
 |[],_,_=>rfl
 |x::l,p,k=>by rw[Gt,List.length_cons,List.length_cons,Qf]
theorem Ma{v:Int}:∀{l:List ByteArray} {p:Int},(Dr v p l).length≤84*l.length
 |[],_=>by simp[Dr]
 |x::l,p=>by
  have:=@Ma v l (p+1)
  have h:=F3 (rfl:A3 v p x=_)
  have e:(A3 v p x).data.size=(A3 v p x).size:=rfl
  rw[Dr,List.length_append,Array.length_toList,List.length_cons]
  omega
theorem W2{v:Int}:∀{l:List ByteArray} {p k:Int},0≤k→∀x∈Gt v p k l,0≤x∧x≤k+84*l.length
 |[],_,_,_,x,hx=>by simp[Gt]at hx
 |y::l,p,k,hk,x,hx=>by
  rw[Gt,List.mem_cons]at hx
  have h:=F3 (rfl:A3 v p y=_)
  rcases hx with rfl|hx
  ·rw[List.length_cons];omega
  ·have:=@W2 v l (p+1) (k+(A3 v p y).size) (by omega) x hx
   rw[List.length_cons];omega
theorem G1{h:B9}{l:List ByteArray}{o:ByteArray}(e:Cd h l=o):o.size≤200000:=by
 rw[←e]
 unfold Cd
 split
 ·rename_i hc
  have h1:=Uu h (Gt h.version_ h.base_ (Cx h).size l) (Xa2 h l).length
  have h2:=K1 (rfl:Cx h=_)
  have h3:=@Ma h.version_ l h.base_
  rw[ByteArray.size_append,Bz]
  rw[Qf]at h1
  have e:(Cx h).data.size=(Cx h).size:=rfl
  have h4:(Xa2 h l).length=(Cx h).size+(Dr h.version_ h.base_ l).length:=by unfold Xa2;rw[List.length_append,Array.length_toList];rfl
  omega
 ·simp[Bz]
def Df(s:ByteArray):Bool:=decide (60<s.size)
def Ce(l:List ByteArray):Int:=if l.findIdx Df<l.length then(l.findIdx Df:Int)else -1
def Cn(l:List ByteArray):Bool:=l.any Df
theorem XmX{l:List ByteArray}{i:Int}(h0:0≤i)(hi:i.toNat<l.length)(h:Df l[i.toNat]=true)(hb:∀(j:Nat) (hj:j<l.length),j<i.toNat→Df l[j]=false):i=Ce l:=by
 have e:l.findIdx Df=i.toNat:=(List.findIdx_eq hi).2 ⟨h,fun j hji=>hb j (by omega) hji⟩
 unfold Ce
 rw[e,if_pos hi]
 omega
theorem Xk7{l:List ByteArray}(hb:∀(j:Nat) (hj:j<l.length),Df l[j]=false): -1=Ce l:=by
 unfold Ce
 rw[if_neg]
 intro hlt
 have:=List.findIdx_getElem (w:=hlt)
 rw[hb _ hlt]at this
 cases this
theorem XhX{l:List ByteArray}:Cn l=decide (0≤Ce l):=by
 unfold Cn Ce
 by_cases h:l.findIdx Df<l.length
 ·rw[if_pos h]
  have:=List.findIdx_getElem (w:=h)
  rw[List.any_eq_true.2 ⟨_,List.getElem_mem h,this⟩]
  simp
 ·rw[if_neg h]
  have:l.any Df=false:=by
   rw[List.any_eq_false]
   intro x hx hp
   exact h (List.findIdx_lt_length_of_exists ⟨x,hx,hp⟩)
  rw[this]
  rfl
theorem Xb0{l:List ByteArray}(h:Cn l=false):∀r∈l,r.size≤60:=by
 intro r hr
 have:=List.any_eq_false.1 h r hr
 simp[Df]at this
 exact this
theorem Xiy{l:List ByteArray}(h:Cn l=true):¬∀r∈l,r.size≤60:=by
 intro hh
 obtain⟨r,hr,h'⟩:=List.any_eq_true.1 h
 have:=hh r hr
 simp[Df]at h'
 omega
variable {o:ByteArray} {l:List ByteArray} {xl:List (List D)} {hver hstr hbas hlin:Int}
theorem Xde{s:ByteArray}{o:Bool}(hr:Df s=o):Fn Tryz.prog 249 [S s] [] ⟨B o,[],[]⟩:=by
 refine Fn.go Pc Tryz.func249 fun P hP Q hQ=>?_
 conv=>cbv
 refine .go fun v1 aa=>?_
 conv=>cbv
 refine .gtr (fun h2=>?_) fun h2=>?_
 conv=>cbv
 have e:true=Df s:=(by unfold Df;rw[eq_comm,decide_eq_true_iff];omega)
 rw[hr]at e
 subst e
 exact hQ _ _ (.b rfl rfl)
 conv=>cbv
 have e:false=Df s:=(by unfold Df;rw[eq_comm,decide_eq_false_iff_not];omega)
 rw[hr]at e
 subst e
 exact hQ _ _ (.b rfl rfl)
theorem Oj{o:Int}(hl:l.map cS=xl)(hn:l.length<2^40)(hr:Ce l=o):Fn Tryz.prog 228 [.d (.row 1 xl),.clo 249 []] [] ⟨I o,[],[]⟩:=by
 refine Fn.go Pc Tryz.func228 fun P hP Q hQ=>?_
 conv=>cbv
 refine .go hl fun v1 ad=>?_
 conv=>cbv
 refine LoopW.lp (κ:=Int) Pc hP [] [0,1,7] (fun i8=>[(8,I i8)]) (fun i8=>[])
  (fun i8=>0≤i8∧i8≤l.length∧∀(j:Nat) (hj:j<l.length),j<i8.toNat→Df l[j]=false)
  (fun i8=>(l.length - i8).toNat) (0) ⟨by omega,by omega,fun j _ h=>by simp at h⟩ ⟨rfl,trivial⟩ rfl ?_
 rintro i8 J ⟨h0,h1,hb⟩ hJ
 conv=>cbv
 refine .lss (fun h2=>?_) fun h2=>?_
 conv=>cbv
 refine .go i8.toNat hl fun ac e3 ab=>?_
 conv=>cbv
 generalize aa:Df e3=r4
 refine .dd hP (Xde aa) ?_
 cases r4
 conv=>cbv
 refine .add fun v5 ae=>?_
 conv=>cbv
 exact .go [] (v5) (hJ _ ⟨by omega,by omega,fun j hj h=>if e:j=i8.toNat then by subst e;rw[←ab];exact aa else hb j hj (by omega)⟩ mlt)
 conv=>cbv
 have e:i8=Ce l:=(by exact XmX h0 (by omega) (ab▸aa) hb)
 rw[hr]at e
 subst e
 exact hQ _ _ (.i rfl rfl)
 conv=>cbv
 have e:(-1)=Ce l:=(by exact Xk7 fun j hj=>hb j hj (by omega))
 rw[hr]at e
 subst e
 exact hQ _ _ (.i rfl rfl)
theorem Mj{o:Bool}(hl:l.map cS=xl)(hn:l.length<2^40)(hr:Cn l=o):Fn Tryz.prog 248 [.d (.row 1 xl),.clo 249 []] [] ⟨B o,[],[]⟩:=by
 refine Fn.go Pc Tryz.func248 fun P hP Q hQ=>?_
 conv=>cbv
 generalize aa:Ce l=r1
 refine .dd hP (Oj hl hn aa) ?_
 conv=>cbv
 refine .geq (fun h2=>?_) fun h2=>?_
 conv=>cbv
 have e:true=Cn l:=(by rw[XhX,aa,eq_comm,decide_eq_true_iff];omega)
 rw[hr]at e
 subst e
 exact hQ _ _ (.b rfl rfl)
 conv=>cbv
 have e:false=Cn l:=(by rw[XhX,aa,eq_comm,decide_eq_false_iff_not];omega)
 rw[hr]at e
 subst e
 exact hQ _ _ (.b rfl rfl)
theorem Xbg{h:B9}(hk:Dk h=true):0<(Cx h).size:=by
 unfold Cx
 rw[if_pos hk,ByteArray.size_append]
 have:0<(XeO h).size:=by
  unfold XeO
  simp only[ByteArray.size_append,Bz,List.length_cons]
  omega
 omega
theorem P0(hl:l.map cS=xl)(hn:l.length<2^40)(hr:Cd (⟨hver,hstr,hbas,hlin⟩:B9) l=o):Fn Tryz.prog 206 [.agg [I hver,I hstr,I hbas,I hlin],.d (.row 1 xl)] [] ⟨S o,[],[]⟩:=by
 refine Fn.go Pc Tryz.func206 fun P hP Q hQ=>?_
 conv=>cbv
 generalize ag:Dk (⟨hver,hstr,hbas,hlin⟩:B9)=r1
 refine .dd hP (Xbt ag) ?_
 cases r1
 conv=>cbv
 have e:(tx [])=Cd (⟨hver,hstr,hbas,hlin⟩:B9) l:=(by unfold Cd;rw[if_neg];rintro⟨q,_⟩;rw[ag]at q;cases q)
 rw[hr]at e
 subst e
 exact hQ _ _ (.s rfl rfl)
 conv=>cbv
 refine .go hl fun v2 bk=>?_
 conv=>cbv
 refine .gtr (fun h3=>?_) fun h3=>?_
 conv=>cbv
 have e:(tx [])=Cd (⟨hver,hstr,hbas,hlin⟩:B9) l:=(by unfold Cd;rw[if_neg];rintro⟨_,q,_⟩;omega)
 rw[hr]at e
 subst e
 exact hQ _ _ (.s rfl rfl)
 conv=>cbv
 refine .go hl fun v4 bl=>?_
 conv=>cbv
 have hh:=Is ag
 refine .add fun v5 bm=>?_
 conv=>cbv
 generalize aq:Br v5=r6
 refine .dd hP (Fx aq) ?_
 cases r6
 simp only[Br,decide_eq_true_eq,decide_eq_false_iff_not]at aq
 conv=>cbv
 have e:(tx [])=Cd (⟨hver,hstr,hbas,hlin⟩:B9) l:=(by unfold Cd;rw[if_neg];rintro⟨_,_,q,_⟩;simp only[]at q;omega)
 rw[hr]at e
 subst e
 exact hQ _ _ (.s rfl rfl)
 simp only[Br,decide_eq_true_eq,decide_eq_false_iff_not]at aq
 conv=>cbv
 generalize an:Cn l=r7
 refine .dd hP (Mj hl (by omega) an) ?_
 cases r7
 conv=>cbv
 generalize ah:Cx (⟨hver,hstr,hbas,hlin⟩:B9)=r8
 have zr8:=K1 ah
 refine .dd hP (Zl ah) ?_
 conv=>cbv
 have zp:=Xbg ag;rw[ah]at zp
 obtain⟨nb9,hnb9⟩:∃m,([]:List UInt8).length+r8.size=m:=⟨_,rfl⟩
 obtain⟨b9,ar⟩:∃m,[]++r8.data.toList=m:=⟨_,rfl⟩
 obtain⟨kb9,a1⟩:∃m,(r8.size:Int)=m:=⟨_,rfl⟩
 have lb9:nb9=b9.length:=by rw[←ar,List.length_append,Array.length_toList];exact hnb9.symm
 refine .bx [3,1] [1] hP (Xfx rfl (by first|omega|(simp;omega)) hnb9 ar a1) rfl rfl rfl rfl ?_
 conv=>cbv
 refine .go hl fun bn bf=>?_
 conv=>cbv
 refine LoopW.lp (κ:=Int×(List UInt8)×Nat×(List (List D))×Nat) Pc hP [4,5] [2,5,35,36] (fun(aa,ab,ac,ae,af)=>[(6,.ref 7 0 af),(37,I aa)]) (fun(aa,ab,ac,ae,af)=>[(3,.box 216 [.ptr 3 0 0,.ref 6 0 ac]),(6,.buf 5 false ab),(7,.row 1 false ae)])
  (fun(aa,ab,ac,ae,af)=>∃(w7:List Int),ac=ab.length∧w7.map cI=ae∧af=w7.length∧0≤aa∧aa≤l.length∧ab=r8.data.toList++Dr hver hbas (l.take aa.toNat)∧w7=Gt hver hbas r8.size (l.take aa.toNat))
  (fun(aa,ab,ac,ae,af)=>(l.length - aa).toNat) (0,b9,nb9,[],0) ⟨[],lb9,rfl,rfl,by omega,by omega,by rw[←ar];simp[Dr],by simp[Gt]⟩ ⟨rfl,rfl,trivial⟩ rfl ?_
 rintro⟨aa,ab,ac,ae,af⟩ J ⟨w7,ao,au,bg,h0,h1,hz,hw⟩ hJ
 have q1:=@Ma hver (l.take aa.toNat) hbas
 have q2:(l.take aa.toNat).length=aa.toNat:=by rw[List.length_take];omega
 have q4:ab.length=r8.size+(Dr hver hbas (l.take aa.toNat)).length:=by rw[hz,List.length_append,Array.length_toList];rfl
 have q5:w7.length=aa.toNat:=by rw[hw,Qf,q2]
 conv=>cbv
 refine .lss (fun h11=>?_) fun h11=>?_
 conv=>cbv
 refine .go aa.toNat hl fun ba aw ap=>?_
 conv=>cbv
 obtain⟨kb13,ad⟩:∃m,((ac:Nat):Int)=m:=⟨_,rfl⟩
 refine .bx [3,6] [6] hP (Xnz (bs:=ab) ad) rfl rfl rfl rfl ?_
 conv=>cbv
 refine .one kb13 au rfl fun a2 bb bc a6=>?_
 conv=>cbv
 have ze:=Xb0 an aw (ap▸List.getElem_mem _)
 refine .add fun a7 bh=>?_
 conv=>cbv
 generalize ai:A3 hver a7 aw=ax
 have zr16:=F3 ai
 refine .dd hP (Rb (by omega) ai) ?_
 conv=>cbv
 obtain⟨nb17,hnb17⟩:∃m,(ab:List UInt8).length+ax.size=m:=⟨_,rfl⟩
 obtain⟨ay,aj⟩:∃m,ab++ax.data.toList=m:=⟨_,rfl⟩
 obtain⟨kb17,az⟩:∃m,(ax.size:Int)=m:=⟨_,rfl⟩
 have lb17:nb17=ay.length:=by rw[←aj,List.length_append,Array.length_toList];exact hnb17.symm
 refine .bx [3,6] [6] hP (XfM ao (by first|omega|(simp;omega)) hnb17 aj az) rfl rfl rfl rfl ?_
 conv=>cbv
 refine .add fun ak bi=>?_
 conv=>cbv
 have t1:ak.toNat=aa.toNat+1:=by omega
 have t2:l.take ak.toNat=l.take aa.toNat++[aw]:=by rw[t1,ap,List.take_append_getElem]
 have t4:ay=r8.data.toList++Dr hver hbas (l.take ak.toNat):=by rw[←aj,hz,t2,Pj,q2,List.append_assoc,show hbas+((aa.toNat:Nat):Int)=a7 by omega,ai]
 have t5:w7++[kb13]=Gt hver hbas r8.size (l.take ak.toNat):=by rw[t2,Tk,←hw,show kb13=(r8.size:Int)+((Dr hver hbas (l.take aa.toNat)).length:Int)by omega]
 exact .go [10,9] (ak,ay,nb17,bb,a2) (hJ _ ⟨_,Ic,a6,Ic,by omega,by omega,t4,t5⟩ mlt)
 conv=>cbv
 obtain⟨bd,al⟩:∃m,tx ab=m:=⟨_,rfl⟩
 have zb12:bd.size=ab.length:=by rw[←al,Bz]
 refine .bx [3,6] [6] hP (Xgw (x:=.ptr 0 0 0) ao (by intro e;rw[e]at q4;simp at q4;omega) (by first|omega|(simp;omega)) al) rfl rfl rfl rfl ?_
 conv=>cbv
 obtain⟨kb13,ad⟩:∃m,((ac:Nat):Int)=m:=⟨_,rfl⟩
 refine .bx [3,6] [6] hP (Xnz (bs:=ab) ad) rfl rfl rfl rfl ?_
 conv=>cbv
 generalize am:Co (⟨hver,hstr,hbas,hlin⟩:B9) w7 kb13=bo
 have zr14:=W6 am
 refine .lnt hP (XgE au (by omega) (fun x hx=>by rw[hw]at hx;have:=W2 (k:=(r8.size:Int)) (by omega) x hx;exact⟨by omega,by omega⟩) (by omega) am) (.agg (.d rfl (.d rfl (.d rfl (.d rfl .nil)))) (.ref rfl (by rw[←au,List.length_map];first|omega|(simp;omega)) (.d rfl .nil))) ?_
 conv=>cbv
 refine .go fun be a8 bj=>?_
 conv=>cbv
 have t0:l.take aa.toNat=l:=List.take_of_length_le (by omega)
 have e1:Xa2 ⟨hver,hstr,hbas,hlin⟩ l=ab:=by unfold Xa2;rw[ah,hz,t0]
 have e2:Gt hver hbas r8.size l=w7:=by rw[hw,t0]
 have e:be=Cd (⟨hver,hstr,hbas,hlin⟩:B9) l:=(by unfold Cd;rw[if_pos ⟨ag,by omega,by simp only[];omega,Xb0 an⟩,e1,ah,a8,←al,←am,←e2];show _=tx ab++Co _ (Gt hver hbas r8.size l) ab.length;congr 2;omega)
 rw[hr]at e
 subst e
 exact hQ _ _ (.s rfl rfl)
 conv=>cbv
 have e:(tx [])=Cd (⟨hver,hstr,hbas,hlin⟩:B9) l:=(by unfold Cd;rw[if_neg];rintro⟨_,_,_,q⟩;exact Xiy an q)
 rw[hr]at e
 subst e
 exact hQ _ _ (.s rfl rfl)
theorem Xad(hl:l.map cS=xl)(hn:l.length<2^40)(hr:Cd (⟨hver,hstr,hbas,hlin⟩:B9) l=o):Fn Tryz.prog 28 [.agg [I hver,I hstr,I hbas,I hlin],.d (.row 1 xl)] [] ⟨S o,[],[]⟩:=by
 refine Fn.go Pc Tryz.func28 fun P hP Q hQ=>?_
 conv=>cbv
 generalize aj:Dk (⟨hver,hstr,hbas,hlin⟩:B9)=r1
 refine .dd hP (Xa9 aj) ?_
 cases r1
 conv=>cbv
 have e:(tx [])=Cd (⟨hver,hstr,hbas,hlin⟩:B9) l:=(by unfold Cd;rw[if_neg];rintro⟨q,_⟩;rw[aj]at q;cases q)
 rw[hr]at e
 subst e
 exact hQ _ _ (.s rfl rfl)
 conv=>cbv
 refine .go hl fun v2 bt=>?_
 conv=>cbv
 refine .gtr (fun h3=>?_) fun h3=>?_
 conv=>cbv
 have e:(tx [])=Cd (⟨hver,hstr,hbas,hlin⟩:B9) l:=(by unfold Cd;rw[if_neg];rintro⟨_,q,_⟩;omega)
 rw[hr]at e
 subst e
 exact hQ _ _ (.s rfl rfl)
 conv=>cbv
 refine .go hl fun v4 bu=>?_
 conv=>cbv
 have hh:=Is aj
 refine .add fun v5 bv=>?_
 conv=>cbv
 refine .gtr (fun h6=>?_) fun h6=>?_
 conv=>cbv
 have e:(tx [])=Cd (⟨hver,hstr,hbas,hlin⟩:B9) l:=(by unfold Cd;rw[if_neg];rintro⟨_,_,q,_⟩;simp only[]at q;omega)
 rw[hr]at e
 subst e
 exact hQ _ _ (.s rfl rfl)
 conv=>cbv
 generalize ak:Cx (⟨hver,hstr,hbas,hlin⟩:B9)=r7
 have zr7:=K1 ak
 refine .dd hP (Z5 ak) ?_
 conv=>cbv
 refine .go fun a2 z8 bi a6=>?_
 conv=>cbv
 refine LoopW.lp (κ:=Int×(List (List D))×Nat×(List (List D))×Nat) Pc hP [1,2] [1,2] (fun(i7,aa,ab,ac,ad)=>[(5,.ref 3 0 ab),(6,.ref 4 0 ad),(7,I i7)]) (fun(i7,aa,ab,ac,ad)=>[(3,.row 1 false aa),(4,.row 1 false ac)])
  (fun(i7,aa,ab,ac,ad)=>∃(w3:List UInt8) (w4:List Int),w3.map cB=aa∧ab=w3.length∧w4.map cI=ac∧ad=w4.length∧0≤i7∧i7≤l.length∧w3=r7.data.toList++Dr hver hbas (l.take i7.toNat)∧w4=Gt hver hbas r7.size (l.take i7.toNat)∧∀r∈l.take i7.toNat,r.size≤60)
  (fun(i7,aa,ab,ac,ad)=>(l.length - i7).toNat) (0,z8,a2,[],0) ⟨r7.data.toList,[],a6,(by first|omega|(simp;omega)),rfl,rfl,by omega,by omega,by simp[Dr],by simp[Gt],by simp⟩ ⟨rfl,rfl,rfl,trivial⟩ rfl ?_
 rintro⟨i7,aa,ab,ac,ad⟩ J ⟨w3,w4,aq,bj,al,bk,h0,h1,hz,hw,am⟩ hJ
 have q1:=@Ma hver (l.take i7.toNat) hbas
 have q2:(l.take i7.toNat).length=i7.toNat:=by rw[List.length_take];omega
 have q4:w3.length=r7.size+(Dr hver hbas (l.take i7.toNat)).length:=by rw[hz,List.length_append,Array.length_toList];rfl
 have q5:w4.length=i7.toNat:=by rw[hw,Qf,q2]
 conv=>cbv
 refine .go hl fun v9 bw=>?_
 conv=>cbv
 refine .lss (fun h10=>?_) fun h10=>?_
 conv=>cbv
 refine .go i7.toNat hl fun a7 a8 af=>?_
 conv=>cbv
 refine .go fun bz bl=>?_
 conv=>cbv
 refine .gtr (fun h13=>?_) fun h13=>?_
 conv=>cbv
 have e:(tx [])=Cd (⟨hver,hstr,hbas,hlin⟩:B9) l:=(by unfold Cd;rw[if_neg];rintro⟨_,_,_,q⟩;have:=q a8 (af▸List.getElem_mem _);omega)
 rw[hr]at e
 subst e
 exact hQ _ _ (.s rfl rfl)
 conv=>cbv
 refine .go fun an bm=>?_
 conv=>cbv
 refine .one an al rfl fun ar ba bb au=>?_
 conv=>cbv
 refine .add fun aw bn=>?_
 conv=>cbv
 refine .go i7.toNat hl fun bc ao ag=>?_
 conv=>cbv
 have b0:ao.size≤60:=by rw[ag,←af];omega
 generalize ah:A3 hver aw ao=bd
 have zr18:=F3 ah
 refine .dd hP (Re (by omega) ah) ?_
 conv=>cbv
 refine .str aq fun ax be bf ay=>?_
 conv=>cbv
 refine .add fun ae bo=>?_
 conv=>cbv
 have t1:ae.toNat=i7.toNat+1:=by omega
 have t2:l.take ae.toNat=l.take i7.toNat++[ao]:=by rw[t1,ag,List.take_append_getElem]
 have t4:w3++bd.data.toList=r7.data.toList++Dr hver hbas (l.take ae.toNat):=by rw[hz,t2,Pj,q2,List.append_assoc,show hbas+((i7.toNat:Nat):Int)=aw by omega,ah]
 have t5:w4++[an]=Gt hver hbas r7.size (l.take ae.toNat):=by rw[t2,Tk,←hw,show an=(r7.size:Int)+((Dr hver hbas (l.take i7.toNat)).length:Int)by omega]
 have t6:∀r∈l.take ae.toNat,r.size≤60:=by rw[t2];intro r hr';rcases List.mem_append.1 hr' with h|h;exact am r h;rw[List.mem_singleton.1 h,ag,←af];omega
 exact .go [7,6] (ae,be,ax,ba,ar) (hJ _ ⟨_,_,ay,Ic,au,Ic,by omega,by omega,t4,t5,t6⟩ mlt)
 conv=>cbv
 refine .go fun bg bp=>?_
 conv=>cbv
 generalize ai:Co (⟨hver,hstr,hbas,hlin⟩:B9) w4 bg=b2
 have zr12:=W6 ai
 refine .lnt hP (Xhc al (by omega) (fun x hx=>by rw[hw]at hx;have:=W2 (k:=(r7.size:Int)) (by omega) x hx;exact⟨by omega,by omega⟩) (by omega) ai) (.agg (.d rfl (.d rfl (.d rfl (.d rfl .nil)))) (.ref rfl (by rw[←al,List.length_map];first|omega|(simp;omega)) (.d rfl .nil))) ?_
 conv=>cbv
 refine .str aq fun bq b3 ap az=>?_
 conv=>cbv
 refine .go az (hn:=by rw[ap,List.length_append,Array.length_toList];rfl) fun bh a1=>?_
 conv=>cbv
 have t0:l.take i7.toNat=l:=List.take_of_length_le (by omega)
 have e1:Xa2 ⟨hver,hstr,hbas,hlin⟩ l=w3:=by unfold Xa2;rw[ak,hz,t0]
 have e2:Gt hver hbas r7.size l=w4:=by rw[hw,t0]
 rw[t0]at am
 have e:bh=Cd (⟨hver,hstr,hbas,hlin⟩:B9) l:=(by unfold Cd;rw[if_pos ⟨aj,by omega,by simp only[];omega,am⟩,e1,ak,a1,←D1,Wf,←ai,←e2];show _=tx w3++Co _ (Gt hver hbas r7.size l) w3.length;congr 2;omega)
 rw[hr]at e
 subst e
 exact hQ _ _ (.s rfl rfl)
end
section
open Go Go.Proofs
theorem Z6:∀(k:Nat) {h:B9} {b:ByteArray} {n:Nat} {p:Int},(b.size - p).toNat≤k→0≤p∧p≤b.size→p+(Jn h b n p).1.length≤b.size
 |k,h,b,n,p,hk,hp=>by
  cases hm:Ez h.version_ (h.base_+n) b p
  ·rcases hf:Bg h.version_ (h.base_+n) b p with⟨r,q,ok⟩
   cases ok
   ·rw[P7 hm hf]
    simpa using hp.2
   ·have h2:=Iy hf
    rw[Qe hm hf]
    cases k with
    |zero=>omega
    |succ k=>
     have ih:=Z6 k (h:=h) (b:=b) (n:=n+1) (p:=q) (by omega) (by omega)
     rw[List.length_cons]
     omega
  ·rw[P1 hm]
   simpa using hp.2
theorem M4{b:ByteArray}:(Bu b).records_.length≤b.size:=by
 unfold Bu
 split
 ·rename_i h e
  have h2:=H7 e
  have:=Z6 _ (h:=h) (b:=b) (n:=0) (p:=24) (Nat.le_refl _) (by omega)
  show(Jn h b 0 24).1.length≤_
  omega
 ·simp
end
section
open Go Go.Proofs
def Xfz:List (Nat×TyRow):=[ty3,ty9,XfK,Z2,Xp,U5,U1]
theorem Xes:B1 Tryz.prog Xfz:=B1.of (by kernel_rfl)
theorem F5:Setup Tryz.prog Xfz:=⟨Xes,mixed⟩
def Ug{α:Type}(p:α→Bool)(l:List α):Int:=if l.findIdx p<l.length then(l.findIdx p:Int)else -1
section
variable {α:Type} {p:α→Bool} {l:List α} {i:Int}
theorem Me(h0:0≤i)(hi:i.toNat<l.length)(h:p l[i.toNat]=true)(hb:∀(j:Nat) (hj:j<l.length),j<i.toNat→p l[j]=false):i=Ug p l:=by
 have e:l.findIdx p=i.toNat:=(List.findIdx_eq hi).2 ⟨h,fun j hji=>hb j (by omega) hji⟩
 unfold Ug
 rw[e,if_pos hi]
 omega
theorem Hs(hb:∀(j:Nat) (hj:j<l.length),p l[j]=false): -1=Ug p l:=by
 unfold Ug
 rw[if_neg]
 intro hlt
 have:=List.findIdx_getElem (w:=hlt)
 rw[hb _ hlt]at this
 cases this
theorem Xgo(e:Ug p l=i): -1≤i∧i<l.length:=by
 rw[←e]
 unfold Ug
 split<;>omega
theorem Rx(e:Ug p l=i)(h:0≤i):∃hi:i.toNat<l.length,p l[i.toNat]=true:=by
 unfold Ug at e
 split at e
 ·rename_i hlt
  have e2:i.toNat=l.findIdx p:=by omega
  refine⟨by omega,?_⟩
  have:=List.findIdx_getElem (w:=hlt)
  simpa only[e2]using this
 ·omega
theorem XdW(e:Ug p l=i)(h:i<0):∀x∈l,p x=false:=by
 unfold Ug at e
 split at e
 ·omega
 ·rename_i hlt
  intro x hx
  cases hp:p x
  ·rfl
  ·exact absurd (List.findIdx_lt_length_of_exists ⟨x,hx,hp⟩) hlt
end
def Cm(e:Ad)(name:ByteArray):Bool:=decide (e.name_=name)
def Ep(l:List Ad)(name:ByteArray):Int:=Ug (fun e=>Cm e name) l
def Bd(l:List Ad)(name:ByteArray):Int:=Ep l name
def Fe(n:A0)(id:Int):Bool:=decide (n.id_=id)
def Fa(l:List A0)(id:Int):Int:=Ug (fun n=>Fe n id) l
def Jb(d:Aa)(id:Int):Int:=Fa d.nodes_ id
def H2(d:Aa)(id:Int):Int:=Jb d id
def Cw(l:List Ad)(name:ByteArray):Int:=if Bd l name<0 then 0 else(l.getD (Bd l name).toNat ⟨tx [],0⟩).id_
def El(l:List Ad)(name:ByteArray):Bool:=decide (0≤Bd l name)
def Da(d:Aa)(name:ByteArray):Int:=if Bd d.entries_ name<0 then -1 else Jb d (Cw d.entries_ name)
def Ft(d:Aa)(name:ByteArray):A0×Bool:=if Da d name<0 then(⟨0,tx [],0⟩,false)else(d.nodes_.getD (Da d name).toNat ⟨0,tx [],0⟩,true)
def Gu(d:Aa)(name:ByteArray):ByteArray×Bool:=((Ft d name).1.text_,(Ft d name).2)
def okD(d:Aa):Prop:=d.nodes_.length≤1000000000∧(∀n∈d.nodes_,n.text_.size≤1000000000)∧d.entries_.length≤1000000000∧(∀e∈d.entries_,e.name_.size≤1000000000)∧d.old_.length≤1000000000∧d.steps_.length≤1000000000
theorem gD{α:Type}{l:List α}{k:Nat}{d:α}(h:k<l.length):l[k]=l.getD k d:=by rw[List.getD_eq_getElem?_getD,List.getElem?_eq_getElem h];rfl
theorem Jg{l:List Ad}{name:ByteArray}{i:Int}(e:Bd l name=i): -1≤i∧i<l.length:=Xgo e
theorem Yz{d:Aa}{id i:Int}(e:Jb d id=i): -1≤i∧i<d.nodes_.length:=Xgo e
theorem Im{d:Aa}{name:ByteArray}{i:Int}(e:Da d name=i): -1≤i∧i<d.nodes_.length:=by
 unfold Da at e
 split at e
 ·omega
 ·exact Yz e
theorem Xet{d:Aa}{name t:ByteArray}{ok:Bool}(hd:okD d)(e:Gu d name=(t,ok)):t.size≤1000000000:=by
 have e1:(Ft d name).1.text_=t:=congrArg Prod.fst e
 rw[←e1]
 unfold Ft
 split
 ·simp[Bz]
 ·rename_i h
  have h2:=Im (rfl:Da d name=_)
  have h3:(Da d name).toNat<d.nodes_.length:=by omega
  rw[←gD h3]
  exact hd.2.1 _ (List.getElem_mem h3)
theorem Q7{d:Aa}{name:ByteArray}:Ft d name=if H2 d (Cw d.entries_ name)<0∨El d.entries_ name=false then(⟨0,tx [],0⟩,false)else(d.nodes_.getD (H2 d (Cw d.entries_ name)).toNat ⟨0,tx [],0⟩,true):=by
 unfold Ft Da H2 El
 by_cases h:Bd d.entries_ name<0
 ·rw[if_pos h,if_pos (by omega),if_pos (.inr (by simp;omega))]
 ·rw[if_neg h]
  by_cases h2:Jb d (Cw d.entries_ name)<0
  ·rw[if_pos h2,if_pos (.inl h2)]
  ·rw[if_neg h2,if_neg]
   rintro(h3|h3)
   ·exact h2 h3
   ·simp at h3;omega
variable {name oatex oa:ByteArray} {o id Ap An oaid oasur:Int} {l Ah Ai:List Ad} {xl Bo Bn Bm Bp:List (List D)} {Af:List A0} {Ag:List ByteArray} {ob:Bool}
theorem XeB{enam:ByteArray}{eid:Int}{o:Bool}(hr:Cm (⟨enam,eid⟩:Ad) name=o):Fn Tryz.prog 285 [.agg [S enam,I eid],.ptr 0 0 0] [.box 9 [S name]] ⟨B o,[],[]⟩:=by
 refine Fn.goR F5 Tryz.func285 fun P hP Q hQ=>?_
 conv=>cbv
 refine .eql (fun h1=>?_) fun h1=>?_
 conv=>cbv
 have e:true=Cm (⟨enam,eid⟩:Ad) name:=(by unfold Cm;symm;rw[decide_eq_true_eq];exact h1)
 rw[hr]at e
 subst e
 exact hQ _ _ (.o [] rfl)
 conv=>cbv
 have e:false=Cm (⟨enam,eid⟩:Ad) name:=(by unfold Cm;symm;rw[decide_eq_false_iff_not];exact h1)
 rw[hr]at e
 subst e
 exact hQ _ _ (.o [] rfl)
theorem V2{nid:Int}{ntex:ByteArray}{nsur:Int}{o:Bool}(hr:Fe (⟨nid,ntex,nsur⟩:A0) id=o):Fn Tryz.prog 287 [.agg [I nid,S ntex,I nsur],.ptr 0 0 0] [.box 3 [I id]] ⟨B o,[],[]⟩:=by
 refine Fn.goR F5 Tryz.func287 fun P hP Q hQ=>?_
 conv=>cbv
 refine .eql (fun h1=>?_) fun h1=>?_
 conv=>cbv
 have e:true=Fe (⟨nid,ntex,nsur⟩:A0) id:=(by unfold Fe;symm;rw[decide_eq_true_eq];exact h1)
 rw[hr]at e
 subst e
 exact hQ _ _ (.o [] rfl)
 conv=>cbv
 have e:false=Fe (⟨nid,ntex,nsur⟩:A0) id:=(by unfold Fe;symm;rw[decide_eq_false_iff_not];exact h1)
 rw[hr]at e
 subst e
 exact hQ _ _ (.o [] rfl)
theorem Pk(hl:l.map Ac=xl)(hn:l.length<2^40)(hr:Ep l name=o):Fn Tryz.prog 284 [.d (.row 2 xl),.clo 285 [.ptr 0 0 0]] [.box 9 [S name]] ⟨I o,[],[]⟩:=by
 refine Fn.goR F5 Tryz.func284 fun P hP Q hQ=>?_
 conv=>cbv
 refine .go hl fun v1 af=>?_
 conv=>cbv
 refine LoopW.lp (κ:=Int) F5 hP [] [0,1,7] (fun i8=>[(8,I i8)]) (fun i8=>[])
  (fun i8=>0≤i8∧i8≤l.length∧∀(j:Nat) (hj:j<l.length),j<i8.toNat→Cm l[j] name=false)
  (fun i8=>(l.length - i8).toNat) (0) ⟨by omega,by omega,fun j _ h=>by simp at h⟩ ⟨rfl,trivial⟩ rfl ?_
 rintro i8 J ⟨h0,h1,hb⟩ hJ
 conv=>cbv
 refine .lss (fun h2=>?_) fun h2=>?_
 conv=>cbv
 refine .go i8.toNat hl fun ae ⟨aa,ac⟩ ad=>?_
 conv=>cbv
 generalize ab:Cm (⟨aa,ac⟩:Ad) name=r4
 refine .bx [0] [] hP (XeB ab) rfl rfl rfl rfl ?_
 cases r4
 conv=>cbv
 refine .add fun v5 ag=>?_
 conv=>cbv
 exact .go [] (v5) (hJ _ ⟨by omega,by omega,fun j hj h=>if e:j=i8.toNat then by subst e;rw[←ad];exact ab else hb j hj (by omega)⟩ mlt)
 conv=>cbv
 have e:i8=Ep l name:=(by exact Me (p:=fun x=>Cm x name) h0 (by omega) (ad▸ab) hb)
 rw[hr]at e
 subst e
 exact hQ _ _ (.o [] rfl)
 conv=>cbv
 have e:(-1)=Ep l name:=(by exact Hs (p:=fun x=>Cm x name) fun j hj=>hb j hj (by omega))
 rw[hr]at e
 subst e
 exact hQ _ _ (.o [] rfl)
theorem Qh{l:List A0}(hl:l.map Bf=xl)(hn:l.length<2^40)(hr:Fa l id=o):Fn Tryz.prog 286 [.d (.row 3 xl),.clo 287 [.ptr 0 0 0]] [.box 3 [I id]] ⟨I o,[],[]⟩:=by
 refine Fn.goR F5 Tryz.func286 fun P hP Q hQ=>?_
 conv=>cbv
 refine .go hl fun v1 ag=>?_
 conv=>cbv
 refine LoopW.lp (κ:=Int) F5 hP [] [0,1,7] (fun i8=>[(8,I i8)]) (fun i8=>[])
  (fun i8=>0≤i8∧i8≤l.length∧∀(j:Nat) (hj:j<l.length),j<i8.toNat→Fe l[j] id=false)
  (fun i8=>(l.length - i8).toNat) (0) ⟨by omega,by omega,fun j _ h=>by simp at h⟩ ⟨rfl,trivial⟩ rfl ?_
 rintro i8 J ⟨h0,h1,hb⟩ hJ
 conv=>cbv
 refine .lss (fun h2=>?_) fun h2=>?_
 conv=>cbv
 refine .go i8.toNat hl fun af ⟨ad,aa,ab⟩ ae=>?_
 conv=>cbv
 generalize ac:Fe (⟨ad,aa,ab⟩:A0) id=r4
 refine .bx [0] [] hP (V2 ac) rfl rfl rfl rfl ?_
 cases r4
 conv=>cbv
 refine .add fun v5 ah=>?_
 conv=>cbv
 exact .go [] (v5) (hJ _ ⟨by omega,by omega,fun j hj h=>if e:j=i8.toNat then by subst e;rw[←ae];exact ac else hb j hj (by omega)⟩ mlt)
 conv=>cbv
 have e:i8=Fa l id:=(by exact Me (p:=fun x=>Fe x id) h0 (by omega) (ae▸ac) hb)
 rw[hr]at e
 subst e
 exact hQ _ _ (.o [] rfl)
 conv=>cbv
 have e:(-1)=Fa l id:=(by exact Hs (p:=fun x=>Fe x id) fun j hj=>hb j hj (by omega))
 rw[hr]at e
 subst e
 exact hQ _ _ (.o [] rfl)
theorem K2(hl:l.map Ac=xl)(hn:l.length<2^40)(hr:Bd l name=o):Fn Tryz.prog 240 [.d (.row 2 xl),S name] [] ⟨I o,[],[]⟩:=by
 refine Fn.go F5 Tryz.func240 fun P hP Q hQ=>?_
 conv=>cbv
 generalize aa:Ep l name=r1
 refine .bx [0] [] hP (Pk hl (by omega) aa) rfl rfl rfl rfl ?_
 conv=>cbv
 have e:r1=Bd l name:=(by unfold Bd;exact aa.symm)
 rw[hr]at e
 subst e
 exact hQ _ _ (.i rfl rfl)
theorem N0(Al:Af.map Bf=Bo)(Am:Ah.map Ac=Bn)(Aq:Ai.map Ac=Bm)(Ao:Ag.map cS=Bp)(hn:Af.length<2^40)(hr:Jb (⟨Af,Ah,Ai,Ag,Ap,An⟩:Aa) id=o):Fn Tryz.prog 241 [.agg [.d (.row 3 Bo),.d (.row 2 Bn),.d (.row 2 Bm),.d (.row 1 Bp),I Ap,I An],I id] [] ⟨I o,[],[]⟩:=by
 refine Fn.go F5 Tryz.func241 fun P hP Q hQ=>?_
 conv=>cbv
 generalize aa:Fa Af id=r1
 refine .bx [1] [] hP (Qh Al (by omega) aa) rfl rfl rfl rfl ?_
 conv=>cbv
 have e:r1=Jb (⟨Af,Ah,Ai,Ag,Ap,An⟩:Aa) id:=(by unfold Jb;exact aa.symm)
 rw[hr]at e
 subst e
 exact hQ _ _ (.i rfl rfl)
theorem Nl(Al:Af.map Bf=Bo)(Am:Ah.map Ac=Bn)(Aq:Ai.map Ac=Bm)(Ao:Ag.map cS=Bp)(hd:okD ⟨Af,Ah,Ai,Ag,Ap,An⟩)(hr:Da (⟨Af,Ah,Ai,Ag,Ap,An⟩:Aa) name=o):Fn Tryz.prog 177 [.agg [.d (.row 3 Bo),.d (.row 2 Bn),.d (.row 2 Bm),.d (.row 1 Bp),I Ap,I An],S name] [] ⟨I o,[],[]⟩:=by
 refine Fn.go F5 Tryz.func177 fun P hP Q hQ=>?_
 conv=>cbv
 obtain⟨d1,d2,d3,d4,d5,d6⟩:=hd
 simp only[]at d1 d2 d3 d4 d5 d6
 generalize aa:Bd Ah name=r1
 refine .dd hP (K2 Am (by omega) aa) ?_
 conv=>cbv
 have hb:=Jg aa
 refine .lss (fun h2=>?_) fun h2=>?_
 conv=>cbv
 have e:(-1)=Da (⟨Af,Ah,Ai,Ag,Ap,An⟩:Aa) name:=(by unfold Da;rw[if_pos (by simp only[];omega)])
 rw[hr]at e
 subst e
 exact hQ _ _ (.i rfl rfl)
 conv=>cbv
 refine .go r1.toNat Am fun ab ⟨ae,ac⟩ af=>?_
 conv=>cbv
 generalize ad:Jb (⟨Af,Ah,Ai,Ag,Ap,An⟩:Aa) ac=r4
 refine .dd hP (N0 Al Am Aq Ao (by omega) ad) ?_
 conv=>cbv
 have e:r4=Da (⟨Af,Ah,Ai,Ag,Ap,An⟩:Aa) name:=(by unfold Da Cw;simp only[];rw[aa,if_neg (by omega),if_neg (by omega),←gD ab,←af];exact ad.symm)
 rw[hr]at e
 subst e
 exact hQ _ _ (.i rfl rfl)
theorem XfW(Al:Af.map Bf=Bo)(Am:Ah.map Ac=Bn)(Aq:Ai.map Ac=Bm)(Ao:Ag.map cS=Bp)(hd:okD ⟨Af,Ah,Ai,Ag,Ap,An⟩)(hr:Ft (⟨Af,Ah,Ai,Ag,Ap,An⟩:Aa) name=(⟨oaid,oatex,oasur⟩,ob)):Fn Tryz.prog 93 [.agg [.d (.row 3 Bo),.d (.row 2 Bn),.d (.row 2 Bm),.d (.row 1 Bp),I Ap,I An],S name] [] ⟨.tup [.agg [I oaid,S oatex,I oasur],B ob],[],[]⟩:=by
 refine Fn.go F5 Tryz.func93 fun P hP Q hQ=>?_
 conv=>cbv
 generalize aa:Da (⟨Af,Ah,Ai,Ag,Ap,An⟩:Aa) name=r1
 refine .dd hP (Nl Al Am Aq Ao hd aa) ?_
 conv=>cbv
 have hb:=Im aa
 simp only[]at hb
 refine .lss (fun h2=>?_) fun h2=>?_
 conv=>cbv
 have e:((⟨0,tx [],0⟩:A0),false)=Ft (⟨Af,Ah,Ai,Ag,Ap,An⟩:Aa) name:=(by unfold Ft;rw[if_pos (by rw[aa];omega)])
 rw[hr]at e
 simp only[Prod.mk.injEq,A0.mk.injEq]at e
 obtain⟨⟨rfl,rfl,rfl⟩,rfl⟩:=e
 refine hQ _ _ ?_
 exact .m rfl (.agg .d3 .d1)
 conv=>cbv
 refine .go r1.toNat Al fun af ⟨ad,ab,ac⟩ ae=>?_
 conv=>cbv
 have e:((⟨ad,ab,ac⟩:A0),true)=Ft (⟨Af,Ah,Ai,Ag,Ap,An⟩:Aa) name:=(by unfold Ft;rw[aa,if_neg (by omega)];simp only[];rw[←gD (show r1.toNat<Af.length by omega)];rw[←ae])
 rw[hr]at e
 simp only[Prod.mk.injEq,A0.mk.injEq]at e
 obtain⟨⟨rfl,rfl,rfl⟩,rfl⟩:=e
 refine hQ _ _ ?_
 exact .m rfl (.agg .d3 .d1)
theorem XhA(Al:Af.map Bf=Bo)(Am:Ah.map Ac=Bn)(Aq:Ai.map Ac=Bm)(Ao:Ag.map cS=Bp)(hd:okD ⟨Af,Ah,Ai,Ag,Ap,An⟩)(hr:Gu (⟨Af,Ah,Ai,Ag,Ap,An⟩:Aa) name=(oa,ob)):Fn Tryz.prog 79 [.agg [.d (.row 3 Bo),.d (.row 2 Bn),.d (.row 2 Bm),.d (.row 1 Bp),I Ap,I An],S name] [] ⟨.tup [S oa,B ob],[],[]⟩:=by
 refine Fn.go F5 Tryz.func79 fun P hP Q hQ=>?_
 conv=>cbv
 rcases ab:Ft (⟨Af,Ah,Ai,Ag,Ap,An⟩:Aa) name with⟨⟨ad,aa,ac⟩,ae⟩
 refine .dd hP (XfW Al Am Aq Ao hd ab) ?_
 conv=>cbv
 have e:(aa,ae)=Gu (⟨Af,Ah,Ai,Ag,Ap,An⟩:Aa) name:=(by unfold Gu;rw[ab])
 rw[hr]at e
 simp only[Prod.mk.injEq]at e
 obtain⟨rfl,rfl⟩:=e
 refine hQ _ _ ?_
 exact .m rfl .d2
theorem Nb(hl:l.map Ac=xl)(hn:l.length<2^40)(hr:Cw l name=o):Fn Tryz.prog 187 [.d (.row 2 xl),S name] [] ⟨I o,[],[]⟩:=by
 refine Fn.go F5 Tryz.func187 fun P hP Q hQ=>?_
 conv=>cbv
 refine LoopW.lp (κ:=Int) F5 hP [] [0,1] (fun i5=>[(5,I i5)]) (fun i5=>[])
  (fun i5=>0≤i5∧i5≤l.length∧∀(j:Nat) (hj:j<l.length),j<i5.toNat→Cm l[j] name=false)
  (fun i5=>(l.length - i5).toNat) (0) ⟨by omega,by omega,fun j _ h=>by simp at h⟩ ⟨rfl,trivial⟩ rfl ?_
 rintro i5 J ⟨h0,h1,hb⟩ hJ
 conv=>cbv
 refine .go hl fun v1 ai=>?_
 conv=>cbv
 refine .lss (fun h2=>?_) fun h2=>?_
 conv=>cbv
 refine .go i5.toNat hl fun ag ⟨ad,ah⟩ aa=>?_
 conv=>cbv
 refine .eql (fun h4=>?_) fun h4=>?_
 conv=>cbv
 refine .go i5.toNat hl fun ab ⟨ae,ac⟩ af=>?_
 conv=>cbv
 have e:ac=Cw l name:=(by have e2:Bd l name=i5:=(Me (p:=fun x=>Cm x name) (l:=l) h0 (by omega) (by rw[←aa];unfold Cm;rw[decide_eq_true_eq];exact h4) hb).symm;unfold Cw;rw[e2,if_neg (by omega),←gD ab,←af])
 rw[hr]at e
 subst e
 exact hQ _ _ (.i rfl rfl)
 conv=>cbv
 refine .add fun v5 aj=>?_
 conv=>cbv
 exact .go [] (v5) (hJ _ ⟨by omega,by omega,fun j hj h=>if e:j=i5.toNat then by subst e;rw[←aa];unfold Cm;rw[decide_eq_false_iff_not];exact h4 else hb j hj (by omega)⟩ mlt)
 conv=>cbv
 have e:0=Cw l name:=(by have e2:Bd l name= -1:=(Hs (p:=fun x=>Cm x name) fun j hj=>hb j hj (by omega)).symm;unfold Cw;rw[e2,if_pos (by omega)])
 rw[hr]at e
 subst e
 exact hQ _ _ (.i rfl rfl)
theorem S8(Al:Af.map Bf=Bo)(Am:Ah.map Ac=Bn)(Aq:Ai.map Ac=Bm)(Ao:Ag.map cS=Bp)(hn:Af.length<2^40)(hr:H2 (⟨Af,Ah,Ai,Ag,Ap,An⟩:Aa) id=o):Fn Tryz.prog 186 [.agg [.d (.row 3 Bo),.d (.row 2 Bn),.d (.row 2 Bm),.d (.row 1 Bp),I Ap,I An],I id] [] ⟨I o,[],[]⟩:=by
 refine Fn.go F5 Tryz.func186 fun P hP Q hQ=>?_
 conv=>cbv
 refine LoopW.lp (κ:=Int) F5 hP [] [1,2] (fun i5=>[(5,I i5)]) (fun i5=>[])
  (fun i5=>0≤i5∧i5≤Af.length∧∀(j:Nat) (hj:j<Af.length),j<i5.toNat→Fe Af[j] id=false)
  (fun i5=>(Af.length - i5).toNat) (0) ⟨by omega,by omega,fun j _ h=>by simp at h⟩ ⟨rfl,trivial⟩ rfl ?_
 rintro i5 J ⟨h0,h1,hb⟩ hJ
 conv=>cbv
 refine .go Al fun v1 af=>?_
 conv=>cbv
 refine .lss (fun h2=>?_) fun h2=>?_
 conv=>cbv
 refine .go i5.toNat Al fun ad ⟨ae,ab,ac⟩ aa=>?_
 conv=>cbv
 refine .eql (fun h4=>?_) fun h4=>?_
 conv=>cbv
 have e:i5=H2 (⟨Af,Ah,Ai,Ag,Ap,An⟩:Aa) id:=(by exact Me (p:=fun x=>Fe x id) (l:=Af) h0 (by omega) (by rw[←aa];unfold Fe;rw[decide_eq_true_eq];exact h4) hb)
 rw[hr]at e
 subst e
 exact hQ _ _ (.i rfl rfl)
 conv=>cbv
 refine .add fun v5 ag=>?_
 conv=>cbv
 exact .go [] (v5) (hJ _ ⟨by omega,by omega,fun j hj h=>if e:j=i5.toNat then by subst e;rw[←aa];unfold Fe;rw[decide_eq_false_iff_not];exact h4 else hb j hj (by omega)⟩ mlt)
 conv=>cbv
 have e:(-1)=H2 (⟨Af,Ah,Ai,Ag,Ap,An⟩:Aa) id:=(by exact Hs (p:=fun x=>Fe x id) (l:=Af) fun j hj=>hb j hj (by omega))
 rw[hr]at e
 subst e
 exact hQ _ _ (.i rfl rfl)
theorem Nn{o:Bool}(hl:l.map Ac=xl)(hn:l.length<2^40)(hr:El l name=o):Fn Tryz.prog 188 [.d (.row 2 xl),S name] [] ⟨B o,[],[]⟩:=by
 refine Fn.go F5 Tryz.func188 fun P hP Q hQ=>?_
 conv=>cbv
 refine LoopW.lp (κ:=Int) F5 hP [] [0,1] (fun i5=>[(5,I i5)]) (fun i5=>[])
  (fun i5=>0≤i5∧i5≤l.length∧∀(j:Nat) (hj:j<l.length),j<i5.toNat→Cm l[j] name=false)
  (fun i5=>(l.length - i5).toNat) (0) ⟨by omega,by omega,fun j _ h=>by simp at h⟩ ⟨rfl,trivial⟩ rfl ?_
 rintro i5 J ⟨h0,h1,hb⟩ hJ
 conv=>cbv
 refine .go hl fun v1 ae=>?_
 conv=>cbv
 refine .lss (fun h2=>?_) fun h2=>?_
 conv=>cbv
 refine .go i5.toNat hl fun ac ⟨ab,ad⟩ aa=>?_
 conv=>cbv
 refine .eql (fun h4=>?_) fun h4=>?_
 conv=>cbv
 have e:true=El l name:=(by have e2:Bd l name=i5:=(Me (p:=fun x=>Cm x name) (l:=l) h0 (by omega) (by rw[←aa];unfold Cm;rw[decide_eq_true_eq];exact h4) hb).symm;unfold El;rw[e2];symm;rw[decide_eq_true_eq];omega)
 rw[hr]at e
 subst e
 exact hQ _ _ (.b rfl rfl)
 conv=>cbv
 refine .add fun v5 af=>?_
 conv=>cbv
 exact .go [] (v5) (hJ _ ⟨by omega,by omega,fun j hj h=>if e:j=i5.toNat then by subst e;rw[←aa];unfold Cm;rw[decide_eq_false_iff_not];exact h4 else hb j hj (by omega)⟩ mlt)
 conv=>cbv
 have e:false=El l name:=(by have e2:Bd l name= -1:=(Hs (p:=fun x=>Cm x name) fun j hj=>hb j hj (by omega)).symm;unfold El;rw[e2];rfl)
 rw[hr]at e
 subst e
 exact hQ _ _ (.b rfl rfl)
theorem Xf9(Al:Af.map Bf=Bo)(Am:Ah.map Ac=Bn)(Aq:Ai.map Ac=Bm)(Ao:Ag.map cS=Bp)(hd:okD ⟨Af,Ah,Ai,Ag,Ap,An⟩)(hr:Ft (⟨Af,Ah,Ai,Ag,Ap,An⟩:Aa) name=(⟨oaid,oatex,oasur⟩,ob)):Fn Tryz.prog 100 [.agg [.d (.row 3 Bo),.d (.row 2 Bn),.d (.row 2 Bm),.d (.row 1 Bp),I Ap,I An],S name] [] ⟨.tup [.agg [I oaid,S oatex,I oasur],B ob],[],[]⟩:=by
 refine Fn.go F5 Tryz.func100 fun P hP Q hQ=>?_
 conv=>cbv
 obtain⟨d1,d2,d3,d4,d5,d6⟩:=hd
 simp only[]at d1 d2 d3 d4 d5 d6
 generalize ab:Cw Ah name=r1
 refine .dd hP (Nb Am (by omega) ab) ?_
 conv=>cbv
 generalize aa:H2 (⟨Af,Ah,Ai,Ag,Ap,An⟩:Aa) r1=r2
 refine .dd hP (S8 Al Am Aq Ao (by omega) aa) ?_
 conv=>cbv
 have hb:=Yz (d:=⟨Af,Ah,Ai,Ag,Ap,An⟩) (id:=r1) aa
 simp only[]at hb
 refine .lss (fun h3=>?_) fun h3=>?_
 conv=>cbv
 have e:((⟨0,tx [],0⟩:A0),false)=Ft (⟨Af,Ah,Ai,Ag,Ap,An⟩:Aa) name:=(by rw[Q7,if_pos (.inl (by simp only[];rw[ab,aa];omega))])
 rw[hr]at e
 simp only[Prod.mk.injEq,A0.mk.injEq]at e
 obtain⟨⟨rfl,rfl,rfl⟩,rfl⟩:=e
 refine hQ _ _ ?_
 exact .m rfl (.agg .d3 .d1)
 conv=>cbv
 generalize ac:El Ah name=r4
 refine .dd hP (Nn Am (by omega) ac) ?_
 cases r4
 conv=>cbv
 have e:((⟨0,tx [],0⟩:A0),false)=Ft (⟨Af,Ah,Ai,Ag,Ap,An⟩:Aa) name:=(by rw[Q7,if_pos (.inr ac)])
 rw[hr]at e
 simp only[Prod.mk.injEq,A0.mk.injEq]at e
 obtain⟨⟨rfl,rfl,rfl⟩,rfl⟩:=e
 refine hQ _ _ ?_
 exact .m rfl (.agg .d3 .d1)
 conv=>cbv
 refine .go r2.toNat Al fun ah ⟨af,ad,ae⟩ ag=>?_
 conv=>cbv
 have e:((⟨af,ad,ae⟩:A0),true)=Ft (⟨Af,Ah,Ai,Ag,Ap,An⟩:Aa) name:=(by rw[Q7,if_neg (by simp only[];rw[ab,aa,ac];rintro(h|h);omega;cases h)];simp only[];rw[ab,aa,←gD (show r2.toNat<Af.length by omega),←ag])
 rw[hr]at e
 simp only[Prod.mk.injEq,A0.mk.injEq]at e
 obtain⟨⟨rfl,rfl,rfl⟩,rfl⟩:=e
 refine hQ _ _ ?_
 exact .m rfl (.agg .d3 .d1)
theorem Xg5(Al:Af.map Bf=Bo)(Am:Ah.map Ac=Bn)(Aq:Ai.map Ac=Bm)(Ao:Ag.map cS=Bp)(hd:okD ⟨Af,Ah,Ai,Ag,Ap,An⟩)(hr:Gu (⟨Af,Ah,Ai,Ag,Ap,An⟩:Aa) name=(oa,ob)):Fn Tryz.prog 68 [.agg [.d (.row 3 Bo),.d (.row 2 Bn),.d (.row 2 Bm),.d (.row 1 Bp),I Ap,I An],S name] [] ⟨.tup [S oa,B ob],[],[]⟩:=by
 refine Fn.go F5 Tryz.func68 fun P hP Q hQ=>?_
 conv=>cbv
 rcases ab:Ft (⟨Af,Ah,Ai,Ag,Ap,An⟩:Aa) name with⟨⟨ad,aa,ac⟩,ae⟩
 refine .dd hP (Xf9 Al Am Aq Ao hd ab) ?_
 conv=>cbv
 have e:(aa,ae)=Gu (⟨Af,Ah,Ai,Ag,Ap,An⟩:Aa) name:=(by unfold Gu;rw[ab])
 rw[hr]at e
 simp only[Prod.mk.injEq]at e
 obtain⟨rfl,rfl⟩:=e
 refine hQ _ _ ?_
 exact .m rfl .d2
end
section
open Go.Proofs
open Go.Shelf
def Tryz.lays172_ren:Go.Shelf.Ren:=⟨fun|172=>330|244=>343|245=>279|247=>352|279=>312|280=>313|281=>314|282=>315|287=>278|316=>334|171=>242|205=>335|321=>310|322=>311|243=>288|246=>289|283=>316|284=>317|285=>318|286=>319|129=>337|317=>336|318=>338|319=>339|320=>340|337=>346|338=>347|n=>n,fun|9=>9|3=>3|75=>207|76=>217|4=>4|5=>5|167=>247|37=>22|0=>0|85=>285|2=>2|168=>249|53=>205|175=>208|46=>146|210=>271|127=>241|145=>282|143=>280|21=>21|171=>252|173=>255|212=>274|51=>257|20=>20|213=>275|232=>287|233=>288|80=>220|n=>n,fun|15=>0|16=>1|17=>2|18=>4|19=>5|n=>n⟩
def Tryz.laysM246_ren:Go.Shelf.Ren:=⟨fun|246=>289|283=>316|284=>317|285=>318|286=>319|129=>337|317=>336|318=>338|319=>339|320=>340|337=>346|338=>347|n=>n,fun|2=>2|3=>3|9=>9|4=>4|171=>252|0=>0|53=>205|37=>22|5=>5|173=>255|212=>274|51=>257|20=>20|213=>275|46=>146|232=>287|233=>288|n=>n,fun|17=>2|18=>4|19=>5|n=>n⟩
def Tryz.laysM243_ren:Go.Shelf.Ren:=⟨fun|243=>288|246=>289|283=>316|284=>317|285=>318|286=>319|129=>337|317=>336|318=>338|319=>339|320=>340|337=>346|338=>347|n=>n,fun|3=>3|9=>9|2=>2|4=>4|171=>252|0=>0|53=>205|37=>22|5=>5|173=>255|212=>274|51=>257|20=>20|213=>275|46=>146|232=>287|233=>288|n=>n,fun|17=>2|18=>4|19=>5|n=>n⟩
def Tryz.laysM171_ren:Go.Shelf.Ren:=⟨fun|171=>242|243=>288|246=>289|283=>316|284=>317|285=>318|286=>319|129=>337|317=>336|318=>338|319=>339|320=>340|337=>346|338=>347|n=>n,fun|3=>3|9=>9|2=>2|4=>4|171=>252|0=>0|53=>205|37=>22|5=>5|173=>255|212=>274|51=>257|20=>20|213=>275|46=>146|232=>287|233=>288|n=>n,fun|17=>2|18=>4|19=>5|n=>n⟩
theorem Tryz.laysM171:Go.Proofs.LaysM.n171 Tryz.prog Tryz.laysM171_ren:={
 mixed:=by kernel_rfl
 f129:=Tryz.func337.trans (congrArg some (by kernel_rfl))
 f171:=Tryz.func242.trans (congrArg some (by kernel_rfl))
 f243:=Tryz.func288.trans (congrArg some (by kernel_rfl))
 f246:=Tryz.func289.trans (congrArg some (by kernel_rfl))
 f283:=Tryz.func316.trans (congrArg some (by kernel_rfl))
 f284:=Tryz.func317.trans (congrArg some (by kernel_rfl))
 f285:=Tryz.func318.trans (congrArg some (by kernel_rfl))
 f286:=Tryz.func319.trans (congrArg some (by kernel_rfl))
 f317:=Tryz.func336.trans (congrArg some (by kernel_rfl))
 f318:=Tryz.func338.trans (congrArg some (by kernel_rfl))
 f319:=Tryz.func339.trans (congrArg some (by kernel_rfl))
 f320:=Tryz.func340.trans (congrArg some (by kernel_rfl))
 f337:=Tryz.func346.trans (congrArg some (by kernel_rfl))
 f338:=Tryz.func347.trans (congrArg some (by kernel_rfl))
 t0:=Tryz.underlying0
 a0:=Tryz.isAgg0
 z0:=Tryz.sizeOf0
 v0:=Tryz.zeroValue0
 t2:=Tryz.underlying2
 a2:=Tryz.isAgg2
 z2:=Tryz.sizeOf2
 v2:=Tryz.zeroValue2
 t3:=Tryz.underlying3
 a3:=Tryz.isAgg3
 z3:=Tryz.sizeOf3
 v3:=Tryz.zeroValue3
 t4:=Tryz.underlying4
 a4:=Tryz.isAgg4
 z4:=Tryz.sizeOf4
 v4:=Tryz.zeroValue4
 t5:=Tryz.underlying5
 a5:=Tryz.isAgg5
 z5:=Tryz.sizeOf5
 v5:=Tryz.zeroValue5
 t9:=Tryz.underlying9
 a9:=Tryz.isAgg9
 z9:=Tryz.sizeOf9
 v9:=Tryz.zeroValue9
 t20:=Tryz.underlying20
 a20:=Tryz.isAgg20
 z20:=Tryz.sizeOf20
 v20:=Tryz.zeroValue20
 t37:=Tryz.underlying22
 a37:=Tryz.isAgg22
 z37:=Tryz.sizeOf22
 v37:=Tryz.zeroValue22
 t46:=Tryz.underlying146
 a46:=Tryz.isAgg146
 z46:=Tryz.sizeOf146
 v46:=Tryz.zeroValue146
 t51:=Tryz.underlying257
 a51:=Tryz.isAgg257
 z51:=Tryz.sizeOf257
 v51:=Tryz.zeroValue257
 t53:=Tryz.underlying205
 a53:=Tryz.isAgg205
 z53:=Tryz.sizeOf205
 v53:=Tryz.zeroValue205
 t171:=Tryz.underlying252
 a171:=Tryz.isAgg252
 z171:=Tryz.sizeOf252
 v171:=Tryz.zeroValue252
 t173:=Tryz.underlying255
 a173:=Tryz.isAgg255
 z173:=Tryz.sizeOf255
 v173:=Tryz.zeroValue255
 t212:=Tryz.underlying274
 a212:=Tryz.isAgg274
 z212:=Tryz.sizeOf274
 v212:=Tryz.zeroValue274
 t213:=Tryz.underlying275
 a213:=Tryz.isAgg275
 z213:=Tryz.sizeOf275
 t232:=Tryz.underlying287
 a232:=Tryz.isAgg287
 z232:=Tryz.sizeOf287
 v232:=Tryz.zeroValue287
 t233:=Tryz.underlying288
 a233:=Tryz.isAgg288
 z233:=Tryz.sizeOf288
 v233:=Tryz.zeroValue288
 g17:=by kernel_rfl
 g18:=by kernel_rfl
 g19:=by kernel_rfl
 i0:=by kernel_rfl
 i2:=by kernel_rfl
 i3:=by kernel_rfl
 i4:=by kernel_rfl
 i5:=by kernel_rfl
 i9:=by kernel_rfl
 i20:=by kernel_rfl
 i37:=by kernel_rfl
 i46:=by kernel_rfl
 i51:=by kernel_rfl
 i53:=by kernel_rfl
 i171:=by kernel_rfl
 i173:=by kernel_rfl
 i212:=by kernel_rfl
 i232:=by kernel_rfl
 i233:=by kernel_rfl
 m17:=by kernel_rfl
 m18:=by kernel_rfl
 m19:=by kernel_rfl}
open Go.RowKit Go.Sort Go.Lib in
theorem Tryz.strconv_Itoa(n:Int)(h0: -9223372036854775808≤n)(h1:n≤9223372036854775807)(w:World)(htab:Lib.TabIs Tryz.prog w "internal/strconv.uint64pow10" .u64 Lib.pow10Tab):
  Calls Tryz.prog 242 #[.int .i64 n] w fun e w'=>e= .returned (.string ⟨(Lib.itoa n).toArray⟩)∧∃k os,w'=grow (w.drewN k) os:=Any.strconv_Itoa Tryz.laysM171 n h0 h1 w htab
def Tryz.laysC245_ren:Go.Shelf.Ren:=⟨fun|245=>279|279=>312|280=>313|281=>314|282=>315|316=>334|171=>242|205=>335|243=>288|246=>289|283=>316|284=>317|285=>318|286=>319|129=>337|317=>336|318=>338|319=>339|320=>340|337=>346|338=>347|n=>n,fun|9=>9|3=>3|75=>207|167=>247|4=>4|168=>249|210=>271|37=>22|0=>0|127=>241|145=>282|143=>280|2=>2|171=>252|53=>205|5=>5|173=>255|212=>274|51=>257|20=>20|213=>275|46=>146|232=>287|233=>288|80=>220|n=>n,fun|15=>0|16=>1|17=>2|18=>4|19=>5|n=>n⟩
theorem Tryz.laysC245:Go.Proofs.LaysC.n245 Tryz.prog Tryz.laysC245_ren:={
 mixed:=by kernel_rfl
 f129:=Tryz.func337.trans (congrArg some (by kernel_rfl))
 f171:=Tryz.func242.trans (congrArg some (by kernel_rfl))
 f205:=Tryz.func335.trans (congrArg some (by kernel_rfl))
 f243:=Tryz.func288.trans (congrArg some (by kernel_rfl))
 f245:=Tryz.func279.trans (congrArg some (by kernel_rfl))
 f246:=Tryz.func289.trans (congrArg some (by kernel_rfl))
 f279:=Tryz.func312.trans (congrArg some (by kernel_rfl))
 f280:=Tryz.func313.trans (congrArg some (by kernel_rfl))
 f281:=Tryz.func314.trans (congrArg some (by kernel_rfl))
 f282:=Tryz.func315.trans (congrArg some (by kernel_rfl))
 f283:=Tryz.func316.trans (congrArg some (by kernel_rfl))
 f284:=Tryz.func317.trans (congrArg some (by kernel_rfl))
 f285:=Tryz.func318.trans (congrArg some (by kernel_rfl))
 f286:=Tryz.func319.trans (congrArg some (by kernel_rfl))
 f316:=Tryz.func334.trans (congrArg some (by kernel_rfl))
 f317:=Tryz.func336.trans (congrArg some (by kernel_rfl))
 f318:=Tryz.func338.trans (congrArg some (by kernel_rfl))
 f319:=Tryz.func339.trans (congrArg some (by kernel_rfl))
 f320:=Tryz.func340.trans (congrArg some (by kernel_rfl))
 f337:=Tryz.func346.trans (congrArg some (by kernel_rfl))
 f338:=Tryz.func347.trans (congrArg some (by kernel_rfl))
 t0:=Tryz.underlying0
 a0:=Tryz.isAgg0
 z0:=Tryz.sizeOf0
 v0:=Tryz.zeroValue0
 t2:=Tryz.underlying2
 a2:=Tryz.isAgg2
 z2:=Tryz.sizeOf2
 v2:=Tryz.zeroValue2
 t3:=Tryz.underlying3
 a3:=Tryz.isAgg3
 z3:=Tryz.sizeOf3
 v3:=Tryz.zeroValue3
 t4:=Tryz.underlying4
 a4:=Tryz.isAgg4
 z4:=Tryz.sizeOf4
 v4:=Tryz.zeroValue4
 t5:=Tryz.underlying5
 a5:=Tryz.isAgg5
 z5:=Tryz.sizeOf5
 v5:=Tryz.zeroValue5
 t9:=Tryz.underlying9
 a9:=Tryz.isAgg9
 z9:=Tryz.sizeOf9
 v9:=Tryz.zeroValue9
 t20:=Tryz.underlying20
 a20:=Tryz.isAgg20
 z20:=Tryz.sizeOf20
 v20:=Tryz.zeroValue20
 t37:=Tryz.underlying22
 a37:=Tryz.isAgg22
 z37:=Tryz.sizeOf22
 v37:=Tryz.zeroValue22
 t46:=Tryz.underlying146
 a46:=Tryz.isAgg146
 z46:=Tryz.sizeOf146
 v46:=Tryz.zeroValue146
 t51:=Tryz.underlying257
 a51:=Tryz.isAgg257
 z51:=Tryz.sizeOf257
 v51:=Tryz.zeroValue257
 t53:=Tryz.underlying205
 a53:=Tryz.isAgg205
 z53:=Tryz.sizeOf205
 v53:=Tryz.zeroValue205
 t75:=Tryz.underlying207
 a75:=Tryz.isAgg207
 z75:=Tryz.sizeOf207
 v75:=Tryz.zeroValue207
 t127:=Tryz.underlying241
 a127:=Tryz.isAgg241
 z127:=Tryz.sizeOf241
 v127:=Tryz.zeroValue241
 t143:=Tryz.underlying280
 a143:=Tryz.isAgg280
 z143:=Tryz.sizeOf280
 v143:=Tryz.zeroValue280
 t145:=Tryz.underlying282
 a145:=Tryz.isAgg282
 z145:=Tryz.sizeOf282
 v145:=Tryz.zeroValue282
 t167:=Tryz.underlying247
 a167:=Tryz.isAgg247
 z167:=Tryz.sizeOf247
 v167:=Tryz.zeroValue247
 t168:=Tryz.underlying249
 a168:=Tryz.isAgg249
 z168:=Tryz.sizeOf249
 v168:=Tryz.zeroValue249
 t171:=Tryz.underlying252
 a171:=Tryz.isAgg252
 z171:=Tryz.sizeOf252
 v171:=Tryz.zeroValue252
 t173:=Tryz.underlying255
 a173:=Tryz.isAgg255
 z173:=Tryz.sizeOf255
 v173:=Tryz.zeroValue255
 t210:=Tryz.underlying271
 a210:=Tryz.isAgg271
 z210:=Tryz.sizeOf271
 v210:=Tryz.zeroValue271
 t212:=Tryz.underlying274
 a212:=Tryz.isAgg274
 z212:=Tryz.sizeOf274
 v212:=Tryz.zeroValue274
 t213:=Tryz.underlying275
 a213:=Tryz.isAgg275
 z213:=Tryz.sizeOf275
 t232:=Tryz.underlying287
 a232:=Tryz.isAgg287
 z232:=Tryz.sizeOf287
 v232:=Tryz.zeroValue287
 t233:=Tryz.underlying288
 a233:=Tryz.isAgg288
 z233:=Tryz.sizeOf288
 v233:=Tryz.zeroValue288
 g15:=by kernel_rfl
 g16:=by kernel_rfl
 g17:=by kernel_rfl
 g18:=by kernel_rfl
 g19:=by kernel_rfl
 t80:=Tryz.underlying220
 a80:=Tryz.isAgg220
 z80:=Tryz.sizeOf220
 v80:=Tryz.zeroValue220
 i0:=by kernel_rfl
 i2:=by kernel_rfl
 i3:=by kernel_rfl
 i4:=by kernel_rfl
 i5:=by kernel_rfl
 i9:=by kernel_rfl
 i20:=by kernel_rfl
 i37:=by kernel_rfl
 i46:=by kernel_rfl
 i51:=by kernel_rfl
 i53:=by kernel_rfl
 i75:=by kernel_rfl
 i80:=by kernel_rfl
 i127:=by kernel_rfl
 i143:=by kernel_rfl
 i145:=by kernel_rfl
 i167:=by kernel_rfl
 i168:=by kernel_rfl
 i171:=by kernel_rfl
 i173:=by kernel_rfl
 i210:=by kernel_rfl
 i212:=by kernel_rfl
 i232:=by kernel_rfl
 i233:=by kernel_rfl
 m15:=by kernel_rfl
 m16:=by kernel_rfl
 m17:=by kernel_rfl
 m18:=by kernel_rfl
 m19:=by kernel_rfl
 c0:=by kernel_rfl
 c2:=by kernel_rfl
 c3:=by kernel_rfl
 c4:=by kernel_rfl
 c5:=by kernel_rfl
 c9:=by kernel_rfl
 c20:=by kernel_rfl
 c37:=by kernel_rfl
 c46:=by kernel_rfl
 c51:=by kernel_rfl
 c53:=by kernel_rfl
 c75:=by kernel_rfl
 c80:=by kernel_rfl
 c127:=by kernel_rfl
 c143:=by kernel_rfl
 c145:=by kernel_rfl
 c167:=by kernel_rfl
 c168:=by kernel_rfl
 c171:=by kernel_rfl
 c173:=by kernel_rfl
 c210:=by kernel_rfl
 c212:=by kernel_rfl
 c213:=by kernel_rfl
 c232:=by kernel_rfl
 c233:=by kernel_rfl}
open Go.RowKit in
theorem Tryz.strconv_toError_syntax(fn s:ByteArray)(base bits:Int)(ev:Value)(w:World)(hlim:s.size≤281474976710656)(hv:w.cell? ⟨0,0,none⟩=some ev)(hev:ev= .nilIface∨∃te pe,ev= .iface te pe):
  Calls Tryz.prog 279 #[.string fn,.string s,.int .i64 base,.int .i64 bits,.iface 247 (.int .i64 2)] w fun e w'=>∃N,e= .returned (.iface 249 (.pointer (some ⟨N,0,none⟩)))∧w.heap.size≤N∧w'.heap[N]? =some (.cells #[.string fn,.string s,ev] 271 (0,0))∧Below w.heap.size w w':=Any.strconv_toError_syntax Tryz.laysC245 fn s base bits ev w hlim hv hev
def Tryz.lays287_ren:Go.Shelf.Ren:=⟨fun|287=>278|321=>310|322=>311|n=>n,fun|9=>9|3=>3|53=>205|75=>207|4=>4|167=>247|5=>5|46=>146|37=>22|0=>0|21=>21|80=>220|n=>n,fun|n=>n⟩
theorem Tryz.lays287:Go.Proofs.Lays.n287 Tryz.prog Tryz.lays287_ren:={
 mixed:=by kernel_rfl
 f287:=Tryz.func278.trans (congrArg some (by kernel_rfl))
 f321:=Tryz.func310.trans (congrArg some (by kernel_rfl))
 f322:=Tryz.func311.trans (congrArg some (by kernel_rfl))
 t0:=Tryz.underlying0
 a0:=Tryz.isAgg0
 z0:=Tryz.sizeOf0
 v0:=Tryz.zeroValue0
 t3:=Tryz.underlying3
 a3:=Tryz.isAgg3
 z3:=Tryz.sizeOf3
 v3:=Tryz.zeroValue3
 t4:=Tryz.underlying4
 a4:=Tryz.isAgg4
 z4:=Tryz.sizeOf4
 v4:=Tryz.zeroValue4
 t5:=Tryz.underlying5
 a5:=Tryz.isAgg5
 z5:=Tryz.sizeOf5
 v5:=Tryz.zeroValue5
 t9:=Tryz.underlying9
 a9:=Tryz.isAgg9
 z9:=Tryz.sizeOf9
 v9:=Tryz.zeroValue9
 t21:=Tryz.underlying21
 a21:=Tryz.isAgg21
 z21:=Tryz.sizeOf21
 v21:=Tryz.zeroValue21
 t37:=Tryz.underlying22
 a37:=Tryz.isAgg22
 z37:=Tryz.sizeOf22
 v37:=Tryz.zeroValue22
 t46:=Tryz.underlying146
 a46:=Tryz.isAgg146
 z46:=Tryz.sizeOf146
 v46:=Tryz.zeroValue146
 t53:=Tryz.underlying205
 a53:=Tryz.isAgg205
 z53:=Tryz.sizeOf205
 v53:=Tryz.zeroValue205
 t75:=Tryz.underlying207
 a75:=Tryz.isAgg207
 z75:=Tryz.sizeOf207
 v75:=Tryz.zeroValue207
 t167:=Tryz.underlying247
 a167:=Tryz.isAgg247
 z167:=Tryz.sizeOf247
 v167:=Tryz.zeroValue247}
def Tryz.laysC172_ren:Go.Shelf.Ren:=⟨fun|172=>330|244=>343|245=>279|247=>352|279=>312|280=>313|281=>314|282=>315|287=>278|316=>334|171=>242|205=>335|321=>310|322=>311|243=>288|246=>289|283=>316|284=>317|285=>318|286=>319|129=>337|317=>336|318=>338|319=>339|320=>340|337=>346|338=>347|n=>n,fun|9=>9|3=>3|75=>207|76=>217|4=>4|5=>5|167=>247|37=>22|0=>0|85=>285|2=>2|168=>249|53=>205|175=>208|46=>146|210=>271|127=>241|145=>282|143=>280|21=>21|171=>252|173=>255|212=>274|51=>257|20=>20|213=>275|232=>287|233=>288|80=>220|n=>n,fun|15=>0|16=>1|17=>2|18=>4|19=>5|n=>n⟩
theorem Tryz.laysC172:Go.Proofs.LaysC.n172 Tryz.prog Tryz.laysC172_ren:={
 mixed:=by kernel_rfl
 f129:=Tryz.func337.trans (congrArg some (by kernel_rfl))
 f171:=Tryz.func242.trans (congrArg some (by kernel_rfl))
 f172:=Tryz.func330.trans (congrArg some (by kernel_rfl))
 f205:=Tryz.func335.trans (congrArg some (by kernel_rfl))
 f243:=Tryz.func288.trans (congrArg some (by kernel_rfl))
 f244:=Tryz.func343.trans (congrArg some (by kernel_rfl))
 f245:=Tryz.func279.trans (congrArg some (by kernel_rfl))
 f246:=Tryz.func289.trans (congrArg some (by kernel_rfl))
 f247:=Tryz.func352.trans (congrArg some (by kernel_rfl))
 f279:=Tryz.func312.trans (congrArg some (by kernel_rfl))
 f280:=Tryz.func313.trans (congrArg some (by kernel_rfl))
 f281:=Tryz.func314.trans (congrArg some (by kernel_rfl))
 f282:=Tryz.func315.trans (congrArg some (by kernel_rfl))
 f283:=Tryz.func316.trans (congrArg some (by kernel_rfl))
 f284:=Tryz.func317.trans (congrArg some (by kernel_rfl))
 f285:=Tryz.func318.trans (congrArg some (by kernel_rfl))
 f286:=Tryz.func319.trans (congrArg some (by kernel_rfl))
 f287:=Tryz.func278.trans (congrArg some (by kernel_rfl))
 f316:=Tryz.func334.trans (congrArg some (by kernel_rfl))
 f317:=Tryz.func336.trans (congrArg some (by kernel_rfl))
 f318:=Tryz.func338.trans (congrArg some (by kernel_rfl))
 f319:=Tryz.func339.trans (congrArg some (by kernel_rfl))
 f320:=Tryz.func340.trans (congrArg some (by kernel_rfl))
 f321:=Tryz.func310.trans (congrArg some (by kernel_rfl))
 f322:=Tryz.func311.trans (congrArg some (by kernel_rfl))
 f337:=Tryz.func346.trans (congrArg some (by kernel_rfl))
 f338:=Tryz.func347.trans (congrArg some (by kernel_rfl))
 t0:=Tryz.underlying0
 a0:=Tryz.isAgg0
 z0:=Tryz.sizeOf0
 v0:=Tryz.zeroValue0
 t2:=Tryz.underlying2
 a2:=Tryz.isAgg2
 z2:=Tryz.sizeOf2
 v2:=Tryz.zeroValue2
 t3:=Tryz.underlying3
 a3:=Tryz.isAgg3
 z3:=Tryz.sizeOf3
 v3:=Tryz.zeroValue3
 t4:=Tryz.underlying4
 a4:=Tryz.isAgg4
 z4:=Tryz.sizeOf4
 v4:=Tryz.zeroValue4
 t5:=Tryz.underlying5
 a5:=Tryz.isAgg5
 z5:=Tryz.sizeOf5
 v5:=Tryz.zeroValue5
 t9:=Tryz.underlying9
 a9:=Tryz.isAgg9
 z9:=Tryz.sizeOf9
 v9:=Tryz.zeroValue9
 t20:=Tryz.underlying20
 a20:=Tryz.isAgg20
 z20:=Tryz.sizeOf20
 v20:=Tryz.zeroValue20
 t21:=Tryz.underlying21
 a21:=Tryz.isAgg21
 z21:=Tryz.sizeOf21
 v21:=Tryz.zeroValue21
 t37:=Tryz.underlying22
 a37:=Tryz.isAgg22
 z37:=Tryz.sizeOf22
 v37:=Tryz.zeroValue22
 t46:=Tryz.underlying146
 a46:=Tryz.isAgg146
 z46:=Tryz.sizeOf146
 v46:=Tryz.zeroValue146
 t51:=Tryz.underlying257
 a51:=Tryz.isAgg257
 z51:=Tryz.sizeOf257
 v51:=Tryz.zeroValue257
 t53:=Tryz.underlying205
 a53:=Tryz.isAgg205
 z53:=Tryz.sizeOf205
 v53:=Tryz.zeroValue205
 t75:=Tryz.underlying207
 a75:=Tryz.isAgg207
 z75:=Tryz.sizeOf207
 v75:=Tryz.zeroValue207
 t76:=Tryz.underlying217
 a76:=Tryz.isAgg217
 z76:=Tryz.sizeOf217
 v76:=Tryz.zeroValue217
 t85:=Tryz.underlying285
 a85:=Tryz.isAgg285
 z85:=Tryz.sizeOf285
 v85:=Tryz.zeroValue285
 t127:=Tryz.underlying241
 a127:=Tryz.isAgg241
 z127:=Tryz.sizeOf241
 v127:=Tryz.zeroValue241
 t143:=Tryz.underlying280
 a143:=Tryz.isAgg280
 z143:=Tryz.sizeOf280
 v143:=Tryz.zeroValue280
 t145:=Tryz.underlying282
 a145:=Tryz.isAgg282
 z145:=Tryz.sizeOf282
 v145:=Tryz.zeroValue282
 t167:=Tryz.underlying247
 a167:=Tryz.isAgg247
 z167:=Tryz.sizeOf247
 v167:=Tryz.zeroValue247
 t168:=Tryz.underlying249
 a168:=Tryz.isAgg249
 z168:=Tryz.sizeOf249
 v168:=Tryz.zeroValue249
 t171:=Tryz.underlying252
 a171:=Tryz.isAgg252
 z171:=Tryz.sizeOf252
 v171:=Tryz.zeroValue252
 t173:=Tryz.underlying255
 a173:=Tryz.isAgg255
 z173:=Tryz.sizeOf255
 v173:=Tryz.zeroValue255
 t175:=Tryz.underlying208
 a175:=Tryz.isAgg208
 z175:=Tryz.sizeOf208
 v175:=Tryz.zeroValue208
 t210:=Tryz.underlying271
 a210:=Tryz.isAgg271
 z210:=Tryz.sizeOf271
 v210:=Tryz.zeroValue271
 t212:=Tryz.underlying274
 a212:=Tryz.isAgg274
 z212:=Tryz.sizeOf274
 v212:=Tryz.zeroValue274
 t213:=Tryz.underlying275
 a213:=Tryz.isAgg275
 z213:=Tryz.sizeOf275
 t232:=Tryz.underlying287
 a232:=Tryz.isAgg287
 z232:=Tryz.sizeOf287
 v232:=Tryz.zeroValue287
 t233:=Tryz.underlying288
 a233:=Tryz.isAgg288
 z233:=Tryz.sizeOf288
 v233:=Tryz.zeroValue288
 g15:=by kernel_rfl
 g16:=by kernel_rfl
 g17:=by kernel_rfl
 g18:=by kernel_rfl
 g19:=by kernel_rfl
 t80:=Tryz.underlying220
 a80:=Tryz.isAgg220
 z80:=Tryz.sizeOf220
 v80:=Tryz.zeroValue220
 i0:=by kernel_rfl
 i2:=by kernel_rfl
 i3:=by kernel_rfl
 i4:=by kernel_rfl
 i5:=by kernel_rfl
 i9:=by kernel_rfl
 i20:=by kernel_rfl
 i21:=by kernel_rfl
 i37:=by kernel_rfl
 i46:=by kernel_rfl
 i51:=by kernel_rfl
 i53:=by kernel_rfl
 i75:=by kernel_rfl
 i76:=by kernel_rfl
 i80:=by kernel_rfl
 i85:=by kernel_rfl
 i127:=by kernel_rfl
 i143:=by kernel_rfl
 i145:=by kernel_rfl
 i167:=by kernel_rfl
 i168:=by kernel_rfl
 i171:=by kernel_rfl
 i173:=by kernel_rfl
 i175:=by kernel_rfl
 i210:=by kernel_rfl
 i212:=by kernel_rfl
 i232:=by kernel_rfl
 i233:=by kernel_rfl
 m15:=by kernel_rfl
 m16:=by kernel_rfl
 m17:=by kernel_rfl
 m18:=by kernel_rfl
 m19:=by kernel_rfl
 c0:=by kernel_rfl
 c2:=by kernel_rfl
 c3:=by kernel_rfl
 c4:=by kernel_rfl
 c5:=by kernel_rfl
 c9:=by kernel_rfl
 c20:=by kernel_rfl
 c21:=by kernel_rfl
 c37:=by kernel_rfl
 c46:=by kernel_rfl
 c51:=by kernel_rfl
 c53:=by kernel_rfl
 c75:=by kernel_rfl
 c76:=by kernel_rfl
 c80:=by kernel_rfl
 c85:=by kernel_rfl
 c127:=by kernel_rfl
 c143:=by kernel_rfl
 c145:=by kernel_rfl
 c167:=by kernel_rfl
 c168:=by kernel_rfl
 c171:=by kernel_rfl
 c173:=by kernel_rfl
 c175:=by kernel_rfl
 c210:=by kernel_rfl
 c212:=by kernel_rfl
 c213:=by kernel_rfl
 c232:=by kernel_rfl
 c233:=by kernel_rfl}
open Go.RowKit in
theorem Tryz.strconv_Atoi_ok(s:ByteArray)(hmax:s.size≤9223372036854775806)(v:Int)(h:Lib.atoiAll s.data.toList= .ok v)(w:World):
  Calls Tryz.prog 330 #[.string s] w fun e w'=>e= .returned (.tuple #[.int .i64 v,.nilIface])∧(w'=w∨∃t,w'=Lib.bytesWorld w 5 t):=Any.strconv_Atoi_ok Tryz.laysC172 s hmax v h w
open Go.RowKit in
theorem Tryz.strconv_Atoi_syntax(s:ByteArray)(hlim:s.size≤281474976710656)(h:Lib.atoiAll s.data.toList=(Lib.atoiAll []))(ev:Value)(w:World)(hv:w.cell? ⟨0,0,none⟩=some ev)(hev:ev= .nilIface∨∃te pe,ev= .iface te pe):
  Calls Tryz.prog 330 #[.string s] w fun e w'=>∃N,e= .returned (.tuple #[.int .i64 (0),.iface 249 (.pointer (some ⟨N,0,none⟩))])∧w.heap.size≤N∧w'.heap[N]? =some (.cells #[.string ⟨#[65,116,111,105]⟩,.string s,ev] 271 (0,0))∧Below w.heap.size w w':=Any.strconv_Atoi_syntax Tryz.laysC172 s hlim h ev w hv hev
open Go.RowKit in
theorem Tryz.strconv_Atoi_range(s:ByteArray)(hlim:s.size≤281474976710656)(h:Lib.atoiAll s.data.toList= .range)(ev:Value)(w:World)(hv:w.cell? ⟨1,0,none⟩=some ev)(hev:ev= .nilIface∨∃te pe,ev= .iface te pe):
  Calls Tryz.prog 330 #[.string s] w fun e w'=>∃N,e= .returned (.tuple #[.int .i64 (Lib.atoiSat s.data.toList),.iface 249 (.pointer (some ⟨N,0,none⟩))])∧w.heap.size≤N∧w'.heap[N]? =some (.cells #[.string ⟨#[65,116,111,105]⟩,.string s,ev] 271 (0,0))∧Below w.heap.size w w':=Any.strconv_Atoi_range Tryz.laysC172 s hlim h ev w hv hev
def Tryz.lays219_ren:Go.Shelf.Ren:=⟨fun|219=>342|217=>348|225=>349|224=>350|267=>351|266=>354|314=>355|n=>n,fun|9=>9|3=>3|4=>4|5=>5|46=>146|146=>258|51=>257|n=>n,fun|1=>3|n=>n⟩
theorem Tryz.lays219:Go.Proofs.Lays.n219 Tryz.prog Tryz.lays219_ren:={
 mixed:=by kernel_rfl
 f217:=Tryz.func348.trans (congrArg some (by kernel_rfl))
 f219:=Tryz.func342.trans (congrArg some (by kernel_rfl))
 f224:=Tryz.func350.trans (congrArg some (by kernel_rfl))
 f225:=Tryz.func349.trans (congrArg some (by kernel_rfl))
 f266:=Tryz.func354.trans (congrArg some (by kernel_rfl))
 f267:=Tryz.func351.trans (congrArg some (by kernel_rfl))
 f314:=Tryz.func355.trans (congrArg some (by kernel_rfl))
 t3:=Tryz.underlying3
 a3:=Tryz.isAgg3
 z3:=Tryz.sizeOf3
 v3:=Tryz.zeroValue3
 t4:=Tryz.underlying4
 a4:=Tryz.isAgg4
 z4:=Tryz.sizeOf4
 v4:=Tryz.zeroValue4
 t5:=Tryz.underlying5
 a5:=Tryz.isAgg5
 z5:=Tryz.sizeOf5
 v5:=Tryz.zeroValue5
 t9:=Tryz.underlying9
 a9:=Tryz.isAgg9
 z9:=Tryz.sizeOf9
 v9:=Tryz.zeroValue9
 t46:=Tryz.underlying146
 a46:=Tryz.isAgg146
 z46:=Tryz.sizeOf146
 v46:=Tryz.zeroValue146
 t51:=Tryz.underlying257
 a51:=Tryz.isAgg257
 z51:=Tryz.sizeOf257
 v51:=Tryz.zeroValue257
 t146:=Tryz.underlying258
 a146:=Tryz.isAgg258
 z146:=Tryz.sizeOf258
 v146:=Tryz.zeroValue258
 g1:=by kernel_rfl}
open Go.RowKit Go.Lib in
theorem Tryz.stringslite_Index_one(s:ByteArray)(c:UInt8)(w:World):
  Calls Tryz.prog 342 #[.string s,.string ⟨#[c]⟩] w fun e w'=>e= .returned (.int .i64 (Lib.indexByte s.data.toList c))∧w'=w:=Any.stringslite_Index_one Tryz.lays219 s c w
def Tryz.lays105_ren:Go.Shelf.Ren:=⟨fun|105=>244|212=>290|99=>291|165=>292|166=>250|170=>252|169=>254|263=>320|264=>321|206=>322|240=>295|241=>323|276=>325|277=>341|n=>n,fun|9=>9|3=>3|4=>4|20=>20|0=>0|46=>146|109=>237|5=>5|72=>216|76=>217|51=>257|146=>258|53=>205|148=>260|70=>214|37=>22|75=>207|127=>241|164=>263|80=>220|n=>n,fun|n=>n⟩
theorem Tryz.lays105:Go.Proofs.Lays.n105 Tryz.prog Tryz.lays105_ren:={
 mixed:=by kernel_rfl
 f99:=Tryz.func291.trans (congrArg some (by kernel_rfl))
 f105:=Tryz.func244.trans (congrArg some (by kernel_rfl))
 f165:=Tryz.func292.trans (congrArg some (by kernel_rfl))
 f166:=Tryz.func250.trans (congrArg some (by kernel_rfl))
 f169:=Tryz.func254.trans (congrArg some (by kernel_rfl))
 f170:=Tryz.func252.trans (congrArg some (by kernel_rfl))
 f206:=Tryz.func322.trans (congrArg some (by kernel_rfl))
 f212:=Tryz.func290.trans (congrArg some (by kernel_rfl))
 f240:=Tryz.func295.trans (congrArg some (by kernel_rfl))
 f241:=Tryz.func323.trans (congrArg some (by kernel_rfl))
 f263:=Tryz.func320.trans (congrArg some (by kernel_rfl))
 f264:=Tryz.func321.trans (congrArg some (by kernel_rfl))
 f276:=Tryz.func325.trans (congrArg some (by kernel_rfl))
 f277:=Tryz.func341.trans (congrArg some (by kernel_rfl))
 t0:=Tryz.underlying0
 a0:=Tryz.isAgg0
 z0:=Tryz.sizeOf0
 v0:=Tryz.zeroValue0
 t3:=Tryz.underlying3
 a3:=Tryz.isAgg3
 z3:=Tryz.sizeOf3
 v3:=Tryz.zeroValue3
 t4:=Tryz.underlying4
 a4:=Tryz.isAgg4
 z4:=Tryz.sizeOf4
 v4:=Tryz.zeroValue4
 t5:=Tryz.underlying5
 a5:=Tryz.isAgg5
 z5:=Tryz.sizeOf5
 v5:=Tryz.zeroValue5
 t9:=Tryz.underlying9
 a9:=Tryz.isAgg9
 z9:=Tryz.sizeOf9
 v9:=Tryz.zeroValue9
 t20:=Tryz.underlying20
 a20:=Tryz.isAgg20
 z20:=Tryz.sizeOf20
 v20:=Tryz.zeroValue20
 t37:=Tryz.underlying22
 a37:=Tryz.isAgg22
 z37:=Tryz.sizeOf22
 v37:=Tryz.zeroValue22
 t46:=Tryz.underlying146
 a46:=Tryz.isAgg146
 z46:=Tryz.sizeOf146
 v46:=Tryz.zeroValue146
 t51:=Tryz.underlying257
 a51:=Tryz.isAgg257
 z51:=Tryz.sizeOf257
 v51:=Tryz.zeroValue257
 t53:=Tryz.underlying205
 a53:=Tryz.isAgg205
 z53:=Tryz.sizeOf205
 v53:=Tryz.zeroValue205
 t70:=Tryz.underlying214
 a70:=Tryz.isAgg214
 z70:=Tryz.sizeOf214
 v70:=Tryz.zeroValue214
 t72:=Tryz.underlying216
 a72:=Tryz.isAgg216
 z72:=Tryz.sizeOf216
 v72:=Tryz.zeroValue216
 t75:=Tryz.underlying207
 a75:=Tryz.isAgg207
 z75:=Tryz.sizeOf207
 v75:=Tryz.zeroValue207
 t76:=Tryz.underlying217
 a76:=Tryz.isAgg217
 z76:=Tryz.sizeOf217
 v76:=Tryz.zeroValue217
 t109:=Tryz.underlying237
 a109:=Tryz.isAgg237
 z109:=Tryz.sizeOf237
 v109:=Tryz.zeroValue237
 t127:=Tryz.underlying241
 a127:=Tryz.isAgg241
 z127:=Tryz.sizeOf241
 v127:=Tryz.zeroValue241
 t146:=Tryz.underlying258
 a146:=Tryz.isAgg258
 z146:=Tryz.sizeOf258
 v146:=Tryz.zeroValue258
 t148:=Tryz.underlying260
 a148:=Tryz.isAgg260
 z148:=Tryz.sizeOf260
 v148:=Tryz.zeroValue260
 t164:=Tryz.underlying263
 a164:=Tryz.isAgg263
 z164:=Tryz.sizeOf263
 v164:=Tryz.zeroValue263}
theorem Tryz.Builder_Extra_105:Builder.Extra Tryz.prog Tryz.lays105_ren:={
 sizeBuilder:=by kernel_rfl
 liesBuilder:=by kernel_rfl
 t5:=Tryz.underlying5
 a5:=Tryz.isAgg5
 z5:=Tryz.sizeOf5
 v5:=Tryz.zeroValue5
 infoByte:=by kernel_rfl
 cellsByte:=by kernel_rfl
 sizeByte:=by kernel_rfl
 neB5:=by decide}
open Go.RowKit Go.Lib in
theorem Tryz.strings_Repeat(s:ByteArray)(c:Nat)(w:World)(hc:c≤9223372036854775807)(hlen:s.size*c≤140737488355328):
  Calls Tryz.prog 244 #[.string s,.int .i64 c] w fun e w'=>e= .returned (.string ⟨(Lib.repeatL s.data.toList c).toArray⟩)∧Below w.heap.size w w':=Any.strings_Repeat Tryz.lays105 Tryz.Builder_Extra_105 s c w hc hlen
end
end Go.Proofs.YtjbmpmmffjgedaaGreatDoor.Ab
